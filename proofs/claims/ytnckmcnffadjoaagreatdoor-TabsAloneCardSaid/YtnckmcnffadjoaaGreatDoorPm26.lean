/- Lemmas for the law's walk. -/
import Derived.Test.YtnckmcnffadjoaaGreatDoorPm16
import Derived.Test.YtnckmcnffadjoaaGreatDoorPm22
set_option maxRecDepth 100000
set_option maxHeartbeats 16000000
set_option linter.unusedSimpArgs false
namespace Go.Proofs.YtnckmcnffadjoaaGreatDoor
open Go.Proofs.Tryz
open Go.RowKit
variable {w w' U:World} {g j:Nat} {l:List Int} {e:Ending} {o:iY}
theorem qE.cell(h:qE w g l)(hj:j<l.length):w.cell? ⟨g,j,none⟩=some (.int .u32 (l.getD j 0)):=by
 unfold qE at h;simp only[World.cell?,h];simp[List.getElem?_append_left,hj,List.getD_eq_getElem?_getD]
theorem qE.zero(h:qE w g l)(hj:l.length<64):w.cell? ⟨g,l.length,none⟩=some (.int .u32 0):=by
 unfold qE at h;have e:((l++List.replicate (64-l.length) 0).map (Value.int IntKind.u32))[l.length]?=some (Value.int IntKind.u32 0):=by
  rw[List.getElem?_map,List.getElem?_append_right (ay _),Nat.sub_self,List.getElem?_replicate];rw[az ab];rfl
 simp only[World.cell?,h];simpa using e
theorem qE.free(h:qE w g l)(j:Nat):w.frozen? ⟨g,j,none⟩=false:=by
 unfold qE at h;simp[World.frozen?,h]
theorem qE.set(h:qE w g l)(hj:l.length<64)(x:Int):qE (w.setCell ⟨g,l.length,none⟩ (.int .u32 x)) g (l++[x]):=by
 unfold qE at h ⊢;rw[tU h]
 congr 2
 have e:List.replicate (64-l.length) (0:Int)=0 :: List.replicate (64-(l++[x]).length) 0:=by
  rw[aN,show 64-l.length=(64-(l.length+[x].length))+1 from bI,List.replicate_succ]
 rw[e];simp
theorem ai7(a b c d:Int):IntKind.u32.wrap (IntKind.u32.wrap (IntKind.u32.wrap (a+b)+c)+d)=(a+b+c+d)%4294967296:=by
 have e:∀x:Int,IntKind.u32.wrap x=x%4294967296:=fun x=>by simp[IntKind.wrap,IntKind.signed,IntKind.bits]
 rw[e,e,e];omega
theorem Ef(x:Int):IntKind.u32.wrap x=x%4294967296:=by simp[IntKind.wrap,IntKind.signed,IntKind.bits]
theorem ai8(a b c d e:Int):IntKind.u32.wrap (IntKind.u32.wrap (IntKind.u32.wrap (IntKind.u32.wrap (a+b)+c)+d)+e)=(a+b+c+d+e)%4294967296:=by
 rw[Ef,Ef,Ef,Ef];omega
theorem aey(a0 a1 a2 a3 a4 a5 a6 a7:Int):prog.built 291 [(0,.int .u32 a0),(1,.int .u32 a1),(2,.int .u32 a2),(3,.int .u32 a3),(4,.int .u32 a4),(5,.int .u32 a5),(6,.int .u32 a6),(7,.int .u32 a7)]=some #[.int .u32 a0,.int .u32 a1,.int .u32 a2,.int .u32 a3,.int .u32 a4,.int .u32 a5,.int .u32 a6,.int .u32 a7]:=af
theorem Fs{ops:Array Oper}{rest:List Oper}{o:Oper}{a:Act}{w:World}{Q:Exit->Act->World->Prop}(hg:o.guard=none)(x0 x1 x2 x3 x4 x5 x6 x7:Operand)
  (ho:o.op=.build 291 #[(0,x0),(1,x1),(2,x2),(3,x3),(4,x4),(5,x5),(6,x6),(7,x7)])(d:Option Tmp)(hd:o.dst=d)(v0 v1 v2 v3 v4 v5 v6 v7:Int)
  (h0:a.eval x0=.int .u32 v0)(h1:a.eval x1=.int .u32 v1)(h2:a.eval x2=.int .u32 v2)(h3:a.eval x3=.int .u32 v3)(h4:a.eval x4=.int .u32 v4)(h5:a.eval x5=.int .u32 v5)(h6:a.eval x6=.int .u32 v6)(h7:a.eval x7=.int .u32 v7)
  (h:wpList prog ops Q rest (a.put d (.agg #[.int .u32 v0,.int .u32 v1,.int .u32 v2,.int .u32 v3,.int .u32 v4,.int .u32 v5,.int .u32 v6,.int .u32 v7])) w):wpList prog ops Q (o :: rest) a w:=by
 refine wpList_buildTo hg 291 _ ho d hd _ ?_ h;simp only[eF,cE,dt,h0,h1,h2,h3,h4,h5,h6,h7];exact aey _ _ _ _ _ _ _ _
theorem wk{k:Nat}(h:k≠g)(cs:bS):(w.setRow g cs).heap[k]?=w.heap[k]?:=by
 simp[World.setRow,Array.getElem?_modify,kZ h]
theorem V3{a:World}(h:Fr aS a w)(hg:a.heap.size<=g)(cs:bS):Fr aS a (w.setRow g cs) :=
 ⟨h.os,h.tape,h.output,by show a.heap.size<=(w.setRow g cs).heap.size;rw[World.setRow];simp only[Array.size_modify];exact h.size,fun k hk hn=>(wk ab cs).trans (h.block k hk hn)⟩
theorem aez(v0 v1 v2 v3 v4 v5 v6 v7:Int):(#[.int .u32 v0,.int .u32 v1,.int .u32 v2,.int .u32 v3,.int .u32 v4,.int .u32 v5,.int .u32 v6,.int .u32 v7]:bS).all (·.oneCell')=true:=bW
def uP(w:World)(g:Nat)(l:List Int):Prop:=w.heap[g]?=some (.cells (l.map (Value.int .u32)).toArray 291 (0,0))
theorem uP.cell(h:uP w g l)(hj:j<l.length):w.cell? ⟨g,j,none⟩=some (.int .u32 (l.getD j 0)):=by
 unfold uP at h;simp only[World.cell?,h];simp[hj,List.getD_eq_getElem?_getD]
theorem uP.free(h:uP w g l)(j:Nat):w.frozen? ⟨g,j,none⟩=false:=by
 unfold uP at h;simp[World.frozen?,h]
theorem uP.set(h:uP w g l)(j:Nat)(x:Int):uP (w.setCell ⟨g,j,none⟩ (.int .u32 x)) g (l.set j x):=by
 unfold uP at h ⊢;rw[tU h];simp[List.map_set]
def IJ(a b:List Int):Nat->List Int
 |0=>a
 |k+1=>(IJ a b k).set k ((a.getD k 0+b.getD k 0)%4294967296)
theorem LG(a b:List Int):∀k,(IJ a b k).length=a.length
 |0=>rfl
 |k+1=>by rw[IJ,ed,LG a b k]
theorem LH(a b:List Int):∀k j,k<=j->(IJ a b k).getD j 0=a.getD j 0
 |0,_,_=>rfl
 |k+1,j,h=>by
  rw[IJ,List.getD_eq_getElem?_getD,List.getElem?_set,aq ab, <-List.getD_eq_getElem?_getD,LH a b k j ab]
theorem aae(T:aI):∀k,∀x∈(AV T k).list,0<=x/\x<4294967296
 |0=>by
  intro x hx;simp only[AV,Sh.list,sh0,bB,cz,dX]at hx;rcases hx with rfl|rfl|rfl|rfl|rfl|rfl|rfl|rfl<;>decide
 |k+1=>by
  intro x hx;simp only[AV,zt,PT,Sh.list,bB,cz,dX]at hx;rcases hx with rfl|rfl|rfl|rfl|rfl|rfl|rfl|rfl<;>exact AR _
def aoR(H V:Sh)(g g1:Nat)(w:World)(i:Value)(wr:World):Prop :=
 ∃k:Nat,k<=8/\i=.int .i64 k/\uP wr g (IJ H.list V.list k)/\uP wr g1 V.list/\Fr aS w wr
def aoS(tr:Nat->Sh)(ws:List Int)(H:Sh)(g g1 gw:Nat)(w:World)(i:Value)(wr:World):Prop :=
 ∃k:Nat,k<=64/\i=.int .i64 k/\vn wr g (tr k)/\vn wr g1 H/\qE wr gw ws/\Fr aS w wr
theorem vn.cells{h:Sh}(hm:vn w g h):w.cell? ⟨g,0,none⟩=some (.int .u32 h.v0)/\w.cell? ⟨g,1,none⟩=some (.int .u32 h.v1)/\w.cell? ⟨g,2,none⟩=some (.int .u32 h.v2)/\w.cell? ⟨g,3,none⟩=some (.int .u32 h.v3) /\
  w.cell? ⟨g,4,none⟩=some (.int .u32 h.v4)/\w.cell? ⟨g,5,none⟩=some (.int .u32 h.v5)/\w.cell? ⟨g,6,none⟩=some (.int .u32 h.v6)/\w.cell? ⟨g,7,none⟩=some (.int .u32 h.v7):=by
 unfold vn at hm;simp[World.cell?,hm]
def ai9(X:aI)(g:Nat)(w:World)(i:Value)(wr:World):Prop:=∃k:Nat,k<=64/\i=.int .i64 k/\qE wr g (XZ X k)/\Fr aS w wr
set_option pp.deepTerms true in
set_option pp.maxSteps 1000000 in
theorem Oa(s:aj)(w:World)(hs:s.size<4398046511104)(ht:uA w) :
  aB 208 #[.string s] w fun e w'=>e=.returned (.string ⟨(KE s.data.toList).toArray⟩)/\Fr aS w w':=by
 have c0:=ht.b.2 0 _ rfl;have c1:=ht.b.2 1 _ rfl;have c2:=ht.b.2 2 _ rfl;have c3:=ht.b.2 3 _ rfl;have c4:=ht.b.2 4 _ rfl;have c5:=ht.b.2 5 _ rfl;have c6:=ht.b.2 6 _ rfl;have c7:=ht.b.2 7 _ rfl
 have gS:Fr aS w (w.alloc (.cells #[.int .u32 1779033703,.int .u32 3144134277,.int .u32 1013904242,.int .u32 2773480762,.int .u32 1359893119,.int .u32 2600822924,.int .u32 528734635,.int .u32 1541459225] 291)):=(ae aS w).alloc _
 have YO:vn (w.alloc (.cells #[.int .u32 1779033703,.int .u32 3144134277,.int .u32 1013904242,.int .u32 2773480762,.int .u32 1359893119,.int .u32 2600822924,.int .u32 528734635,.int .u32 1541459225] 291)) w.heap.size sh0:=aC _ _;have HM0:=O YO;clear YO;go_enter func208,ntmps208;go_wp2_with fail
 clear c0 c1 c2 c3 c4 c5 c6 c7;refine(PO s false _ ab).mono ?_;rintro e w1⟨rfl,dr⟩;obtain⟨T,hT⟩:∃T,T=(⟨(vg false s.data.toList).toArray⟩:aj):=⟨_,rfl⟩;rw[<-hT];have hTl:T.data.toList=vg false s.data.toList:=by rw[hT]
 have hTs:T.size=(vg false s.data.toList).length:=by rw[<-hTl];simp
 obtain⟨adu,UF⟩:=KC false s.data.toList;rw[<-hTs]at adu UF;have MQ:s.data.toList.length=s.size:=aR;rw[MQ]at UF;have Dy:=O (show KE s.data.toList=oN false (AV T.data.toList (T.size/64)).list by unfold KE;rw[hTl,hTs]);have HM1:=O (show vn w1 w.heap.size sh0 from dr.keep HM0.o id);have lC:=O (gS.trans dr);clear hT hTl hTs HM0 gS dr MQ;go_wp2
 go_loopw[4] (ahH T w.heap.size w) (fun t _=>match t with| .string x=>x.size|_=>0)
 case atStart=>exact⟨0,ab,by rw[Nat.mul_zero];congr 1;apply Go.WideShapes.bytes_inj;rw[kC];rfl,HM1.o,lC.o⟩
 case round =>
  obtain⟨n,hn,rfl,hm,cL⟩:=hrel;generalize wr=wo at *
  by_cases hne:64*n<T.size
  ·have UG:64<=(T.extract (64*n) T.size).size:=by rw[jE];omega
   have anw:(T.extract (64*n) T.size).size<17592186044416:=by rw[jE];omega
   have qe:=O (PR T (64*n) 64);have hXl:=O (kC T (64*n));generalize T.extract (64*n) T.size=X at *
   have HM:=O hm;have pY:=O (show AV T.data.toList (n+1)=zt X.data.toList (AV T.data.toList n)by rw[hXl.o];rfl);generalize AV T.data.toList n=H at *
   clear hm;have hx:X.toList.isEmpty=false:=by
    rw[aO];cases hq:X.data.toList with
    |nil=>rw[gX.1 hq]at UG;omega
    |cons a l=>rfl
   have Ug:¬X.toList=[]:=by rw[aO];intro h;rw[gX.1 h]at UG;omega
   go_wp2;go_loopw[23] (ai9 X.data.toList wo.heap.size wo) (fun i _=>64-(intOf i).toNat)
   case atStart=>exact⟨0,ab,rfl,by unfold qE;rw[aC];kernel_rfl,(ae _ _).alloc _⟩
   case round =>
    obtain⟨k,hk,rfl,yn,jq⟩:=hrel;have hlen:=O (PS X.data.toList k);have Jp:=O (show XZ X.data.toList (k+1)=Gc X.data.toList (XZ X.data.toList k) k from rfl);have H64:=O (show k=64->XZ X.data.toList k=XZ X.data.toList 64 from fun h=>by rw[h]);generalize XZ X.data.toList k=l at *
    by_cases Kv:k<64
    ·have pq:(k:Int)<64:=ab;have hz:=yn.zero (by rw[hlen.o];exact Kv);have hf:=yn.free k;rw[hlen.o]at hz;have qR:=O (yn.set (by rw[hlen.o];exact Kv) (Gb X.data.toList l k));by_cases vh:k<16
     ·have ai_:(k:Int)<16:=ab;obtain⟨wv,Fb⟩:∃wv,wv=qL false (X.extract (4*k) X.size).data.toList:=⟨_,rfl⟩;have sK:=O (fun W=>vT (X.extract (4*k) X.size) false W (by rw[jE];omega) (by rw[jE];omega));rw[<-Fb]at sK;have HN:=O (show Gb X.data.toList l k=wv by unfold Gb;rw[az vh,Fb,kC]);clear Fb;have q2:4*(k:Int)<=(X.size:Int):=ab;go_wp2_with fail
      refine(sK.o _).mono ?_;rintro e w5⟨rfl,nq,rfl⟩;have Ge:=O (show qE (wr.drewN nq) wo.heap.size l from yn);have hz5:(wr.drewN nq).cell? ⟨wo.heap.size,k,none⟩=some (.int .u32 0):=hz;have lQ:(wr.drewN nq).frozen? ⟨wo.heap.size,k,none⟩=false:=hf;have ai':=O (show qE ((wr.drewN nq).setCell ⟨wo.heap.size,k,none⟩ (.int .u32 wv)) wo.heap.size (Gc X.data.toList l k)from by
       have h:=yn.set (by rw[hlen.o];exact Kv) wv;rw[hlen.o]at h;unfold Gc;rw[HN.o];exact h)
      have ym:=jq.drewN nq;clear hz hf;generalize wr.drewN nq=wd at *
      go_wp2;go_roundw
      case rel=>exact⟨k+1,ab,bg,by rw[Jp.o];exact ai'.o,ym.gJ (p:=⟨wo.heap.size,k,none⟩) (ay _) _⟩
      case measure=>simp[intOf];omega
     ·have ai_:¬(k:Int)<16:=ab;obtain⟨Yf,e16⟩:∃j:Nat,(k:Int)-16=(j:Int):=⟨k-16,ab⟩;obtain⟨j15,e15⟩:∃j:Nat,(k:Int)-15=(j:Int):=⟨k-15,ab⟩;obtain⟨j7,e7⟩:∃j:Nat,(k:Int)-7=(j:Int):=⟨k-7,ab⟩;obtain⟨j2,e2⟩:∃j:Nat,(k:Int)-2=(j:Int):=⟨k-2,ab⟩;have x16:=yn.cell (j:=Yf) (by rw[hlen.o];omega);have x15:=yn.cell (j:=j15) (by rw[hlen.o];omega);have x7:=yn.cell (j:=j7) (by rw[hlen.o];omega)
      have x2:=yn.cell (j:=j2) (by rw[hlen.o];omega);have HN:=O (show Gb X.data.toList l k=(l.getD Yf 0+l.getD j7 0+ady (l.getD j15 0)+adz (l.getD j2 0))%4294967296 by
       unfold Gb;rw[aq vh,show k-16=Yf from ab,show k-15=j15 from ab,show k-7=j7 from ab,show k-2=j2 from ab])
      generalize l.getD Yf 0=v16 at *
      generalize l.getD j15 0=v15 at *
      generalize l.getD j7 0=v7 at *
      generalize l.getD j2 0=v2 at *
      have w16:IntKind.i64.wrap ((k:Int)-16)=(Yf:Int):=by rw[<-e16];exact IntWalk.i64_in _ ab
      have w15:IntKind.i64.wrap ((k:Int)-15)=(j15:Int):=by rw[<-e15];exact IntWalk.i64_in _ ab
      have w7:IntKind.i64.wrap ((k:Int)-7)=(j7:Int):=by rw[<-e7];exact IntWalk.i64_in _ ab
      have w2:IntKind.i64.wrap ((k:Int)-2)=(j2:Int):=by rw[<-e2];exact IntWalk.i64_in _ ab
      have b16:(Yf:Int)<64:=ab;have b15:(j15:Int)<64:=ab;have b7:(j7:Int)<64:=ab;have b2:(j2:Int)<64:=ab;have n16:Yf<64:=ab;have n15:j15<64:=ab;have n7:j7<64:=ab;have n2:j2<64:=ab;go_wp2;go_quiet (fail);have X16:(wr.drewN nq).cell? ⟨wo.heap.size,Yf,none⟩=some (.int .u32 v16):=x16;have X7:(wr.drewN nq).cell? ⟨wo.heap.size,j7,none⟩=some (.int .u32 v7):=x7
      have hz5:(wr.drewN nq).cell? ⟨wo.heap.size,k,none⟩=some (.int .u32 0):=hz;have lQ:(wr.drewN nq).frozen? ⟨wo.heap.size,k,none⟩=false:=hf;have Ge:=O (show qE (wr.drewN nq) wo.heap.size l from yn);have ym:=jq.drewN nq;clear x16 x7 hz hf yn qR jq;generalize wr.drewN nq=wd at *
      go_wp2_with fail
      have y16:IntKind.i64.wrap (Yf:Int)=(Yf:Int):=IntWalk.i64_in _ ab;have y7:IntKind.i64.wrap (j7:Int)=(j7:Int):=IntWalk.i64_in _ ab;clear w16 w15 w7 w2;refine wp_region_still_tail 29 af af ?_;simp only[List.take_succ_cons,List.take_zero,List.drop_succ_cons,eG]
      iterate 11 still_step
      still_call (anz v15 _)
      iterate 1 still_step
      still_call (ahz v15 _)
      iterate 6 still_step
      still_call (ahA v2 _)
      iterate 1 still_step
      still_call (ahB v2 _)
      iterate 6 still_step
      refine wpStill_nil ?_;change wpList _ _ _ _ _ wd.drew;have HS:=O (show∀x,qE (wd.drew.setCell ⟨wo.heap.size,k,none⟩ (.int .u32 x)) wo.heap.size (l++[x])from fun x=>by
       have h:=(show qE wd.drew wo.heap.size l from Ge.o).set (by rw[hlen.o];exact Kv) x;rw[hlen.o]at h;exact h)
      have hz6:wd.drew.cell? ⟨wo.heap.size,k,none⟩=some (.int .u32 0):=hz5;have nF:wd.drew.frozen? ⟨wo.heap.size,k,none⟩=false:=lQ;have aaf:Fr aS wo wd.drew:=ym.drew;clear hz5 lQ X16 X7 y16 y7 e16 e15 e7 e2;generalize wd.drew=we at *
      go_wp2_with fail
      go_wp2;go_roundw
      case rel=>exact⟨k+1,ab,bg,by rw[Jp.o];unfold Gc;rw[HN.o];unfold ady adz KD;rw[<-ai7];exact HS.o _,aaf.gJ (p:=⟨wo.heap.size,k,none⟩) (ay _) _⟩
      case measure=>simp[intOf];omega
    ·have UH:k=64:=ab;rw[show((k:Nat):Int)=64 from ab];subst UH;have HWS:=O (H64.o rfl);have HW:=O yn;clear H64;have hm3:vn wr w.heap.size H:=jq.keep HM.o id;obtain⟨c0,c1,c2,c3,c4,c5,c6,c7⟩:=hm3.cells;have Tp:=O hm3;obtain⟨gv,hgv⟩:∃gv,gv=wr.heap.size:=⟨_,rfl⟩;have avI:w.heap.size<gv:=by rw[hgv];exact bj hm3
     have avJ:wo.heap.size<gv:=by rw[hgv];exact bj yn
     have avK:w.heap.size<wo.heap.size:=bj HM.o;clear hm3 yn;obtain⟨tr,htr⟩:∃tr,tr=zr l H:=⟨_,rfl⟩;have CV:=O (show∀k,tr (k+1)=UK (tr k) (shP l k (tr k)) (shQ (tr k))from fun k=>by rw[htr];rfl);have Ob:=O (show tr 0=H by rw[htr];rfl);have HSB:=O (show zt X.data.toList H=PT H (tr 64)by unfold zt;rw[htr,HWS.o]);clear htr;go_wp2;clear c0 c1 c2 c3 c4 c5 c6 c7
     have F7:Fr aS wr (wr.alloc (.cells #[.int .u32 H.v0,.int .u32 H.v1,.int .u32 H.v2,.int .u32 H.v3,.int .u32 H.v4,.int .u32 H.v5,.int .u32 H.v6,.int .u32 H.v7] 291)):=(ae aS wr).alloc _;have MR:=cL.trans (jq.trans F7);rw[<-hgv];have HG:=O hgv;clear hgv;go_loopw[74] (aoS tr l H gv w.heap.size wo.heap.size w) (fun i _=>64-(intOf i).toNat)
     case atStart=>exact⟨0,ab,rfl,by rw[Ob.o,HG.o];exact aC _ _,F7.keep Tp.o id,F7.keep HW.o id,MR⟩
     case round =>
      clear F7 MR Tp HW jq;obtain⟨k,hk,rfl,hv,hh,hww,qD⟩:=hrel;generalize wr=wi at *
      by_cases Kv:k<64
      ·have pq:(k:Int)<64:=ab;obtain⟨z,hz⟩:∃z,DA[k]?=some z:=⟨_,List.getElem?_eq_getElem (by show k<64;omega)⟩;have acg:wi.cell? ⟨2,k,none⟩=some (.int .u32 z):=(ht.fr qD).r.2 k z hz;have hzd:=O (show DA.getD k 0=z by rw[List.getD_eq_getElem?_getD,hz];rfl);clear hz;have hwk:=hww.cell (j:=k) (by rw[hlen.o];exact Kv);obtain⟨x,hx⟩:∃x,x=l.getD k 0:=⟨_,rfl⟩;rw[<-hx]at hwk;have HS1:=O (CV.o k)
       generalize tr k=V at *
       have HP:=O (show shP l k V=(V.v7+KD (l_ V.v4 26) (l_ V.v4 21) (l_ V.v4 7)+bits .xor .u32 (bits .and .u32 V.v4 V.v5) (bits .and .u32 (Nq V.v4) V.v6)+z+x)%4294967296 by unfold shP;rw[hzd.o,hx]);obtain⟨c0,c1,c2,c3,c4,c5,c6,c7⟩:=hv.cells;have HV:=O hv;have HH:=O hh;have xh:=O hww;clear hv hh hww hx;go_wp2;go_quiet (fail);go_wp2_with fail
       have HV2:=O (show vn (wi.drewN nq) gv V from HV.o);have HH2:=O (show vn (wi.drewN nq) w.heap.size H from HH.o);have aja:=O (show qE (wi.drewN nq) wo.heap.size l from xh.o);have aeD:(wi.drewN nq).cell? ⟨2,k,none⟩=some (.int .u32 z):=acg;have aoY:(wi.drewN nq).cell? ⟨wo.heap.size,k,none⟩=some (.int .u32 x):=hwk;have ox:=qD.drewN nq;clear HV HH xh acg hwk qD c0 c1 c2 c3 c4 c5 c6 c7
       generalize wi.drewN nq=wd at *
       obtain⟨c0,c1,c2,c3,c4,c5,c6,c7⟩:=HV2.o.cells;refine wp_region_still_tail 30 af af ?_;simp only[List.take_succ_cons,List.take_zero,List.drop_succ_cons,eG]
       iterate 3 still_step
       still_call (anA V.v4 _)
       iterate 1 still_step
       still_call (ahC V.v4 _)
       iterate 2 still_step
       still_call (ahD V.v4 _)
       iterate 21 still_step
       refine wpStill_nil ?_;rw[show(if IntKind.u32.signed=true then(-1:Int)else IntKind.u32.max)=IntKind.u32.max from rfl];rw[show bits .xor .u32 IntKind.u32.max V.v4=Nq V.v4 from rfl];generalize hy0:Nq V.v4=y0;generalize hy2:bits .xor .u32 (bits .and .u32 V.v4 V.v5) (bits .and .u32 y0 V.v6)=y2;generalize bits .and .u32 y0 V.v6=y3
       generalize EP:bits .xor .u32 (bits .xor .u32 (l_ V.v4 26) (l_ V.v4 21)) (l_ V.v4 7)=y1;generalize Cf:IntKind.u32.wrap (V.v7+y1)=s1;generalize ML:IntKind.u32.wrap (s1+y2)=s2;generalize T7:IntKind.u32.wrap (s2+z)=s3;generalize hs4:IntKind.u32.wrap (s3+x)=p;have HP2:=O (show shP l k V=p by rw[HP.o, <-hs4, <-T7, <-ML, <-Cf, <-EP, <-hy2, <-hy0,ai8];rfl);clear hs4 T7 ML Cf EP hy2 hy0 HP aeD aoY
       change wpList _ _ _ _ _ wd.drew;have TF:=O (show vn (wd.drew) gv V from HV2.o);have HH3:=O (show vn (wd.drew) w.heap.size H from HH2.o);have ajd:=O (show qE (wd.drew) wo.heap.size l from aja.o);have ym:=ox.drew;clear HV2 HH2 aja ox c0 c1 c2 c3 c4 c5 c6 c7;generalize wd.drew=we at *
       obtain⟨c0,c1,c2,c3,c4,c5,c6,c7⟩:=TF.o.cells
       iterate 7 go_step
       refine wp_region_still_tail 24 af af ?_;simp only[List.take_succ_cons,List.take_zero,List.drop_succ_cons,eG]
       iterate 1 still_step
       still_call (anB V.v0 _)
       iterate 1 still_step
       still_call (ahE V.v0 _)
       iterate 2 still_step
       still_call (ahF V.v0 _)
       iterate 17 still_step
       refine wpStill_nil ?_;generalize hy4:bits .xor .u32 (bits .xor .u32 (bits .and .u32 V.v0 V.v1) (bits .and .u32 V.v0 V.v2)) (bits .and .u32 V.v1 V.v2)=y4;generalize hy5:bits .xor .u32 (bits .xor .u32 (l_ V.v0 30) (l_ V.v0 19)) (l_ V.v0 10)=y5;generalize hs5:IntKind.u32.wrap (y5+y4)=q;have Yg:=O (show shQ V=q by rw[<-hs5, <-hy5, <-hy4];unfold shQ KD;rw[Ef]);clear hs5 hy5 hy4
       change wpList _ _ _ _ _ we.drew;have HV4:=O (show vn (we.drew) gv V from TF.o);have HH4:=O (show vn (we.drew) w.heap.size H from HH3.o);have aoZ:=O (show qE (we.drew) wo.heap.size l from ajd.o);have aaf:=ym.drew;clear TF HH3 ajd ym c0 c1 c2 c3 c4 c5 c6 c7;generalize we.drew=wf at *
       obtain⟨c0,c1,c2,c3,c4,c5,c6,c7⟩:=HV4.o.cells;have hb:wf.heap[gv]?=some (.cells #[.int .u32 V.v0,.int .u32 V.v1,.int .u32 V.v2,.int .u32 V.v3,.int .u32 V.v4,.int .u32 V.v5,.int .u32 V.v6,.int .u32 V.v7] 291 (0,0)):=HV4.o;have HB:=O hb;clear hb
       go_wp2_with (first|((with_reducible refine di 154 ?_);refine Fs rfl (.tmp 137) (.tmp 139) (.tmp 141) (.tmp 143) (.tmp 147) (.tmp 149) (.tmp 151) (.tmp 153) rfl (some 154) rfl ((p+q)%4294967296) V.v0 V.v1 V.v2 ((V.v3+p)%4294967296) V.v4 V.v5 V.v6 rfl rfl rfl rfl rfl rfl rfl rfl ?_)|((with_reducible refine jn ⟨none,_,_,_,_,_⟩ ?_);refine wpList_store_rowTo rfl 291 (.tmp 9) (.tmp 154) rfl rfl gv #[.int .u32 ((p+q)%4294967296),.int .u32 V.v0,.int .u32 V.v1,.int .u32 V.v2,.int .u32 ((V.v3+p)%4294967296),.int .u32 V.v4,.int .u32 V.v5,.int .u32 V.v6] rfl rfl _ _ HB.o af rfl (aez _ _ _ _ _ _ _ _) ?_;have mj:=O (show vn (wf.setRow gv #[.int .u32 ((p+q)%4294967296),.int .u32 V.v0,.int .u32 V.v1,.int .u32 V.v2,.int .u32 ((V.v3+p)%4294967296),.int .u32 V.v4,.int .u32 V.v5,.int .u32 V.v6]) gv (UK V p q)from aY _ _ _ _ _ _ HB.o);have HH5:=O (show vn (wf.setRow gv #[.int .u32 ((p+q)%4294967296),.int .u32 V.v0,.int .u32 V.v1,.int .u32 V.v2,.int .u32 ((V.v3+p)%4294967296),.int .u32 V.v4,.int .u32 V.v5,.int .u32 V.v6]) w.heap.size H from(wk ab _).trans HH4.o);have ao0:=O (show qE (wf.setRow gv #[.int .u32 ((p+q)%4294967296),.int .u32 V.v0,.int .u32 V.v1,.int .u32 V.v2,.int .u32 ((V.v3+p)%4294967296),.int .u32 V.v4,.int .u32 V.v5,.int .u32 V.v6]) wo.heap.size l from(wk ab _).trans aoZ.o);have XU:=O (show Fr aS w (wf.setRow gv #[.int .u32 ((p+q)%4294967296),.int .u32 V.v0,.int .u32 V.v1,.int .u32 V.v2,.int .u32 ((V.v3+p)%4294967296),.int .u32 V.v4,.int .u32 V.v5,.int .u32 V.v6])from V3 aaf ab _);clear aaf c0 c1 c2 c3 c4 c5 c6 c7;generalize wf.setRow gv #[.int .u32 ((p+q)%4294967296),.int .u32 V.v0,.int .u32 V.v1,.int .u32 V.v2,.int .u32 ((V.v3+p)%4294967296),.int .u32 V.v4,.int .u32 V.v5,.int .u32 V.v6]=wg at *))
       go_wp2;go_roundw
       case rel=>exact⟨k+1,ab,bg,by rw[HS1.o,HP2.o,Yg.o];exact mj.o,HH5.o,ao0.o,XU.o⟩
       case measure=>simp[intOf];omega
      ·have UH:k=64:=ab;rw[show((k:Nat):Int)=64 from ab];subst UH;clear hww;generalize tr 64=V at *
       have hvz:uP wi gv V.list:=hv;have hhz:uP wi w.heap.size (IJ H.list V.list 0):=hh;have HVZ:=O hvz;have HHZ:=O hhz;clear hv hh hvz hhz;go_wp2;go_loopw[156] (aoR H V w.heap.size gv w) (fun i _=>8-(intOf i).toNat)
       case atStart=>exact⟨0,ab,rfl,HHZ.o,HVZ.o,qD⟩
       case round =>
        clear HVZ HHZ qD;obtain⟨k,hk,rfl,hz,hvz,ox⟩:=hrel;generalize wr=wx at *
        have hL1:H.list.length=8:=rfl;have hL2:V.list.length=8:=rfl;by_cases Kv:k<8
        ·have pq:(k:Int)<8:=ab;have c0:=hz.cell (j:=k) (by rw[LG];omega);rw[LH _ _ k k (ay _)]at c0;have c1:=hvz.cell (j:=k) ab;have f0:=hz.free k;have mj:=O (show uP (wx.drew.setCell ⟨w.heap.size,k,none⟩ (.int .u32 ((H.list.getD k 0+V.list.getD k 0)%4294967296))) w.heap.size (IJ H.list V.list (k+1))from(show uP wx.drew w.heap.size (IJ H.list V.list k)from hz).set k _)
         have HVZ:=O (show uP (wx.drew.setCell ⟨w.heap.size,k,none⟩ (.int .u32 ((H.list.getD k 0+V.list.getD k 0)%4294967296))) gv V.list from by
          unfold uP;rw[Below.heap_setCell _ _ _ _ (show gv≠w.heap.size from ab)];exact hvz)
         have tA:=O (ox.drew);generalize H.list.getD k 0=x0 at *
         generalize V.list.getD k 0=x1 at *
         clear hz hvz ox;go_wp2;refine wp_region_still_tail 8 af af ?_;simp only[List.take_succ_cons,List.take_zero,List.drop_succ_cons,eG]
         iterate 8 still_step
         refine wpStill_nil ?_;change wpList _ _ _ _ _ wx.drew;have c2:wx.drew.cell? ⟨w.heap.size,k,none⟩=some (.int .u32 x0):=c0;have f2:wx.drew.frozen? ⟨w.heap.size,k,none⟩=false:=f0;clear c0 c1 f0;generalize wx.drew=wy at *
         go_wp2_with fail
         go_wp2;go_roundw
         case rel=>exact⟨k+1,ab,bg,by first|exact mj.o|(rw[Ef];exact mj.o),by first|exact HVZ.o|(rw[Ef];exact HVZ.o),tA.o.gJ (p:=⟨w.heap.size,k,none⟩) (ay _) _⟩
         case measure=>simp[intOf];omega
        ·have hk8:k=8:=ab;subst hk8;have Zf:vn wx w.heap.size (PT H V):=hz;have ao1:=O Zf;have anx:(64:Int)<=(X.size:Int):=ab;clear hz hvz Zf;go_wp2;refine⟨⟨n+1,ab,?_,?_,ox⟩,?_⟩
         ·rw[qe.o];rfl
         ·rw[pY.o,HSB.o];exact ao1.o
         ·show(X.extract 64 X.size).size<X.size;rw[jE];omega
  ·have AU:64*n=T.size:=ab;have he:(T.extract (64*n) T.size)=⟨#[]⟩:=by apply Go.WideShapes.bytes_inj;rw[kC,cQ bI]
   rw[he];have UI:=O (show AV T.data.toList (T.size/64)=AV T.data.toList n by rw[<-AU];congr 1;omega);have CE:=aae T.data.toList n;generalize AV T.data.toList n=H at *
   have hz:uP wo w.heap.size H.list:=hm;have TX:=O (BQ w.heap.size H.list false wo (by show 8<=8;omega) (bj hm) (fun j x hj=>by
    have hl:j<H.list.length:=(List.getElem?_eq_some_iff.1 hj).1;rw[hz.cell hl,List.getD_eq_getElem?_getD,hj];rfl) CE)
   clear hm CE hz;go_wp2_with fail
   refine TX.o.mono ?_;rintro e w5⟨rfl,lQ⟩;go_wp2;go_ret;exact⟨by rw[Dy.o,UI.o];rfl,cL.trans lQ⟩
theorem V4(w:World)(hs:uA w):tz 3 w:=by
 intro v ss W hW hv hn hlen;have hT:=O (hs.fr hW);clear hs;have HJ:=O (KF v ss W hv hn hlen);clear hv;have hz:(⟨(kM ss).toArray⟩:aj).size<4398046511104:=by show(kM ss).toArray.size<_;simp;omega
 have HB:=O (show kD (decide ((3:Int)=3)) ss=⟨(KE (kM ss)).toArray⟩from rfl);generalize kM ss=tx at *
 clear hW;go_enter func159,ntmps159;go_wp2_with fail
 refine HJ.o.mono ?_;rintro e u1⟨rfl,dr⟩;go_wp2_with fail
 refine(Oa ⟨tx.toArray⟩ u1 hz (hT.o.fr dr)).mono ?_;rintro e u2⟨rfl,dB⟩;go_wp2;go_ret;exact⟨(ar (fun b=>Ending.returned (.string b)) HB.o).symm,dr.trans dB⟩
theorem V5(fQ:Int)(w:World)(ht:uz w)(hs:uA w):tz fQ w:=by
 by_cases h:fQ=3
 ·subst h;exact V4 w hs
 ·exact Zm fQ h w ht
structure xa (w:World):Prop where
 db:oP w 9 .u8 Tr
 md:uz w
 sh:uA w
theorem xa.fr(h:xa w)(hf:Fr aS w w'):xa w':=⟨h.db.fr hf,h.md.fr hf,h.sh.fr hf⟩
def ajx(u:Except Nat (aP bE)):Value:=match u with| .ok _=>.nilIface| .error n=>.iface 105 (.int .i64 n)
theorem re.one{base:Nat}{b:Nat}{gv wv:Value}{ws:List (bJ bE)}{u:List (aP bE)×Except Nat (aP bE)}(h:re base w b gv wv ws u e w') :
  kE base w b gv wv u.1 ws w'/\∃X:bS,e=.returned (.tuple #[.agg X,ajx u.2])/\X.size=16/\X.all (·.oneCell')=true/\∀x,u.2=.ok x->∃r:aP Value,X=r.cells.toArray/\r.Reads (dv base w') x:=by
 obtain⟨h1,h2⟩:=h;refine⟨h1,?_⟩;cases hu:u.2 with
 |error n=>rw[hu]at h2;exact⟨eS,h2,rfl,du,fun x hx=>by cases hx⟩
 |ok g =>
  rw[hu]at h2;obtain⟨r,e1,e2,e3⟩:=h2;exact⟨r.cells.toArray,e1,rfl,bX e3,fun x hx=>by cases hx;exact⟨r,rfl,e2⟩⟩
theorem Ei{X:bS}(h:X.size=16):(prog.info? 114).map (·.size)=some X.size:=by rw[h];kernel_rfl
def AtJ(base:Nat)(w2:World)(B off:Nat)(cs:aX)(v:cV)(p:dS)(x:Except Nat (aP bE))(n:Nat)(X:bS)(W:World):Prop :=
 sS base w2 B off cs v p n X 114 W/\∀g,x=.ok g->∃r:aP Value,X=r.cells.toArray/\r.Reads (dv base W) g
theorem Oh{g:aP bE}(h1:g.a.scheme=1)(h:qH g o=none)(hu:g.user.size<=100000)(hp:g.pass.size<=100000) :
  aB 49 #[.agg #[.string g.user,.string g.pass]] U fun e w'=>(∃t v,e=.returned (.tuple #[.string ⟨#[]⟩,.iface t v]))/\Fr aS U w':=by
 refine(Gf g.user g.pass U hu hp).mono ?_;rintro e u⟨hb,hf⟩;refine⟨?_,hf⟩;unfold qH at h;rw[az h1]at h;unfold mR at hb;by_cases hc:0<=Lib.indexByte g.user.data.toList 58
 ·rw[az hc]at hb;exact⟨_,_,hb⟩
 ·rw[aq hc]at hb h;cases hq:(lF g.user&&lF g.pass)
  ·rw[hq]at hb;exact⟨_,_,hb⟩
  ·rw[hq]at h;cases h
theorem Oi{g:aP bE}{s:aj}(h1:g.a.scheme=1)(h:qH g o=some s)(hu:g.user.size<=100000)(hp:g.pass.size<=100000) :
  aB 49 #[.agg #[.string g.user,.string g.pass]] U fun e w'=>e=.returned (.tuple #[.string s,.nilIface])/\Fr aS U w':=by
 refine(Gf g.user g.pass U hu hp).mono ?_;rintro e u⟨hb,hf⟩;refine⟨?_,hf⟩;unfold qH at h;rw[az h1]at h;unfold mR at hb;by_cases hc:0<=Lib.indexByte g.user.data.toList 58
 ·rw[az hc]at h;cases h
 ·rw[aq hc]at hb h;cases hq:(lF g.user&&lF g.pass)
  ·rw[hq]at h;cases h
  ·rw[hq]at hb h;cases h;exact hb
section
variable {g : aP bE} {o : iY} {s : ByteArray} {U : World} {dom : Value}
theorem Wd(eb:dom.oneCell'=true)(hg:VK g)(hm:(jL o.method).size<=5000)(ht:(nJ o.path o.query).size<=5000)(hb:o.body.size<=5000)(hc:o.bL.size<=5000)(hT:xa U) :
  aB 50 #[.agg #[.int .i64 g.a.scheme,.string g.a.aK,.string g.a.bq,.string g.a.cy,.bool g.a.cA,.string g.a.eH,.bool g.a.cN,dom],.agg #[.string g.user,.string g.pass],.string (jL o.method),.string (nJ o.path o.query),.string o.body,.string o.bL,.int .i64 g.count] U (oZ g.a.scheme g.a.cy (o.ZQ g) g.count U):=by
 obtain⟨⟨a1,a2,a3,a4⟩,a5,a6⟩:=hg;exact RW g.a.scheme g.a.aK g.a.bq g.a.cy g.a.eH g.user g.pass (jL o.method) (nJ o.path o.query) o.body o.bL g.a.cA g.a.cN dom g.count U eb ab ab ab a5 a6 hm ht hb hc hT.db (V5 _ _ hT.md hT.sh)
theorem We(h1:¬g.a.scheme=1)(h:qH g o=none)(hd:oZ g.a.scheme g.a.cy (o.ZQ g) g.count U e w'):(∃t v,e=.returned (.tuple #[.string ⟨#[]⟩,.iface t v]))/\Fr aS U w':=by
 unfold qH at h;rw[aq h1]at h;obtain⟨hf,hd⟩:=hd;refine⟨?_,hf⟩;rcases hd with ⟨_,hd⟩|⟨hg,_⟩
 ·exact hd
 ·split at h
  ·cases h
  ·rename_i hn;exact absurd hg hn
theorem Wf(h1:¬g.a.scheme=1)(h:qH g o=some s)(hd:oZ g.a.scheme g.a.cy (o.ZQ g) g.count U e w'):e=.returned (.tuple #[.string s,.nilIface])/\Fr aS U w':=by
 unfold qH at h;rw[aq h1]at h;obtain⟨hf,hd⟩:=hd;refine⟨?_,hf⟩;rcases hd with ⟨hg,_⟩|⟨hg,hd⟩
 ·split at h
  ·rename_i hc;exact absurd hc hg
  ·cases h
 ·split at h
  ·cases h;exact hd
  ·rename_i hn;exact absurd hg hn
end
theorem R9(s:aj)(h:s.size<=5000):(jL s).size<=5000:=by
 rcases za iI s with ⟨h1,_⟩|h1
 ·have:=(show∀x∈iI,x.size<=5000 from ag) _ h1;exact this
 ·show(nx iI s).size<=5000;rw[h1];exact h
theorem R_(p q:aj)(h:p.size<=2000)(h2:q.size<=2000):(nJ p q).size<=5000:=by
 unfold nJ;split
 ·omega
 ·rw[je,je,show(ByteArray.mk #[63]).size=1 from rfl];omega
theorem Oj(base:Nat)(w:World)(B off:Nat)(cs:aX)(v:cV)(p:dS)(o:jQ)(hs:List ig)(h:eQ base w v p)(ha:gT w B cs off v)(oB:base<=B)(hf:gI w o hs)(hk:nr p)(pj:rS p)(a:World)(tC:xa a)(sa:a.heap.size<=base)(tD:Fr aS a w) :
  aB 30 #[.pointer (some ⟨B,off,none⟩),.agg o.cells.toArray] w (eI base w B cs off v (iP p (o.dR hs))):=by
 have uM:B<w.heap.size:=bj ha.eL;have GP:¬v.j_ B:=h.fi ha.eL ag;obtain⟨ah,ch,gH⟩:=hf.gZ;obtain⟨w2,eE⟩:∃w2,w2=(w.alloc (.cells o.cells.toArray 41)).alloc (.cells bT 30):=⟨_,rfl⟩;have dB:Fr aS w w2:=by rw[eE];exact((ae aS w).alloc _).alloc _
 have k1:w2.heap[w.heap.size]?=some (.cells o.cells.toArray 41 (0,0)):=by rw[eE];exact((ae aS _).alloc _).keep (aC _ _) id
 have k2:w2.heap[w.heap.size+1]?=some (.cells bT 30 (0,0)):=by
  have h:=aC (w.alloc (.cells o.cells.toArray 41)) (.cells bT 30);rw[bO]at h;rw[eE];exact h
 have xb:w2.heap.size=w.heap.size+2:=by rw[eE];simp
 have Wg:=O (show∀U,Fr aS w2 U->U.heap[w.heap.size]?=some (.cells o.cells.toArray 41 (0,0))from fun U hU=>hU.keep k1 id);have CK:=O GP;have HH:=O h;have HA:=O ha;have HF:=O hf;have lD:=O gH;have HK:=O hk;have f_:=O dB;have mN:=O k1;have qO:=O k2;have ph:=O (show base<=w.heap.size from ab);have xe:=O oB;have o7:=O uM;have RV:=O eE
 obtain⟨a0,a1,a2,a3,a4,a5,a6,a7,a8,a9,jI,jJ,a12,jG,jK,jo,jV,jW,jX,ka,a20,a21⟩:=ep k1 gH;rw[eE]at a0 a1 a2 a3 a4 a5 a6 a7 a8 a9 jI jJ a12 jG jK jo jV jW jX ka a20 a21;rw[d_ gH]at eE a0 a1 a2 a3 a4 a5 a6 a7 a8 a9 jI jJ a12 jG jK jo jV jW jX ka a20 a21 ⊢;unfold bT at eE a0 a1 a2 a3 a4 a5 a6 a7 a8 a9 jI jJ a12 jG jK jo jV jW jX ka a20 a21;have nI:=O eE;clear eE gH dB k1 k2 h ha hf GP hk
 obtain⟨x3,xv⟩:∃x3,x3=w2.alloc (.cells #[.int .i64 o.aJ.part,.bool o.aJ.cX.aE,.string o.aJ.cX.host,.int .i64 o.aJ.cX.port,.bool o.aJ.o.aE,.string o.aJ.o.host,.int .i64 o.aJ.o.port,.string o.aJ.path,.string o.aJ.query,.string o.aJ.method,.slice ah hs.length ch,.bool o.aJ.fN,.string o.aJ.body] 37):=⟨_,rfl⟩;have aar:Fr aS w2 x3:=by rw[xv];exact(ae _ _).alloc _
 have Zq:x3.heap[w.heap.size+2]?=some (.cells #[.int .i64 o.aJ.part,.bool o.aJ.cX.aE,.string o.aJ.cX.host,.int .i64 o.aJ.cX.port,.bool o.aJ.o.aE,.string o.aJ.o.host,.int .i64 o.aJ.o.port,.string o.aJ.path,.string o.aJ.query,.string o.aJ.method,.slice ah hs.length ch,.bool o.aJ.fN,.string o.aJ.body] 37 (0,0)):=by
  have h:=aC w2 (.cells #[.int .i64 o.aJ.part,.bool o.aJ.cX.aE,.string o.aJ.cX.host,.int .i64 o.aJ.cX.port,.bool o.aJ.o.aE,.string o.aJ.o.host,.int .i64 o.aJ.o.port,.string o.aJ.path,.string o.aJ.query,.string o.aJ.method,.slice ah hs.length ch,.bool o.aJ.fN,.string o.aJ.body] 37);rw[xb]at h;rw[xv];exact h
 have Ol:x3.heap.size=w.heap.size+3:=by rw[xv];simp;omega
 have iA:=O (f_.o.trans aar);have HQ3:=O Zq;have TG:=O xv;have H3:=O (HH.o.dm iA.o);have A3:=O (HA.o.dm iA.o);have KO:=O (aar.keep mN.o id);have KR:=O (aar.keep qO.o id);have Sa:=O (tD.trans iA.o);have Sb:=O tC;have HSM:=O pj;have awd:=O Ol;have Sc:=HK.o.tP;clear xv aar Zq tC pj tD;go_enter func30,ntmps30
 have HC:=O (show∀U,Fr (dw v.b v.gv v.wv) x3 U->(U.cell? ⟨B,off,none⟩=some (.pointer (some ⟨v.b,0,none⟩))/\U.cell? ⟨w.heap.size+2,4,none⟩=some (.bool o.aJ.o.aE)/\U.cell? ⟨w.heap.size+2,5,none⟩=some (.string o.aJ.o.host)/\U.cell? ⟨w.heap.size+2,6,none⟩=some (.int .i64 o.aJ.o.port)/\U.cell? ⟨w.heap.size+2,7,none⟩=some (.string o.aJ.path)/\U.cell? ⟨w.heap.size,14,none⟩=some (.bool o.proxy))from fun U hU=>by
  have j1:=A3.o.fr hU (fun hb=>CK.o (Or.inl hb));have j2:=hU.keep HQ3.o (fun hb=>H3.o.fi HQ3.o GI (Or.inl hb));have j3:=hU.keep KO.o (fun hb=>H3.o.fi KO.o jl (Or.inl hb));obtain⟨a0,a1,a2,a3,a4,a5,a6,a7,a8,a9,jI,jJ,a12,jG,jK,jo,jV,jW,jX,ka,a20,a21⟩:=ep j3 lD.o;refine⟨j1.cell0,?_,?_,?_,?_,jK⟩<;>simp[World.cell?,j2])
 have HUS:=O (show∀U,Fr aS x3 U->aB 48 #[.pointer (some ⟨v.b,0,none⟩),.agg #[.bool o.aJ.o.aE,.string o.aJ.o.host,.int .i64 o.aJ.o.port],.bool o.proxy,.string o.aJ.path] U (re base U v.b v.gv v.wv p.waits (vr p.bH o.aJ.o o.proxy o.aJ.path))from fun U hU=>ZD base U v.b v.gv v.wv p.bH p.waits o.aJ.o o.proxy o.aJ.path (H3.o.dm hU).oz ab HK.o.nat)
 obtain⟨us,hus⟩:∃us,us=vr p.bH o.aJ.o o.proxy o.aJ.path:=⟨_,rfl⟩;rw[<-hus]at HUS;have HUE:=O hus;obtain⟨ev,hev⟩:∃ev,ev=ajx us.2:=⟨_,rfl⟩;have HEV:=O hev;have ajA:=O (show base<=x3.heap.size from aG ph.o iA.o.size);have ajB:=O (show B<x3.heap.size from cP o7.o iA.o.size);have si:=nI.o;clear hus hev xb Ol;go_wp2_with fail
 rw[<-si, <-TG.o];clear a0 a1 a2 a3 a4 a5 a6 a7 a8 a9 jI jJ a12 jG jK jo jV jW jX ka a20 a21 si;apply VY (P:=AtJ base x3 B off cs v {p with bH:=us.1} us.2)
 ·intro hJ;have HJ:=O hJ;clear hJ
  refine wp_region_held_drew (S:=(fun U=>U.cell? ⟨B,off,none⟩=some (.pointer (some ⟨v.b,0,none⟩))/\U.cell? ⟨w.heap.size+2,4,none⟩=some (.bool o.aJ.o.aE)/\U.cell? ⟨w.heap.size+2,5,none⟩=some (.string o.aJ.o.host)/\U.cell? ⟨w.heap.size+2,6,none⟩=some (.int .i64 o.aJ.o.port)/\U.cell? ⟨w.heap.size+2,7,none⟩=some (.string o.aJ.path)/\U.cell? ⟨w.heap.size,14,none⟩=some (.bool o.proxy))) af (HC.o _ (aA (ae _ _))) ?_
  intro Az;refine aW 0 12 rfl ?_;refine aW 1 13 rfl ?_;refine aW 2 14 rfl ?_;refine aW 3 15 rfl ?_;refine aW 4 16 rfl ?_;refine aW 5 17 rfl ?_;refine aW 6 18 rfl ?_;refine aW 7 19 rfl ?_;refine aW 8 20 rfl ?_;refine aW 9 21 rfl ?_;refine aW 10 22 rfl ?_;refine aW 11 23 rfl ?_;refine Ej 12 16 rfl rfl (fun K hK=>?_) fun K hK=>?_
  ·go_simp;refine(HUS.o _ (aA (ae _ _))).mono ?_;rintro e u3 LL;obtain⟨tu,X,rfl,GQ,LM,D'⟩:=re.one LL;rw[<-HEV.o];have JD:=O tu;have HX:=O (And.intro GQ (And.intro LM D'));have wm:Fr (dw v.b v.gv v.wv) x3 u3:=(aA (ae _ _)).trans (by obtain⟨_,_,_,h,_⟩:=tu;exact h);have Bl:=O wm;clear LL tu GQ LM D' wm;refine hK.out _ _ (HC.o _ Bl.o) ?_;intro yu;clear hK Az K
   try simp only[Act.put,sA,sB,sC]
   refine aW 13 11 rfl ?_;refine aW 14 25 rfl ?_;refine aW 15 26 rfl ?_;refine eT 16 rfl fun K hK=>?_;go_simp;obtain⟨n,hne⟩:∃n,n=u3.heap.size:=⟨_,rfl⟩;obtain⟨w4,qC⟩:∃w4,w4=u3.alloc (.cells eS 114):=⟨_,rfl⟩;have Wh:w4.heap[n]?=some (.cells eS 114 (0,0)):=by rw[qC,hne];exact aC _ _
   have kQ:Fr (dw v.b v.gv v.wv) x3 w4:=by rw[qC];exact Bl.o.alloc _
   have HZ4:=O Wh;have jZ:=O kQ;have N_:=O qC;have Cv:=O hne;rw[<-qC, <-hne];clear qC hne Wh kQ;refine hK.out _ _ (HC.o _ jZ.o) ?_;intro B7;clear hK yu K
   try simp only[Act.put,sA,sB,sC]
   refine eT 17 rfl fun K hK=>?_;refine jU rfl 114 (.tmp 6) (.tmp 25) rfl n X rfl rfl 114 eS HZ4.o (Ei HX.o.1) HX.o.1.symm HX.o.2.1 ?_;obtain⟨W,hW⟩:∃W,W=w4.setRow n X:=⟨_,rfl⟩;have B8:Fr (dw v.b v.gv v.wv) x3 W:=by rw[hW];exact gV jZ.o (by rw[Cv.o];exact Bl.o.size) _
   have hP:=sS.after (z:=eS) (dh (aA (ae aS x3)) (eR (H3.o.dm (aA (ae aS x3))) (A3.o.dm (aA (ae aS x3))) CK.o JD.o)) ajA.o ajB.o (t:=114) ag X;rw[<-N_.o, <-Cv.o, <-hW]at hP;rw[<-hW];refine hK.out _ _ (HC.o _ B8) ?_;intro Fu;clear hK B7 K
   try simp only[Act.put,sA,sB,sC]
   refine aW 18 7 rfl ?_;clear Fu;refine wpAnyH_done af ?_ _;exact HJ.o n X W ⟨hP.1,fun g hg=>by
    obtain⟨r,e1,e2⟩:=HX.o.2.2 g hg;exact⟨r,e1,e2.mono (fun v l h=>hP.2 v l h)⟩⟩
  ·go_simp;obtain⟨n,hne⟩:∃n,n=x3.heap.size:=⟨_,rfl⟩;obtain⟨w4,qC⟩:∃w4,w4=(x3.alloc (.cells eS 114)).drew:=⟨_,rfl⟩;have Wh:w4.heap[n]?=some (.cells eS 114 (0,0)):=by rw[qC,hne];exact aC x3 _
   have kQ:Fr aS x3 w4:=by rw[qC];exact((ae _ _).alloc _).drew
   have HZ4:=O Wh;have jZ:=O kQ;have Cv:=O (show x3.heap.size<=n from ab);rw[<-qC, <-hne];clear qC hne Wh kQ;refine hK.out _ _ (HC.o _ (jZ.o.mono (fun _ _ h=>absurd h id))) ?_;intro yu;clear hK Az K
   try simp only[Act.put,sA,sB,sC]
   refine eT 12 rfl fun K hK=>?_;go_simp;refine(HUS.o _ jZ.o).mono ?_;rintro e u3 LL;obtain⟨tu,X,rfl,GQ,LM,D'⟩:=re.one LL;rw[<-HEV.o];have JD:=O tu;have HX:=O (And.intro GQ (And.intro LM D'));have wm:Fr (dw v.b v.gv v.wv) x3 u3:=(jZ.o.mono (fun _ _ h=>absurd h id)).trans (by obtain⟨_,_,_,h,_⟩:=tu;exact h)
   have Up:u3.heap[n]?=some (.cells eS 114 (0,0)):=(show Fr (dw v.b v.gv v.wv) w4 u3 by obtain⟨_,_,_,h,_⟩:=tu;exact h).keep HZ4.o (fun hb=>by have:=H3.o.jr (Or.inl hb);have:=Cv.o;omega);have Bl:=O wm;have HZ3:=O Up;clear LL tu GQ LM D' wm Up;refine hK.out _ _ (HC.o _ Bl.o) ?_;intro B7;clear hK yu K
   try simp only[Act.put,sA,sB,sC]
   refine aW 13 11 rfl ?_;refine aW 14 25 rfl ?_;refine aW 15 26 rfl ?_;refine eT 17 rfl fun K hK=>?_;refine jU rfl 114 (.tmp 6) (.tmp 25) rfl n X rfl rfl 114 eS HZ3.o (Ei HX.o.1) HX.o.1.symm HX.o.2.1 ?_;obtain⟨W,hW⟩:∃W,W=u3.setRow n X:=⟨_,rfl⟩;have B8:Fr (dw v.b v.gv v.wv) x3 W:=by rw[hW];exact gV Bl.o Cv.o _
   have hP:=sS.before H3.o jZ.o Cv.o HZ4.o (eR (H3.o.dm jZ.o) (A3.o.dm jZ.o) CK.o JD.o) ajA.o ajB.o ag X;rw[<-hW]at hP;rw[<-hW];refine hK.out _ _ (HC.o _ B8) ?_;intro Fu;clear hK B7 K
   try simp only[Act.put,sA,sB,sC]
   refine aW 18 7 rfl ?_;clear Fu;refine wpAnyH_done af ?_ _;exact HJ.o n X W ⟨hP.1,fun g hg=>by
    obtain⟨r,e1,e2⟩:=HX.o.2.2 g hg;exact⟨r,e1,e2.mono (fun v l h=>hP.2 v l h)⟩⟩
 ·intro n X W hj;obtain⟨⟨v1,i1,f1,B6,Wi,hX,Wj,VZ⟩,GN⟩:=hj;have aa1:=ix A3.o Wi;have o1:=eK H3.o f1 KO.o jl ab;have r1:=eK H3.o f1 KR.o dM ab;have q1:=eK H3.o f1 HQ3.o GI ab;have haW:Fr aS a W:=Sa.o.step f1 (fun k hk hp=>by
   rcases hp with rfl|hp
   ·omega
   ·have:=H3.o.nC hp;omega)
  have HTW:=O (Sb.o.fr haW);have I1:=O i1;have F1:=O f1;have FT1:=O B6;have LN:=O aa1;have O1:=O o1;have R1:=O r1;have Q1:=O q1;have HXB:=O hX;have HNF:=O Wj;have HNA:=O VZ;clear i1 f1 B6 aa1 o1 r1 q1 Wi hX Wj VZ HUS HC haW;cases Gn:us.2 with
  |error k =>
   have hef:ev=.iface 105 (.int .i64 k):=by rw[HEV.o,Gn];rfl
   have HR:=O (show iP p (o.dR hs)=({p with bH:=us.1},rep 2)by
    unfold iP;rw[show vr p.bH (o.dR hs).o (o.dR hs).proxy (o.dR hs).path=(us.1,.error k)from by rw[<-Gn];exact HUE.o.symm])
   have HP:=O (show dk base w B cs off v {p with bH:=us.1} W from dh iA.o ⟨v1,I1.o,F1.o,FT1.o,LN.o.eL⟩);rw[hef];clear GN Gn HEV HUE hef;go_wp2_with (first|((with_reducible refine cW 30 ?_);refine aF rfl 30 (.tmp 4) (.tmp 29) rfl (w.heap.size+1) #[.int .i64 2,.string ⟨#[]⟩,.int .i64 0] rfl rfl _ bT R1.o (bf _ rfl) rfl bW ?_)|fail)
   refine aU (bu bC _ _ (w.heap.size+1) 30 #[.int .i64 2,.string ⟨#[]⟩,.int .i64 0] (0,0) _ rfl (aY _ (w.heap.size+1) _ _ _ _ R1.o) underlying30 rfl (bf _ rfl)) rfl ?_;unfold eI;rw[HR.o];exact⟨rfl,dz HP.o ph.o o7.o (bV _) R1.o eN ag _⟩
  |ok g =>
   have hef:ev=.nilIface:=by rw[HEV.o,Gn];rfl
   obtain⟨r,X',hr⟩:=GN g Gn;have hgs:VK g:=(Lz (P:=VK) (fun g h=>h) HSM.o.bH).2 g (by rw[<-HUE.o];exact Gn);have Wk:=O (show iP p (o.dR hs)=(match qH g (o.dR hs)with|none=>({p with bH:=uW us.1 g.o g.proxy g.a.aK},rep 2)|some s=>({p with bH:=us.1},⟨1,s,0⟩))by
    unfold iP;rw[show vr p.bH (o.dR hs).o (o.dR hs).proxy (o.dR hs).path=(us.1,.ok g)from by rw[<-Gn];exact HUE.o.symm];rfl)
   obtain⟨q1,q2,q3,q4,q5,q6,q7⟩:=hr;obtain⟨e1,e2,e3,e4,e5,e6,e7,A'⟩:=q5;obtain⟨ad,cd,xx⟩:=A'.rd.form;obtain⟨ap,cp,Nl⟩:=q7.rd.form
   have xr:X= #[.bool g.o.aE,.string g.o.host,.int .i64 g.o.port,.bool g.proxy,.string g.user,.string g.pass,.int .i64 g.a.scheme,.string g.a.aK,.string g.a.bq,.string g.a.cy,.bool g.a.cA,.string g.a.eH,.bool g.a.cN,.slice ad g.a.dom.length cd,.int .i64 g.count,.slice ap g.paths.length cp]:=by
    rw[X'];unfold aP.cells;rw[q1,q2,q3,q4,q6,e1,e2,e3,e4,e5,e6,e7,xx,Nl]
   rw[xr]at HXB;have Sd:=HXB.o;have hqn:=Q1.o;have hon:=O1.o;have HGS:=O hgs;have ZU:=O hgs.2.1;have ZP:=O hgs.2.2;have TD:=HF.o;rw[hef];clear GN Gn HEV HUE hef q1 q2 q3 q4 q6 q7 e1 e2 e3 e4 e5 e6 e7 A' xx Nl xr X' hgs;have z4:W.cell? ⟨n,4,none⟩=some (.string g.user):=by simp[World.cell?,Sd]
   have z5:W.cell? ⟨n,5,none⟩=some (.string g.pass):=by simp[World.cell?,Sd]
   have z6:W.cell? ⟨n,6,none⟩=some (.int .i64 g.a.scheme):=by simp[World.cell?,Sd]
   by_cases hsc:g.a.scheme=1
   ·have t6':(g.a.scheme==1)=true:=by rw[hsc];rfl
    cases yK:qH g (o.dR hs)with
    |none =>
     have HR:=O (show iP p (o.dR hs)=({p with bH:=uW us.1 g.o g.proxy g.a.aK},rep 2)by rw[Wk.o,yK]);have HBA:=O (show∀U,aB 49 #[.agg #[.string g.user,.string g.pass]] U _ from fun U=>Oh hsc yK (aG ZU.o ag) (aG ZP.o ag));have Yh:=O hsc;rw[hsc]at z6;clear yK Wk hsc Sd hqn hon TD;go_wp2_with fail
     refine(HBA.o _).mono ?_;rintro e u5⟨⟨et,evv,rfl⟩,lQ⟩;have HU:=O (lQ)
     have Uy:=O (show∀U,Fr (dw v1.b v1.gv v1.wv) u5 U->(U.cell? ⟨B,off,none⟩=some (.pointer (some ⟨v1.b,0,none⟩))/\U.cell? ⟨n,0,none⟩=some (.bool g.o.aE)/\U.cell? ⟨n,1,none⟩=some (.string g.o.host)/\U.cell? ⟨n,2,none⟩=some (.int .i64 g.o.port)/\U.cell? ⟨n,3,none⟩=some (.bool g.proxy)/\U.cell? ⟨n,7,none⟩=some (.string g.a.aK))from fun U hU=>by
      have j1:=(LN.o.dm HU.o).fr hU (fun hb=>I1.o.fi LN.o.eL ag (Or.inl hb));have j2:=hU.keep (HU.o.keep HXB.o id) (fun hb=>HNF.o (Or.inl hb));refine⟨j1.cell0,?_,?_,?_,?_,?_⟩<;>simp[World.cell?,j2])
     have Tt:=O (show∀U,Fr aS u5 U->aB 53 #[.pointer (some ⟨v1.b,0,none⟩),.agg #[.bool g.o.aE,.string g.o.host,.int .i64 g.o.port],.bool g.proxy,.string g.a.aK] U (v8 base U v1.b v1.gv v1.wv us.1 p.waits (mX g.o g.proxy g.a.aK))from fun U hU=>zF base U v1.b v1.gv v1.wv us.1 p.waits g.o g.proxy g.a.aK ((I1.o.dm HU.o).dm hU).oz);go_wp2_with fail
     go_region_held3 (fun U=>Fr (dw v1.b v1.gv v1.wv) u5 U/\U.cell? ⟨B,off,none⟩=some (.pointer (some ⟨v1.b,0,none⟩))/\U.cell? ⟨n,0,none⟩=some (.bool g.o.aE)/\U.cell? ⟨n,1,none⟩=some (.string g.o.host)/\U.cell? ⟨n,2,none⟩=some (.int .i64 g.o.port)/\U.cell? ⟨n,3,none⟩=some (.bool g.proxy)/\U.cell? ⟨n,7,none⟩=some (.string g.a.aK)) ((refine(fun hU=>⟨hU,Uy.o _ hU⟩) ?_;first|exact aA (ae _ _)|assumption))
      ((first
       |(go_at_call 53;refine(Tt.o _ (aA (ae _ _))).mono ?_;rintro e u9 ⟨rfl,Om⟩;have Wl:Fr (dw v1.b v1.gv v1.wv) u5 u9:=(aA (ae _ _)).trans (by obtain⟨_,_,_,h,_⟩:=Om;exact h))))
     have Wm:=eR ((I1.o.dm HU.o).dm (aA (ae aS u5))) ((LN.o.dm HU.o).dm (aA (ae aS u5))) (I1.o.fi LN.o.eL ag) Om;have HP:=O (show dk base w B cs off v {p with bH:=uW us.1 g.o g.proxy g.a.aK} u9 from dh iA.o (gL F1.o FT1.o (dh HU.o (dh (aA (ae aS u5)) Wm))));have r9:=O (eK (B:=B) (I1.o.dm HU.o) (Wl.mono (fun k _ hk=>Or.inr (Or.inl hk))) (HU.o.keep R1.o id) dM ab);clear Wm Om Wl Uy Tt
     go_wp2_with (first|((with_reducible refine cW 30 ?_);refine aF rfl 30 (.tmp 4) (.tmp 74) rfl (w.heap.size+1) #[.int .i64 2,.string ⟨#[]⟩,.int .i64 0] rfl rfl _ bT r9.o (bf _ rfl) rfl bW ?_)|fail)
     refine aU (bu bC _ _ (w.heap.size+1) 30 #[.int .i64 2,.string ⟨#[]⟩,.int .i64 0] (0,0) _ rfl (aY _ (w.heap.size+1) _ _ _ _ r9.o) underlying30 rfl (bf _ rfl)) rfl ?_;unfold eI;rw[HR.o];exact⟨rfl,dz HP.o ph.o o7.o (bV _) r9.o eN ag _⟩
    |some s =>
     have HR:=O (show iP p (o.dR hs)=({p with bH:=us.1},⟨1,s,0⟩)by rw[Wk.o,yK]);have HBA:=O (show∀U,aB 49 #[.agg #[.string g.user,.string g.pass]] U _ from fun U=>Oi hsc yK (aG ZU.o ag) (aG ZP.o ag));have Yh:=O hsc;rw[hsc]at z6;clear yK Wk hsc Sd hqn hon TD;go_wp2_with fail
     refine(HBA.o _).mono ?_;rintro e u5⟨rfl,lQ⟩;have HU:=O (lQ);have HP:=O (show dk base w B cs off v {p with bH:=us.1} u5 from dh iA.o (dk.then ⟨v1,I1.o,F1.o,FT1.o,LN.o.eL⟩ HU.o));have r9:=O (HU.o.keep R1.o id);go_wp2_with (first|((with_reducible refine cW 30 ?_);refine aF rfl 30 (.tmp 4) (.tmp 76) rfl (w.heap.size+1) #[.int .i64 1,.string s,.int .i64 0] rfl rfl _ bT r9.o (bf _ rfl) rfl bW ?_)|fail)
     refine aU (bu bC _ _ (w.heap.size+1) 30 #[.int .i64 1,.string s,.int .i64 0] (0,0) _ rfl (aY _ (w.heap.size+1) _ _ _ _ r9.o) underlying30 rfl (bf _ rfl)) rfl ?_;unfold eI;rw[HR.o];exact⟨rfl,dz HP.o ph.o o7.o (bV _) r9.o eN ag _⟩
   ·have t6':(g.a.scheme==1)=false:=aL.2 hsc
    have HC8:=O (show∀U,Fr aS W U->(U.cell? ⟨n,4,none⟩=some (.string g.user)/\U.cell? ⟨n,5,none⟩=some (.string g.pass)/\U.cell? ⟨n,6,none⟩=some (.int .i64 g.a.scheme)/\U.cell? ⟨n,7,none⟩=some (.string g.a.aK)/\U.cell? ⟨n,8,none⟩=some (.string g.a.bq)/\U.cell? ⟨n,9,none⟩=some (.string g.a.cy)/\U.cell? ⟨n,10,none⟩=some (.bool g.a.cA)/\U.cell? ⟨n,11,none⟩=some (.string g.a.eH)/\U.cell? ⟨n,12,none⟩=some (.bool g.a.cN)/\U.cell? ⟨n,13,none⟩=some (.slice ad g.a.dom.length cd)/\U.cell? ⟨n,14,none⟩=some (.int .i64 g.count)/\U.cell? ⟨w.heap.size+2,4,none⟩=some (.bool o.aJ.o.aE)/\U.cell? ⟨w.heap.size+2,5,none⟩=some (.string o.aJ.o.host)/\U.cell? ⟨w.heap.size+2,6,none⟩=some (.int .i64 o.aJ.o.port)/\U.cell? ⟨w.heap.size+2,7,none⟩=some (.string o.aJ.path)/\U.cell? ⟨w.heap.size+2,8,none⟩=some (.string o.aJ.query)/\U.cell? ⟨w.heap.size+2,9,none⟩=some (.string o.aJ.method)/\U.cell? ⟨w.heap.size+2,12,none⟩=some (.string o.aJ.body)/\U.cell? ⟨w.heap.size,18,none⟩=some (.string o.bL))from fun U hU=>by
     have j2:=hU.keep HXB.o id;have j3:=hU.keep Q1.o id;obtain⟨a0,a1,a2,a3,a4,a5,a6,a7,a8,a9,jI,jJ,a12,jG,jK,jo,jV,jW,jX,ka,a20,a21⟩:=ep (hU.keep O1.o id) lD.o;refine⟨?_,?_,?_,?_,?_,?_,?_,?_,?_,?_,?_,?_,?_,?_,?_,?_,?_,?_,jX⟩<;>simp[World.cell?,j2,j3])
    have HME:=O (show∀U,aB 51 #[.string o.aJ.method] U _ from fun U=>xT o.aJ.method U (iL HF.o.method ag));have HTG:=O (show∀U,aB 52 #[.agg #[.bool o.aJ.o.aE,.string o.aJ.o.host,.int .i64 o.aJ.o.port,.string o.aJ.path,.string o.aJ.query]] U _ from fun U=>NH o.aJ.o o.aJ.path o.aJ.query U (iL HF.o.path ag) (iL HF.o.query ag))
    have AA:=O (show∀U,Fr aS W U->aB 50 #[.agg #[.int .i64 g.a.scheme,.string g.a.aK,.string g.a.bq,.string g.a.cy,.bool g.a.cA,.string g.a.eH,.bool g.a.cN,.slice ad g.a.dom.length cd],.agg #[.string g.user,.string g.pass],.string (jL o.aJ.method),.string (nJ o.aJ.path o.aJ.query),.string o.aJ.body,.string o.bL,.int .i64 g.count] U (oZ g.a.scheme g.a.cy ((o.dR hs).ZQ g) g.count U)from fun U hU=>Wd (o:=o.dR hs) rfl HGS.o (R9 _ HF.o.method) (R_ _ _ HF.o.path HF.o.query) HF.o.body HF.o.bL (HTW.o.fr hU))
    cases yK:qH g (o.dR hs)with
    |none =>
     have HR:=O (show iP p (o.dR hs)=({p with bH:=uW us.1 g.o g.proxy g.a.aK},rep 2)by rw[Wk.o,yK]);have Ju:=O yK;have Yh:=O hsc;clear yK Wk Sd hqn hon TD hsc;go_wp2_with fail
     go_region_held3 (fun U=>Fr aS W U/\U.cell? ⟨n,4,none⟩=some (.string g.user)/\U.cell? ⟨n,5,none⟩=some (.string g.pass)/\U.cell? ⟨n,6,none⟩=some (.int .i64 g.a.scheme)/\U.cell? ⟨n,7,none⟩=some (.string g.a.aK)/\U.cell? ⟨n,8,none⟩=some (.string g.a.bq)/\U.cell? ⟨n,9,none⟩=some (.string g.a.cy)/\U.cell? ⟨n,10,none⟩=some (.bool g.a.cA)/\U.cell? ⟨n,11,none⟩=some (.string g.a.eH)/\U.cell? ⟨n,12,none⟩=some (.bool g.a.cN)/\U.cell? ⟨n,13,none⟩=some (.slice ad g.a.dom.length cd)/\U.cell? ⟨n,14,none⟩=some (.int .i64 g.count)/\U.cell? ⟨w.heap.size+2,4,none⟩=some (.bool o.aJ.o.aE)/\U.cell? ⟨w.heap.size+2,5,none⟩=some (.string o.aJ.o.host)/\U.cell? ⟨w.heap.size+2,6,none⟩=some (.int .i64 o.aJ.o.port)/\U.cell? ⟨w.heap.size+2,7,none⟩=some (.string o.aJ.path)/\U.cell? ⟨w.heap.size+2,8,none⟩=some (.string o.aJ.query)/\U.cell? ⟨w.heap.size+2,9,none⟩=some (.string o.aJ.method)/\U.cell? ⟨w.heap.size+2,12,none⟩=some (.string o.aJ.body)/\U.cell? ⟨w.heap.size,18,none⟩=some (.string o.bL)) ((refine(fun hU=>⟨hU,HC8.o _ hU⟩) ?_;first|exact aA (ae _ _)|assumption))
      ((first
       |(go_at_call 51;refine(HME.o _).mono ?_;rintro e u5 ⟨rfl,lQ⟩;have ud:Fr aS W u5:=(by first|exact Wn.trans lQ|exact(aA (ae aS W)).trans lQ))
       |(go_at_call 52;refine(HTG.o _).mono ?_;rintro e u6 ⟨rfl,nF⟩;have Wn:Fr aS W u6:=(by first|exact ud.trans nF|exact(aA (ae aS W)).trans nF))
       |(go_at_call 50;refine(AA.o _ j9).mono ?_;rintro e u7 Q3;obtain⟨⟨et,evv,rfl⟩,ov⟩:=We Yh.o Ju.o Q3;have LO:Fr aS W u7:=(by first|exact Wn.trans ov|exact ud.trans ov))))
     all_goals as_aux_lemma =>
      have HU:=O (LO);have Uy:=O (show∀U,Fr (dw v1.b v1.gv v1.wv) u7 U->(U.cell? ⟨B,off,none⟩=some (.pointer (some ⟨v1.b,0,none⟩))/\U.cell? ⟨n,0,none⟩=some (.bool g.o.aE)/\U.cell? ⟨n,1,none⟩=some (.string g.o.host)/\U.cell? ⟨n,2,none⟩=some (.int .i64 g.o.port)/\U.cell? ⟨n,3,none⟩=some (.bool g.proxy)/\U.cell? ⟨n,7,none⟩=some (.string g.a.aK))from fun U hU=>by
       have j1:=(LN.o.dm HU.o).fr hU (fun hb=>I1.o.fi LN.o.eL ag (Or.inl hb));have j2:=hU.keep (HU.o.keep HXB.o id) (fun hb=>HNF.o (Or.inl hb));refine⟨j1.cell0,?_,?_,?_,?_,?_⟩<;>simp[World.cell?,j2])
      have Tt:=O (show∀U,Fr aS u7 U->aB 53 #[.pointer (some ⟨v1.b,0,none⟩),.agg #[.bool g.o.aE,.string g.o.host,.int .i64 g.o.port],.bool g.proxy,.string g.a.aK] U (v8 base U v1.b v1.gv v1.wv us.1 p.waits (mX g.o g.proxy g.a.aK))from fun U hU=>zF base U v1.b v1.gv v1.wv us.1 p.waits g.o g.proxy g.a.aK ((I1.o.dm HU.o).dm hU).oz);go_wp2_with fail
      go_region_held3 (fun U=>Fr (dw v1.b v1.gv v1.wv) u7 U/\U.cell? ⟨B,off,none⟩=some (.pointer (some ⟨v1.b,0,none⟩))/\U.cell? ⟨n,0,none⟩=some (.bool g.o.aE)/\U.cell? ⟨n,1,none⟩=some (.string g.o.host)/\U.cell? ⟨n,2,none⟩=some (.int .i64 g.o.port)/\U.cell? ⟨n,3,none⟩=some (.bool g.proxy)/\U.cell? ⟨n,7,none⟩=some (.string g.a.aK)) ((refine(fun hU=>⟨hU,Uy.o _ hU⟩) ?_;first|exact aA (ae _ _)|assumption))
       ((first
        |(go_at_call 53;refine(Tt.o _ (aA (ae _ _))).mono ?_;rintro e u9 ⟨rfl,Om⟩;have Wl:Fr (dw v1.b v1.gv v1.wv) u7 u9:=(aA (ae _ _)).trans (by obtain⟨_,_,_,h,_⟩:=Om;exact h))))
      have Wm:=eR ((I1.o.dm HU.o).dm (aA (ae aS u7))) ((LN.o.dm HU.o).dm (aA (ae aS u7))) (I1.o.fi LN.o.eL ag) Om;have HP:=O (show dk base w B cs off v {p with bH:=uW us.1 g.o g.proxy g.a.aK} u9 from dh iA.o (gL F1.o FT1.o (dh HU.o (dh (aA (ae aS u7)) Wm))));have r9:=O (eK (B:=B) (I1.o.dm HU.o) (Wl.mono (fun k _ hk=>Or.inr (Or.inl hk))) (HU.o.keep R1.o id) dM ab);clear Wm Om Wl Uy Tt
      go_wp2_with (first|((with_reducible refine cW 30 ?_);refine aF rfl 30 (.tmp 4) (.tmp 74) rfl (w.heap.size+1) #[.int .i64 2,.string ⟨#[]⟩,.int .i64 0] rfl rfl _ bT r9.o (bf _ rfl) rfl bW ?_)|fail)
      refine aU (bu bC _ _ (w.heap.size+1) 30 #[.int .i64 2,.string ⟨#[]⟩,.int .i64 0] (0,0) _ rfl (aY _ (w.heap.size+1) _ _ _ _ r9.o) underlying30 rfl (bf _ rfl)) rfl ?_;unfold eI;rw[HR.o];exact⟨rfl,dz HP.o ph.o o7.o (bV _) r9.o eN ag _⟩
    |some s =>
     have HR:=O (show iP p (o.dR hs)=({p with bH:=us.1},⟨1,s,0⟩)by rw[Wk.o,yK]);have Ju:=O yK;have Yh:=O hsc;clear yK Wk Sd hqn hon TD hsc;go_wp2_with fail
     go_region_held3 (fun U=>Fr aS W U/\U.cell? ⟨n,4,none⟩=some (.string g.user)/\U.cell? ⟨n,5,none⟩=some (.string g.pass)/\U.cell? ⟨n,6,none⟩=some (.int .i64 g.a.scheme)/\U.cell? ⟨n,7,none⟩=some (.string g.a.aK)/\U.cell? ⟨n,8,none⟩=some (.string g.a.bq)/\U.cell? ⟨n,9,none⟩=some (.string g.a.cy)/\U.cell? ⟨n,10,none⟩=some (.bool g.a.cA)/\U.cell? ⟨n,11,none⟩=some (.string g.a.eH)/\U.cell? ⟨n,12,none⟩=some (.bool g.a.cN)/\U.cell? ⟨n,13,none⟩=some (.slice ad g.a.dom.length cd)/\U.cell? ⟨n,14,none⟩=some (.int .i64 g.count)/\U.cell? ⟨w.heap.size+2,4,none⟩=some (.bool o.aJ.o.aE)/\U.cell? ⟨w.heap.size+2,5,none⟩=some (.string o.aJ.o.host)/\U.cell? ⟨w.heap.size+2,6,none⟩=some (.int .i64 o.aJ.o.port)/\U.cell? ⟨w.heap.size+2,7,none⟩=some (.string o.aJ.path)/\U.cell? ⟨w.heap.size+2,8,none⟩=some (.string o.aJ.query)/\U.cell? ⟨w.heap.size+2,9,none⟩=some (.string o.aJ.method)/\U.cell? ⟨w.heap.size+2,12,none⟩=some (.string o.aJ.body)/\U.cell? ⟨w.heap.size,18,none⟩=some (.string o.bL)) ((refine(fun hU=>⟨hU,HC8.o _ hU⟩) ?_;first|exact aA (ae _ _)|assumption))
      ((first
       |(go_at_call 51;refine(HME.o _).mono ?_;rintro e u5 ⟨rfl,lQ⟩;have ud:Fr aS W u5:=(by first|exact Wn.trans lQ|exact(aA (ae aS W)).trans lQ))
       |(go_at_call 52;refine(HTG.o _).mono ?_;rintro e u6 ⟨rfl,nF⟩;have Wn:Fr aS W u6:=(by first|exact ud.trans nF|exact(aA (ae aS W)).trans nF))
       |(go_at_call 50;refine(AA.o _ j9).mono ?_;rintro e u7 Q3;obtain⟨rfl,ov⟩:=Wf Yh.o Ju.o Q3;have LO:Fr aS W u7:=(by first|exact Wn.trans ov|exact ud.trans ov))))
     all_goals as_aux_lemma =>
      have HU:=O (LO);have HP:=O (show dk base w B cs off v {p with bH:=us.1} u7 from dh iA.o (dk.then ⟨v1,I1.o,F1.o,FT1.o,LN.o.eL⟩ HU.o));have r9:=O (HU.o.keep R1.o id);go_wp2_with (first|((with_reducible refine cW 30 ?_);refine aF rfl 30 (.tmp 4) (.tmp 76) rfl (w.heap.size+1) #[.int .i64 1,.string s,.int .i64 0] rfl rfl _ bT r9.o (bf _ rfl) rfl bW ?_)|fail)
      refine aU (bu bC _ _ (w.heap.size+1) 30 #[.int .i64 1,.string s,.int .i64 0] (0,0) _ rfl (aY _ (w.heap.size+1) _ _ _ _ r9.o) underlying30 rfl (bf _ rfl)) rfl ?_;unfold eI;rw[HR.o];exact⟨rfl,dz HP.o ph.o o7.o (bV _) r9.o eN ag _⟩
