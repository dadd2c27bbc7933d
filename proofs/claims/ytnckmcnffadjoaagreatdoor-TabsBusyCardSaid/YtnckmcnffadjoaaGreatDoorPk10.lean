/- Lemmas for the law's walk. -/
import Derived.Test.YtnckmcnffadjoaaGreatDoorPk8
import Derived.Great.BuildSlice
set_option maxRecDepth 100000
set_option maxHeartbeats 16000000
set_option linter.unusedSimpArgs false
namespace Go.Proofs.YtnckmcnffadjoaaGreatDoor
open Go.Proofs.Tryz
open Go.RowKit
variable {w:World} {g j k base:Nat} {l:List Int} {v u:Value} {ss:List aj}
theorem qH.cell(h:qH w g l)(hj:j<l.length):w.cell? ⟨g,j,none⟩=some (.int .u32 (l.getD j 0)):=by
 unfold qH at h;simp only[World.cell?,h];simp[List.getElem?_append_left,hj,List.getD_eq_getElem?_getD]
theorem qH.zero(h:qH w g l)(hj:l.length<64):w.cell? ⟨g,l.length,none⟩=some (.int .u32 0):=by
 unfold qH at h;have e:((l++List.replicate (64-l.length) 0).map (Value.int IntKind.u32))[l.length]?=some (Value.int IntKind.u32 0):=by
  rw[List.getElem?_map,List.getElem?_append_right (ay _),Nat.sub_self,List.getElem?_replicate];rw[az ab];rfl
 simp only[World.cell?,h];simpa using e
theorem qH.free(h:qH w g l)(j:Nat):w.frozen? ⟨g,j,none⟩=false:=by
 unfold qH at h;simp[World.frozen?,h]
theorem qH.set(h:qH w g l)(hj:l.length<64)(x:Int):qH (w.setCell ⟨g,l.length,none⟩ (.int .u32 x)) g (l++[x]):=by
 unfold qH at h ⊢;rw[ug h]
 congr 2
 have e:List.replicate (64-l.length) (0:Int)=0 :: List.replicate (64-(l++[x]).length) 0:=by
  rw[aM,show 64-l.length=(64-(l.length+[x].length))+1 from bG,List.replicate_succ]
 rw[e];simp
theorem ajf(a b c d:Int):IntKind.u32.wrap (IntKind.u32.wrap (IntKind.u32.wrap (a+b)+c)+d)=(a+b+c+d)%4294967296:=by
 have e:∀x:Int,IntKind.u32.wrap x=x%4294967296:=fun x=>by simp[IntKind.wrap,IntKind.signed,IntKind.bits]
 rw[e,e,e];omega
theorem EB(x:Int):IntKind.u32.wrap x=x%4294967296:=by simp[IntKind.wrap,IntKind.signed,IntKind.bits]
theorem ajg(a b c d e:Int):IntKind.u32.wrap (IntKind.u32.wrap (IntKind.u32.wrap (IntKind.u32.wrap (a+b)+c)+d)+e)=(a+b+c+d+e)%4294967296:=by
 rw[EB,EB,EB,EB];omega
theorem aeF(a0 a1 a2 a3 a4 a5 a6 a7:Int):prog.built 291 [(0,.int .u32 a0),(1,.int .u32 a1),(2,.int .u32 a2),(3,.int .u32 a3),(4,.int .u32 a4),(5,.int .u32 a5),(6,.int .u32 a6),(7,.int .u32 a7)]=some #[.int .u32 a0,.int .u32 a1,.int .u32 a2,.int .u32 a3,.int .u32 a4,.int .u32 a5,.int .u32 a6,.int .u32 a7]:=af
theorem FN{ops:Array Oper}{rest:List Oper}{o:Oper}{a:Act}{w:World}{Q:Exit->Act->World->Prop}(hg:o.guard=none)(x0 x1 x2 x3 x4 x5 x6 x7:Operand)
  (ho:o.op=.build 291 #[(0,x0),(1,x1),(2,x2),(3,x3),(4,x4),(5,x5),(6,x6),(7,x7)])(d:Option Tmp)(hd:o.dst=d)(v0 v1 v2 v3 v4 v5 v6 v7:Int)
  (h0:a.eval x0=.int .u32 v0)(h1:a.eval x1=.int .u32 v1)(h2:a.eval x2=.int .u32 v2)(h3:a.eval x3=.int .u32 v3)(h4:a.eval x4=.int .u32 v4)(h5:a.eval x5=.int .u32 v5)(h6:a.eval x6=.int .u32 v6)(h7:a.eval x7=.int .u32 v7)
  (h:wpList prog ops Q rest (a.put d (.agg #[.int .u32 v0,.int .u32 v1,.int .u32 v2,.int .u32 v3,.int .u32 v4,.int .u32 v5,.int .u32 v6,.int .u32 v7])) w):wpList prog ops Q (o :: rest) a w:=by
 refine wpList_buildTo hg 291 _ ho d hd _ ?_ h;simp only[eC,cA,dn,h0,h1,h2,h3,h4,h5,h6,h7];exact aeF _ _ _ _ _ _ _ _
theorem wV(h:k≠g)(cs:Array Value):(w.setRow g cs).heap[k]?=w.heap[k]?:=by
 simp[World.setRow,Array.getElem?_modify,kY h]
theorem Wc{a:World}(h:Fr aR a w)(hg:a.heap.size<=g)(cs:Array Value):Fr aR a (w.setRow g cs) :=
 ⟨h.os,h.tape,h.output,by show a.heap.size<=(w.setRow g cs).heap.size;rw[World.setRow];simp only[Array.size_modify];exact h.size,fun k hk hn=>(wV ab cs).trans (h.block k hk hn)⟩
theorem aeG(v0 v1 v2 v3 v4 v5 v6 v7:Int):(#[.int .u32 v0,.int .u32 v1,.int .u32 v2,.int .u32 v3,.int .u32 v4,.int .u32 v5,.int .u32 v6,.int .u32 v7]:Array Value).all (·.oneCell')=true:=ct
def uZ(w:World)(g:Nat)(l:List Int):Prop:=w.heap[g]?=some (.cells (l.map (Value.int .u32)).toArray 291 (0,0))
theorem uZ.cell(h:uZ w g l)(hj:j<l.length):w.cell? ⟨g,j,none⟩=some (.int .u32 (l.getD j 0)):=by
 unfold uZ at h;simp only[World.cell?,h];simp[hj,List.getD_eq_getElem?_getD]
theorem uZ.free(h:uZ w g l)(j:Nat):w.frozen? ⟨g,j,none⟩=false:=by
 unfold uZ at h;simp[World.frozen?,h]
theorem uZ.set(h:uZ w g l)(j:Nat)(x:Int):uZ (w.setCell ⟨g,j,none⟩ (.int .u32 x)) g (l.set j x):=by
 unfold uZ at h ⊢;rw[ug h];simp[List.map_set]
def Ja(a b:List Int):Nat->List Int
 |0=>a
 |k+1=>(Ja a b k).set k ((a.getD k 0+b.getD k 0)%4294967296)
theorem LW(a b:List Int):∀k,(Ja a b k).length=a.length
 |0=>rfl
 |k+1=>by rw[Ja,d_,LW a b k]
theorem LX(a b:List Int):∀k j,k<=j->(Ja a b k).getD j 0=a.getD j 0
 |0,_,_=>rfl
 |k+1,j,h=>by
  rw[Ja,List.getD_eq_getElem?_getD,List.getElem?_set,aq ab, <-List.getD_eq_getElem?_getD,LX a b k j ab]
theorem aar(T:aG):∀k,∀x∈(Bg T k).list,0<=x/\x<4294967296
 |0=>by
  intro x hx;simp only[Bg,Sh.list,sh0,bB,cq,dU]at hx;rcases hx with rfl|rfl|rfl|rfl|rfl|rfl|rfl|rfl<;>decide
 |k+1=>by
  intro x hx;simp only[Bg,zK,Qa,Sh.list,bB,cq,dU]at hx;rcases hx with rfl|rfl|rfl|rfl|rfl|rfl|rfl|rfl<;>exact Be _
def aoO(H V:Sh)(g g1:Nat)(w:World)(i:Value)(wr:World):Prop :=
 ∃k:Nat,k<=8/\i=.int .i64 k/\uZ wr g (Ja H.list V.list k)/\uZ wr g1 V.list/\Fr aR w wr
def aoP(tr:Nat->Sh)(ws:List Int)(H:Sh)(g g1 gw:Nat)(w:World)(i:Value)(wr:World):Prop :=
 ∃k:Nat,k<=64/\i=.int .i64 k/\vM wr g (tr k)/\vM wr g1 H/\qH wr gw ws/\Fr aR w wr
theorem vM.cells{h:Sh}(hm:vM w g h):w.cell? ⟨g,0,none⟩=some (.int .u32 h.v0)/\w.cell? ⟨g,1,none⟩=some (.int .u32 h.v1)/\w.cell? ⟨g,2,none⟩=some (.int .u32 h.v2)/\w.cell? ⟨g,3,none⟩=some (.int .u32 h.v3) /\
  w.cell? ⟨g,4,none⟩=some (.int .u32 h.v4)/\w.cell? ⟨g,5,none⟩=some (.int .u32 h.v5)/\w.cell? ⟨g,6,none⟩=some (.int .u32 h.v6)/\w.cell? ⟨g,7,none⟩=some (.int .u32 h.v7):=by
 unfold vM at hm;simp[World.cell?,hm]
def ajh(X:aG)(g:Nat)(w:World)(i:Value)(wr:World):Prop:=∃k:Nat,k<=64/\i=.int .i64 k/\qH wr g (Yc X k)/\Fr aR w wr
set_option pp.deepTerms true in
set_option pp.maxSteps 1000000 in
theorem Ot(s:aj)(w:World)(hs:s.size<4398046511104)(ht:tL w) :
  Calls prog 208 #[.string s] w fun e w'=>e=.returned (.string ⟨(KZ s.data.toList).toArray⟩)/\Fr aR w w':=by
 have c0:=ht.b.2 0 _ rfl;have c1:=ht.b.2 1 _ rfl;have c2:=ht.b.2 2 _ rfl;have c3:=ht.b.2 3 _ rfl;have c4:=ht.b.2 4 _ rfl;have c5:=ht.b.2 5 _ rfl;have c6:=ht.b.2 6 _ rfl;have c7:=ht.b.2 7 _ rfl
 have gS:Fr aR w (w.alloc (.cells #[.int .u32 1779033703,.int .u32 3144134277,.int .u32 1013904242,.int .u32 2773480762,.int .u32 1359893119,.int .u32 2600822924,.int .u32 528734635,.int .u32 1541459225] 291)):=(ae aR w).alloc _
 have Y1:vM (w.alloc (.cells #[.int .u32 1779033703,.int .u32 3144134277,.int .u32 1013904242,.int .u32 2773480762,.int .u32 1359893119,.int .u32 2600822924,.int .u32 528734635,.int .u32 1541459225] 291)) w.heap.size sh0:=aB _ _;have HM0:=O Y1;clear Y1;go_enter func208,ntmps208;go_wp2_with fail
 clear c0 c1 c2 c3 c4 c5 c6 c7;refine(P8 s false _ ab).mono ?_;rintro e w1⟨rfl,df⟩;obtain⟨T,hT⟩:∃T,T=(⟨(vJ false s.data.toList).toArray⟩:aj):=⟨_,rfl⟩;rw[<-hT];have hTl:T.data.toList=vJ false s.data.toList:=by rw[hT]
 have hTs:T.size=(vJ false s.data.toList).length:=by rw[<-hTl];simp
 obtain⟨adA,UQ⟩:=KW false s.data.toList;rw[<-hTs]at adA UQ;have KX:s.data.toList.length=s.size:=aQ;rw[KX]at UQ;have DQ:=O (show KZ s.data.toList=oQ false (Bg T.data.toList (T.size/64)).list by unfold KZ;rw[hTl,hTs]);have HM1:=O (show vM w1 w.heap.size sh0 from df.keep HM0.o (fun h=>h));have k_:=O (gS.trans df);clear hT hTl hTs HM0 gS df KX;go_wp2
 go_loopw[4] (ahR T w.heap.size w) (fun t _=>match t with| .string x=>x.size|_=>0)
 case atStart=>exact⟨0,ab,by rw[Nat.mul_zero];congr 1;apply Go.WideShapes.bytes_inj;rw[kD];rfl,HM1.o,k_.o⟩
 case round =>
  obtain⟨n,hn,rfl,hm,cK⟩:=hrel;generalize wr=wo at *
  by_cases hne:64*n<T.size
  ·have UR:64<=(T.extract (64*n) T.size).size:=by rw[jE];omega
   have ant:(T.extract (64*n) T.size).size<17592186044416:=by rw[jE];omega
   have qi:=O (P_ T (64*n) 64);have hXl:=O (kD T (64*n));generalize T.extract (64*n) T.size=X at *
   have HM:=O hm;have qe:=O (show Bg T.data.toList (n+1)=zK X.data.toList (Bg T.data.toList n)by rw[hXl.o];rfl);generalize Bg T.data.toList n=H at *
   clear hm;have hx:X.toList.isEmpty=false:=by
    rw[aO];cases hq:X.data.toList with
    |nil=>rw[gW.1 hq]at UR;omega
    |cons a l=>rfl
   have Ur:¬X.toList=[]:=by rw[aO];intro h;rw[gW.1 h]at UR;omega
   go_wp2;go_loopw[23] (ajh X.data.toList wo.heap.size wo) (fun i _=>64-(intOf i).toNat)
   case atStart=>exact⟨0,ab,rfl,by unfold qH;rw[aB];kernel_rfl,(ae _ _).alloc _⟩
   case round =>
    obtain⟨k,hk,rfl,yJ,js⟩:=hrel;have hlen:=O (P' X.data.toList k);have JL:=O (show Yc X.data.toList (k+1)=GA X.data.toList (Yc X.data.toList k) k from rfl);have H64:=O (show k=64->Yc X.data.toList k=Yc X.data.toList 64 from fun h=>by rw[h]);generalize Yc X.data.toList k=l at *
    by_cases KP:k<64
    ·have py:(k:Int)<64:=ab;have hz:=yJ.zero (by rw[hlen.o];exact KP);have hf:=yJ.free k;rw[hlen.o]at hz;have qV:=O (yJ.set (by rw[hlen.o];exact KP) (Gz X.data.toList l k));by_cases vK:k<16
     ·have aji:(k:Int)<16:=ab;obtain⟨wv,FA⟩:∃wv,wv=qN false (X.extract (4*k) X.size).data.toList:=⟨_,rfl⟩;have sX:=O (fun W=>wJ (X.extract (4*k) X.size) false W (by rw[jE];omega) (by rw[jE];omega));rw[<-FA]at sX;have HN:=O (show Gz X.data.toList l k=wv by unfold Gz;rw[az vK,FA,kD]);clear FA;have q2:4*(k:Int)<=(X.size:Int):=ab;go_wp2_with fail
      refine(sX.o _).mono ?_;rintro e w5⟨rfl,nq,rfl⟩;have GC:=O (show qH (wr.drewN nq) wo.heap.size l from yJ);have hz5:(wr.drewN nq).cell? ⟨wo.heap.size,k,none⟩=some (.int .u32 0):=hz;have lG:(wr.drewN nq).frozen? ⟨wo.heap.size,k,none⟩=false:=hf;have ajj:=O (show qH ((wr.drewN nq).setCell ⟨wo.heap.size,k,none⟩ (.int .u32 wv)) wo.heap.size (GA X.data.toList l k)from by
       have h:=yJ.set (by rw[hlen.o];exact KP) wv;rw[hlen.o]at h;unfold GA;rw[HN.o];exact h)
      have yI:=js.drewN nq;clear hz hf;generalize wr.drewN nq=wd at *
      go_wp2;go_roundw
      case rel=>exact⟨k+1,ab,a_,by rw[JL.o];exact ajj.o,yI.gI (p:=⟨wo.heap.size,k,none⟩) (ay _) _⟩
      case measure=>simp[intOf];omega
     ·have aji:¬(k:Int)<16:=ab;obtain⟨Ys,e16⟩:∃j:Nat,(k:Int)-16=(j:Int):=⟨k-16,ab⟩;obtain⟨j15,e15⟩:∃j:Nat,(k:Int)-15=(j:Int):=⟨k-15,ab⟩;obtain⟨j7,e7⟩:∃j:Nat,(k:Int)-7=(j:Int):=⟨k-7,ab⟩;obtain⟨j2,e2⟩:∃j:Nat,(k:Int)-2=(j:Int):=⟨k-2,ab⟩;have x16:=yJ.cell (j:=Ys) (by rw[hlen.o];omega);have x15:=yJ.cell (j:=j15) (by rw[hlen.o];omega);have x7:=yJ.cell (j:=j7) (by rw[hlen.o];omega)
      have x2:=yJ.cell (j:=j2) (by rw[hlen.o];omega);have HN:=O (show Gz X.data.toList l k=(l.getD Ys 0+l.getD j7 0+adE (l.getD j15 0)+adF (l.getD j2 0))%4294967296 by
       unfold Gz;rw[aq vK,show k-16=Ys from ab,show k-15=j15 from ab,show k-7=j7 from ab,show k-2=j2 from ab])
      generalize l.getD Ys 0=v16 at *
      generalize l.getD j15 0=v15 at *
      generalize l.getD j7 0=v7 at *
      generalize l.getD j2 0=v2 at *
      have w16:IntKind.i64.wrap ((k:Int)-16)=(Ys:Int):=by rw[<-e16];exact IntWalk.i64_in _ ab
      have w15:IntKind.i64.wrap ((k:Int)-15)=(j15:Int):=by rw[<-e15];exact IntWalk.i64_in _ ab
      have w7:IntKind.i64.wrap ((k:Int)-7)=(j7:Int):=by rw[<-e7];exact IntWalk.i64_in _ ab
      have w2:IntKind.i64.wrap ((k:Int)-2)=(j2:Int):=by rw[<-e2];exact IntWalk.i64_in _ ab
      have b16:(Ys:Int)<64:=ab;have b15:(j15:Int)<64:=ab;have b7:(j7:Int)<64:=ab;have b2:(j2:Int)<64:=ab;have n16:Ys<64:=ab;have n15:j15<64:=ab;have n7:j7<64:=ab;have n2:j2<64:=ab;go_wp2;go_quiet (fail);have X16:(wr.drewN nq).cell? ⟨wo.heap.size,Ys,none⟩=some (.int .u32 v16):=x16;have X7:(wr.drewN nq).cell? ⟨wo.heap.size,j7,none⟩=some (.int .u32 v7):=x7
      have hz5:(wr.drewN nq).cell? ⟨wo.heap.size,k,none⟩=some (.int .u32 0):=hz;have lG:(wr.drewN nq).frozen? ⟨wo.heap.size,k,none⟩=false:=hf;have GC:=O (show qH (wr.drewN nq) wo.heap.size l from yJ);have yI:=js.drewN nq;clear x16 x7 hz hf yJ qV js;generalize wr.drewN nq=wd at *
      go_wp2_with fail
      have y16:IntKind.i64.wrap (Ys:Int)=(Ys:Int):=IntWalk.i64_in _ ab;have y7:IntKind.i64.wrap (j7:Int)=(j7:Int):=IntWalk.i64_in _ ab;clear w16 w15 w7 w2;refine wp_region_still_tail 29 af af ?_;simp only[List.take_succ_cons,List.take_zero,List.drop_succ_cons,eD]
      iterate 11 still_step
      still_call (anv v15 _)
      iterate 1 still_step
      still_call (ahJ v15 _)
      iterate 6 still_step
      still_call (ahK v2 _)
      iterate 1 still_step
      still_call (ahL v2 _)
      iterate 6 still_step
      refine wpStill_nil ?_;change wpList _ _ _ _ _ wd.drew;have HS:=O (show∀x,qH (wd.drew.setCell ⟨wo.heap.size,k,none⟩ (.int .u32 x)) wo.heap.size (l++[x])from fun x=>by
       have h:=(show qH wd.drew wo.heap.size l from GC.o).set (by rw[hlen.o];exact KP) x;rw[hlen.o]at h;exact h)
      have hz6:wd.drew.cell? ⟨wo.heap.size,k,none⟩=some (.int .u32 0):=hz5;have nF:wd.drew.frozen? ⟨wo.heap.size,k,none⟩=false:=lG;have aas:Fr aR wo wd.drew:=yI.drew;clear hz5 lG X16 X7 y16 y7 e16 e15 e7 e2;generalize wd.drew=we at *
      go_wp2_with fail
      go_wp2;go_roundw
      case rel=>exact⟨k+1,ab,a_,by rw[JL.o];unfold GA;rw[HN.o];unfold adE adF KY;rw[<-ajf];exact HS.o _,aas.gI (p:=⟨wo.heap.size,k,none⟩) (ay _) _⟩
      case measure=>simp[intOf];omega
    ·have US:k=64:=ab;rw[show((k:Nat):Int)=64 from ab];subst US;have HWS:=O (H64.o rfl);have HW:=O yJ;clear H64;have hm3:vM wr w.heap.size H:=js.keep HM.o (fun h=>h);obtain⟨c0,c1,c2,c3,c4,c5,c6,c7⟩:=hm3.cells;have TE:=O hm3;obtain⟨gv,hgv⟩:∃gv,gv=wr.heap.size:=⟨_,rfl⟩;have avO:w.heap.size<gv:=by rw[hgv];exact bj hm3
     have avP:wo.heap.size<gv:=by rw[hgv];exact bj yJ
     have avQ:w.heap.size<wo.heap.size:=bj HM.o;clear hm3 yJ;obtain⟨tr,htr⟩:∃tr,tr=zJ l H:=⟨_,rfl⟩;have Dd:=O (show∀k,tr (k+1)=UW (tr k) (shP l k (tr k)) (shQ (tr k))from fun k=>by rw[htr];rfl);have Ou:=O (show tr 0=H by rw[htr];rfl);have HSB:=O (show zK X.data.toList H=Qa H (tr 64)by unfold zK;rw[htr,HWS.o]);clear htr;go_wp2;clear c0 c1 c2 c3 c4 c5 c6 c7
     have Gs:Fr aR wr (wr.alloc (.cells #[.int .u32 H.v0,.int .u32 H.v1,.int .u32 H.v2,.int .u32 H.v3,.int .u32 H.v4,.int .u32 H.v5,.int .u32 H.v6,.int .u32 H.v7] 291)):=(ae aR wr).alloc _;have M3:=cK.trans (js.trans Gs);rw[<-hgv];have HG:=O hgv;clear hgv;go_loopw[74] (aoP tr l H gv w.heap.size wo.heap.size w) (fun i _=>64-(intOf i).toNat)
     case atStart=>exact⟨0,ab,rfl,by rw[Ou.o,HG.o];exact aB _ _,Gs.keep TE.o (fun h=>h),Gs.keep HW.o (fun h=>h),M3⟩
     case round =>
      clear Gs M3 TE HW js;obtain⟨k,hk,rfl,hv,hh,hww,qG⟩:=hrel;generalize wr=wi at *
      by_cases KP:k<64
      ·have py:(k:Int)<64:=ab;obtain⟨z,hz⟩:∃z,DT[k]?=some z:=⟨_,List.getElem?_eq_getElem (by show k<64;omega)⟩;have acs:wi.cell? ⟨2,k,none⟩=some (.int .u32 z):=(ht.fr qG).r.2 k z hz;have hzd:=O (show DT.getD k 0=z by rw[List.getD_eq_getElem?_getD,hz];rfl);clear hz;have hwk:=hww.cell (j:=k) (by rw[hlen.o];exact KP);obtain⟨x,hx⟩:∃x,x=l.getD k 0:=⟨_,rfl⟩;rw[<-hx]at hwk;have HS1:=O (Dd.o k)
       generalize tr k=V at *
       have HP:=O (show shP l k V=(V.v7+KY (ma V.v4 26) (ma V.v4 21) (ma V.v4 7)+bits .xor .u32 (bits .and .u32 V.v4 V.v5) (bits .and .u32 (ND V.v4) V.v6)+z+x)%4294967296 by unfold shP;rw[hzd.o,hx]);obtain⟨c0,c1,c2,c3,c4,c5,c6,c7⟩:=hv.cells;have HV:=O hv;have HH:=O hh;have xJ:=O hww;clear hv hh hww hx;go_wp2;go_quiet (fail);go_wp2_with fail
       have HV2:=O (show vM (wi.drewN nq) gv V from HV.o);have HH2:=O (show vM (wi.drewN nq) w.heap.size H from HH.o);have ajk:=O (show qH (wi.drewN nq) wo.heap.size l from xJ.o);have aeK:(wi.drewN nq).cell? ⟨2,k,none⟩=some (.int .u32 z):=acs;have aoW:(wi.drewN nq).cell? ⟨wo.heap.size,k,none⟩=some (.int .u32 x):=hwk;have oA:=qG.drewN nq;clear HV HH xJ acs hwk qG c0 c1 c2 c3 c4 c5 c6 c7
       generalize wi.drewN nq=wd at *
       obtain⟨c0,c1,c2,c3,c4,c5,c6,c7⟩:=HV2.o.cells;refine wp_region_still_tail 30 af af ?_;simp only[List.take_succ_cons,List.take_zero,List.drop_succ_cons,eD]
       iterate 3 still_step
       still_call (anw V.v4 _)
       iterate 1 still_step
       still_call (ahM V.v4 _)
       iterate 2 still_step
       still_call (ahN V.v4 _)
       iterate 21 still_step
       refine wpStill_nil ?_;rw[show(if IntKind.u32.signed=true then(-1:Int)else IntKind.u32.max)=IntKind.u32.max from rfl];rw[show bits .xor .u32 IntKind.u32.max V.v4=ND V.v4 from rfl];generalize hy0:ND V.v4=y0;generalize hy2:bits .xor .u32 (bits .and .u32 V.v4 V.v5) (bits .and .u32 y0 V.v6)=y2;generalize bits .and .u32 y0 V.v6=y3
       generalize Fi:bits .xor .u32 (bits .xor .u32 (ma V.v4 26) (ma V.v4 21)) (ma V.v4 7)=y1;generalize Cp:IntKind.u32.wrap (V.v7+y1)=s1;generalize MX:IntKind.u32.wrap (s1+y2)=s2;generalize Ug:IntKind.u32.wrap (s2+z)=s3;generalize hs4:IntKind.u32.wrap (s3+x)=p;have HP2:=O (show shP l k V=p by rw[HP.o, <-hs4, <-Ug, <-MX, <-Cp, <-Fi, <-hy2, <-hy0,ajg];rfl);clear hs4 Ug MX Cp Fi hy2 hy0 HP aeK aoW
       change wpList _ _ _ _ _ wd.drew;have TU:=O (show vM (wd.drew) gv V from HV2.o);have HH3:=O (show vM (wd.drew) w.heap.size H from HH2.o);have ajn:=O (show qH (wd.drew) wo.heap.size l from ajk.o);have yI:=oA.drew;clear HV2 HH2 ajk oA c0 c1 c2 c3 c4 c5 c6 c7;generalize wd.drew=we at *
       obtain⟨c0,c1,c2,c3,c4,c5,c6,c7⟩:=TU.o.cells
       iterate 7 go_step
       refine wp_region_still_tail 24 af af ?_;simp only[List.take_succ_cons,List.take_zero,List.drop_succ_cons,eD]
       iterate 1 still_step
       still_call (anx V.v0 _)
       iterate 1 still_step
       still_call (ahO V.v0 _)
       iterate 2 still_step
       still_call (ahP V.v0 _)
       iterate 17 still_step
       refine wpStill_nil ?_;generalize hy4:bits .xor .u32 (bits .xor .u32 (bits .and .u32 V.v0 V.v1) (bits .and .u32 V.v0 V.v2)) (bits .and .u32 V.v1 V.v2)=y4;generalize hy5:bits .xor .u32 (bits .xor .u32 (ma V.v0 30) (ma V.v0 19)) (ma V.v0 10)=y5;generalize hs5:IntKind.u32.wrap (y5+y4)=q;have Yt:=O (show shQ V=q by rw[<-hs5, <-hy5, <-hy4];unfold shQ KY;rw[EB]);clear hs5 hy5 hy4
       change wpList _ _ _ _ _ we.drew;have HV4:=O (show vM (we.drew) gv V from TU.o);have HH4:=O (show vM (we.drew) w.heap.size H from HH3.o);have aoX:=O (show qH (we.drew) wo.heap.size l from ajn.o);have aas:=yI.drew;clear TU HH3 ajn yI c0 c1 c2 c3 c4 c5 c6 c7;generalize we.drew=wf at *
       obtain⟨c0,c1,c2,c3,c4,c5,c6,c7⟩:=HV4.o.cells;have hb:wf.heap[gv]?=some (.cells #[.int .u32 V.v0,.int .u32 V.v1,.int .u32 V.v2,.int .u32 V.v3,.int .u32 V.v4,.int .u32 V.v5,.int .u32 V.v6,.int .u32 V.v7] 291 (0,0)):=HV4.o;have HB:=O hb;clear hb
       go_wp2_with (first|((with_reducible refine cY 154 ?_);refine FN rfl (.tmp 137) (.tmp 139) (.tmp 141) (.tmp 143) (.tmp 147) (.tmp 149) (.tmp 151) (.tmp 153) rfl (some 154) rfl ((p+q)%4294967296) V.v0 V.v1 V.v2 ((V.v3+p)%4294967296) V.v4 V.v5 V.v6 rfl rfl rfl rfl rfl rfl rfl rfl ?_)|((with_reducible refine kt ⟨none,_,_,_,_,_⟩ ?_);refine wpList_store_rowTo rfl 291 (.tmp 9) (.tmp 154) rfl rfl gv #[.int .u32 ((p+q)%4294967296),.int .u32 V.v0,.int .u32 V.v1,.int .u32 V.v2,.int .u32 ((V.v3+p)%4294967296),.int .u32 V.v4,.int .u32 V.v5,.int .u32 V.v6] rfl rfl _ _ HB.o af rfl (aeG _ _ _ _ _ _ _ _) ?_;have lH:=O (show vM (wf.setRow gv #[.int .u32 ((p+q)%4294967296),.int .u32 V.v0,.int .u32 V.v1,.int .u32 V.v2,.int .u32 ((V.v3+p)%4294967296),.int .u32 V.v4,.int .u32 V.v5,.int .u32 V.v6]) gv (UW V p q)from aX _ _ _ _ _ _ HB.o);have HH5:=O (show vM (wf.setRow gv #[.int .u32 ((p+q)%4294967296),.int .u32 V.v0,.int .u32 V.v1,.int .u32 V.v2,.int .u32 ((V.v3+p)%4294967296),.int .u32 V.v4,.int .u32 V.v5,.int .u32 V.v6]) w.heap.size H from(wV ab _).trans HH4.o);have aoY:=O (show qH (wf.setRow gv #[.int .u32 ((p+q)%4294967296),.int .u32 V.v0,.int .u32 V.v1,.int .u32 V.v2,.int .u32 ((V.v3+p)%4294967296),.int .u32 V.v4,.int .u32 V.v5,.int .u32 V.v6]) wo.heap.size l from(wV ab _).trans aoX.o);have X9:=O (show Fr aR w (wf.setRow gv #[.int .u32 ((p+q)%4294967296),.int .u32 V.v0,.int .u32 V.v1,.int .u32 V.v2,.int .u32 ((V.v3+p)%4294967296),.int .u32 V.v4,.int .u32 V.v5,.int .u32 V.v6])from Wc aas ab _);clear aas c0 c1 c2 c3 c4 c5 c6 c7;generalize wf.setRow gv #[.int .u32 ((p+q)%4294967296),.int .u32 V.v0,.int .u32 V.v1,.int .u32 V.v2,.int .u32 ((V.v3+p)%4294967296),.int .u32 V.v4,.int .u32 V.v5,.int .u32 V.v6]=wg at *))
       go_wp2;go_roundw
       case rel=>exact⟨k+1,ab,a_,by rw[HS1.o,HP2.o,Yt.o];exact lH.o,HH5.o,aoY.o,X9.o⟩
       case measure=>simp[intOf];omega
      ·have US:k=64:=ab;rw[show((k:Nat):Int)=64 from ab];subst US;clear hww;generalize tr 64=V at *
       have hvz:uZ wi gv V.list:=hv;have hhz:uZ wi w.heap.size (Ja H.list V.list 0):=hh;have HVZ:=O hvz;have HHZ:=O hhz;clear hv hh hvz hhz;go_wp2;go_loopw[156] (aoO H V w.heap.size gv w) (fun i _=>8-(intOf i).toNat)
       case atStart=>exact⟨0,ab,rfl,HHZ.o,HVZ.o,qG⟩
       case round =>
        clear HVZ HHZ qG;obtain⟨k,hk,rfl,hz,hvz,oA⟩:=hrel;generalize wr=wx at *
        have hL1:H.list.length=8:=rfl;have hL2:V.list.length=8:=rfl;by_cases KP:k<8
        ·have py:(k:Int)<8:=ab;have c0:=hz.cell (j:=k) (by rw[LW];omega);rw[LX _ _ k k (ay _)]at c0;have c1:=hvz.cell (j:=k) ab;have f0:=hz.free k;have lH:=O (show uZ (wx.drew.setCell ⟨w.heap.size,k,none⟩ (.int .u32 ((H.list.getD k 0+V.list.getD k 0)%4294967296))) w.heap.size (Ja H.list V.list (k+1))from(show uZ wx.drew w.heap.size (Ja H.list V.list k)from hz).set k _)
         have HVZ:=O (show uZ (wx.drew.setCell ⟨w.heap.size,k,none⟩ (.int .u32 ((H.list.getD k 0+V.list.getD k 0)%4294967296))) gv V.list from by
          unfold uZ;rw[Below.heap_setCell _ _ _ _ (show gv≠w.heap.size from ab)];exact hvz)
         have sx:=O (oA.drew);generalize H.list.getD k 0=x0 at *
         generalize V.list.getD k 0=x1 at *
         clear hz hvz oA;go_wp2;refine wp_region_still_tail 8 af af ?_;simp only[List.take_succ_cons,List.take_zero,List.drop_succ_cons,eD]
         iterate 8 still_step
         refine wpStill_nil ?_;change wpList _ _ _ _ _ wx.drew;have c2:wx.drew.cell? ⟨w.heap.size,k,none⟩=some (.int .u32 x0):=c0;have f2:wx.drew.frozen? ⟨w.heap.size,k,none⟩=false:=f0;clear c0 c1 f0;generalize wx.drew=wy at *
         go_wp2_with fail
         go_wp2;go_roundw
         case rel=>exact⟨k+1,ab,a_,by first|exact lH.o|(rw[EB];exact lH.o),by first|exact HVZ.o|(rw[EB];exact HVZ.o),sx.o.gI (p:=⟨w.heap.size,k,none⟩) (ay _) _⟩
         case measure=>simp[intOf];omega
        ·have hk8:k=8:=ab;subst hk8;have Zs:vM wx w.heap.size (Qa H V):=hz;have aoZ:=O Zs;have anu:(64:Int)<=(X.size:Int):=ab;clear hz hvz Zs;go_wp2;refine⟨⟨n+1,ab,?_,?_,oA⟩,?_⟩
         ·rw[qi.o];rfl
         ·rw[qe.o,HSB.o];exact aoZ.o
         ·show(X.extract 64 X.size).size<X.size;rw[jE];omega
  ·have CX:64*n=T.size:=ab;have he:(T.extract (64*n) T.size)=⟨#[]⟩:=by apply Go.WideShapes.bytes_inj;rw[kD,cO bG]
   rw[he];have UT:=O (show Bg T.data.toList (T.size/64)=Bg T.data.toList n by rw[<-CX];congr 1;omega);have Bf:=aar T.data.toList n;generalize Bg T.data.toList n=H at *
   have hz:uZ wo w.heap.size H.list:=hm;have TX:=O (B7 w.heap.size H.list false wo (by show 8<=8;omega) (bj hm) (fun j x hj=>by
    have hl:j<H.list.length:=(List.getElem?_eq_some_iff.1 hj).1;rw[hz.cell hl,List.getD_eq_getElem?_getD,hj];rfl) Bf)
   clear hm Bf hz;go_wp2_with fail
   refine TX.o.mono ?_;rintro e w5⟨rfl,lG⟩;go_wp2;go_ret;exact⟨by rw[DQ.o,UT.o];rfl,cK.trans lG⟩
theorem aaG:(prog.info? 97).map (fun i=>(i.zero,i.size,i.bytes))=some (some (.agg #[.bool false,.string ⟨#[]⟩,.int .i64 0,.int .i64 0]),4,40):=af
theorem QD(v:Value)(xs:List (List Value))(w:World)(h:dV 4 w v xs)(hl:xs.length<=1000000000) :
  Calls prog 81 #[v] w fun e w'=>∃v',e=.returned v'/\OwnRows w.heap.size 97 4 w' v' xs/\Fr aR w w':=by
 obtain⟨a,c,hv⟩:=h.form;subst hv;have q22:∀(w:World) (a:Option Addr) (n c n' c':Nat),(binOp .eql 81 (.slice a n c) (.slice none n' c')).run prog w=.ok (.bool a.isNone) w:=fun w a n c n' c'=>Lib.run_eql_slice_nil w _ _ a n c n' c' underlying81;cases a with
 |none =>
  obtain⟨rfl,rfl⟩:xs=[]/\c=0:=by
   rcases h.2 with ⟨a',c',hv,hs,hc⟩|⟨bk,o',c',hf,_⟩
   ·injection hv with e1 e2 e3
    exact⟨hs,e3.trans (hc e1.symm)⟩
   ·injection hf with e1;cases e1
  go_enter func81,ntmps81;go_wp2;go_ret;exact⟨_,rfl,dv _ _ _ _,ae _ _⟩
 |some ad =>
  have HX:=h.1;have HC:=O (show∀j u,xs.flatten[j]?=some u->w.cell? (ad.add j)=some u from fun j u hj=>by
   rcases h.2 with ⟨_,_,_,e,_⟩|⟨bk,o',c',hf,g1,g2,g3,g4⟩
   ·subst e;simp at hj
   ·cases hf;have zU:xs.flatten.length=xs.length*4:=gC (fun x hx=>(HX x hx).1);have Y9:=(List.getElem?_eq_some_iff.1 hj).1;have hd:j/4<xs.length:=ab;have hm:j%4<4:=ab;have hx:(xs[j/4]).length=4:=(HX _ (bL hd)).1;have e1:=rH (k:=4) (xs:=xs) (fun x hx=>(HX x hx).1) (j:=j/4) (List.getElem?_eq_getElem hd) (i:=j%4) (List.getElem?_eq_getElem (by rw[hx];exact hm));rw[Nat.div_add_mod']at e1;rw[e1]at hj
    cases hj;have:=g4 (j/4) _ (List.getElem?_eq_getElem hd) (j%4) _ (List.getElem?_eq_getElem (by rw[hx];exact hm));have ea:(Addr.add ⟨bk,o',none⟩ j)=⟨bk,o'+j,none⟩:=by unfold Addr.add;split<;>simp_all
    rw[ea, <-this]
    congr 2
    omega)
  have HF:=O (show xs.flatten.length=xs.length*4 from gC (fun x hx=>(HX x hx).1));have VK:=O HX;obtain⟨i0,hi,pq,kZ,lq⟩:=info_parts aaG;clear HX h;go_enter func81,ntmps81
  go_wp2_with (at_builtin;refine wpList_append_own _ rfl _ _ 81 rfl w.heap.size 97 i0 (.agg #[.bool false,.string ⟨#[]⟩,.int .i64 0,.int .i64 0]) 4 40 underlying81 hi pq kZ lq rfl ag _ _ _ rfl (World.ownsRow_made w #[] 0 (ay _) (aI _) rfl) ad xs.length c xs.flatten rfl HF.o ?qc2 ?qc3 ?qc4 ?qc5 ?qc6 ?_)
  case qc2 =>
   intro j u hj;exact Lib.cell?_alloc_some _ (HC.o j u hj)
  case qc3 =>
   intro u hu;obtain⟨x,hx,GL⟩:=fL.1 hu;exact(VK.o x hx).2 u GL
  case qc4=>unfold maxLen;omega
  case qc5=>omega
  case qc6=>simp
  intro v' w1 cP jC Ku;go_wp2;go_ret;refine⟨v',rfl,⟨VK.o,by simpa using cP⟩,fj (((Below.refl _ w).alloc (ay _) _).grown jC aQ (by intro k hk;simp[Value.ownBlock]at hk;omega))⟩
def afZ(w:World)(p:List Value->Bool)(xs:List (List Value))(i:Value)(wr:World):Prop :=
 ∃k:Nat,k<=xs.length/\i=.int .i64 k/\(xs.take k).any p=false/\Fr aR w wr
theorem JD(g:Nat)(cap:Array Value)(p:List Value->Bool)(v:Value)(xs:List (List Value))(w:World)(eg:∀args w,(callFunc g args).run prog w=.ok (.enter g args) w)(hp:gO aR w g cap p xs)(hv:dV 24 w v xs) :
  Calls prog 44 #[v,.func (.func g) #[] cap] w fun e w'=>e=.returned (.int .i64 (lW p xs 0))/\Fr aR w w':=by
 obtain⟨av,cv,fI⟩:=hv.form;subst fI;have dY:=O hv.1;go_enter func44,ntmps44;go_wp2;go_loopw[8] (afZ w p xs) (fun i _=>xs.length-(intOf i).toNat)
 case atStart=>exact⟨0,aI _,rfl,rfl,ae _ _⟩
 case round =>
  obtain⟨k,hk,rfl,hn,cK⟩:=hrel;have HN:=O hn;clear hn;by_cases eX:k<xs.length
  ·rcases(hv.fH cK).2 with ⟨_,_,_,e,_⟩|⟨bk,of,c,hf,h1,h2,h3,h4⟩
   ·rw[e]at eX;exact absurd eX (bS _)
   ·cases hf;unfold maxLen at h2;have dN:=O (List.getElem?_eq_getElem eX);have hcell:=h4 k _ dN.o;have g_:=O (bL eX);generalize xs[k]=x at dN hcell g_;have fA:=O (hp x g_.o wr cK);have lF:=(dY.o x g_.o).1;clear h4;cases qI:p x
    ·have qi:=O (any_take_succ dN.o HN.o qI);go_wp2_with (first|((with_reducible refine cY 15 ?_);refine aU rfl 66 (.tmp 14) rfl bk (of+k*24) rfl x _ hcell underlying66 rfl (XK lF) ?_)|fail)
     refine fA.o.mono ?_;rintro e w1⟨rfl,df⟩;rw[qI];go_wp2;go_roundw
     case rel=>exact⟨k+1,ab,a_,qi.o,cK.trans df⟩
     case measure=>simp[intOf];omega
    ·have fc:=O (oV (i:=0) dN.o qI HN.o);go_wp2_with (first|((with_reducible refine cY 15 ?_);refine aU rfl 66 (.tmp 14) rfl bk (of+k*24) rfl x _ hcell underlying66 rfl (XK lF) ?_)|fail)
     refine fA.o.mono ?_;rintro e w1⟨rfl,df⟩;rw[qI];go_wp2;go_ret;rw[fc.o,bw];exact⟨rfl,cK.trans df⟩
  ·have fc:=O (show lW p xs 0= -1 from ku (by have h:=HN.o;rw[aC ab]at h;exact h));go_wp2;go_ret;rw[fc.o];exact⟨rfl,cK⟩
theorem CI(g:Nat)(cap:Array Value)(p:List Value->Bool)(v:Value)(xs:List (List Value))(w:World)(eg:∀args w,(callFunc g args).run prog w=.ok (.enter g args) w)(hp:gO aR w g cap p xs)(hv:dV 24 w v xs) :
  Calls prog 25 #[v,.func (.func g) #[] cap] w fun e w'=>e=.returned (.bool (xs.any p))/\Fr aR w w':=by
 have hb:=O (rP p xs 0);go_enter func25,ntmps25;go_wp2_with fail
 refine(JD g cap p v xs w eg hp hv).mono ?_;rintro e w1⟨rfl,df⟩;go_wp2;go_ret;exact⟨fx hb.o,df⟩
def af0(w:World)(p:List Value->Bool)(xs:List (List Value))(i:Value)(wr:World):Prop :=
 ∃k:Nat,k<=xs.length/\i=.int .i64 k/\(xs.take k).any p=false/\Fr aR w wr
theorem JE(g:Nat)(cap:Array Value)(p:List Value->Bool)(v:Value)(xs:List (List Value))(w:World)(eg:∀args w,(callFunc g args).run prog w=.ok (.enter g args) w)(hp:gO aR w g cap p xs)(hv:dV 22 w v xs) :
  Calls prog 82 #[v,.func (.func g) #[] cap] w fun e w'=>e=.returned (.int .i64 (lW p xs 0))/\Fr aR w w':=by
 obtain⟨av,cv,fI⟩:=hv.form;subst fI;have dY:=O hv.1;go_enter func82,ntmps82;go_wp2;go_loopw[8] (af0 w p xs) (fun i _=>xs.length-(intOf i).toNat)
 case atStart=>exact⟨0,aI _,rfl,rfl,ae _ _⟩
 case round =>
  obtain⟨k,hk,rfl,hn,cK⟩:=hrel;have HN:=O hn;clear hn;by_cases eX:k<xs.length
  ·rcases(hv.fH cK).2 with ⟨_,_,_,e,_⟩|⟨bk,of,c,hf,h1,h2,h3,h4⟩
   ·rw[e]at eX;exact absurd eX (bS _)
   ·cases hf;unfold maxLen at h2;have dN:=O (List.getElem?_eq_getElem eX);have hcell:=h4 k _ dN.o;have g_:=O (bL eX);generalize xs[k]=x at dN hcell g_;have fA:=O (hp x g_.o wr cK);have lF:=(dY.o x g_.o).1;clear h4;cases qI:p x
    ·have qi:=O (any_take_succ dN.o HN.o qI);go_wp2_with (first|((with_reducible refine cY 15 ?_);refine aU rfl 41 (.tmp 14) rfl bk (of+k*22) rfl x _ hcell underlying41 rfl (XH lF) ?_)|fail)
     refine fA.o.mono ?_;rintro e w1⟨rfl,df⟩;rw[qI];go_wp2;go_roundw
     case rel=>exact⟨k+1,ab,a_,qi.o,cK.trans df⟩
     case measure=>simp[intOf];omega
    ·have fc:=O (oV (i:=0) dN.o qI HN.o);go_wp2_with (first|((with_reducible refine cY 15 ?_);refine aU rfl 41 (.tmp 14) rfl bk (of+k*22) rfl x _ hcell underlying41 rfl (XH lF) ?_)|fail)
     refine fA.o.mono ?_;rintro e w1⟨rfl,df⟩;rw[qI];go_wp2;go_ret;rw[fc.o,bw];exact⟨rfl,cK.trans df⟩
  ·have fc:=O (show lW p xs 0= -1 from ku (by have h:=HN.o;rw[aC ab]at h;exact h));go_wp2;go_ret;rw[fc.o];exact⟨rfl,cK⟩
theorem CJ(g:Nat)(cap:Array Value)(p:List Value->Bool)(v:Value)(xs:List (List Value))(w:World)(eg:∀args w,(callFunc g args).run prog w=.ok (.enter g args) w)(hp:gO aR w g cap p xs)(hv:dV 22 w v xs) :
  Calls prog 39 #[v,.func (.func g) #[] cap] w fun e w'=>e=.returned (.bool (xs.any p))/\Fr aR w w':=by
 have hb:=O (rP p xs 0);go_enter func39,ntmps39;go_wp2_with fail
 refine(JE g cap p v xs w eg hp hv).mono ?_;rintro e w1⟨rfl,df⟩;go_wp2;go_ret;exact⟨fx hb.o,df⟩
def bA(l:Bs):aj:=⟨l.toArray⟩
theorem fT(l:Bs):(bA l).data.toList=l:=by unfold bA;simp
theorem Ul(s:aj):bA s.data.toList=s:=by unfold bA;simp
def kr(ps:List jy)(name:Bs):Option Bs:=(ps.find? fun p=>dG p.1 name).map (·.2)
def wa:Bs:=[114,101,97,108,109]
def Ie:Bs:=[98,97,115,105,99]
def CQ:Bs:=[100,105,103,101,115,116]
def zp:Bs:=[97,108,103,111,114,105,116,104,109]
def yl:Bs:=[77,68,53]
def Ig:Bs:=[83,72,65,45,50,53,54]
def zq:Bs:=[45,115,101,115,115]
def wh:Bs:=[110,111,110,99,101]
def Kn:Bs:=[113,111,112]
def mh:Bs:=[97,117,116,104]
def qm:Bs:=[97,117,116,104,45,105,110,116]
def mi:Bs:=[111,112,97,113,117,101]
def A_:Bs:=[115,116,97,108,101]
def lU:Bs:=[116,114,117,101]
def qW:Bs:=[100,111,109,97,105,110]
def Um(s:Bs):Option (Int×Bool) :=
 if dG s yl then some (2,false)
 else if dG s (yl++zq)then some (2,true)
 else if dG s Ig then some (3,false)
 else if dG s (Ig++zq)then some (3,true)
 else none
def PK(l:List Bs):Option Bs :=
 if l.any (fun w=>dG w mh)then some mh else if l.any (fun w=>dG w qm)then some qm else none
def Un(q:Bs):Option Bs :=
 match gY q with
 | .error _=>none
 | .ok l=>if 40<l.length then none else PK l
def Uo(ps:List jy):Option Bs :=
 match kr ps Kn with
 |none=>some []
 |some q=>Un q
def Ih(d:Bs):List Bs:=((dZ 32 d).filter fun p=>Nf 47 p).map oM
def nd(x:nu):Option (fK bD) :=
 match kr x.params wa with
 |none=>none
 |some aK =>
  if dG x.scheme Ie then some ⟨1,bA aK,bA [],bA [],false,bA [],false,[]⟩else
  match Um ((kr x.params zp).getD yl)with
  |none=>none
  |some (k,cy) =>
   if !dG x.scheme CQ then none else
   match kr x.params wh with
   |none=>none
   |some bq =>
    match Uo x.params with
    |none=>none
    |some q=>some ⟨k,bA aK,bA bq,bA ((kr x.params mi).getD []),cy,bA q,dG ((kr x.params A_).getD []) lU,(Ih ((kr x.params qW).getD [])).map bA⟩
def PL:fK bD:=⟨0,bA [],bA [],bA [],false,bA [],false,[]⟩
def pO(a:fK bD)(x:nu):fK bD :=
 match nd x with
 |none=>a
 |some b=>if a.scheme<b.scheme then b else a
def jm(l:List nu):fK bD:=l.foldl pO PL
theorem Nh(l:List nu)(x:nu):jm (l++[x])=pO (jm l) x:=by simp[jm]
open Go.RowKit Go.Sort
abbrev gZ:=aj×aj
def gZ.cells(p:gZ):List Value:=[.string p.1,.string p.2]
def oO(w:World)(v:Value)(ps:List gZ):Prop:=dV 2 w v (ps.map gZ.cells)
def tF(s:aj):aj:=⟨(nw s.data.toList).toArray⟩
def wk(ps:List gZ):List aj:=(ps.filter fun p=>!l_ p.1 p.2).map fun p=>tF p.1
def JM(ps:List gZ):List aj:=(ps.filter fun p=>l_ p.1 p.2).map fun p=>tF p.1
def nB(ps:List gZ):Nat:=((ps.filter fun p=>l_ p.1 p.2).map fun p=>p.2.size).sum
def Il(ps:List gZ):List aj:=wk ps++(if 1024<nB ps then JM ps else [])
def adg(ps:List gZ):List (aG):=Lib.compact (uG ((Il ps).map fun s=>s.data.toList))
def yo(ps:List gZ):List aj:=(adg ps).map fun l=>⟨l.toArray⟩
theorem Im(ps:List gZ)(p:gZ)(h:l_ p.1 p.2=false):wk (ps++[p])=wk ps++[tF p.1]/\JM (ps++[p])=JM ps/\nB (ps++[p])=nB ps:=by
 unfold wk JM nB;simp[cC,h]
theorem Fx(ps:List gZ)(p:gZ)(h:l_ p.1 p.2=true):wk (ps++[p])=wk ps/\JM (ps++[p])=JM ps++[tF p.1]/\nB (ps++[p])=nB ps+p.2.size:=by
 unfold wk JM nB;simp[cC,h]
theorem Y2(ps:List gZ):(wk ps).length<=ps.length:=by unfold wk;rw[ai];exact bQ _ _
theorem adh(ps:List gZ):(JM ps).length<=ps.length:=by unfold JM;rw[ai];exact bQ _ _
theorem KA{a b:aj}(h:l_ a b=true):b.size<=128:=by
 unfold l_ at h;split at h
 ·cases h
 ·omega
theorem abI:∀ps:List gZ,nB ps<=128*ps.length
 |[]=>by simp[nB]
 |p :: ps=>by
  have ih:=abI ps;unfold nB at ih ⊢;rw[List.filter_cons];split
  ·rename_i h;have:=KA h;simp only[cA,List.sum_cons,List.length_cons];omega
  ·simp only[List.length_cons];omega
theorem Q4{α:Type}{l:List α}{x:α}(h:l[k]?=some x):l.take (k+1)=l.take k++[x]:=by
 rw[bZ,h];rfl
def wm(u v:Value):Prop:=∀k,u.ownBlock=some k->v.ownBlock≠some k
def ahn(ps:List gZ)(w:World)(out plain n i:Value)(wr:World):Prop :=
 ∃k:Nat,k<=ps.length/\i=.int .i64 k/\n=.int .i64 (nB (ps.take k))/\Strs w.heap.size wr out (wk (ps.take k))/\Strs w.heap.size wr plain (JM (ps.take k))/\wm out plain/\Fr aR w wr
theorem Strs.lt(h:Strs base w v ss):∀k,v.ownBlock=some k->base<=k/\k<w.heap.size:=World.ownsRow.lt h
theorem Strs.kept{w':World}{row:Option Nat}(h:Strs base w v ss)(hg:w.grownBy w' row)(hne:∀k,row=some k->v.ownBlock≠some k):Strs base w' v ss:=by
 refine World.ownsRow.kept h hg ?_;cases hv:v.ownBlock with
 |none=>exact Or.inl rfl
 |some k=>exact Or.inr fun e=>hne k e.symm hv
theorem wm.sep{v2:Value}(h:wm u v)(hs:Sep w v v2)(hu:Strs base w u ss):wm u v2:=by
 intro k hk e;rcases hs with hs|hs
 ·rw[hs]at e;exact h k hk e
 ·have h1:=hs k e;have h2:=(hu.lt k hk).2;omega
theorem wm.symm(h:wm u v):wm v u:=fun k hv hu=>h k hu hv
theorem Us(ss:List aj):ss.map Value.string=(ss.map fun s=>s.data.toList).map encStr:=by
 rw[im];rfl
def Ut(ls:List (aG)):List aj:=ls.map fun l=>⟨l.toArray⟩
theorem Ip(ls:List (aG)):(Ut ls).map Value.string=ls.map encStr:=by unfold Ut;rw[im];rfl
theorem Gl(base:Nat)(v:Value)(ss:List aj)(w:World)(h:Strs base w v ss)(hl:ss.length<1000000) :
  Calls prog 182 #[v] w fun e w'=>e=.returned (.tuple #[])/\Strs base w' v (Ut (uG (ss.map fun s=>s.data.toList)))/\w.grownBy w' v.ownBlock:=by
 have h2:w.ownsRow base 9 1 v (ss.map fun s=>s.data.toList).length ((ss.map fun s=>s.data.toList).map encStr):=by
  rw[<-Us,ai];exact h
 refine(Uq base v _ w h2 (by rw[ai];exact hl)).mono ?_;rintro e w'⟨he,ho,hg⟩;refine⟨he,?_,hg⟩;unfold Strs;rw[Ip,show(Ut (uG (ss.map fun s=>s.data.toList))).length=(ss.map fun s=>s.data.toList).length from by unfold Ut uG;simp];exact ho
theorem zx(base:Nat)(v:Value)(ls:List (aG))(w:World)(h:Strs base w v (Ut ls))(hl:ls.length<1000000) :
  Calls prog 183 #[v] w fun e w'=>∃u,e=.returned u/\Strs base w' u (Ut (Lib.compact ls))/\w.grownBy w' v.ownBlock:=by
 have e1:(Ut ls).length=ls.length:=by unfold Ut;simp
 have h2:w.ownsRow base 9 1 v ls.length (ls.map encStr):=by
  rw[<-Ip, <-e1];exact h
 refine(Ky base v ls w h2 hl).mono ?_;rintro e w'⟨u,he,ho,hg⟩;refine⟨u,he,?_,hg⟩;unfold Strs;rw[Ip,show(Ut (Lib.compact ls)).length=(Lib.compact ls).length from by unfold Ut;simp];exact ho
theorem Gm(ps:List gZ)(v:Value)(w:World)(h:oO w v ps)(hl:ps.length<100000)(hz:∀p∈ps,p.1.size<100000/\p.2.size<100000) :
  Calls prog 122 #[v] w fun e w'=>∃u,e=.returned u/\Strs w.heap.size w' u (yo ps)/\Fr aR w w':=by
 obtain⟨av,cv,hv⟩:=h.form;rw[ai]at hv;have HZ:=O hz;clear hz;subst hv;go_enter func122,ntmps122;go_wp2;go_loopw[3,4,5,11] (ahn ps w) (fun _ _ _ i _=>ps.length-(intOf i).toNat)
 case atStart=>exact⟨0,aI _,rfl,rfl,kT _ _,kT _ _,fun k e=>by simp[Value.ownBlock]at e,ae _ _⟩
 case round =>
  obtain⟨k,hk,rfl,rfl,ho,hp,Y3,cK⟩:=hrel;obtain⟨ao,co,MY⟩:=ho.form;obtain⟨ap,cp,hpe⟩:=hp.form;have hn:=abI (ps.take k);rw[aJ]at hn;have Tw:=Y2 (ps.take k);have Fg:=adh (ps.take k);rw[aJ]at Tw Fg;by_cases eX:k<ps.length
  ·have py:(k:Int)<(ps.length:Int):=ab;have dN:=O (List.getElem?_eq_getElem eX);have xM:=HZ.o _ (bL eX);generalize ps[k]=p at dN xM;obtain⟨nm,vl⟩:=p;obtain⟨kZ,lq⟩:=xM;have Q5:=O (Q4 dN.o);have lZ:dV 2 wr (.slice av ps.length cv) (ps.map gZ.cells):=bg h cK;rcases lZ.2 with ⟨_,_,_,e,_⟩|⟨bk,of,c,df,h1,h2,h3,h4⟩
   ·have:ps.length=0:=by have:=ar List.length e;simpa using this
    omega
   rw[ai]at df h1;cases df;unfold maxLen at h2;have hcell:=h4 k (gZ.cells (nm,vl)) (by rw[List.getElem?_map,dN.o];rfl);have c0:wr.cell? ⟨bk,of+k*2,none⟩=some (.string nm):=hcell 0 (.string nm) rfl;have c1:=hcell 1 (.string vl) rfl;clear hcell h4 lZ;obtain⟨wb,j_⟩:∃wb,wb=wr.alloc (.cells #[.string nm,.string vl] 171):=⟨_,rfl⟩;have ks:Fr aR wr wb:=by rw[j_];exact(ae aR wr).alloc _
   have mf:wb.heap[wr.heap.size]?=some (.cells #[.string nm,.string vl] 171 (0,0)):=by rw[j_];exact aB _ _
   have HC:=O (show∀U,Fr aR wb U->U.cell? ⟨wr.heap.size,0,none⟩=some (.string nm)/\U.cell? ⟨wr.heap.size,1,none⟩=some (.string vl)from fun U hU=>by
    have j1:=hU.keep mf (fun h=>h);simp[World.cell?,j1])
   have qY:=O j_;have mr:=O (cK.trans ks);have HO:=O (ho.fr ks (fun _ h=>h.elim));have HP:=O (hp.fr ks (fun _ h=>h.elim));have am7:=O (show∀j,(Value.slice ap (JM (ps.take k)).length cp).ownBlock=some j->j<wr.heap.size from fun j hj=>(hp.lt j (by rw[hpe];exact hj)).2);clear j_ ks mf ho hp cK;go_wp2_with fail
   rw[<-qY.o];refine(ru nm wb ab).mono ?_;rintro e u1⟨rfl,df⟩;obtain⟨k0,k1⟩:=HC.o u1 df;have k_:=O df;clear df c0 c1;go_wp2_with fail
   refine(Q2 nm vl u1 ab ab).mono ?_;rintro e u2⟨rfl,dy⟩;obtain⟨k2,k3⟩:=HC.o u2 (k_.o.trans dy);have fO:=O ((mr.o.trans k_.o).trans dy);have zy:=k_.o.trans dy;have K3A:=O (show∀o:Obj,(u2.alloc o).cell? ⟨wr.heap.size,1,none⟩=some (.string vl)from fun o=>(HC.o _ (zy.alloc o)).2);have q_:=HO.o.fr zy (fun _ h=>h.elim);have Dq:=HP.o.fr zy (fun _ h=>h.elim);have xD:w.heap.size<=u2.heap.size:=fO.o.size
   rw[MY]at q_ Y3;rw[hpe]at Dq Y3;clear dy zy k0 k1;have HLA:=O (show(⟨(nw nm.data.toList).toArray⟩:aj)=tF nm from rfl);rw[HLA.o];generalize hla:tF nm=la at *
   have HE:=O hla;clear hla;cases Uu:l_ nm vl
   ·obtain⟨s1,s2,s3⟩:=Im (ps.take k) (nm,vl) Uu;rw[<-Q5.o,HE.o]at s1;rw[<-Q5.o]at s2 s3;have S1:=O s1;have S2:=O s2;have S3:=O s3;clear s1 s2 s3 Uu;go_wp2_with (at_builtin;refine BU rfl _ _ rfl w.heap.size (.slice ao _ co) (wk (ps.take k)) rfl (by apply iE;exact q_) ⟨u2.heap.size,0,none⟩ 1 la rfl (jv _ _ _ _) ab bG ?_;intro v' w3 fo CO Uv)
    have hp3:Strs w.heap.size w3 (.slice ap (JM (ps.take k)).length cp) (JM (ps.take k)):=(Dq.alloc _).kept CO (fun j hj=>Y3 j hj);have adj:wm v' (.slice ap (JM (ps.take k)).length cp):=(wm.sep Y3.symm Uv (Dq.alloc _)).symm;have ic:=O ((fO.o.alloc (.cells #[.string la] 9)).fQ CO (fun j hj=>(q_.block j hj)));go_roundw
    case rel=>exact⟨k+1,ab,a_,by rw[S3.o],by rw[S1.o];exact fo,by rw[S2.o];exact hp3,adj,ic.o⟩
    case measure=>simp[intOf];omega
   ·obtain⟨s1,s2,s3⟩:=Fx (ps.take k) (nm,vl) Uu;have Tx:=KA Uu;rw[<-Q5.o,HE.o]at s2;rw[<-Q5.o]at s1 s3;have S1:=O s1;have S2:=O s2;have S3:=O s3;clear s1 s2 s3 Uu
    go_wp2_with (at_builtin;refine BU rfl _ _ rfl w.heap.size (.slice ap _ cp) (JM (ps.take k)) rfl (by apply iE;exact Dq) ⟨u2.heap.size,0,none⟩ 1 la rfl (jv _ _ _ _) ab bG ?_;intro v' w3 fo CO Uv;have k4:w3.cell? ⟨wr.heap.size,1,none⟩=some (.string vl):=CO.cell (K3A.o _) (fun e=>absurd (am7.o _ e.symm) (Nat.lt_irrefl _)))
    have yp:Strs w.heap.size w3 (.slice ao (wk (ps.take k)).length co) (wk (ps.take k)):=(q_.alloc _).kept CO (fun j hj hj2=>Y3 j hj2 hj);have adj:wm (.slice ao (wk (ps.take k)).length co) v':=wm.sep Y3 Uv (q_.alloc _);have ic:=O ((fO.o.alloc (.cells #[.string la] 9)).fQ CO (fun j hj=>(Dq.block j hj)));go_roundw
    case rel=>exact⟨k+1,ab,a_,by rw[S3.o];go_num,by rw[S1.o];exact yp,by rw[S2.o];exact fo,adj,ic.o⟩
    case measure=>simp[intOf];omega
  ·have py:¬(k:Int)<(ps.length:Int):=ab;have Q3:ps.take k=ps:=aC ab;rw[Q3]at ho hp MY hpe hn Tw Fg ⊢;clear Q3;subst MY hpe;have hs0:w.heap.size<=wr.heap.size:=cK.size;obtain⟨N,hN⟩:∃N,N=nB ps:=⟨_,rfl⟩;have HR1:=O (show 1024<N->Il ps=wk ps++JM ps from fun e=>by unfold Il;rw[<-hN,az e]);have Nq:=O (show¬1024<N->Il ps=wk ps from fun e=>by unfold Il;rw[<-hN,aq e,dR]);rw[<-hN]at hn ⊢;clear hN
   by_cases AO:1024<N
   ·have HR:=O (HR1.o AO);have am8:(1024:Int)<(N:Int):=ab;go_wp2_with (at_builtin;refine Kz rfl _ _ rfl w.heap.size _ (wk ps) rfl ho (.slice ap (JM ps).length cp) (JM ps) rfl hp.at ab ab ?_;intro v2 w2 q_ xN)
    rw[<-HR.o]at q_;have fO:=O (cK.fQ xN (fun j hj=>ho.block j hj));have vI:(Il ps).length<1000000:=by rw[HR.o,aM];omega
    clear xN ho hp Y3;go_wp2_with fail
    refine(Gl w.heap.size v2 (Il ps) w2 q_ vI).mono ?_;rintro e w3⟨rfl,yp,CO⟩;have ic:=O (fO.o.fQ CO (fun j hj=>q_.block j hj));go_wp2_with fail
    refine(zx w.heap.size v2 _ w3 yp (by unfold uG;simpa using vI)).mono ?_;rintro e w4⟨u,rfl,Ty,Ct⟩;have jV:=O (ic.o.fQ Ct (fun j hj=>yp.block j hj));go_wp2;go_ret;exact⟨u,rfl,Ty,jV.o⟩
   ·have HR:=O (Nq.o AO);have am8:¬(1024:Int)<(N:Int):=ab;rw[<-HR.o]at ho;have vI:(Il ps).length<1000000:=by rw[HR.o];omega
    rw[<-HR.o];go_wp2_with fail
    refine(Gl w.heap.size _ (Il ps) wr ho vI).mono ?_;rintro e w3⟨rfl,yp,CO⟩;have ic:=O (cK.fQ CO (fun j hj=>ho.block j hj));go_wp2_with fail
    refine(zx w.heap.size _ _ w3 yp (by unfold uG;simpa using vI)).mono ?_;rintro e w4⟨u,rfl,Ty,Ct⟩;have jV:=O (ic.o.fQ Ct (fun j hj=>yp.block j hj));go_wp2;go_ret;exact⟨u,rfl,Ty,jV.o⟩
