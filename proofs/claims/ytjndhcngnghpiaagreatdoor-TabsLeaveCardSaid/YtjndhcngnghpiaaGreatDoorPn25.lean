/- Lemmas for the law's walk. -/
import Derived.Test.YtjndhcngnghpiaaGreatDoorPn16
import Derived.Test.YtjndhcngnghpiaaGreatDoorPn21
set_option maxRecDepth 100000
set_option maxHeartbeats 16000000
set_option linter.unusedSimpArgs false
namespace Go.Proofs.YtjndhcngnghpiaaGreatDoor
open Go.Proofs.Tryz
open Go.RowKit
variable {w w' U:World} {g j:Nat} {l:List Int} {e:Ending} {o:kl}
theorem qx.cell(h:qx w g l)(hj:j<l.length):w.cell? ⟨g,j,none⟩=some (.int .u32 (l.getD j 0)):=by
 unfold qx at h;simp only[World.cell?,h];simp[List.getElem?_append_left,hj,List.getD_eq_getElem?_getD]
theorem qx.zero(h:qx w g l)(hj:l.length<64):w.cell? ⟨g,l.length,none⟩=some (.int .u32 0):=by
 unfold qx at h;have e:((l++List.replicate (64-l.length) 0).map (Value.int IntKind.u32))[l.length]?=some (Value.int IntKind.u32 0):=by
  rw[List.getElem?_map,List.getElem?_append_right (ay _),Nat.sub_self,List.getElem?_replicate];rw[aA ab];rfl
 simp only[World.cell?,h];simpa using e
theorem qx.free(h:qx w g l)(j:Nat):w.frozen? ⟨g,j,none⟩=false:=by
 unfold qx at h;simp[World.frozen?,h]
theorem qx.set(h:qx w g l)(hj:l.length<64)(x:Int):qx (w.setCell ⟨g,l.length,none⟩ (.int .u32 x)) g (l++[x]):=by
 unfold qx at h ⊢;rw[tJ h]
 congr 2
 have e:List.replicate (64-l.length) (0:Int)=0 :: List.replicate (64-(l++[x]).length) 0:=by
  rw[aN,show 64-l.length=(64-(l.length+[x].length))+1 from bH,List.replicate_succ]
 rw[e];simp
theorem aix(a b c d:Int):IntKind.u32.wrap (IntKind.u32.wrap (IntKind.u32.wrap (a+b)+c)+d)=(a+b+c+d)%4294967296:=by
 have e:∀x:Int,IntKind.u32.wrap x=x%4294967296:=fun x=>by simp[IntKind.wrap,IntKind.signed,IntKind.bits]
 rw[e,e,e];omega
theorem D3(x:Int):IntKind.u32.wrap x=x%4294967296:=by simp[IntKind.wrap,IntKind.signed,IntKind.bits]
theorem aiy(a b c d e:Int):IntKind.u32.wrap (IntKind.u32.wrap (IntKind.u32.wrap (IntKind.u32.wrap (a+b)+c)+d)+e)=(a+b+c+d+e)%4294967296:=by
 rw[D3,D3,D3,D3];omega
theorem ad3(a0 a1 a2 a3 a4 a5 a6 a7:Int):prog.built 293 [(0,.int .u32 a0),(1,.int .u32 a1),(2,.int .u32 a2),(3,.int .u32 a3),(4,.int .u32 a4),(5,.int .u32 a5),(6,.int .u32 a6),(7,.int .u32 a7)]=some #[.int .u32 a0,.int .u32 a1,.int .u32 a2,.int .u32 a3,.int .u32 a4,.int .u32 a5,.int .u32 a6,.int .u32 a7]:=af
theorem E0{ops:Array Oper}{rest:List Oper}{o:Oper}{a:Act}{w:World}{Q:Exit->Act->World->Prop}(hg:o.guard=none)(x0 x1 x2 x3 x4 x5 x6 x7:Operand)
  (ho:o.op=.build 293 #[(0,x0),(1,x1),(2,x2),(3,x3),(4,x4),(5,x5),(6,x6),(7,x7)])(d:Option Tmp)(hd:o.dst=d)(v0 v1 v2 v3 v4 v5 v6 v7:Int)
  (h0:a.eval x0=.int .u32 v0)(h1:a.eval x1=.int .u32 v1)(h2:a.eval x2=.int .u32 v2)(h3:a.eval x3=.int .u32 v3)(h4:a.eval x4=.int .u32 v4)(h5:a.eval x5=.int .u32 v5)(h6:a.eval x6=.int .u32 v6)(h7:a.eval x7=.int .u32 v7)
  (h:wpList prog ops Q rest (a.put d (.agg #[.int .u32 v0,.int .u32 v1,.int .u32 v2,.int .u32 v3,.int .u32 v4,.int .u32 v5,.int .u32 v6,.int .u32 v7])) w):wpList prog ops Q (o :: rest) a w:=by
 refine wpList_buildTo hg 293 _ ho d hd _ ?_ h;simp only[eC,cD,dp,h0,h1,h2,h3,h4,h5,h6,h7];exact ad3 _ _ _ _ _ _ _ _
theorem vV{k:Nat}(h:k≠g)(cs:bS):(w.setRow g cs).heap[k]?=w.heap[k]?:=by
 simp[World.setRow,Array.getElem?_modify,kO h]
theorem VG{a:World}(h:Fr aS a w)(hg:a.heap.size<=g)(cs:bS):Fr aS a (w.setRow g cs) :=
 ⟨h.os,h.tape,h.output,by show a.heap.size<=(w.setRow g cs).heap.size;rw[World.setRow];simp only[Array.size_modify];exact h.size,fun k hk hn=>(vV ab cs).trans (h.block k hk hn)⟩
theorem ad4(v0 v1 v2 v3 v4 v5 v6 v7:Int):(#[.int .u32 v0,.int .u32 v1,.int .u32 v2,.int .u32 v3,.int .u32 v4,.int .u32 v5,.int .u32 v6,.int .u32 v7]:bS).all (·.oneCell')=true:=ct
def uD(w:World)(g:Nat)(l:List Int):Prop:=w.heap[g]?=some (.cells (l.map (Value.int .u32)).toArray 293 (0,0))
theorem uD.cell(h:uD w g l)(hj:j<l.length):w.cell? ⟨g,j,none⟩=some (.int .u32 (l.getD j 0)):=by
 unfold uD at h;simp only[World.cell?,h];simp[hj,List.getD_eq_getElem?_getD]
theorem uD.free(h:uD w g l)(j:Nat):w.frozen? ⟨g,j,none⟩=false:=by
 unfold uD at h;simp[World.frozen?,h]
theorem uD.set(h:uD w g l)(j:Nat)(x:Int):uD (w.setCell ⟨g,j,none⟩ (.int .u32 x)) g (l.set j x):=by
 unfold uD at h ⊢;rw[tJ h];simp[List.map_set]
def Il(a b:List Int):Nat->List Int
 |0=>a
 |k+1=>(Il a b k).set k ((a.getD k 0+b.getD k 0)%4294967296)
theorem Ll(a b:List Int):∀k,(Il a b k).length=a.length
 |0=>rfl
 |k+1=>by rw[Il,d_,Ll a b k]
theorem Lm(a b:List Int):∀k j,k<=j->(Il a b k).getD j 0=a.getD j 0
 |0,_,_=>rfl
 |k+1,j,h=>by
  rw[Il,List.getD_eq_getElem?_getD,List.getElem?_set,ar ab, <-List.getD_eq_getElem?_getD,Lm a b k j ab]
theorem ZJ(T:aH):∀k,∀x∈(AF T k).list,0<=x/\x<4294967296
 |0=>by
  intro x hx;simp only[AF,Sh.list,sh0,bB,cz,dU]at hx;rcases hx with rfl|rfl|rfl|rfl|rfl|rfl|rfl|rfl<;>decide
 |k+1=>by
  intro x hx;simp only[AF,zi,Pz,Sh.list,bB,cz,dU]at hx;rcases hx with rfl|rfl|rfl|rfl|rfl|rfl|rfl|rfl<;>exact AD _
def aoa(H V:Sh)(g g1:Nat)(w:World)(i:Value)(wr:World):Prop :=
 ∃k:Nat,k<=8/\i=.int .i64 k/\uD wr g (Il H.list V.list k)/\uD wr g1 V.list/\Fr aS w wr
def aob(tr:Nat->Sh)(ws:List Int)(H:Sh)(g g1 gw:Nat)(w:World)(i:Value)(wr:World):Prop :=
 ∃k:Nat,k<=64/\i=.int .i64 k/\uW wr g (tr k)/\uW wr g1 H/\qx wr gw ws/\Fr aS w wr
theorem uW.cells{h:Sh}(hm:uW w g h):w.cell? ⟨g,0,none⟩=some (.int .u32 h.v0)/\w.cell? ⟨g,1,none⟩=some (.int .u32 h.v1)/\w.cell? ⟨g,2,none⟩=some (.int .u32 h.v2)/\w.cell? ⟨g,3,none⟩=some (.int .u32 h.v3) /\
  w.cell? ⟨g,4,none⟩=some (.int .u32 h.v4)/\w.cell? ⟨g,5,none⟩=some (.int .u32 h.v5)/\w.cell? ⟨g,6,none⟩=some (.int .u32 h.v6)/\w.cell? ⟨g,7,none⟩=some (.int .u32 h.v7):=by
 unfold uW at hm;simp[World.cell?,hm]
def aiz(X:aH)(g:Nat)(w:World)(i:Value)(wr:World):Prop:=∃k:Nat,k<=64/\i=.int .i64 k/\qx wr g (Xu X k)/\Fr aS w wr
set_option pp.deepTerms true in
set_option pp.maxSteps 1000000 in
theorem NT(s:aj)(w:World)(hs:s.size<4398046511104)(ht:uk w) :
  aB 207 #[.string s] w fun e w'=>e=.returned (.string ⟨(Kl s.data.toList).toArray⟩)/\Fr aS w w':=by
 have c0:=ht.b.2 0 _ rfl;have c1:=ht.b.2 1 _ rfl;have c2:=ht.b.2 2 _ rfl;have c3:=ht.b.2 3 _ rfl;have c4:=ht.b.2 4 _ rfl;have c5:=ht.b.2 5 _ rfl;have c6:=ht.b.2 6 _ rfl;have c7:=ht.b.2 7 _ rfl
 have gO:Fr aS w (w.alloc (.cells #[.int .u32 1779033703,.int .u32 3144134277,.int .u32 1013904242,.int .u32 2773480762,.int .u32 1359893119,.int .u32 2600822924,.int .u32 528734635,.int .u32 1541459225] 293)):=(ae aS w).alloc _
 have Yj:uW (w.alloc (.cells #[.int .u32 1779033703,.int .u32 3144134277,.int .u32 1013904242,.int .u32 2773480762,.int .u32 1359893119,.int .u32 2600822924,.int .u32 528734635,.int .u32 1541459225] 293)) w.heap.size sh0:=aC _ _;have HM0:=O Yj;clear Yj;go_enter func207,ntmps207;go_wp2_with fail
 clear c0 c1 c2 c3 c4 c5 c6 c7;refine(Pv s false _ ab).mono ?_;rintro e w1⟨rfl,dn⟩;obtain⟨T,hT⟩:∃T,T=(⟨(uU false s.data.toList).toArray⟩:aj):=⟨_,rfl⟩;rw[<-hT];have hTl:T.data.toList=uU false s.data.toList:=by rw[hT]
 have hTs:T.size=(uU false s.data.toList).length:=by rw[<-hTl];simp
 obtain⟨acZ,Uj⟩:=Kj false s.data.toList;rw[<-hTs]at acZ Uj;have M4:s.data.toList.length=s.size:=aR;rw[M4]at Uj;have Dh:=O (show Kl s.data.toList=oG false (AF T.data.toList (T.size/64)).list by unfold Kl;rw[hTl,hTs]);have HM1:=O (show uW w1 w.heap.size sh0 from dn.keep HM0.o id);have lq:=O (gO.trans dn);clear hT hTl hTs HM0 gO dn M4;go_wp2
 go_loopw[4] (ag8 T w.heap.size w) (fun t _=>match t with| .string x=>x.size|_=>0)
 case atStart=>exact⟨0,ab,by rw[Nat.mul_zero];congr 1;apply Go.WideShapes.bytes_inj;rw[kp];rfl,HM1.o,lq.o⟩
 case round =>
  obtain⟨n,hn,rfl,hm,cL⟩:=hrel;generalize wr=wo at *
  by_cases hne:64*n<T.size
  ·have Uk:64<=(T.extract (64*n) T.size).size:=by rw[ju];omega
   have amO:(T.extract (64*n) T.size).size<17592186044416:=by rw[ju];omega
   have pV:=O (Px T (64*n) 64);have hXl:=O (kp T (64*n));generalize T.extract (64*n) T.size=X at *
   have HM:=O hm;have pR:=O (show AF T.data.toList (n+1)=zi X.data.toList (AF T.data.toList n)by rw[hXl.o];rfl);generalize AF T.data.toList n=H at *
   clear hm;have hx:X.toList.isEmpty=false:=by
    rw[aO];cases hq:X.data.toList with
    |nil=>rw[gS.1 hq]at Uk;omega
    |cons a l=>rfl
   have TS:¬X.toList=[]:=by rw[aO];intro h;rw[gS.1 h]at Uk;omega
   go_wp2;go_loopw[23] (aiz X.data.toList wo.heap.size wo) (fun i _=>64-(intOf i).toNat)
   case atStart=>exact⟨0,ab,rfl,by unfold qx;rw[aC];kernel_rfl,(ae _ _).alloc _⟩
   case round =>
    obtain⟨k,hk,rfl,yf,je⟩:=hrel;have hlen:=O (Py X.data.toList k);have I9:=O (show Xu X.data.toList (k+1)=FM X.data.toList (Xu X.data.toList k) k from rfl);have H64:=O (show k=64->Xu X.data.toList k=Xu X.data.toList 64 from fun h=>by rw[h]);generalize Xu X.data.toList k=l at *
    by_cases Kd:k<64
    ·have o_:(k:Int)<64:=ab;have hz:=yf.zero (by rw[hlen.o];exact Kd);have hf:=yf.free k;rw[hlen.o]at hz;have qH:=O (yf.set (by rw[hlen.o];exact Kd) (FK X.data.toList l k));by_cases uV:k<16
     ·have aiA:(k:Int)<16:=ab;obtain⟨wv,EL⟩:∃wv,wv=qD false (X.extract (4*k) X.size).data.toList:=⟨_,rfl⟩;have sy:=O (fun W=>vJ (X.extract (4*k) X.size) false W (by rw[ju];omega) (by rw[ju];omega));rw[<-EL]at sy;have HN:=O (show FK X.data.toList l k=wv by unfold FK;rw[aA uV,EL,kp]);clear EL;have q2:4*(k:Int)<=(X.size:Int):=ab;go_wp2_with fail
      refine(sy.o _).mono ?_;rintro e w5⟨rfl,nq,rfl⟩;have FO:=O (show qx (wr.drewN nq) wo.heap.size l from yf);have hz5:(wr.drewN nq).cell? ⟨wo.heap.size,k,none⟩=some (.int .u32 0):=hz;have lL:(wr.drewN nq).frozen? ⟨wo.heap.size,k,none⟩=false:=hf;have aiB:=O (show qx ((wr.drewN nq).setCell ⟨wo.heap.size,k,none⟩ (.int .u32 wv)) wo.heap.size (FM X.data.toList l k)from by
       have h:=yf.set (by rw[hlen.o];exact Kd) wv;rw[hlen.o]at h;unfold FM;rw[HN.o];exact h)
      have ye:=je.drewN nq;clear hz hf;generalize wr.drewN nq=wd at *
      go_wp2;go_roundw
      case rel=>exact⟨k+1,ab,bg,by rw[I9.o];exact aiB.o,ye.gF (p:=⟨wo.heap.size,k,none⟩) (ay _) _⟩
      case measure=>simp[intOf];omega
     ·have aiA:¬(k:Int)<16:=ab;obtain⟨XK,e16⟩:∃j:Nat,(k:Int)-16=(j:Int):=⟨k-16,ab⟩;obtain⟨j15,e15⟩:∃j:Nat,(k:Int)-15=(j:Int):=⟨k-15,ab⟩;obtain⟨j7,e7⟩:∃j:Nat,(k:Int)-7=(j:Int):=⟨k-7,ab⟩;obtain⟨j2,e2⟩:∃j:Nat,(k:Int)-2=(j:Int):=⟨k-2,ab⟩;have x16:=yf.cell (j:=XK) (by rw[hlen.o];omega);have x15:=yf.cell (j:=j15) (by rw[hlen.o];omega);have x7:=yf.cell (j:=j7) (by rw[hlen.o];omega)
      have x2:=yf.cell (j:=j2) (by rw[hlen.o];omega);have HN:=O (show FK X.data.toList l k=(l.getD XK 0+l.getD j7 0+ac3 (l.getD j15 0)+ac4 (l.getD j2 0))%4294967296 by
       unfold FK;rw[ar uV,show k-16=XK from ab,show k-15=j15 from ab,show k-7=j7 from ab,show k-2=j2 from ab])
      generalize l.getD XK 0=v16 at *
      generalize l.getD j15 0=v15 at *
      generalize l.getD j7 0=v7 at *
      generalize l.getD j2 0=v2 at *
      have w16:IntKind.i64.wrap ((k:Int)-16)=(XK:Int):=by rw[<-e16];exact IntWalk.i64_in _ ab
      have w15:IntKind.i64.wrap ((k:Int)-15)=(j15:Int):=by rw[<-e15];exact IntWalk.i64_in _ ab
      have w7:IntKind.i64.wrap ((k:Int)-7)=(j7:Int):=by rw[<-e7];exact IntWalk.i64_in _ ab
      have w2:IntKind.i64.wrap ((k:Int)-2)=(j2:Int):=by rw[<-e2];exact IntWalk.i64_in _ ab
      have b16:(XK:Int)<64:=ab;have b15:(j15:Int)<64:=ab;have b7:(j7:Int)<64:=ab;have b2:(j2:Int)<64:=ab;have n16:XK<64:=ab;have n15:j15<64:=ab;have n7:j7<64:=ab;have n2:j2<64:=ab;go_wp2;go_quiet (fail);have X16:(wr.drewN nq).cell? ⟨wo.heap.size,XK,none⟩=some (.int .u32 v16):=x16;have X7:(wr.drewN nq).cell? ⟨wo.heap.size,j7,none⟩=some (.int .u32 v7):=x7
      have hz5:(wr.drewN nq).cell? ⟨wo.heap.size,k,none⟩=some (.int .u32 0):=hz;have lL:(wr.drewN nq).frozen? ⟨wo.heap.size,k,none⟩=false:=hf;have FO:=O (show qx (wr.drewN nq) wo.heap.size l from yf);have ye:=je.drewN nq;clear x16 x7 hz hf yf qH je;generalize wr.drewN nq=wd at *
      go_wp2_with fail
      have y16:IntKind.i64.wrap (XK:Int)=(XK:Int):=IntWalk.i64_in _ ab;have y7:IntKind.i64.wrap (j7:Int)=(j7:Int):=IntWalk.i64_in _ ab;clear w16 w15 w7 w2;refine wp_region_still_tail 29 af af ?_;simp only[List.take_succ_cons,List.take_zero,List.drop_succ_cons,eE]
      iterate 11 still_step
      still_call (amQ v15 _)
      iterate 1 still_step
      still_call (ag0 v15 _)
      iterate 6 still_step
      still_call (ag1 v2 _)
      iterate 1 still_step
      still_call (ag2 v2 _)
      iterate 6 still_step
      refine wpStill_nil ?_;change wpList _ _ _ _ _ wd.drew;have HS:=O (show∀x,qx (wd.drew.setCell ⟨wo.heap.size,k,none⟩ (.int .u32 x)) wo.heap.size (l++[x])from fun x=>by
       have h:=(show qx wd.drew wo.heap.size l from FO.o).set (by rw[hlen.o];exact Kd) x;rw[hlen.o]at h;exact h)
      have hz6:wd.drew.cell? ⟨wo.heap.size,k,none⟩=some (.int .u32 0):=hz5;have nz:wd.drew.frozen? ⟨wo.heap.size,k,none⟩=false:=lL;have ZK:Fr aS wo wd.drew:=ye.drew;clear hz5 lL X16 X7 y16 y7 e16 e15 e7 e2;generalize wd.drew=we at *
      go_wp2_with fail
      go_wp2;go_roundw
      case rel=>exact⟨k+1,ab,bg,by rw[I9.o];unfold FM;rw[HN.o];unfold ac3 ac4 Kk;rw[<-aix];exact HS.o _,ZK.gF (p:=⟨wo.heap.size,k,none⟩) (ay _) _⟩
      case measure=>simp[intOf];omega
    ·have Ul:k=64:=ab;rw[show((k:Nat):Int)=64 from ab];subst Ul;have HWS:=O (H64.o rfl);have HW:=O yf;clear H64;have hm3:uW wr w.heap.size H:=je.keep HM.o id;obtain⟨c0,c1,c2,c3,c4,c5,c6,c7⟩:=hm3.cells;have SW:=O hm3;obtain⟨gv,hgv⟩:∃gv,gv=wr.heap.size:=⟨_,rfl⟩;have au2:w.heap.size<gv:=by rw[hgv];exact bj hm3
     have au3:wo.heap.size<gv:=by rw[hgv];exact bj yf
     have au4:w.heap.size<wo.heap.size:=bj HM.o;clear hm3 yf;obtain⟨tr,htr⟩:∃tr,tr=zh l H:=⟨_,rfl⟩;have CE:=O (show∀k,tr (k+1)=Uo (tr k) (shP l k (tr k)) (shQ (tr k))from fun k=>by rw[htr];rfl);have NU:=O (show tr 0=H by rw[htr];rfl);have HSB:=O (show zi X.data.toList H=Pz H (tr 64)by unfold zi;rw[htr,HWS.o]);clear htr;go_wp2;clear c0 c1 c2 c3 c4 c5 c6 c7
     have FE:Fr aS wr (wr.alloc (.cells #[.int .u32 H.v0,.int .u32 H.v1,.int .u32 H.v2,.int .u32 H.v3,.int .u32 H.v4,.int .u32 H.v5,.int .u32 H.v6,.int .u32 H.v7] 293)):=(ae aS wr).alloc _;have BZ:=cL.trans (je.trans FE);rw[<-hgv];have HG:=O hgv;clear hgv;go_loopw[74] (aob tr l H gv w.heap.size wo.heap.size w) (fun i _=>64-(intOf i).toNat)
     case atStart=>exact⟨0,ab,rfl,by rw[NU.o,HG.o];exact aC _ _,FE.keep SW.o id,FE.keep HW.o id,BZ⟩
     case round =>
      clear FE BZ SW HW je;obtain⟨k,hk,rfl,hv,hh,hww,qw⟩:=hrel;generalize wr=wi at *
      by_cases Kd:k<64
      ·have o_:(k:Int)<64:=ab;obtain⟨z,hz⟩:∃z,Dj[k]?=some z:=⟨_,List.getElem?_eq_getElem (by show k<64;omega)⟩;have abM:wi.cell? ⟨2,k,none⟩=some (.int .u32 z):=(ht.fr qw).r.2 k z hz;have hzd:=O (show Dj.getD k 0=z by rw[List.getD_eq_getElem?_getD,hz];rfl);clear hz;have hwk:=hww.cell (j:=k) (by rw[hlen.o];exact Kd);obtain⟨x,hx⟩:∃x,x=l.getD k 0:=⟨_,rfl⟩;rw[<-hx]at hwk;have HS1:=O (CE.o k)
       generalize tr k=V at *
       have HP:=O (show shP l k V=(V.v7+Kk (lV V.v4 26) (lV V.v4 21) (lV V.v4 7)+bits .xor .u32 (bits .and .u32 V.v4 V.v5) (bits .and .u32 (M1 V.v4) V.v6)+z+x)%4294967296 by unfold shP;rw[hzd.o,hx]);obtain⟨c0,c1,c2,c3,c4,c5,c6,c7⟩:=hv.cells;have HV:=O hv;have HH:=O hh;have wZ:=O hww;clear hv hh hww hx;go_wp2;go_quiet (fail);go_wp2_with fail
       have ZL:=O (show uW (wi.drewN nq) gv V from HV.o);have HH2:=O (show uW (wi.drewN nq) w.heap.size H from HH.o);have aiC:=O (show qx (wi.drewN nq) wo.heap.size l from wZ.o);have ad_:(wi.drewN nq).cell? ⟨2,k,none⟩=some (.int .u32 z):=abM;have aoh:(wi.drewN nq).cell? ⟨wo.heap.size,k,none⟩=some (.int .u32 x):=hwk;have oo:=qw.drewN nq;clear HV HH wZ abM hwk qw c0 c1 c2 c3 c4 c5 c6 c7
       generalize wi.drewN nq=wd at *
       obtain⟨c0,c1,c2,c3,c4,c5,c6,c7⟩:=ZL.o.cells;refine wp_region_still_tail 30 af af ?_;simp only[List.take_succ_cons,List.take_zero,List.drop_succ_cons,eE]
       iterate 3 still_step
       still_call (amR V.v4 _)
       iterate 1 still_step
       still_call (ag3 V.v4 _)
       iterate 2 still_step
       still_call (ag4 V.v4 _)
       iterate 21 still_step
       refine wpStill_nil ?_;rw[show(if IntKind.u32.signed=true then(-1:Int)else IntKind.u32.max)=IntKind.u32.max from rfl];rw[show bits .xor .u32 IntKind.u32.max V.v4=M1 V.v4 from rfl];generalize hy0:M1 V.v4=y0;generalize hy2:bits .xor .u32 (bits .and .u32 V.v4 V.v5) (bits .and .u32 y0 V.v6)=y2;generalize bits .and .u32 y0 V.v6=y3
       generalize Ex:bits .xor .u32 (bits .xor .u32 (lV V.v4 26) (lV V.v4 21)) (lV V.v4 7)=y1;generalize BQ:IntKind.u32.wrap (V.v7+y1)=s1;generalize Mo:IntKind.u32.wrap (s1+y2)=s2;generalize TF:IntKind.u32.wrap (s2+z)=s3;generalize hs4:IntKind.u32.wrap (s3+x)=p;have HP2:=O (show shP l k V=p by rw[HP.o, <-hs4, <-TF, <-Mo, <-BQ, <-Ex, <-hy2, <-hy0,aiy];rfl);clear hs4 TF Mo BQ Ex hy2 hy0 HP ad_ aoh
       change wpList _ _ _ _ _ wd.drew;have Tk:=O (show uW (wd.drew) gv V from ZL.o);have HH3:=O (show uW (wd.drew) w.heap.size H from HH2.o);have aiF:=O (show qx (wd.drew) wo.heap.size l from aiC.o);have ye:=oo.drew;clear ZL HH2 aiC oo c0 c1 c2 c3 c4 c5 c6 c7;generalize wd.drew=we at *
       obtain⟨c0,c1,c2,c3,c4,c5,c6,c7⟩:=Tk.o.cells
       iterate 7 go_step
       refine wp_region_still_tail 24 af af ?_;simp only[List.take_succ_cons,List.take_zero,List.drop_succ_cons,eE]
       iterate 1 still_step
       still_call (amS V.v0 _)
       iterate 1 still_step
       still_call (ag5 V.v0 _)
       iterate 2 still_step
       still_call (ag6 V.v0 _)
       iterate 17 still_step
       refine wpStill_nil ?_;generalize hy4:bits .xor .u32 (bits .xor .u32 (bits .and .u32 V.v0 V.v1) (bits .and .u32 V.v0 V.v2)) (bits .and .u32 V.v1 V.v2)=y4;generalize hy5:bits .xor .u32 (bits .xor .u32 (lV V.v0 30) (lV V.v0 19)) (lV V.v0 10)=y5;generalize hs5:IntKind.u32.wrap (y5+y4)=q;have XL:=O (show shQ V=q by rw[<-hs5, <-hy5, <-hy4];unfold shQ Kk;rw[D3]);clear hs5 hy5 hy4
       change wpList _ _ _ _ _ we.drew;have HV4:=O (show uW (we.drew) gv V from Tk.o);have HH4:=O (show uW (we.drew) w.heap.size H from HH3.o);have aoi:=O (show qx (we.drew) wo.heap.size l from aiF.o);have ZK:=ye.drew;clear Tk HH3 aiF ye c0 c1 c2 c3 c4 c5 c6 c7;generalize we.drew=wf at *
       obtain⟨c0,c1,c2,c3,c4,c5,c6,c7⟩:=HV4.o.cells;have hb:wf.heap[gv]?=some (.cells #[.int .u32 V.v0,.int .u32 V.v1,.int .u32 V.v2,.int .u32 V.v3,.int .u32 V.v4,.int .u32 V.v5,.int .u32 V.v6,.int .u32 V.v7] 293 (0,0)):=HV4.o;have HB:=O hb;clear hb
       go_wp2_with (first|((with_reducible refine dk 154 ?_);refine E0 rfl (.tmp 137) (.tmp 139) (.tmp 141) (.tmp 143) (.tmp 147) (.tmp 149) (.tmp 151) (.tmp 153) rfl (some 154) rfl ((p+q)%4294967296) V.v0 V.v1 V.v2 ((V.v3+p)%4294967296) V.v4 V.v5 V.v6 rfl rfl rfl rfl rfl rfl rfl rfl ?_)|((with_reducible refine kE ⟨none,_,_,_,_,_⟩ ?_);refine wpList_store_rowTo rfl 293 (.tmp 9) (.tmp 154) rfl rfl gv #[.int .u32 ((p+q)%4294967296),.int .u32 V.v0,.int .u32 V.v1,.int .u32 V.v2,.int .u32 ((V.v3+p)%4294967296),.int .u32 V.v4,.int .u32 V.v5,.int .u32 V.v6] rfl rfl _ _ HB.o af rfl (ad4 _ _ _ _ _ _ _ _) ?_;have l_:=O (show uW (wf.setRow gv #[.int .u32 ((p+q)%4294967296),.int .u32 V.v0,.int .u32 V.v1,.int .u32 V.v2,.int .u32 ((V.v3+p)%4294967296),.int .u32 V.v4,.int .u32 V.v5,.int .u32 V.v6]) gv (Uo V p q)from aY _ _ _ _ _ _ HB.o);have HH5:=O (show uW (wf.setRow gv #[.int .u32 ((p+q)%4294967296),.int .u32 V.v0,.int .u32 V.v1,.int .u32 V.v2,.int .u32 ((V.v3+p)%4294967296),.int .u32 V.v4,.int .u32 V.v5,.int .u32 V.v6]) w.heap.size H from(vV ab _).trans HH4.o);have aoj:=O (show qx (wf.setRow gv #[.int .u32 ((p+q)%4294967296),.int .u32 V.v0,.int .u32 V.v1,.int .u32 V.v2,.int .u32 ((V.v3+p)%4294967296),.int .u32 V.v4,.int .u32 V.v5,.int .u32 V.v6]) wo.heap.size l from(vV ab _).trans aoi.o);have Xo:=O (show Fr aS w (wf.setRow gv #[.int .u32 ((p+q)%4294967296),.int .u32 V.v0,.int .u32 V.v1,.int .u32 V.v2,.int .u32 ((V.v3+p)%4294967296),.int .u32 V.v4,.int .u32 V.v5,.int .u32 V.v6])from VG ZK ab _);clear ZK c0 c1 c2 c3 c4 c5 c6 c7;generalize wf.setRow gv #[.int .u32 ((p+q)%4294967296),.int .u32 V.v0,.int .u32 V.v1,.int .u32 V.v2,.int .u32 ((V.v3+p)%4294967296),.int .u32 V.v4,.int .u32 V.v5,.int .u32 V.v6]=wg at *))
       go_wp2;go_roundw
       case rel=>exact⟨k+1,ab,bg,by rw[HS1.o,HP2.o,XL.o];exact l_.o,HH5.o,aoj.o,Xo.o⟩
       case measure=>simp[intOf];omega
      ·have Ul:k=64:=ab;rw[show((k:Nat):Int)=64 from ab];subst Ul;clear hww;generalize tr 64=V at *
       have hvz:uD wi gv V.list:=hv;have hhz:uD wi w.heap.size (Il H.list V.list 0):=hh;have HVZ:=O hvz;have HHZ:=O hhz;clear hv hh hvz hhz;go_wp2;go_loopw[156] (aoa H V w.heap.size gv w) (fun i _=>8-(intOf i).toNat)
       case atStart=>exact⟨0,ab,rfl,HHZ.o,HVZ.o,qw⟩
       case round =>
        clear HVZ HHZ qw;obtain⟨k,hk,rfl,hz,hvz,oo⟩:=hrel;generalize wr=wx at *
        have hL1:H.list.length=8:=rfl;have hL2:V.list.length=8:=rfl;by_cases Kd:k<8
        ·have o_:(k:Int)<8:=ab;have c0:=hz.cell (j:=k) (by rw[Ll];omega);rw[Lm _ _ k k (ay _)]at c0;have c1:=hvz.cell (j:=k) ab;have f0:=hz.free k;have l_:=O (show uD (wx.drew.setCell ⟨w.heap.size,k,none⟩ (.int .u32 ((H.list.getD k 0+V.list.getD k 0)%4294967296))) w.heap.size (Il H.list V.list (k+1))from(show uD wx.drew w.heap.size (Il H.list V.list k)from hz).set k _)
         have HVZ:=O (show uD (wx.drew.setCell ⟨w.heap.size,k,none⟩ (.int .u32 ((H.list.getD k 0+V.list.getD k 0)%4294967296))) gv V.list from by
          unfold uD;rw[Below.heap_setCell _ _ _ _ (show gv≠w.heap.size from ab)];exact hvz)
         have sX:=O (oo.drew);generalize H.list.getD k 0=x0 at *
         generalize V.list.getD k 0=x1 at *
         clear hz hvz oo;go_wp2;refine wp_region_still_tail 8 af af ?_;simp only[List.take_succ_cons,List.take_zero,List.drop_succ_cons,eE]
         iterate 8 still_step
         refine wpStill_nil ?_;change wpList _ _ _ _ _ wx.drew;have c2:wx.drew.cell? ⟨w.heap.size,k,none⟩=some (.int .u32 x0):=c0;have f2:wx.drew.frozen? ⟨w.heap.size,k,none⟩=false:=f0;clear c0 c1 f0;generalize wx.drew=wy at *
         go_wp2_with fail
         go_wp2;go_roundw
         case rel=>exact⟨k+1,ab,bg,by first|exact l_.o|(rw[D3];exact l_.o),by first|exact HVZ.o|(rw[D3];exact HVZ.o),sX.o.gF (p:=⟨w.heap.size,k,none⟩) (ay _) _⟩
         case measure=>simp[intOf];omega
        ·have hk8:k=8:=ab;subst hk8;have YM:uW wx w.heap.size (Pz H V):=hz;have aok:=O YM;have amP:(64:Int)<=(X.size:Int):=ab;clear hz hvz YM;go_wp2;refine⟨⟨n+1,ab,?_,?_,oo⟩,?_⟩
         ·rw[pV.o];rfl
         ·rw[pR.o,HSB.o];exact aok.o
         ·show(X.extract 64 X.size).size<X.size;rw[ju];omega
  ·have AE:64*n=T.size:=ab;have he:(T.extract (64*n) T.size)=⟨#[]⟩:=by apply Go.WideShapes.bytes_inj;rw[kp,cP bH]
   rw[he];have Um:=O (show AF T.data.toList (T.size/64)=AF T.data.toList n by rw[<-AE];congr 1;omega);have Cn:=ZJ T.data.toList n;generalize AF T.data.toList n=H at *
   have hz:uD wo w.heap.size H.list:=hm;have TX:=O (Bx w.heap.size H.list false wo (by show 8<=8;omega) (bj hm) (fun j x hj=>by
    have hl:j<H.list.length:=(List.getElem?_eq_some_iff.1 hj).1;rw[hz.cell hl,List.getD_eq_getElem?_getD,hj];rfl) Cn)
   clear hm Cn hz;go_wp2_with fail
   refine TX.o.mono ?_;rintro e w5⟨rfl,lL⟩;go_wp2;go_ret;exact⟨by rw[Dh.o,Um.o];rfl,cL.trans lL⟩
theorem VH(w:World)(hs:uk w):sW 3 w:=by
 intro v ss W hW hv hn hlen;have hT:=O (hs.fr hW);clear hs;have HJ:=O (Km v ss W hv hn hlen);clear hv;have hz:(⟨(kB ss).toArray⟩:aj).size<4398046511104:=by show(kB ss).toArray.size<_;simp;omega
 have HB:=O (show kq (decide ((3:Int)=3)) ss=⟨(Kl (kB ss)).toArray⟩from rfl);generalize kB ss=tx at *
 clear hW;go_enter func160,ntmps160;go_wp2_with fail
 refine HJ.o.mono ?_;rintro e u1⟨rfl,dn⟩;go_wp2_with fail
 refine(NT ⟨tx.toArray⟩ u1 hz (hT.o.fr dn)).mono ?_;rintro e u2⟨rfl,dz⟩;go_wp2;go_ret;exact⟨(aq (fun b=>Ending.returned (.string b)) HB.o).symm,dn.trans dz⟩
theorem VI(fO:Int)(w:World)(ht:uj w)(hs:uk w):sW fO w:=by
 by_cases h:fO=3
 ·subst h;exact VH w hs
 ·exact YT fO h w ht
structure wQ (w:World):Prop where
 db:oI w 9 .u8 SY
 md:uj w
 sh:uk w
theorem wQ.fr(h:wQ w)(hf:Fr aS w w'):wQ w':=⟨h.db.fr hf,h.md.fr hf,h.sh.fr hf⟩
def aiY(u:Except Nat (aP bE)):Value:=match u with| .ok _=>.nilIface| .error n=>.iface 82 (.int .i64 n)
theorem qU.one{base:Nat}{b:Nat}{gv wv:Value}{ws:List (bI bE)}{u:List (aP bE)×Except Nat (aP bE)}(h:qU base w b gv wv ws u e w') :
  kr base w b gv wv u.1 ws w'/\∃X:bS,e=.returned (.tuple #[.agg X,aiY u.2])/\X.size=16/\X.all (·.oneCell')=true/\∀x,u.2=.ok x->∃r:aP Value,X=r.cells.toArray/\r.Reads (du base w') x:=by
 obtain⟨h1,h2⟩:=h;refine⟨h1,?_⟩;cases hu:u.2 with
 |error n=>rw[hu]at h2;exact⟨eS,h2,rfl,dt,fun x hx=>by cases hx⟩
 |ok g =>
  rw[hu]at h2;obtain⟨r,e1,e2,e3⟩:=h2;exact⟨r.cells.toArray,e1,rfl,bW e3,fun x hx=>by cases hx;exact⟨r,rfl,e2⟩⟩
theorem D6{X:bS}(h:X.size=16):(prog.info? 133).map (·.size)=some X.size:=by rw[h];kernel_rfl
def AtJ(base:Nat)(w2:World)(B off:Nat)(cs:aX)(v:cU)(p:eD)(x:Except Nat (aP bE))(n:Nat)(X:bS)(W:World):Prop :=
 sK base w2 B off cs v p n X 133 W/\∀g,x=.ok g->∃r:aP Value,X=r.cells.toArray/\r.Reads (du base W) g
theorem N0{g:aP bE}(h1:g.a.scheme=1)(h:qA g o=none)(hu:g.user.size<=100000)(hp:g.pass.size<=100000) :
  aB 71 #[.agg #[.string g.user,.string g.pass]] U fun e w'=>(∃t v,e=.returned (.tuple #[.string ⟨#[]⟩,.iface t v]))/\Fr aS U w':=by
 refine(FP g.user g.pass U hu hp).mono ?_;rintro e u⟨hb,hf⟩;refine⟨?_,hf⟩;unfold qA at h;rw[aA h1]at h;unfold mN at hb;by_cases hc:0<=Lib.indexByte g.user.data.toList 58
 ·rw[aA hc]at hb;exact⟨_,_,hb⟩
 ·rw[ar hc]at hb h;cases hq:(lr g.user&&lr g.pass)
  ·rw[hq]at hb;exact⟨_,_,hb⟩
  ·rw[hq]at h;cases h
theorem N1{g:aP bE}{s:aj}(h1:g.a.scheme=1)(h:qA g o=some s)(hu:g.user.size<=100000)(hp:g.pass.size<=100000) :
  aB 71 #[.agg #[.string g.user,.string g.pass]] U fun e w'=>e=.returned (.tuple #[.string s,.nilIface])/\Fr aS U w':=by
 refine(FP g.user g.pass U hu hp).mono ?_;rintro e u⟨hb,hf⟩;refine⟨?_,hf⟩;unfold qA at h;rw[aA h1]at h;unfold mN at hb;by_cases hc:0<=Lib.indexByte g.user.data.toList 58
 ·rw[aA hc]at h;cases h
 ·rw[ar hc]at hb h;cases hq:(lr g.user&&lr g.pass)
  ·rw[hq]at h;cases h
  ·rw[hq]at hb h;cases h;exact hb
section
variable {g : aP bE} {o : kl} {s : ByteArray} {U : World} {dom : Value}
theorem VR(dX:dom.oneCell'=true)(hg:Vo g)(hm:(jD o.method).size<=5000)(ht:(nE o.path o.query).size<=5000)(hb:o.body.size<=5000)(hc:o.bK.size<=5000)(hT:wQ U) :
  aB 72 #[.agg #[.int .i64 g.a.scheme,.string g.a.aK,.string g.a.bq,.string g.a.cy,.bool g.a.cA,.string g.a.eF,.bool g.a.cN,dom],.agg #[.string g.user,.string g.pass],.string (jD o.method),.string (nE o.path o.query),.string o.body,.string o.bK,.int .i64 g.count] U (oQ g.a.scheme g.a.cy (o.Zj g) g.count U):=by
 obtain⟨⟨a1,a2,a3,a4⟩,a5,a6⟩:=hg;exact RE g.a.scheme g.a.aK g.a.bq g.a.cy g.a.eF g.user g.pass (jD o.method) (nE o.path o.query) o.body o.bK g.a.cA g.a.cN dom g.count U dX ab ab ab a5 a6 hm ht hb hc hT.db (VI _ _ hT.md hT.sh)
theorem VS(h1:¬g.a.scheme=1)(h:qA g o=none)(hd:oQ g.a.scheme g.a.cy (o.Zj g) g.count U e w'):(∃t v,e=.returned (.tuple #[.string ⟨#[]⟩,.iface t v]))/\Fr aS U w':=by
 unfold qA at h;rw[ar h1]at h;obtain⟨hf,hd⟩:=hd;refine⟨?_,hf⟩;rcases hd with ⟨_,hd⟩|⟨hg,_⟩
 ·exact hd
 ·split at h
  ·cases h
  ·rename_i hn;exact absurd hg hn
theorem VT(h1:¬g.a.scheme=1)(h:qA g o=some s)(hd:oQ g.a.scheme g.a.cy (o.Zj g) g.count U e w'):e=.returned (.tuple #[.string s,.nilIface])/\Fr aS U w':=by
 unfold qA at h;rw[ar h1]at h;obtain⟨hf,hd⟩:=hd;refine⟨?_,hf⟩;rcases hd with ⟨hg,_⟩|⟨hg,hd⟩
 ·split at h
  ·rename_i hc;exact absurd hc hg
  ·cases h
 ·split at h
  ·cases h;exact hd
  ·rename_i hn;exact absurd hg hn
end
theorem RN(s:aj)(h:s.size<=5000):(jD s).size<=5000:=by
 rcases yS iA s with ⟨h1,_⟩|h1
 ·have:=(show∀x∈iA,x.size<=5000 from ag) _ h1;exact this
 ·show(nr iA s).size<=5000;rw[h1];exact h
theorem RO(p q:aj)(h:p.size<=2000)(h2:q.size<=2000):(nE p q).size<=5000:=by
 unfold nE;split
 ·omega
 ·rw[iW,iW,show(ByteArray.mk #[63]).size=1 from rfl];omega
theorem N2(base:Nat)(w:World)(B off:Nat)(cs:aX)(v:cU)(p:eD)(o:jz)(hs:List gY)(h:eP base w v p)(ha:gP w B cs off v)(ou:base<=B)(hf:gB w o hs)(hk:nd p)(oZ:rL p)(a:World)(sY:wQ a)(rU:a.heap.size<=base)(sZ:Fr aS a w) :
  aB 42 #[.pointer (some ⟨B,off,none⟩),.agg o.cells.toArray] w (eG base w B cs off v (lG p (o.dS hs))):=by
 have uA:B<w.heap.size:=bj ha.eJ;have Gr:¬v.jT B:=h.fg ha.eJ ag;obtain⟨ah,ch,gD⟩:=hf.gT;obtain⟨w2,eA⟩:∃w2,w2=(w.alloc (.cells o.cells.toArray 33)).alloc (.cells bR 46):=⟨_,rfl⟩;have dz:Fr aS w w2:=by rw[eA];exact((ae aS w).alloc _).alloc _
 have k1:w2.heap[w.heap.size]?=some (.cells o.cells.toArray 33 (0,0)):=by rw[eA];exact((ae aS _).alloc _).keep (aC _ _) id
 have k2:w2.heap[w.heap.size+1]?=some (.cells bR 46 (0,0)):=by
  have h:=aC (w.alloc (.cells o.cells.toArray 33)) (.cells bR 46);rw[bN]at h;rw[eA];exact h
 have wT:w2.heap.size=w.heap.size+2:=by rw[eA];simp
 have VU:=O (show∀U,Fr aS w2 U->U.heap[w.heap.size]?=some (.cells o.cells.toArray 33 (0,0))from fun U hU=>hU.keep k1 id);have Cs:=O Gr;have HH:=O h;have HA:=O ha;have HF:=O hf;have lu:=O gD;have HK:=O hk;have fY:=O dz;have mJ:=O k1;have qG:=O k2;have oY:=O (show base<=w.heap.size from ab);have wW:=O ou;have oT:=O uA;have RD:=O eA
 obtain⟨a0,a1,a2,a3,a4,a5,a6,a7,a8,a9,jA,jB,a12,jx,jC,jd,jK,jL,jM,jU,a20,a21⟩:=eh k1 gD;rw[eA]at a0 a1 a2 a3 a4 a5 a6 a7 a8 a9 jA jB a12 jx jC jd jK jL jM jU a20 a21;rw[dZ gD]at eA a0 a1 a2 a3 a4 a5 a6 a7 a8 a9 jA jB a12 jx jC jd jK jL jM jU a20 a21 ⊢;unfold bR at eA a0 a1 a2 a3 a4 a5 a6 a7 a8 a9 jA jB a12 jx jC jd jK jL jM jU a20 a21;have nD:=O eA;clear eA gD dz k1 k2 h ha hf Gr hk
 obtain⟨x3,xk⟩:∃x3,x3=w2.alloc (.cells #[.int .i64 o.aJ.part,.bool o.aJ.cW.aE,.string o.aJ.cW.host,.int .i64 o.aJ.cW.port,.bool o.aJ.o.aE,.string o.aJ.o.host,.int .i64 o.aJ.o.port,.string o.aJ.path,.string o.aJ.query,.string o.aJ.method,.slice ah hs.length ch,.bool o.aJ.fN,.string o.aJ.body] 29):=⟨_,rfl⟩;have E7:Fr aS w2 x3:=by rw[xk];exact(ae _ _).alloc _
 have YX:x3.heap[w.heap.size+2]?=some (.cells #[.int .i64 o.aJ.part,.bool o.aJ.cW.aE,.string o.aJ.cW.host,.int .i64 o.aJ.cW.port,.bool o.aJ.o.aE,.string o.aJ.o.host,.int .i64 o.aJ.o.port,.string o.aJ.path,.string o.aJ.query,.string o.aJ.method,.slice ah hs.length ch,.bool o.aJ.fN,.string o.aJ.body] 29 (0,0)):=by
  have h:=aC w2 (.cells #[.int .i64 o.aJ.part,.bool o.aJ.cW.aE,.string o.aJ.cW.host,.int .i64 o.aJ.cW.port,.bool o.aJ.o.aE,.string o.aJ.o.host,.int .i64 o.aJ.o.port,.string o.aJ.path,.string o.aJ.query,.string o.aJ.method,.slice ah hs.length ch,.bool o.aJ.fN,.string o.aJ.body] 29);rw[wT]at h;rw[xk];exact h
 have N3:x3.heap.size=w.heap.size+3:=by rw[xk];simp;omega
 have iq:=O (fY.o.trans E7);have HQ3:=O YX;have Tl:=O xk;have H3:=O (HH.o.di iq.o);have A3:=O (HA.o.di iq.o);have KO:=O (E7.keep mJ.o id);have KR:=O (E7.keep qG.o id);have RP:=O (sZ.trans iq.o);have RQ:=O sY;have HSM:=O oZ;have avu:=O N3;have RR:=HK.o.qZ;clear xk E7 YX sY oZ sZ;go_enter func42,ntmps42
 have HC:=O (show∀U,Fr (dv v.b v.gv v.wv) x3 U->(U.cell? ⟨B,off,none⟩=some (.pointer (some ⟨v.b,0,none⟩))/\U.cell? ⟨w.heap.size+2,4,none⟩=some (.bool o.aJ.o.aE)/\U.cell? ⟨w.heap.size+2,5,none⟩=some (.string o.aJ.o.host)/\U.cell? ⟨w.heap.size+2,6,none⟩=some (.int .i64 o.aJ.o.port)/\U.cell? ⟨w.heap.size+2,7,none⟩=some (.string o.aJ.path)/\U.cell? ⟨w.heap.size,14,none⟩=some (.bool o.proxy))from fun U hU=>by
  have j1:=A3.o.fr hU (fun hb=>Cs.o (Or.inl hb));have j2:=hU.keep HQ3.o (fun hb=>H3.o.fg HQ3.o Gk (Or.inl hb));have j3:=hU.keep KO.o (fun hb=>H3.o.fg KO.o jb (Or.inl hb));obtain⟨a0,a1,a2,a3,a4,a5,a6,a7,a8,a9,jA,jB,a12,jx,jC,jd,jK,jL,jM,jU,a20,a21⟩:=eh j3 lu.o;refine⟨j1.cell0,?_,?_,?_,?_,jC⟩<;>simp[World.cell?,j2])
 have HUS:=O (show∀U,Fr aS x3 U->aB 70 #[.pointer (some ⟨v.b,0,none⟩),.agg #[.bool o.aJ.o.aE,.string o.aJ.o.host,.int .i64 o.aJ.o.port],.bool o.proxy,.string o.aJ.path] U (qU base U v.b v.gv v.wv p.waits (u0 p.bU o.aJ.o o.proxy o.aJ.path))from fun U hU=>Y9 base U v.b v.gv v.wv p.bU p.waits o.aJ.o o.proxy o.aJ.path (H3.o.di hU).ot ab HK.o.nat)
 obtain⟨us,hus⟩:∃us,us=u0 p.bU o.aJ.o o.proxy o.aJ.path:=⟨_,rfl⟩;rw[<-hus]at HUS;have HUE:=O hus;obtain⟨ev,RS⟩:∃ev,ev=aiY us.2:=⟨_,rfl⟩;have ZY:=O RS;have ai1:=O (show base<=x3.heap.size from aF oY.o iq.o.size);have ai2:=O (show B<x3.heap.size from cO oT.o iq.o.size);have rY:=nD.o;clear hus RS wT N3;go_wp2_with fail
 rw[<-rY, <-Tl.o];clear a0 a1 a2 a3 a4 a5 a6 a7 a8 a9 jA jB a12 jx jC jd jK jL jM jU a20 a21 rY;apply VB (P:=AtJ base x3 B off cs v {p with bU:=us.1} us.2)
 ·intro hJ;have HJ:=O hJ;clear hJ
  refine wp_region_held_drew (S:=(fun U=>U.cell? ⟨B,off,none⟩=some (.pointer (some ⟨v.b,0,none⟩))/\U.cell? ⟨w.heap.size+2,4,none⟩=some (.bool o.aJ.o.aE)/\U.cell? ⟨w.heap.size+2,5,none⟩=some (.string o.aJ.o.host)/\U.cell? ⟨w.heap.size+2,6,none⟩=some (.int .i64 o.aJ.o.port)/\U.cell? ⟨w.heap.size+2,7,none⟩=some (.string o.aJ.path)/\U.cell? ⟨w.heap.size,14,none⟩=some (.bool o.proxy))) af (HC.o _ (az (ae _ _))) ?_
  intro Aj;refine aW 0 12 rfl ?_;refine aW 1 13 rfl ?_;refine aW 2 14 rfl ?_;refine aW 3 15 rfl ?_;refine aW 4 16 rfl ?_;refine aW 5 17 rfl ?_;refine aW 6 18 rfl ?_;refine aW 7 19 rfl ?_;refine aW 8 20 rfl ?_;refine aW 9 21 rfl ?_;refine aW 10 22 rfl ?_;refine aW 11 23 rfl ?_;refine D7 12 16 rfl rfl (fun K hK=>?_) fun K hK=>?_
  ·go_simp;refine(HUS.o _ (az (ae _ _))).mono ?_;rintro e u3 Lq;obtain⟨sV,X,rfl,Gs,Lr,DX⟩:=qU.one Lq;rw[<-ZY.o];have Jl:=O sV;have HX:=O (And.intro Gs (And.intro Lr DX));have vW:Fr (dv v.b v.gv v.wv) x3 u3:=(az (ae _ _)).trans (by obtain⟨_,_,_,h,_⟩:=sV;exact h);have A1:=O vW;clear Lq sV Gs Lr DX vW;refine hK.out _ _ (HC.o _ A1.o) ?_;intro yl;clear hK Aj K
   try simp only[Act.put,sA,sB,sC]
   refine aW 13 11 rfl ?_;refine aW 14 25 rfl ?_;refine aW 15 26 rfl ?_;refine eT 16 rfl fun K hK=>?_;go_simp;obtain⟨n,hne⟩:∃n,n=u3.heap.size:=⟨_,rfl⟩;obtain⟨w4,qt⟩:∃w4,w4=u3.alloc (.cells eS 133):=⟨_,rfl⟩;have VV:w4.heap[n]?=some (.cells eS 133 (0,0)):=by rw[qt,hne];exact aC _ _
   have kD:Fr (dv v.b v.gv v.wv) x3 w4:=by rw[qt];exact A1.o.alloc _
   have ZZ:=O VV;have jO:=O kD;have NS:=O qt;have Ce:=O hne;rw[<-qt, <-hne];clear qt hne VV kD;refine hK.out _ _ (HC.o _ jO.o) ?_;intro BJ;clear hK yl K
   try simp only[Act.put,sA,sB,sC]
   refine eT 17 rfl fun K hK=>?_;refine jJ rfl 133 (.tmp 6) (.tmp 25) rfl n X rfl rfl 133 eS ZZ.o (D6 HX.o.1) HX.o.1.symm HX.o.2.1 ?_;obtain⟨W,hW⟩:∃W,W=w4.setRow n X:=⟨_,rfl⟩;have BK:Fr (dv v.b v.gv v.wv) x3 W:=by rw[hW];exact jc jO.o (by rw[Ce.o];exact A1.o.size) _
   have hP:=sK.after (z:=eS) (dh (az (ae aS x3)) (eR (H3.o.di (az (ae aS x3))) (A3.o.di (az (ae aS x3))) Cs.o Jl.o)) ai1.o ai2.o (t:=133) ag X;rw[<-NS.o, <-Ce.o, <-hW]at hP;rw[<-hW];refine hK.out _ _ (HC.o _ BK) ?_;intro E_;clear hK BJ K
   try simp only[Act.put,sA,sB,sC]
   refine aW 18 7 rfl ?_;clear E_;refine wpAnyH_done af ?_ _;exact HJ.o n X W ⟨hP.1,fun g hg=>by
    obtain⟨r,e1,e2⟩:=HX.o.2.2 g hg;exact⟨r,e1,e2.mono (fun v l h=>hP.2 v l h)⟩⟩
  ·go_simp;obtain⟨n,hne⟩:∃n,n=x3.heap.size:=⟨_,rfl⟩;obtain⟨w4,qt⟩:∃w4,w4=(x3.alloc (.cells eS 133)).drew:=⟨_,rfl⟩;have VV:w4.heap[n]?=some (.cells eS 133 (0,0)):=by rw[qt,hne];exact aC x3 _
   have kD:Fr aS x3 w4:=by rw[qt];exact((ae _ _).alloc _).drew
   have ZZ:=O VV;have jO:=O kD;have Ce:=O (show x3.heap.size<=n from ab);rw[<-qt, <-hne];clear qt hne VV kD;refine hK.out _ _ (HC.o _ (jO.o.mono (fun _ _ h=>absurd h id))) ?_;intro yl;clear hK Aj K
   try simp only[Act.put,sA,sB,sC]
   refine eT 12 rfl fun K hK=>?_;go_simp;refine(HUS.o _ jO.o).mono ?_;rintro e u3 Lq;obtain⟨sV,X,rfl,Gs,Lr,DX⟩:=qU.one Lq;rw[<-ZY.o];have Jl:=O sV;have HX:=O (And.intro Gs (And.intro Lr DX));have vW:Fr (dv v.b v.gv v.wv) x3 u3:=(jO.o.mono (fun _ _ h=>absurd h id)).trans (by obtain⟨_,_,_,h,_⟩:=sV;exact h)
   have T5:u3.heap[n]?=some (.cells eS 133 (0,0)):=(show Fr (dv v.b v.gv v.wv) w4 u3 by obtain⟨_,_,_,h,_⟩:=sV;exact h).keep ZZ.o (fun hb=>by have:=H3.o.jf (Or.inl hb);have:=Ce.o;omega);have A1:=O vW;have HZ3:=O T5;clear Lq sV Gs Lr DX vW T5;refine hK.out _ _ (HC.o _ A1.o) ?_;intro BJ;clear hK yl K
   try simp only[Act.put,sA,sB,sC]
   refine aW 13 11 rfl ?_;refine aW 14 25 rfl ?_;refine aW 15 26 rfl ?_;refine eT 17 rfl fun K hK=>?_;refine jJ rfl 133 (.tmp 6) (.tmp 25) rfl n X rfl rfl 133 eS HZ3.o (D6 HX.o.1) HX.o.1.symm HX.o.2.1 ?_;obtain⟨W,hW⟩:∃W,W=u3.setRow n X:=⟨_,rfl⟩;have BK:Fr (dv v.b v.gv v.wv) x3 W:=by rw[hW];exact jc A1.o Ce.o _
   have hP:=sK.before H3.o jO.o Ce.o ZZ.o (eR (H3.o.di jO.o) (A3.o.di jO.o) Cs.o Jl.o) ai1.o ai2.o ag X;rw[<-hW]at hP;rw[<-hW];refine hK.out _ _ (HC.o _ BK) ?_;intro E_;clear hK BJ K
   try simp only[Act.put,sA,sB,sC]
   refine aW 18 7 rfl ?_;clear E_;refine wpAnyH_done af ?_ _;exact HJ.o n X W ⟨hP.1,fun g hg=>by
    obtain⟨r,e1,e2⟩:=HX.o.2.2 g hg;exact⟨r,e1,e2.mono (fun v l h=>hP.2 v l h)⟩⟩
 ·intro n X W hj;obtain⟨⟨v1,i1,f1,BI,VW,hX,VX,VC⟩,Gq⟩:=hj;have aa1:=ik A3.o VW;have o1:=eI H3.o f1 KO.o jb ab;have r1:=eI H3.o f1 KR.o dJ ab;have q1:=eI H3.o f1 HQ3.o Gk ab;have haW:Fr aS a W:=RP.o.step f1 (fun k hk hp=>by
   rcases hp with rfl|hp
   ·omega
   ·have:=H3.o.nw hp;omega)
  have HTW:=O (RQ.o.fr haW);have I1:=O i1;have F1:=O f1;have FT1:=O BI;have Ls:=O aa1;have O1:=O o1;have R1:=O r1;have Q1:=O q1;have HXB:=O hX;have HNF:=O VX;have HNA:=O VC;clear i1 f1 BI aa1 o1 r1 q1 VW hX VX VC HUS HC haW;cases FY:us.2 with
  |error k =>
   have hef:ev=.iface 82 (.int .i64 k):=by rw[ZY.o,FY];rfl
   have HR:=O (show lG p (o.dS hs)=({p with bU:=us.1},rep 2)by
    unfold lG;rw[show u0 p.bU (o.dS hs).o (o.dS hs).proxy (o.dS hs).path=(us.1,.error k)from by rw[<-FY];exact HUE.o.symm])
   have HP:=O (show dm base w B cs off v {p with bU:=us.1} W from dh iq.o ⟨v1,I1.o,F1.o,FT1.o,Ls.o.eJ⟩);rw[hef];clear Gq FY ZY HUE hef;go_wp2_with (first|((with_reducible refine cV 46 ?_);refine aG rfl 46 (.tmp 4) (.tmp 29) rfl (w.heap.size+1) #[.int .i64 2,.string ⟨#[]⟩,.int .i64 0] rfl rfl _ bR R1.o (bf _ rfl) rfl ct ?_)|fail)
   refine aU (bu bC _ _ (w.heap.size+1) 46 #[.int .i64 2,.string ⟨#[]⟩,.int .i64 0] (0,0) _ rfl (aY _ (w.heap.size+1) _ _ _ _ R1.o) underlying46 rfl (bf _ rfl)) rfl ?_;unfold eG;rw[HR.o];exact⟨rfl,dy HP.o oY.o oT.o (bV _) R1.o eL ag _⟩
  |ok g =>
   have hef:ev=.nilIface:=by rw[ZY.o,FY];rfl
   obtain⟨r,XE,hr⟩:=Gq g FY;have hgs:Vo g:=(Lf (P:=Vo) (fun g h=>h) HSM.o.bU).2 g (by rw[<-HUE.o];exact FY);have VY:=O (show lG p (o.dS hs)=(match qA g (o.dS hs)with|none=>({p with bU:=uM us.1 g.o g.proxy g.a.aK},rep 2)|some s=>({p with bU:=us.1},⟨1,s,0⟩))by
    unfold lG;rw[show u0 p.bU (o.dS hs).o (o.dS hs).proxy (o.dS hs).path=(us.1,.ok g)from by rw[<-FY];exact HUE.o.symm];rfl)
   obtain⟨q1,q2,q3,q4,q5,q6,q7⟩:=hr;obtain⟨e1,e2,e3,e4,e5,e6,e7,AM⟩:=q5;obtain⟨ad,cd,xl⟩:=AM.rd.form;obtain⟨ap,cp,MY⟩:=q7.rd.form
   have xh:X= #[.bool g.o.aE,.string g.o.host,.int .i64 g.o.port,.bool g.proxy,.string g.user,.string g.pass,.int .i64 g.a.scheme,.string g.a.aK,.string g.a.bq,.string g.a.cy,.bool g.a.cA,.string g.a.eF,.bool g.a.cN,.slice ad g.a.dom.length cd,.int .i64 g.count,.slice ap g.paths.length cp]:=by
    rw[XE];unfold aP.cells;rw[q1,q2,q3,q4,q6,e1,e2,e3,e4,e5,e6,e7,xl,MY]
   rw[xh]at HXB;have RT:=HXB.o;have hqn:=Q1.o;have hon:=O1.o;have HGS:=O hgs;have ZU:=O hgs.2.1;have ZP:=O hgs.2.2;have Ti:=HF.o;rw[hef];clear Gq FY ZY HUE hef q1 q2 q3 q4 q6 q7 e1 e2 e3 e4 e5 e6 e7 AM xl MY xh XE hgs;have z4:W.cell? ⟨n,4,none⟩=some (.string g.user):=by simp[World.cell?,RT]
   have z5:W.cell? ⟨n,5,none⟩=some (.string g.pass):=by simp[World.cell?,RT]
   have z6:W.cell? ⟨n,6,none⟩=some (.int .i64 g.a.scheme):=by simp[World.cell?,RT]
   by_cases hsc:g.a.scheme=1
   ·have t6':(g.a.scheme==1)=true:=by rw[hsc];rfl
    cases yB:qA g (o.dS hs)with
    |none =>
     have HR:=O (show lG p (o.dS hs)=({p with bU:=uM us.1 g.o g.proxy g.a.aK},rep 2)by rw[VY.o,yB]);have HBA:=O (show∀U,aB 71 #[.agg #[.string g.user,.string g.pass]] U _ from fun U=>N0 hsc yB (aF ZU.o ag) (aF ZP.o ag));have XM:=O hsc;rw[hsc]at z6;clear yB VY hsc RT hqn hon Ti;go_wp2_with fail
     refine(HBA.o _).mono ?_;rintro e u5⟨⟨et,evv,rfl⟩,lL⟩;have HU:=O (lL)
     have Uc:=O (show∀U,Fr (dv v1.b v1.gv v1.wv) u5 U->(U.cell? ⟨B,off,none⟩=some (.pointer (some ⟨v1.b,0,none⟩))/\U.cell? ⟨n,0,none⟩=some (.bool g.o.aE)/\U.cell? ⟨n,1,none⟩=some (.string g.o.host)/\U.cell? ⟨n,2,none⟩=some (.int .i64 g.o.port)/\U.cell? ⟨n,3,none⟩=some (.bool g.proxy)/\U.cell? ⟨n,7,none⟩=some (.string g.a.aK))from fun U hU=>by
      have j1:=(Ls.o.di HU.o).fr hU (fun hb=>I1.o.fg Ls.o.eJ ag (Or.inl hb));have j2:=hU.keep (HU.o.keep HXB.o id) (fun hb=>HNF.o (Or.inl hb));refine⟨j1.cell0,?_,?_,?_,?_,?_⟩<;>simp[World.cell?,j2])
     have S_:=O (show∀U,Fr aS u5 U->aB 75 #[.pointer (some ⟨v1.b,0,none⟩),.agg #[.bool g.o.aE,.string g.o.host,.int .i64 g.o.port],.bool g.proxy,.string g.a.aK] U (vQ base U v1.b v1.gv v1.wv us.1 p.waits (mS g.o g.proxy g.a.aK))from fun U hU=>zw base U v1.b v1.gv v1.wv us.1 p.waits g.o g.proxy g.a.aK ((I1.o.di HU.o).di hU).ot);go_wp2_with fail
     go_region_held3 (fun U=>Fr (dv v1.b v1.gv v1.wv) u5 U/\U.cell? ⟨B,off,none⟩=some (.pointer (some ⟨v1.b,0,none⟩))/\U.cell? ⟨n,0,none⟩=some (.bool g.o.aE)/\U.cell? ⟨n,1,none⟩=some (.string g.o.host)/\U.cell? ⟨n,2,none⟩=some (.int .i64 g.o.port)/\U.cell? ⟨n,3,none⟩=some (.bool g.proxy)/\U.cell? ⟨n,7,none⟩=some (.string g.a.aK)) ((refine(fun hU=>⟨hU,Uc.o _ hU⟩) ?_;first|exact az (ae _ _)|assumption))
      ((first
       |(go_at_call 75;refine(S_.o _ (az (ae _ _))).mono ?_;rintro e u9 ⟨rfl,N4⟩;have VZ:Fr (dv v1.b v1.gv v1.wv) u5 u9:=(az (ae _ _)).trans (by obtain⟨_,_,_,h,_⟩:=N4;exact h))))
     have V0:=eR ((I1.o.di HU.o).di (az (ae aS u5))) ((Ls.o.di HU.o).di (az (ae aS u5))) (I1.o.fg Ls.o.eJ ag) N4;have HP:=O (show dm base w B cs off v {p with bU:=uM us.1 g.o g.proxy g.a.aK} u9 from dh iq.o (gH F1.o FT1.o (dh HU.o (dh (az (ae aS u5)) V0))));have r9:=O (eI (B:=B) (I1.o.di HU.o) (VZ.mono (fun k _ hk=>Or.inr (Or.inl hk))) (HU.o.keep R1.o id) dJ ab);clear V0 N4 VZ Uc S_
     go_wp2_with (first|((with_reducible refine cV 46 ?_);refine aG rfl 46 (.tmp 4) (.tmp 74) rfl (w.heap.size+1) #[.int .i64 2,.string ⟨#[]⟩,.int .i64 0] rfl rfl _ bR r9.o (bf _ rfl) rfl ct ?_)|fail)
     refine aU (bu bC _ _ (w.heap.size+1) 46 #[.int .i64 2,.string ⟨#[]⟩,.int .i64 0] (0,0) _ rfl (aY _ (w.heap.size+1) _ _ _ _ r9.o) underlying46 rfl (bf _ rfl)) rfl ?_;unfold eG;rw[HR.o];exact⟨rfl,dy HP.o oY.o oT.o (bV _) r9.o eL ag _⟩
    |some s =>
     have HR:=O (show lG p (o.dS hs)=({p with bU:=us.1},⟨1,s,0⟩)by rw[VY.o,yB]);have HBA:=O (show∀U,aB 71 #[.agg #[.string g.user,.string g.pass]] U _ from fun U=>N1 hsc yB (aF ZU.o ag) (aF ZP.o ag));have XM:=O hsc;rw[hsc]at z6;clear yB VY hsc RT hqn hon Ti;go_wp2_with fail
     refine(HBA.o _).mono ?_;rintro e u5⟨rfl,lL⟩;have HU:=O (lL);have HP:=O (show dm base w B cs off v {p with bU:=us.1} u5 from dh iq.o (dm.then ⟨v1,I1.o,F1.o,FT1.o,Ls.o.eJ⟩ HU.o));have r9:=O (HU.o.keep R1.o id);go_wp2_with (first|((with_reducible refine cV 46 ?_);refine aG rfl 46 (.tmp 4) (.tmp 76) rfl (w.heap.size+1) #[.int .i64 1,.string s,.int .i64 0] rfl rfl _ bR r9.o (bf _ rfl) rfl ct ?_)|fail)
     refine aU (bu bC _ _ (w.heap.size+1) 46 #[.int .i64 1,.string s,.int .i64 0] (0,0) _ rfl (aY _ (w.heap.size+1) _ _ _ _ r9.o) underlying46 rfl (bf _ rfl)) rfl ?_;unfold eG;rw[HR.o];exact⟨rfl,dy HP.o oY.o oT.o (bV _) r9.o eL ag _⟩
   ·have t6':(g.a.scheme==1)=false:=aL.2 hsc
    have HC8:=O (show∀U,Fr aS W U->(U.cell? ⟨n,4,none⟩=some (.string g.user)/\U.cell? ⟨n,5,none⟩=some (.string g.pass)/\U.cell? ⟨n,6,none⟩=some (.int .i64 g.a.scheme)/\U.cell? ⟨n,7,none⟩=some (.string g.a.aK)/\U.cell? ⟨n,8,none⟩=some (.string g.a.bq)/\U.cell? ⟨n,9,none⟩=some (.string g.a.cy)/\U.cell? ⟨n,10,none⟩=some (.bool g.a.cA)/\U.cell? ⟨n,11,none⟩=some (.string g.a.eF)/\U.cell? ⟨n,12,none⟩=some (.bool g.a.cN)/\U.cell? ⟨n,13,none⟩=some (.slice ad g.a.dom.length cd)/\U.cell? ⟨n,14,none⟩=some (.int .i64 g.count)/\U.cell? ⟨w.heap.size+2,4,none⟩=some (.bool o.aJ.o.aE)/\U.cell? ⟨w.heap.size+2,5,none⟩=some (.string o.aJ.o.host)/\U.cell? ⟨w.heap.size+2,6,none⟩=some (.int .i64 o.aJ.o.port)/\U.cell? ⟨w.heap.size+2,7,none⟩=some (.string o.aJ.path)/\U.cell? ⟨w.heap.size+2,8,none⟩=some (.string o.aJ.query)/\U.cell? ⟨w.heap.size+2,9,none⟩=some (.string o.aJ.method)/\U.cell? ⟨w.heap.size+2,12,none⟩=some (.string o.aJ.body)/\U.cell? ⟨w.heap.size,18,none⟩=some (.string o.bK))from fun U hU=>by
     have j2:=hU.keep HXB.o id;have j3:=hU.keep Q1.o id;obtain⟨a0,a1,a2,a3,a4,a5,a6,a7,a8,a9,jA,jB,a12,jx,jC,jd,jK,jL,jM,jU,a20,a21⟩:=eh (hU.keep O1.o id) lu.o;refine⟨?_,?_,?_,?_,?_,?_,?_,?_,?_,?_,?_,?_,?_,?_,?_,?_,?_,?_,jM⟩<;>simp[World.cell?,j2,j3])
    have HME:=O (show∀U,aB 73 #[.string o.aJ.method] U _ from fun U=>xL o.aJ.method U (iD HF.o.method ag));have HTG:=O (show∀U,aB 74 #[.agg #[.bool o.aJ.o.aE,.string o.aJ.o.host,.int .i64 o.aJ.o.port,.string o.aJ.path,.string o.aJ.query]] U _ from fun U=>Nk o.aJ.o o.aJ.path o.aJ.query U (iD HF.o.path ag) (iD HF.o.query ag))
    have Ak:=O (show∀U,Fr aS W U->aB 72 #[.agg #[.int .i64 g.a.scheme,.string g.a.aK,.string g.a.bq,.string g.a.cy,.bool g.a.cA,.string g.a.eF,.bool g.a.cN,.slice ad g.a.dom.length cd],.agg #[.string g.user,.string g.pass],.string (jD o.aJ.method),.string (nE o.aJ.path o.aJ.query),.string o.aJ.body,.string o.bK,.int .i64 g.count] U (oQ g.a.scheme g.a.cy ((o.dS hs).Zj g) g.count U)from fun U hU=>VR (o:=o.dS hs) rfl HGS.o (RN _ HF.o.method) (RO _ _ HF.o.path HF.o.query) HF.o.body HF.o.bK (HTW.o.fr hU))
    cases yB:qA g (o.dS hs)with
    |none =>
     have HR:=O (show lG p (o.dS hs)=({p with bU:=uM us.1 g.o g.proxy g.a.aK},rep 2)by rw[VY.o,yB]);have Jc:=O yB;have XM:=O hsc;clear yB VY RT hqn hon Ti hsc;go_wp2_with fail
     go_region_held3 (fun U=>Fr aS W U/\U.cell? ⟨n,4,none⟩=some (.string g.user)/\U.cell? ⟨n,5,none⟩=some (.string g.pass)/\U.cell? ⟨n,6,none⟩=some (.int .i64 g.a.scheme)/\U.cell? ⟨n,7,none⟩=some (.string g.a.aK)/\U.cell? ⟨n,8,none⟩=some (.string g.a.bq)/\U.cell? ⟨n,9,none⟩=some (.string g.a.cy)/\U.cell? ⟨n,10,none⟩=some (.bool g.a.cA)/\U.cell? ⟨n,11,none⟩=some (.string g.a.eF)/\U.cell? ⟨n,12,none⟩=some (.bool g.a.cN)/\U.cell? ⟨n,13,none⟩=some (.slice ad g.a.dom.length cd)/\U.cell? ⟨n,14,none⟩=some (.int .i64 g.count)/\U.cell? ⟨w.heap.size+2,4,none⟩=some (.bool o.aJ.o.aE)/\U.cell? ⟨w.heap.size+2,5,none⟩=some (.string o.aJ.o.host)/\U.cell? ⟨w.heap.size+2,6,none⟩=some (.int .i64 o.aJ.o.port)/\U.cell? ⟨w.heap.size+2,7,none⟩=some (.string o.aJ.path)/\U.cell? ⟨w.heap.size+2,8,none⟩=some (.string o.aJ.query)/\U.cell? ⟨w.heap.size+2,9,none⟩=some (.string o.aJ.method)/\U.cell? ⟨w.heap.size+2,12,none⟩=some (.string o.aJ.body)/\U.cell? ⟨w.heap.size,18,none⟩=some (.string o.bK)) ((refine(fun hU=>⟨hU,HC8.o _ hU⟩) ?_;first|exact az (ae _ _)|assumption))
      ((first
       |(go_at_call 73;refine(HME.o _).mono ?_;rintro e u5 ⟨rfl,lL⟩;have tS:Fr aS W u5:=(by first|exact V1.trans lL|exact(az (ae aS W)).trans lL))
       |(go_at_call 74;refine(HTG.o _).mono ?_;rintro e u6 ⟨rfl,nz⟩;have V1:Fr aS W u6:=(by first|exact tS.trans nz|exact(az (ae aS W)).trans nz))
       |(go_at_call 72;refine(Ak.o _ jS).mono ?_;rintro e u7 QJ;obtain⟨⟨et,evv,rfl⟩,og⟩:=VS XM.o Jc.o QJ;have Lt:Fr aS W u7:=(by first|exact V1.trans og|exact tS.trans og))))
     all_goals as_aux_lemma =>
      have HU:=O (Lt);have Uc:=O (show∀U,Fr (dv v1.b v1.gv v1.wv) u7 U->(U.cell? ⟨B,off,none⟩=some (.pointer (some ⟨v1.b,0,none⟩))/\U.cell? ⟨n,0,none⟩=some (.bool g.o.aE)/\U.cell? ⟨n,1,none⟩=some (.string g.o.host)/\U.cell? ⟨n,2,none⟩=some (.int .i64 g.o.port)/\U.cell? ⟨n,3,none⟩=some (.bool g.proxy)/\U.cell? ⟨n,7,none⟩=some (.string g.a.aK))from fun U hU=>by
       have j1:=(Ls.o.di HU.o).fr hU (fun hb=>I1.o.fg Ls.o.eJ ag (Or.inl hb));have j2:=hU.keep (HU.o.keep HXB.o id) (fun hb=>HNF.o (Or.inl hb));refine⟨j1.cell0,?_,?_,?_,?_,?_⟩<;>simp[World.cell?,j2])
      have S_:=O (show∀U,Fr aS u7 U->aB 75 #[.pointer (some ⟨v1.b,0,none⟩),.agg #[.bool g.o.aE,.string g.o.host,.int .i64 g.o.port],.bool g.proxy,.string g.a.aK] U (vQ base U v1.b v1.gv v1.wv us.1 p.waits (mS g.o g.proxy g.a.aK))from fun U hU=>zw base U v1.b v1.gv v1.wv us.1 p.waits g.o g.proxy g.a.aK ((I1.o.di HU.o).di hU).ot);go_wp2_with fail
      go_region_held3 (fun U=>Fr (dv v1.b v1.gv v1.wv) u7 U/\U.cell? ⟨B,off,none⟩=some (.pointer (some ⟨v1.b,0,none⟩))/\U.cell? ⟨n,0,none⟩=some (.bool g.o.aE)/\U.cell? ⟨n,1,none⟩=some (.string g.o.host)/\U.cell? ⟨n,2,none⟩=some (.int .i64 g.o.port)/\U.cell? ⟨n,3,none⟩=some (.bool g.proxy)/\U.cell? ⟨n,7,none⟩=some (.string g.a.aK)) ((refine(fun hU=>⟨hU,Uc.o _ hU⟩) ?_;first|exact az (ae _ _)|assumption))
       ((first
        |(go_at_call 75;refine(S_.o _ (az (ae _ _))).mono ?_;rintro e u9 ⟨rfl,N4⟩;have VZ:Fr (dv v1.b v1.gv v1.wv) u7 u9:=(az (ae _ _)).trans (by obtain⟨_,_,_,h,_⟩:=N4;exact h))))
      have V0:=eR ((I1.o.di HU.o).di (az (ae aS u7))) ((Ls.o.di HU.o).di (az (ae aS u7))) (I1.o.fg Ls.o.eJ ag) N4;have HP:=O (show dm base w B cs off v {p with bU:=uM us.1 g.o g.proxy g.a.aK} u9 from dh iq.o (gH F1.o FT1.o (dh HU.o (dh (az (ae aS u7)) V0))));have r9:=O (eI (B:=B) (I1.o.di HU.o) (VZ.mono (fun k _ hk=>Or.inr (Or.inl hk))) (HU.o.keep R1.o id) dJ ab);clear V0 N4 VZ Uc S_
      go_wp2_with (first|((with_reducible refine cV 46 ?_);refine aG rfl 46 (.tmp 4) (.tmp 74) rfl (w.heap.size+1) #[.int .i64 2,.string ⟨#[]⟩,.int .i64 0] rfl rfl _ bR r9.o (bf _ rfl) rfl ct ?_)|fail)
      refine aU (bu bC _ _ (w.heap.size+1) 46 #[.int .i64 2,.string ⟨#[]⟩,.int .i64 0] (0,0) _ rfl (aY _ (w.heap.size+1) _ _ _ _ r9.o) underlying46 rfl (bf _ rfl)) rfl ?_;unfold eG;rw[HR.o];exact⟨rfl,dy HP.o oY.o oT.o (bV _) r9.o eL ag _⟩
    |some s =>
     have HR:=O (show lG p (o.dS hs)=({p with bU:=us.1},⟨1,s,0⟩)by rw[VY.o,yB]);have Jc:=O yB;have XM:=O hsc;clear yB VY RT hqn hon Ti hsc;go_wp2_with fail
     go_region_held3 (fun U=>Fr aS W U/\U.cell? ⟨n,4,none⟩=some (.string g.user)/\U.cell? ⟨n,5,none⟩=some (.string g.pass)/\U.cell? ⟨n,6,none⟩=some (.int .i64 g.a.scheme)/\U.cell? ⟨n,7,none⟩=some (.string g.a.aK)/\U.cell? ⟨n,8,none⟩=some (.string g.a.bq)/\U.cell? ⟨n,9,none⟩=some (.string g.a.cy)/\U.cell? ⟨n,10,none⟩=some (.bool g.a.cA)/\U.cell? ⟨n,11,none⟩=some (.string g.a.eF)/\U.cell? ⟨n,12,none⟩=some (.bool g.a.cN)/\U.cell? ⟨n,13,none⟩=some (.slice ad g.a.dom.length cd)/\U.cell? ⟨n,14,none⟩=some (.int .i64 g.count)/\U.cell? ⟨w.heap.size+2,4,none⟩=some (.bool o.aJ.o.aE)/\U.cell? ⟨w.heap.size+2,5,none⟩=some (.string o.aJ.o.host)/\U.cell? ⟨w.heap.size+2,6,none⟩=some (.int .i64 o.aJ.o.port)/\U.cell? ⟨w.heap.size+2,7,none⟩=some (.string o.aJ.path)/\U.cell? ⟨w.heap.size+2,8,none⟩=some (.string o.aJ.query)/\U.cell? ⟨w.heap.size+2,9,none⟩=some (.string o.aJ.method)/\U.cell? ⟨w.heap.size+2,12,none⟩=some (.string o.aJ.body)/\U.cell? ⟨w.heap.size,18,none⟩=some (.string o.bK)) ((refine(fun hU=>⟨hU,HC8.o _ hU⟩) ?_;first|exact az (ae _ _)|assumption))
      ((first
       |(go_at_call 73;refine(HME.o _).mono ?_;rintro e u5 ⟨rfl,lL⟩;have tS:Fr aS W u5:=(by first|exact V1.trans lL|exact(az (ae aS W)).trans lL))
       |(go_at_call 74;refine(HTG.o _).mono ?_;rintro e u6 ⟨rfl,nz⟩;have V1:Fr aS W u6:=(by first|exact tS.trans nz|exact(az (ae aS W)).trans nz))
       |(go_at_call 72;refine(Ak.o _ jS).mono ?_;rintro e u7 QJ;obtain⟨rfl,og⟩:=VT XM.o Jc.o QJ;have Lt:Fr aS W u7:=(by first|exact V1.trans og|exact tS.trans og))))
     all_goals as_aux_lemma =>
      have HU:=O (Lt);have HP:=O (show dm base w B cs off v {p with bU:=us.1} u7 from dh iq.o (dm.then ⟨v1,I1.o,F1.o,FT1.o,Ls.o.eJ⟩ HU.o));have r9:=O (HU.o.keep R1.o id);go_wp2_with (first|((with_reducible refine cV 46 ?_);refine aG rfl 46 (.tmp 4) (.tmp 76) rfl (w.heap.size+1) #[.int .i64 1,.string s,.int .i64 0] rfl rfl _ bR r9.o (bf _ rfl) rfl ct ?_)|fail)
      refine aU (bu bC _ _ (w.heap.size+1) 46 #[.int .i64 1,.string s,.int .i64 0] (0,0) _ rfl (aY _ (w.heap.size+1) _ _ _ _ r9.o) underlying46 rfl (bf _ rfl)) rfl ?_;unfold eG;rw[HR.o];exact⟨rfl,dy HP.o oY.o oT.o (bV _) r9.o eL ag _⟩
