/- Lemmas for the law's walk. -/
import Derived.Test.YtnckmcnffadjoaaGreatDoorPm2
import Derived.Laws.AppendOwnNone
set_option maxRecDepth 100000
set_option maxHeartbeats 16000000
set_option linter.unusedSimpArgs false
namespace Go.Proofs.YtnckmcnffadjoaaGreatDoor
open Go.Proofs.Tryz
open Go.RowKit
variable {p:UInt8->Bool} {k base f:Nat} {x:UInt8} {R:Value->List aj->Prop} {S:dC} {w w':World} {v:Value} {ss:List aj} {s:aj} {ws:List (aI)} {r:Except Nat (List (aI))}
def AH(l:aI):Bool:=l.all fW&&!l.isEmpty
theorem xl{l:aI}(h:l[k]?=some x):(l.take (k+1)).all p=((l.take k).all p&&p x):=by
 rw[cC,h];simp
theorem yT{l:aI}(h:l[k]?=some x)(hp:p x=false):l.all p=false:=by
 rw[jh];exact⟨x,cq h,by simp[hp]⟩
theorem CT(s:aj)(w:World)(hs:s.size<17592186044416) :
  aB 91 #[.string s] w fun e w'=>e=.returned (.bool (AH s.data.toList))/\w=w':=by
 go_enter func91,ntmps91;go_wp2
 go_loop [6] (fun i=>∃k:Nat,k<=s.size/\i=.int .i64 k/\(s.data.toList.take k).all fW=true) (fun i=>s.size-(intOf i).toNat)
 case atStart=>exact⟨0,aQ _,rfl,aR⟩
 case round =>
  obtain⟨k,hk,rfl,iX⟩:=hrel;have J3:=O iX;clear iX;by_cases fo:k<s.size
  ·have dT:=O (byte_at s k fo);generalize hx:s[k]=x at dT;cases e1:fW x
   ·have fg:=O (show AH s.data.toList=false by unfold AH;rw[yT dT.o e1];rfl);go_wp2_with (go_at_call 152;refine(yQ _ _).mono ?_;rintro e w' ⟨rfl,rfl⟩)
    go_ret;rw[fg.o];exact⟨rfl,rfl⟩
   ·have qe:=O (show(s.data.toList.take (k+1)).all fW=true by rw[xl dT.o,J3.o,e1];rfl);go_wp2_with (go_at_call 152;refine(yQ _ _).mono ?_;rintro e w' ⟨rfl,rfl⟩)
    go_round
    case rel=>exact⟨k+1,ab,bg,qe.o⟩
    case measure=>simp[intOf];omega
  ·have Pn:=O (show s.data.toList.all fW=true by have h:=J3.o;rw[aD bI]at h;exact h);go_wp2;go_ret;refine⟨fB ?_,rfl⟩;unfold AH;rw[Pn.o,aO];simp
def sZ(l:aI):aI:=l.flatMap (fun c=>if c==34||c==92 then [92,c]else [c])
def fS(l:aI):aI:=34 :: (sZ l++[34])
theorem Po(l:aI):(sZ l).length<=2*l.length:=by
 induction l with
 |nil=>simp[sZ]
 |cons c l ih=>simp[sZ]at ih ⊢; split<;>simp<;>omega
theorem QF{l:aI}(h:l[k]?=some x):sZ (l.take (k+1))=sZ (l.take k)++(if x==34||x==92 then [92,x]else [x]):=by
 rw[cC,h];simp[sZ]
def n9(l:aI):Bool:=l.all nw
def QG(s:aj)(w:World)(e:Ending)(w':World):Prop :=
 e=.returned (.tuple (if n9 s.data.toList then #[.string ⟨(fS s.data.toList).toArray⟩,.nilIface]else #[.string ⟨#[]⟩,.iface 105 (.int .i64 3)]))/\Fr aS w w'
def ag1(s:aj)(w:World)(v i:Value)(wr:World):Prop :=
 ∃k:Nat,k<=s.size/\i=.int .i64 k/\Bytes w.heap.size wr v (34 :: sZ (s.data.toList.take k))/\Fr aS w wr/\(s.data.toList.take k).all nw=true
theorem FE(s:aj)(w:World)(hs:s.size<17592186044416) :
  aB 100 #[.string s] w (QG s w):=by
 go_enter func100,ntmps100;go_wp2;go_loopw[4,9] (ag1 s w) (fun _ i _=>s.size-(intOf i).toNat)
 case atStart =>
  exact⟨0,aQ _,rfl,Bytes.amZ w 34,(ae _ _).alloc _,aR⟩
 case round =>
  obtain⟨k,hk,rfl,cR,cL,iX⟩:=hrel;have J3:=O iX;clear iX;have iE:w.heap.size<=wr.heap.size:=cL.size;have YL:=O (show(sZ (s.data.toList.take k)).length<=2*k from aG (Po _) (Nat.mul_le_mul_left 2 bI));obtain⟨av,cv,hv⟩:=cR.form;subst hv;by_cases fo:k<s.size
  ·have dT:=O (byte_at s k fo);generalize hx:s[k]=x at dT;cases e1:nw x
   ·have fg:=O (show n9 s.data.toList=false from yT dT.o e1);go_wp2_with (go_at_call 158;refine(pZ _ _).mono ?_;rintro e w' ⟨rfl,rfl⟩)
    go_ret2;refine⟨?_,cL⟩;rw[fg.o];rfl
   ·have qe:=O (show(s.data.toList.take (k+1)).all nw=true by rw[xl dT.o,J3.o,e1];rfl);have QH:=O (QF dT.o);cases e2:x==34
    ·cases e3:x==92
     ·have n1:((x.toNat:Int)==34)=false:=by rw[<-e2];exact uU 34 ag
      have n2:((x.toNat:Int)==92)=false:=by rw[<-e3];exact uU 92 ag
      have T4:=O (show sZ (s.data.toList.take (k+1))=sZ (s.data.toList.take k)++[x]by rw[QH.o,e2,e3];rfl);clear e2 e3
      go_wp2_with (first|(at_builtin;refine kl (o:=⟨some 36,_,_,_,_,_⟩) rfl _ _ rfl w.heap.size (.slice av _ cv) (34 :: sZ (s.data.toList.take k)) rfl (by apply gG;exact cR) ⟨wr.heap.size,0,none⟩ 1 x rfl (jw _ _ _ _) (by have:=YL.o;simp;omega) bI ?_;intro v' w2 fC xk)|(go_at_call 158;refine(pZ _ _).mono ?_;rintro e w' ⟨rfl,rfl⟩))
      go_roundw
      case rel=>exact⟨k+1,ab,bg,by rw[T4.o];exact fC,(cL.alloc _).fR xk cR.block,qe.o⟩
      case measure=>simp[intOf];omega
     ·have n1:((x.toNat:Int)==34)=false:=by rw[<-e2];exact uU 34 ag
      have n2:((x.toNat:Int)==92)=true:=by rw[<-e3];exact uU 92 ag
      have T4:=O (show sZ (s.data.toList.take (k+1))=sZ (s.data.toList.take k)++[92,x]by rw[QH.o];simp only[e2,e3,kq,ef]);clear e2 e3
      go_wp2_with (first|(at_builtin;refine kl (o:=⟨some 30,_,_,_,_,_⟩) rfl _ _ rfl w.heap.size (.slice av _ cv) (34 :: sZ (s.data.toList.take k)) rfl (by apply gG;exact cR) ⟨wr.heap.size,0,none⟩ 1 92 rfl (jw _ _ _ _) (by have:=YL.o;simp;omega) bI ?_;intro v1 w1 rA FF;have qf:wr.heap.size+1<=w1.heap.size:=by simpa using FF.size)|(at_builtin;refine kl (o:=⟨some 36,_,_,_,_,_⟩) rfl _ _ rfl w.heap.size v1 (34 :: sZ (s.data.toList.take k)++[92]) rfl (by apply gG;exact rA) ⟨w1.heap.size,0,none⟩ 1 x rfl (jw _ _ _ _) (by have:=YL.o;simp;omega) bI ?_;intro v' w2 fC xk)|(go_at_call 158;refine(pZ _ _).mono ?_;rintro e w' ⟨rfl,rfl⟩))
      go_roundw
      case rel=>exact⟨k+1,ab,bg,by rw[T4.o];simpa using fC,((((cL.alloc _).fR FF cR.block).alloc _).fR xk rA.block),qe.o⟩
      case measure=>simp[intOf];omega
    ·have n1:((x.toNat:Int)==34)=true:=by rw[<-e2];exact uU 34 ag
     have T4:=O (show sZ (s.data.toList.take (k+1))=sZ (s.data.toList.take k)++[92,x]by rw[QH.o];simp only[e2,Bool.true_or,ef]);clear e2
     go_wp2_with (first|(at_builtin;refine kl (o:=⟨some 30,_,_,_,_,_⟩) rfl _ _ rfl w.heap.size (.slice av _ cv) (34 :: sZ (s.data.toList.take k)) rfl (by apply gG;exact cR) ⟨wr.heap.size,0,none⟩ 1 92 rfl (jw _ _ _ _) (by have:=YL.o;simp;omega) bI ?_;intro v1 w1 rA FF;have qf:wr.heap.size+1<=w1.heap.size:=by simpa using FF.size)|(at_builtin;refine kl (o:=⟨some 36,_,_,_,_,_⟩) rfl _ _ rfl w.heap.size v1 (34 :: sZ (s.data.toList.take k)++[92]) rfl (by apply gG;exact rA) ⟨w1.heap.size,0,none⟩ 1 x rfl (jw _ _ _ _) (by have:=YL.o;simp;omega) bI ?_;intro v' w2 fC xk)|(go_at_call 158;refine(pZ _ _).mono ?_;rintro e w' ⟨rfl,rfl⟩))
     go_roundw
     case rel=>exact⟨k+1,ab,bg,by rw[T4.o];simpa using fC,((((cL.alloc _).fR FF cR.block).alloc _).fR xk rA.block),qe.o⟩
     case measure=>simp[intOf];omega
  ·have Pn:=O (show s.data.toList.take k=s.data.toList from aD bI)
   go_wp2_with (at_builtin;refine kl (o:=⟨some 40,_,_,_,_,_⟩) rfl _ _ rfl w.heap.size (.slice av _ cv) (34 :: sZ (s.data.toList.take k)) rfl (by apply gG;exact cR) ⟨wr.heap.size,0,none⟩ 1 34 rfl (jw _ _ _ _) (by have:=YL.o;simp;omega) bI ?_;intro v1 w1 rA FF;obtain⟨a1,c1,EZ⟩:=rA.form;subst EZ;have ht1:=rA.text;simp only[aN,List.length_cons,List.length_nil,bw]at ht1)
   go_ret2;refine⟨?_,(cL.alloc _).fR FF cR.block⟩;have ag2:n9 s.data.toList=true:=by rw[<-Pn.o];exact J3.o
   rw[az ag2,Pn.o];rfl
abbrev bE:=List aj
structure gA where
 aE:Bool
 host:aj
 port:Int
def gA.cells(o:gA):aX:=[.bool o.aE,.string o.host,.int .i64 o.port]
structure fK (D:Type) where
 scheme:Int
 aK:aj
 bq:aj
 cy:aj
 cA:Bool
 eH:aj
 cN:Bool
 dom:D
def fK.cells(a:fK Value):aX:=[.int .i64 a.scheme,.string a.aK,.string a.bq,.string a.cy,.bool a.cA,.string a.eH,.bool a.cN,a.dom]
structure aP (D:Type) where
 o:gA
 proxy:Bool
 user:aj
 pass:aj
 a:fK D
 count:Int
 paths:D
def aP.cells(g:aP Value):aX :=
 [.bool g.o.aE,.string g.o.host,.int .i64 g.o.port,.bool g.proxy,.string g.user,.string g.pass,
  .int .i64 g.a.scheme,.string g.a.aK,.string g.a.bq,.string g.a.cy,.bool g.a.cA,.string g.a.eH,.bool g.a.cN,g.a.dom,.int .i64 g.count,g.paths]
def fK.Reads(R:Value->List aj->Prop)(r:fK Value)(a:fK (List aj)):Prop :=
 r.scheme=a.scheme/\r.aK=a.aK/\r.bq=a.bq/\r.cy=a.cy/\r.cA=a.cA/\r.eH=a.eH/\r.cN=a.cN/\R r.dom a.dom
def aP.Reads(R:Value->List aj->Prop)(r:aP Value)(g:aP (List aj)):Prop :=
 r.o=g.o/\r.proxy=g.proxy/\r.user=g.user/\r.pass=g.pass/\r.a.Reads R g.a/\r.count=g.count/\R r.paths g.paths
theorem fK.Reads.mono{S:Value->List aj->Prop}{r:fK Value}{a:fK (List aj)}(h:r.Reads R a)(hs:∀v l,R v l->S v l):r.Reads S a :=
 ⟨h.1,h.2.1,h.2.2.1,h.2.2.2.1,h.2.2.2.2.1,h.2.2.2.2.2.1,h.2.2.2.2.2.2.1,hs _ _ h.2.2.2.2.2.2.2⟩
theorem aP.Reads.mono{S:Value->List aj->Prop}{r:aP Value}{g:aP (List aj)}(h:r.Reads R g)(hs:∀v l,R v l->S v l):r.Reads S g :=
 ⟨h.1,h.2.1,h.2.2.1,h.2.2.2.1,h.2.2.2.2.1.mono hs,h.2.2.2.2.2.1,hs _ _ h.2.2.2.2.2.2⟩
def gA.lj(a b:gA):Bool:=a.aE==b.aE&&(a.host.toList==b.host.toList&&a.port==b.port)
theorem toList_inj{a b:aj}:a.toList=b.toList↔a=b:=by
 constructor
 ·intro h;rw[Go.ByteArray.toList_eq,Go.ByteArray.toList_eq]at h;exact Go.WideShapes.bytes_inj h
 ·intro h;rw[h]
theorem gA.wO(a b:gA):a.lj b=true↔a=b:=by
 obtain⟨s,h,p⟩:=a;obtain⟨s',h',p'⟩:=b;simp only[gA.lj,cF,dW,gA.mk.injEq,toList_inj]
theorem jA(a b:gA)(w:World):(binOp .eql 32 (.agg #[.bool a.aE,.string a.host,.int .i64 a.port]) (.agg #[.bool b.aE,.string b.host,.int .i64 b.port])).run prog w=.ok (.bool (a.lj b)) w:=by
 go_simp;by_cases h1:a.aE=b.aE<;>by_cases h2:a.host.toList=b.host.toList<;>by_cases h3:a.port=b.port<;>simp[gA.lj,h1,h2,h3]
theorem BH(a b:gA)(w:World):(binOp .neq 32 (.agg #[.bool a.aE,.string a.host,.int .i64 a.port]) (.agg #[.bool b.aE,.string b.host,.int .i64 b.port])).run prog w=.ok (.bool (!a.lj b)) w:=by
 go_simp;by_cases h1:a.aE=b.aE<;>by_cases h2:a.host.toList=b.host.toList<;>by_cases h3:a.port=b.port<;>simp[gA.lj,h1,h2,h3]
def cB(x:aX)(i:Nat):Bool:=match x[i]? with|some (.bool b)=>b|_=>false
def cS(x:aX)(i:Nat):aj:=match x[i]? with|some (.string s)=>s|_=>ByteArray.empty
def cI(x:aX)(i:Nat):Int:=match x[i]? with|some (.int _ n)=>n|_=>0
def ag6(x:aX):gA:=⟨cB x 0,cS x 1,cI x 2⟩
theorem Hq:∀(l:aI) (c:UInt8),¬0<=Lib.indexByte l c↔ ∀x∈l,x≠c
 |[],c=>by simp[Lib.indexByte]
 |x :: l,c=>by
  have ih:=Hq l c;have hge:=Lib.indexByte_ge l c;show¬0<=(if x==c then(0:Int)else if Lib.indexByte l c== -1 then -1 else Lib.indexByte l c+1)↔_;by_cases hx:x=c
  ·subst hx;simp
  ·rw[aq (by simpa using hx)];by_cases h1:Lib.indexByte l c= -1
   ·rw[az (by simpa using h1)];constructor
    ·intro _ y hy;rcases bB.1 hy with rfl|hy
     ·exact hx
     ·exact ih.1 (by rw[h1];decide) y hy
    ·intro _;decide
   ·rw[aq (by simpa using h1)];constructor
    ·intro h;omega
    ·intro h;have:=ih.2 (fun y hy=>h y (bQ _ hy));omega
theorem Ke(s:aj)(c:UInt8)(i:Nat)(w:World)(hs:s.size<4398046511104)(hi:Lib.indexByte s.data.toList c=(i:Int))(hl:i<s.size) :
  aB 127 #[.string s,.string ⟨#[c]⟩] w fun e w'=>e=.returned (.tuple #[.string (s.extract 0 i),.string (s.extract (i+1) s.size),.bool true])/\∃n,w'=w.drewN n:=by
 have XS:aB 186 #[.string s,.string ⟨#[c]⟩] w fun e w'=>e=.returned (.tuple #[.string (s.extract 0 i),.string (s.extract (i+1) s.size),.bool true])/\∃n,w'=w.drewN n:=by
  have q0:(0:Int)<=(i:Int):=ab;have q1:(i:Int)<=(s.size:Int):=ab;have q2:(i:Int)+1<=(s.size:Int):=ab;have q3:(0:Int)<=(i:Int)+1:=ab;go_enter func186,ntmps186;go_wp2_with fail
  refine(stringslite_Index_one s c w).mono ?_;rintro e w1⟨rfl,rfl⟩;rw[hi];go_wp2;go_quiet (fail);go_wp2
  go_ret3
  exact⟨rfl,_,rfl⟩
 go_enter func127,ntmps127;go_wp2_with fail
 refine XS.mono ?_;rintro e w1⟨rfl,n,rfl⟩;go_wp2
 go_ret3
 exact⟨rfl,n,rfl⟩
theorem FP(s:aj)(c:UInt8)(w:World)(hi:¬0<=Lib.indexByte s.data.toList c) :
  aB 127 #[.string s,.string ⟨#[c]⟩] w fun e w'=>e=.returned (.tuple #[.string s,.string ⟨#[]⟩,.bool false])/\w'=w:=by
 have XS:aB 186 #[.string s,.string ⟨#[c]⟩] w fun e w'=>e=.returned (.tuple #[.string s,.string ⟨#[]⟩,.bool false])/\w'=w:=by
  go_enter func186,ntmps186;go_wp2_with fail
  refine(stringslite_Index_one s c w).mono ?_;rintro e w1⟨rfl,rfl⟩;go_wp2
  go_ret3
  exact⟨rfl,rfl⟩
 go_enter func127,ntmps127;go_wp2_with fail
 refine XS.mono ?_;rintro e w1⟨rfl,rfl⟩;go_wp2
 go_ret3
 exact⟨rfl,rfl⟩
open Go.RowKit Go.Sort
def ur(ls:List (aI)):List (aI):=ls.mergeSort fun x y=>decide (x<=y)
theorem Uf(base:Nat)(v:Value)(ls:List (aI))(w:World)(h:w.ownsRow base 9 1 v ls.length (ls.map encStr))(hl:ls.length<1000000) :
  aB 182 #[v] w fun e w'=>e=.returned (.tuple #[])/\w'.ownsRow base 9 1 v ls.length ((ur ls).map encStr)/\w.grownBy w' v.ownBlock:=by
 rcases h.2 with ⟨rfl,h0⟩|⟨g,cap,cur,rfl,iE,hb,h1,h2,h3,h4⟩
 ·obtain rfl:ls=[]:=dH.1 h0;refine(slices_Sort_string_none none 0 w).mono ?_;rintro e w'⟨rfl,rfl⟩;exact⟨rfl,by rw[show ur []=[]by simp[ur]];exact h,⟨rfl,rfl,rfl,ay _,fun _ _ _=>rfl⟩⟩
 ·refine(slices_Sort_string g 0 cap ls w (holds_of_block hb (by simpa using h4)) (bj hb) ab).mono ?_;rintro e w'⟨rfl,n,os,rfl⟩;exact⟨rfl,ownsRow_sorted aR iE hb h1 h2 h3,grownBy_sorted _⟩
theorem Kg(base:Nat)(v:Value)(ls:List (aI))(w:World)(h:w.ownsRow base 9 1 v ls.length (ls.map encStr))(hl:ls.length<1000000) :
  aB 183 #[v] w fun e w'=>∃u,e=.returned u/\w'.ownsRow base 9 1 u (Lib.compact ls).length ((Lib.compact ls).map encStr)/\w.grownBy w' v.ownBlock:=by
 rcases h.2 with ⟨rfl,h0⟩|⟨g,cap,cur,rfl,iE,hb,h1,h2,h3,h4⟩
 ·obtain rfl:ls=[]:=dH.1 h0;refine(slices_Compact_string_empty none 0 w).mono ?_;rintro e w'⟨rfl,rfl⟩;exact⟨_,rfl,h,⟨rfl,rfl,rfl,ay _,fun _ _ _=>rfl⟩⟩
 ·refine(slices_Compact_string g 0 cap ls w (holds_of_block hb (by simpa using h4)) ab h1).mono ?_;have hle:=Lib.compact_length_le ls;obtain⟨ts,hts⟩:∃ts:List (aI),ts=Lib.compact ls++List.replicate (ls.length-(Lib.compact ls).length) []:=⟨_,rfl⟩;have hlen:ts.length=ls.length:=by rw[hts,aN,fj];omega
  rw[<-hts];rintro e w'⟨rfl,q,rfl⟩;have hw:=heap_sorted (n:=q) (os:= #[]) ts.toArray hb;have hg:=grownBy_sorted (w:=w) (g:=g) (n:=q) (os:= #[]) ts.toArray;rw[grow_empty]at hw hg;have tk:=take_putCells cur ts ab;refine⟨_,rfl,⟨aR,.inr ⟨g,cap,_,rfl,iE,hw,ab,h2,by simp[putCells,h3],?_⟩⟩,hg⟩
  have e1:(putCells encStr 0 ts.toArray cur).toList.take (Lib.compact ls).length=((putCells encStr 0 ts.toArray cur).toList.take ts.length).take (Lib.compact ls).length:=by
   rw[kz,dP ab]
  rw[Nat.mul_one,e1,tk,hts,bG,List.take_left' aR]
def Sep(w:World)(v v':Value):Prop:=v'.ownBlock=v.ownBlock\/∀k,v'.ownBlock=some k->w.heap.size<=k
theorem C8{P:Program}(w:World)(base:Nat)(t ty e:TypeId)(i:TypeInfo)(z:Value)(size bytes:Nat)(ht:P.underlying t=some (.slice e))(hi:P.info? e=some i)(hz:i.zero=some z)
  (FV:i.size=size)(qW:i.bytes=bytes)(hzs:z.cells.size=size)(yG:0<size)
  (v:Value)(n:Nat)(xs:aX)(cR:w.ownsRow base e size v n xs)
  (a:Addr)(m c:Nat)(news:aX)(hl:news.length=m*size)(kJ:∀j u,news[j]?=some u->w.cell? (a.add j)=some u)(h1:∀u∈news,u.oneCell'=true)
  (h63:n+m<=maxLen)(C9:(n+m)*bytes<=140737488355328)(iE:base<=w.heap.size) :
  ∃v' w',(Builtin.append_ #[t,t] ty #[v,.slice (some a) m c]).run P w=.ok v' w'/\w'.ownsRow base e size v' (n+m) (xs++news)/\w.grownBy w' v.ownBlock/\Sep w v v':=by
 obtain⟨v',w',hr,h2,h3,_⟩:=run_append_own (P:=P) w base t ty e i z size bytes ht hi hz FV qW hzs yG v n xs cR a m c news hl kJ h1 h63 C9 iE;refine⟨v',w',hr,h2,h3,?_⟩;rcases cR.2 with ⟨rfl,rfl⟩|⟨g,cap,cur,rfl,hbg,hg,hnc,hcm,hcs,rE⟩
 ·have hx:xs=[]:=cj (by simpa using cR.1);subst hx;obtain⟨v2,w2,ot,h22,_,_⟩:=run_append_own (P:=P) w w.heap.size t ty e i z size bytes ht hi hz FV qW hzs yG (.slice none 0 0) 0 [] (World.ownsRow_nil _ _ _ _) a m c news hl kJ h1 h63 C9 (ay _);rw[hr]at ot;injection ot with e1 e2
  subst e1;exact Or.inr fun k hk=>(h22.lt k hk).1
 ·by_cases abv:n+m<=cap
  ·subst FV;have td:n*i.size+news.length<=cur.size:=by rw[hl,hcs, <-dF];exact bP _ abv
   have ot:=run_append_room (P:=P) w t ty e i ht hi g n cap cur hg a m c news hl kJ h1 abv td;rw[hr]at ot;injection ot with e1 e2
   subst e1;exact Or.inl rfl
  ·subst FV;subst qW;have Hs:n+m<=9223372036854775807:=by simp only[maxLen]at h63;omega
   have holds:∀j u,xs[j]?=some u->w.cell? ((⟨g,0,none⟩:Addr).add j)=some u:=cR.cells (g:=g) rfl;have ot:=run_append_grow (P:=P) w t ty e i z ht hi hz ⟨g,0,none⟩ n cap xs cR.1 holds a m c news hl kJ ab ab (growslice_fits ab C9);rw[hr]at ot;injection ot with e1 e2
   subst e1;exact Or.inr fun k hk=>by simp[Value.ownBlock]at hk;omega
theorem zc{P:Program}{w:World}{ops:Array Oper}{rest:List Oper}{o:Oper}{a:Act}{Q:Exit->Act->World->Prop}(yN:o.guard=none)(s x:Operand)(t:TypeId)
  (ho:o.op=.call {callee:=.builtin .append,args:= #[s,x],argTypes:= #[t,t]})
  (base:Nat)(e:TypeId)(i:TypeInfo)(z:Value)(size bytes:Nat)(ht:P.underlying t=some (.slice e))(hi:P.info? e=some i)(hz:i.zero=some z)
  (FV:i.size=size)(qW:i.bytes=bytes)(hzs:z.cells.size=size)(yG:0<size)
  (v:Value)(n:Nat)(xs:aX)(hs:a.eval s=v)(cR:w.ownsRow base e size v n xs)
  (ad:Addr)(m c:Nat)(news:aX)(hx:a.eval x=.slice (some ad) m c)(hl:news.length=m*size)(kJ:∀j u,news[j]?=some u->w.cell? (ad.add j)=some u)(h1:∀u∈news,u.oneCell'=true)
  (h63:n+m<=maxLen)(C9:(n+m)*bytes<=140737488355328)(iE:base<=w.heap.size)
  (h:∀v' w',w'.ownsRow base e size v' (n+m) (xs++news)->w.grownBy w' v.ownBlock->Sep w v v'->wpList P ops Q rest (a.put o.dst v') w'):wpList P ops Q (o :: rest) a w :=
 wpList_plain yN fun _ hK=>by
  obtain⟨v',w',hr,h2,h3,h4⟩:=C8 (P:=P) w base t o.type e i z size bytes ht hi hz FV qW hzs yG v n xs cR ad m c news hl kJ h1 h63 C9 iE;unfold Oper.wp execOp;simp only[ho,resolve,invoke,builtin,Sem.run_bind,Sem.run_pure,Result.andThen_ok,eF,cE,dt,hs,hx,hr];exact hK _ _ (h v' w' h2 h3 h4)
theorem BJ{ops:Array Oper}{rest:List Oper}{o:Oper}{a:Act}{Q:Exit->Act->World->Prop}{w:World}(yN:o.guard=none)(s x:Operand)
  (ho:o.op=.call {callee:=.builtin .append,args:= #[s,x],argTypes:= #[110,110]})(base:Nat)(v:Value)(l:List aj)(hs:a.eval s=v)(cR:Strs base w v l)
  (ad:Addr)(c:Nat)(y:aj)(hx:a.eval x=.slice (some ad) 1 c)(hy:w.cell? ad=some (.string y))(hlen:l.length<4398046511104)(iE:base<=w.heap.size)
  (h:∀v' w',Strs base w' v' (l++[y])->w.grownBy w' v.ownBlock->Sep w v v'->wpList prog ops Q rest (a.put o.dst v') w'):wpList prog ops Q (o :: rest) a w:=by
 obtain⟨i0,hi,po,k_,lp⟩:=info_parts yP;refine zc yN s x 110 ho base 9 i0 (.string ⟨#[]⟩) 1 16 underlying110 hi po k_ lp rfl ag v l.length (l.map Value.string) hs cR ad 1 c [.string y] hx rfl ?_ ?_ ?_ ?_ iE ?_
 ·intro j u hj
  match j,hj with
  |0,hj=>simp at hj;subst hj;simpa[Addr.add]using hy
 ·intro u hu;simp at hu;subst hu;rfl
 ·unfold maxLen;omega
 ·omega
 ·intro v' w' h1 h2 h3;exact h v' w' (by unfold Strs;simpa using h1) h2 h3
theorem Kh{ops:Array Oper}{rest:List Oper}{o:Oper}{a:Act}{Q:Exit->Act->World->Prop}{w:World}(yN:o.guard=none)(s x:Operand)
  (ho:o.op=.call {callee:=.builtin .append,args:= #[s,x],argTypes:= #[110,110]})(base:Nat)(v:Value)(l:List aj)(hs:a.eval s=v)(cR:Strs base w v l)
  (vx:Value)(m:List aj)(hx:a.eval x=vx)(hm:fP w vx m)(hlen:l.length+m.length<4398046511104)(iE:base<=w.heap.size)
  (h:∀v' w',Strs base w' v' (l++m)->w.grownBy w' v.ownBlock->wpList prog ops Q rest (a.put o.dst v') w'):wpList prog ops Q (o :: rest) a w:=by
 obtain⟨i0,hi,po,k_,lp⟩:=info_parts yP;obtain⟨ax,cx,fJ⟩:=hm.form;cases ax with
 |none =>
  obtain⟨YO,h2⟩:m=[]/\cx=0:=by
   rcases hm with ⟨a',c',hv,hs,hc⟩|⟨bk,o',c,hf,_⟩
   ·rw[fJ]at hv;injection hv with e1 e2 e3
    exact⟨hs,e3.trans (hc e1.symm)⟩
   ·rw[fJ]at hf;injection hf with e1;cases e1
  subst YO;have Ug:a.eval x=.slice none 0 0:=by rw[hx,fJ,h2];rfl
  refine wpList_append_own_none yN s x 110 ho base 9 i0 1 underlying110 hi v l.length (l.map Value.string) hs cR Ug ?_;exact h v w (by rw[dV];exact cR) ⟨rfl,rfl,rfl,ay _,fun _ _ _=>rfl⟩
 |some ad =>
  refine wpList_append_own w yN s x 110 ho base 9 i0 (.string ⟨#[]⟩) 1 16 underlying110 hi po k_ lp rfl ag v l.length (l.map Value.string) hs cR ad m.length cx (m.map Value.string) (hx.trans fJ) aR ?_ ?_ ?_ ?_ iE ?_
  ·intro j u hj;rcases hm with ⟨_,_,_,e,_⟩|⟨bk,o',c,hf,g1,g2,g3,g4⟩
   ·subst e;simp at hj
   ·rw[hf]at fJ;cases fJ;obtain⟨y,hy,rfl⟩:∃y,m[j]?=some y/\Value.string y=u:=by
     rw[List.getElem?_map]at hj;cases hmj:m[j]? with
     |none=>rw[hmj]at hj;cases hj
     |some y=>rw[hmj]at hj;exact⟨y,rfl,by simpa using hj⟩
    have ea:(Addr.add ⟨bk,o',none⟩ j)=⟨bk,o'+j,none⟩:=by unfold Addr.add;split<;>simp_all
    rw[ea];exact g4 j y hy
  ·intro u hu;obtain⟨y,_,rfl⟩:=b_.1 hu;rfl
  ·unfold maxLen;omega
  ·omega
  ·intro v' w' h1 h2 _;exact h v' w' (by unfold Strs;simpa using h1) h2
def Still(base:Nat)(w:World)(k:Nat):Prop:=k<base\/∃c f,w.heap[k]?=some (.cells c 9 f)
def rY(base:Nat)(w:World)(S:dC):Prop:=∀k,S k->k<w.heap.size->base<=k/\∀c f,w.heap[k]?≠some (.cells c 9 f)
theorem rY.none(base:Nat)(w:World):rY base w aS:=fun _ h=>absurd h id
theorem Still.fr(h:Still base w k)(hf:Fr S w w')(ho:rY base w S):Still base w' k:=by
 rcases h with h|⟨c,f,h⟩
 ·exact Or.inl h
 ·exact Or.inr ⟨c,f,hf.keep h (fun hs=>(ho k hs (bj h)).2 c f h)⟩
structure dv (base:Nat) (w:World) (v:Value) (ss:List aj):Prop where
 rd:fP w v ss
 own:∀k,v.ownBlock=some k->ss≠ []->k<w.heap.size/\Still base w k
 tP:ss.length<4398046511104
theorem fP.empty(h:fP w v []):fP w' v []:=by
 rcases h with h|⟨bk,o,c,hv,_⟩
 ·exact Or.inl h
 ·exact Or.inl ⟨_,_,hv,rfl,fun e=>by cases e⟩
theorem dv.fr(h:dv base w v ss)(hf:Fr S w w')(ho:rY base w S):dv base w' v ss:=by
 refine⟨?_,fun k hk hs=>⟨cP (h.own k hk hs).1 hf.size,(h.own k hk hs).2.fr hf ho⟩,h.tP⟩;by_cases he:ss=[]
 ·subst he;exact h.rd.empty
 refine h.rd.fr hf (fun k hk hs=>?_);obtain⟨hl,ir⟩:=h.own k hk he;have rZ:=ho k hs hl;rcases ir with g|⟨c,f,g⟩
 ·omega
 ·exact rZ.2 c f g
theorem dv.dm(h:dv base w v ss)(hf:Fr aS w w'):dv base w' v ss:=h.fr hf (rY.none _ _)
theorem dv.nil(base:Nat)(w:World):dv base w (.slice none 0 0) []:=⟨fP.nil w,fun k hk=>by simp[Value.ownBlock]at hk,aR⟩
theorem Strs.in{base b:Nat}(h:Strs b w v ss)(hl:ss.length<4398046511104):dv base w v ss:=by
 refine⟨h.at,fun k hk _=>?_,hl⟩;rcases h.2 with ⟨hv,_⟩|⟨g,cap,cur,hv,hg,hh,_⟩
 ·rw[hv]at hk;simp[Value.ownBlock]at hk
 ·rw[hv]at hk;simp[Value.ownBlock]at hk;subst hk;exact⟨bj hh,Or.inr ⟨_,_,hh⟩⟩
inductive lg {α β:Type} (R:α->β->Prop):List α->List β->Prop
 |nil:lg R [] []
 |cons {a b l m}:R a b->lg R l m->lg R (a :: l) (b :: m)
namespace lg
variable {α β : Type} {R T : α → β → Prop} {l l' : List α} {m m' : List β}
theorem len(h:lg R l m):l.length=m.length:=by induction h with
 |nil=>rfl
 |cons _ _ ih=>simp[ih]
theorem mono(h:lg R l m)(hs:∀a b,R a b->T a b):lg T l m:=by induction h with
 |nil=>exact .nil
 |cons h _ ih=>exact .cons (hs _ _ h) ih
theorem get(h:lg R l m){i:Nat}{a:α}(hi:l[i]?=some a):∃b,m[i]?=some b/\R a b:=by
 induction h generalizing i with
 |nil=>simp at hi
 |cons h _ ih =>
  cases i with
  |zero=>simp at hi;subst hi;exact⟨_,rfl,h⟩
  |succ i=>simpa using ih (by simpa using hi)
theorem app(h:lg R l m)(h':lg R l' m'):lg R (l++l') (m++m'):=by induction h with
 |nil=>exact h'
 |cons h _ ih=>exact .cons h ih
theorem take(h:lg R l m)(n:Nat):lg R (l.take n) (m.take n):=by
 induction h generalizing n with
 |nil=>simp;exact .nil
 |cons h _ ih=>cases n with
  |zero=>exact .nil
  |succ n=>exact .cons h (ih n)
theorem drop(h:lg R l m)(n:Nat):lg R (l.drop n) (m.drop n):=by
 induction h generalizing n with
 |nil=>simp;exact .nil
 |cons h t ih=>cases n with
  |zero=>exact .cons h t
  |succ n=>exact ih n
theorem filter(h:lg R l m){p:α->Bool}{q:β->Bool}(hpq:∀a b,R a b->p a=q b):lg R (l.filter p) (m.filter q):=by
 induction h with
 |nil=>exact .nil
 |cons h _ ih =>
  rw[List.filter_cons,List.filter_cons,hpq _ _ h];split
  ·exact .cons h ih
  ·exact ih
end lg
theorem Fr.setRow{a w:World}(h:Fr S a w){g:Nat}(hg:g<a.heap.size->S g)(cs:bS):Fr S a (w.setRow g cs) :=
 ⟨h.os,h.tape,h.output,by simpa[World.setRow]using h.size,fun k hk hn=>by
  rw[<-h.block k hk hn];simp only[World.setRow,Array.getElem?_modify];by_cases e:g=k
  ·subst e;exact absurd (hg hk) hn
  ·simp[e]⟩
def own(v:Value):dC:=fun k=>v.ownBlock=some k
theorem OwnRows.off{base b k:Nat}{e:TypeId}{xs:cZ}(h:OwnRows b e k w v xs)(hb:base<=b)(he:e≠9):rY base w (own v):=by
 intro g hg _;obtain⟨cap,cur,_,h1,h2,_⟩:=h.open hg;exact⟨aG hb h1,fun c f e2=>by rw[h2]at e2;cases e2;exact he rfl⟩
theorem Fr.PD(o:Obj)(h:(w.alloc o).grownBy w' v.ownBlock):Fr (own v) w w' :=
 ((ae (own v) w).alloc o).grown h (fun _ hk _=>hk)
abbrev fE := @rY.none
open Go.RowKit
def kL:Nat->Nat->aI
 |0,_=>[]
 |k+1,n=>kL k (n/16)++[Dl (n%16).toUInt8]
theorem nS:∀k n,(kL k n).length=k
 |0,_=>rfl
 |k+1,n=>by rw[kL,aN,nS k];rfl
theorem BO:∀j n,Dl (n/16^j%16).toUInt8 :: kL j n=kL (j+1) n
 |0,n=>by simp[kL]
 |j+1,n=>by
  have h:=BO j (n/16);rw[Nat.div_div_eq_div_mul,show 16*16^j=16^(j+1)from by rw[Nat.pow_succ];omega]at h;show _ :: (kL j (n/16)++[_])=kL (j+1) (n/16)++[_];rw[<-h];rfl
theorem BP:∀d,kL d 0=List.replicate d 48
 |0=>rfl
 |d+1=>by
  rw[kL,show(0:Nat)/16=0 from rfl,BP d,List.replicate_succ'];rfl
theorem Dn:∀k d n,n<16^k->List.replicate d 48++kL k n=kL (k+d) n
 |0,d,n,h=>by
  obtain rfl:n=0:=by simpa using h
  rw[bw,BP d];exact dV _
 |k+1,d,n,h=>by
  have h2:n/16<16^k:=by rw[Nat.pow_succ]at h;omega
  rw[show k+1+d=(k+d)+1 from ab,kL,kL, <-Dn k d (n/16) h2,cK]
def jD(n:Nat):aI:=kL 8 n
def Du(dQ:Bool)(x:Int)(i:Nat):UInt8:=if dQ then(x/2^(8*i)%256).toNat.toUInt8 else(x/2^(24-8*i)%256).toNat.toUInt8
def ql(dQ:Bool)(x:Int):aI:=(List.range 4).map (Du dQ x)
def kX(dQ:Bool)(ws:List Int):aI:=ws.flatMap (ql dQ)
def oN(dQ:Bool)(ws:List Int):aI:=x_ (kX dQ ws)
theorem tT(dQ:Bool)(x:Int):(ql dQ x).length=4:=by simp[ql]
theorem Dv(dQ:Bool)(x:Int)(j:Nat)(hj:j<4):(ql dQ x).take (j+1)=(ql dQ x).take j++[Du dQ x j]:=by
 have hg:(ql dQ x)[j]?=some (Du dQ x j):=by simp[ql,hj]
 rw[cC,hg];rfl
theorem od(dQ:Bool)(ws:List Int):(kX dQ ws).length=4*ws.length:=by
 unfold kX
 induction ws with
 |nil=>rfl
 |cons a l ih=>rw[List.flatMap_cons,aN,tT,ih,List.length_cons];omega
theorem zp(dQ:Bool){ws:List Int}{x:Int}(h:ws[k]?=some x):kX dQ (ws.take (k+1))=kX dQ (ws.take k)++ql dQ x:=by
 rw[cC,h];simp[kX]
theorem KA(x:Int)(e:Nat):(((x/2^e%256).toNat.toUInt8.toNat:Nat):Int)=x/2^e%256:=by
 have h1:=Int.emod_nonneg (x/2^e) (show(256:Int)≠0 from ag);have h2:=Int.emod_lt_of_pos (x/2^e) (show(0:Int)<256 from ag);generalize x/2^e%256=y at *
 rw[show y.toNat.toUInt8.toNat=y.toNat from by simp[Nat.toUInt8];omega];omega
def abO(dQ:Bool)(ws:List Int)(w:World)(v i:Value)(wr:World):Prop:=∃k:Nat,k<=ws.length/\i=.int .i64 k/\Bytes w.heap.size wr v (kX dQ (ws.take k))/\Fr aS w wr
def ahs(dQ:Bool)(pre:aI)(x:Int)(w:World)(v i:Value)(wr:World):Prop:=∃j:Nat,j<=4/\i=.int .i64 j/\Bytes w.heap.size wr v (pre++(ql dQ x).take j)/\Fr aS w wr
theorem BQ(g:Nat)(ws:List Int)(dQ:Bool)(w:World)(hl:ws.length<=8)(hg:g<w.heap.size)(hc:∀(j:Nat) x,ws[j]?=some x->w.cell? ⟨g,j,none⟩=some (.int .u32 x))(hx:∀x∈ws,0<=x/\x<4294967296) :
  aB 241 #[.slice (some ⟨g,0,none⟩) ws.length ws.length,.bool dQ] w fun e w'=>e=.returned (.string ⟨(oN dQ ws).toArray⟩)/\Fr aS w w':=by
 have HC:=O hc;have HX:=O hx;clear hc hx;cases dQ
 all_goals
  go_enter func241,ntmps241;go_wp2
 ·go_loopw[5,11] (abO false ws w) (fun _ i _=>ws.length-(intOf i).toNat)
  case atStart=>exact⟨0,aQ _,rfl,Bytes.nil _ _,ae _ _⟩
  case round =>
   obtain⟨k,hk,rfl,cR,cL⟩:=hrel;by_cases fo:k<ws.length
   ·have dT:=O (List.getElem?_eq_getElem fo);obtain⟨x0,x1⟩:=HX.o _ (bN fo);have hcell:wr.cell? ⟨g,k,none⟩=some (.int .u32 ws[k]):=(cL.cell (p:=⟨g,k,none⟩) hg id).trans (HC.o k _ dT.o);generalize ws[k]=x at *
    have Jp:=O (zp false dT.o);have EN:=O (show(kX false (ws.take k)).length<=32 by rw[od,aM];omega);generalize kX false (ws.take k)=pre at *
    obtain⟨av,cv,hv⟩:=cR.form;subst hv;go_wp2;clear hcell;go_loopw[5,15] (ahs false pre x w) (fun _ i _=>4-(intOf i).toNat)
    case atStart=>exact⟨0,ab,rfl,by simpa using cR,cL⟩
    case round =>
     obtain⟨j,hj,rfl,fC,jq⟩:=hrel;have iE:w.heap.size<=wr.heap.size:=jq.size;obtain⟨av,cv,hv⟩:=fC.form;subst hv;by_cases hj4:j<4
     ·have FU:(j:Int)<4:=ab;have j6:=O (Dv false x j hj4);have qW:x/2^(24-8*j)%256=((Du false x j).toNat:Int):=(KA x (24-8*j)).symm;generalize Du false x j=c at *
      have UE:=O (show(pre++(ql false x).take j).length<100 by rw[aN,aM,tT];have:=EN.o;omega);go_wp2_with (at_builtin;refine kl rfl _ _ rfl w.heap.size (.slice av _ cv) (pre++(ql false x).take j) rfl (by apply gG;exact fC) ⟨wr.heap.size,0,none⟩ 1 c rfl (jw _ _ _ _) (by have:=UE.o;omega) bI ?_;intro v' w2 fu xk)
      go_roundw
      case rel=>exact⟨j+1,ab,bg,by rw[j6.o, <-cK];exact fu,(jq.alloc _).fR xk fC.block⟩
      case measure=>simp[intOf];omega
     ·have hj5:j=4:=ab;subst hj5;have fu:Bytes w.heap.size wr (.slice av (pre++(ql false x).take 4).length cv) (pre++ql false x):=by
       have h:=fC;rw[aD (by rw[tT];omega)]at h ⊢; exact h
      have HO:=O fu;clear fu fC;go_wp2;go_roundw
      case rel=>exact⟨k+1,ab,bg,by rw[Jp.o];exact HO.o,jq⟩
      case measure=>simp[intOf];omega
   ·rw[aD ab]at cR;have EO:(kX false ws).length<=32:=by rw[od];omega
    have ir:=O (show oN false ws=x_ (kX false ws)from rfl);generalize kX false ws=bs at *
    obtain⟨av,cv,hv⟩:=cR.form;subst hv;have Bx:=cR.text;go_wp2_with fail
    refine(PL ⟨bs.toArray⟩ wr (by show bs.toArray.size<_;simp;omega)).mono ?_;rintro e w3⟨rfl,iz⟩;go_wp2;go_ret;rw[ir.o];exact⟨rfl,cL.trans iz⟩
 ·go_loopw[5,11] (abO true ws w) (fun _ i _=>ws.length-(intOf i).toNat)
  case atStart=>exact⟨0,aQ _,rfl,Bytes.nil _ _,ae _ _⟩
  case round =>
   obtain⟨k,hk,rfl,cR,cL⟩:=hrel;by_cases fo:k<ws.length
   ·have dT:=O (List.getElem?_eq_getElem fo);obtain⟨x0,x1⟩:=HX.o _ (bN fo);have hcell:wr.cell? ⟨g,k,none⟩=some (.int .u32 ws[k]):=(cL.cell (p:=⟨g,k,none⟩) hg id).trans (HC.o k _ dT.o);generalize ws[k]=x at *
    have Jp:=O (zp true dT.o);have EN:=O (show(kX true (ws.take k)).length<=32 by rw[od,aM];omega);generalize kX true (ws.take k)=pre at *
    obtain⟨av,cv,hv⟩:=cR.form;subst hv;go_wp2;clear hcell;go_loopw[5,15] (ahs true pre x w) (fun _ i _=>4-(intOf i).toNat)
    case atStart=>exact⟨0,ab,rfl,by simpa using cR,cL⟩
    case round =>
     obtain⟨j,hj,rfl,fC,jq⟩:=hrel;have iE:w.heap.size<=wr.heap.size:=jq.size;obtain⟨av,cv,hv⟩:=fC.form;subst hv;by_cases hj4:j<4
     ·have FU:(j:Int)<4:=ab;have j6:=O (Dv true x j hj4);have qW:x/2^(8*j)%256=((Du true x j).toNat:Int):=(KA x (8*j)).symm;generalize Du true x j=c at *
      have UE:=O (show(pre++(ql true x).take j).length<100 by rw[aN,aM,tT];have:=EN.o;omega);go_wp2_with (at_builtin;refine kl rfl _ _ rfl w.heap.size (.slice av _ cv) (pre++(ql true x).take j) rfl (by apply gG;exact fC) ⟨wr.heap.size,0,none⟩ 1 c rfl (jw _ _ _ _) (by have:=UE.o;omega) bI ?_;intro v' w2 fu xk)
      go_roundw
      case rel=>exact⟨j+1,ab,bg,by rw[j6.o, <-cK];exact fu,(jq.alloc _).fR xk fC.block⟩
      case measure=>simp[intOf];omega
     ·have hj5:j=4:=ab;subst hj5;have fu:Bytes w.heap.size wr (.slice av (pre++(ql true x).take 4).length cv) (pre++ql true x):=by
       have h:=fC;rw[aD (by rw[tT];omega)]at h ⊢; exact h
      have HO:=O fu;clear fu fC;go_wp2;go_roundw
      case rel=>exact⟨k+1,ab,bg,by rw[Jp.o];exact HO.o,jq⟩
      case measure=>simp[intOf];omega
   ·rw[aD ab]at cR;have EO:(kX true ws).length<=32:=by rw[od];omega
    have ir:=O (show oN true ws=x_ (kX true ws)from rfl);generalize kX true ws=bs at *
    obtain⟨av,cv,hv⟩:=cR.form;subst hv;have Bx:=cR.text;go_wp2_with fail
    refine(PL ⟨bs.toArray⟩ wr (by show bs.toArray.size<_;simp;omega)).mono ?_;rintro e w3⟨rfl,iz⟩;go_wp2;go_ret;rw[ir.o];exact⟨rfl,cL.trans iz⟩
def adD(n:Nat):UInt8:=if n<26 then(n+65).toUInt8 else if n<52 then(n+71).toUInt8 else if n<62 then(n-4).toUInt8 else if n=62 then 43 else 47
def Ck(a b c:UInt8):Nat:=a.toNat*65536+b.toNat*256+c.toNat
def sg(v i:Nat):UInt8:=adD (v/2^(18-6*i)%64)
def vo:aI->aI
 |[]=>[]
 |[a]=>[sg (Ck a 0 0) 0,sg (Ck a 0 0) 1,61,61]
 |[a,b]=>[sg (Ck a b 0) 0,sg (Ck a b 0) 1,sg (Ck a b 0) 2,61]
 |a :: b :: c :: r=>sg (Ck a b c) 0 :: sg (Ck a b c) 1 :: sg (Ck a b c) 2 :: sg (Ck a b c) 3 :: vo r
def rJ(l:aI):Nat->Nat
 |0=>0
 |k+1=>rJ l k*256+(l.getD k 0).toNat
theorem DC(l:aI):∀k,rJ l k<256^k
 |0=>by simp[rJ]
 |k+1=>by
  have h:=DC l k;have h2:=(l.getD k 0).toNat_lt;rw[rJ,Nat.pow_succ];omega
theorem adE(v x:Nat)(hv:v<4294967296)(hx:x<256):bits .or .i64 ((v:Int)*256) (x:Int)=((v*256+x:Nat):Int):=by
 have hm:((v:Int)*256)=((v*256:Nat):Int):=ab;rw[hm];have h1:(BitVec.ofInt 64 ((v*256:Nat):Int)).toNat=v*256:=by
  rw[BitVec.ofInt_natCast,BitVec.toNat_ofNat];exact Nat.mod_eq_of_lt ab
 have h2:(BitVec.ofInt 64 (x:Int)).toNat=x:=by
  rw[BitVec.ofInt_natCast,BitVec.toNat_ofNat];exact Nat.mod_eq_of_lt ab
 show IntKind.i64.wrap ((BitVec.ofInt 64 ((v*256:Nat):Int) ||| BitVec.ofInt 64 (x:Int)).toNat:Int)=_;have h3:v*256 ||| x=v*256+x:=by
  have h:=Nat.shiftLeft_add_eq_or_of_lt (show x<2^8 from hx) v;rw[Nat.shiftLeft_eq]at h;exact h.symm
 rw[BitVec.toNat_or,h1,h2,h3,IntWalk.i64_left];exact IntWalk.wrap64_in _ ab
theorem UO(r:aj)(k:Nat)(h:k<r.size):rJ r.data.toList (k+1)=rJ r.data.toList k*256+r[k].toNat:=by
 rw[rJ,List.getD_eq_getElem?_getD,byte_at r k h];rfl
theorem Rc(r:aj)(k:Nat)(h:¬k<r.size):rJ r.data.toList (k+1)=rJ r.data.toList k*256:=by
 rw[rJ,List.getD_eq_getElem?_getD,tL r k h];simp only[Option.getD_none];exact Nat.add_zero _
theorem Re(r:aj):rJ r.data.toList 3=Ck (r.data.toList.getD 0 0) (r.data.toList.getD 1 0) (r.data.toList.getD 2 0):=by
 show((0*256+_)*256+_)*256+_=_*65536+_*256+_;rw[il,bw,dF,Nat.mul_assoc]
def nz(v n:Nat):aI:=[sg v 0,sg v 1,if 2<=n then sg v 2 else 61,if 3<=n then sg v 3 else 61]
def ahN(w:World)(acc:aI)(v n:Nat)(i:Value)(wr:World):Prop :=
 ∃k:Nat,k<=4/\i=.int .i64 k/\FY w.heap.size w.heap.size (acc++(nz v n).take k) wr/\Fr aS w wr/\w.heap.size<=wr.heap.size
theorem zw:∀n (h:n<64),(⟨#[65,66,67,68,69,70,71,72,73,74,75,76,77,78,79,80,81,82,83,84,85,86,87,88,89,90,97,98,99,100,101,102,103,104,105,106,107,108,109,110,111,112,113,114,115,116,117,118,119,120,121,122,48,49,50,51,52,53,54,55,56,57,43,47]⟩:aj)[n]'h=adD n:=du
theorem P1(v i:Nat)(hv:v<16777216):∃m:Nat,m<64/\adD m=sg v i/\bits .and .i64 ((v/2^(18-6*i):Nat):Int) 63=(m:Int):=by
 refine⟨v/2^(18-6*i)%64,Nat.mod_lt _ ag,rfl,?_⟩;have hx:v/2^(18-6*i)<16777216:=iL (Nat.div_le_self _ _) hv;generalize v/2^(18-6*i)=x at hx;have h1:(BitVec.ofInt 64 (x:Int)).toNat=x:=by
  rw[BitVec.ofInt_natCast,BitVec.toNat_ofNat];exact Nat.mod_eq_of_lt ab
 have h2:(BitVec.ofInt 64 63).toNat=63:=ag;show IntKind.i64.wrap ((BitVec.ofInt 64 (x:Int) &&& BitVec.ofInt 64 63).toNat:Int)=_;rw[BitVec.toNat_and,h1,h2,Nat.and_two_pow_sub_one_eq_mod x 6,IntWalk.i64_left];exact IntWalk.wrap64_in _ ab
theorem KL(r:aj)(n:Nat):(r.extract n r.size).data.toList=r.data.toList.drop n:=by
 rw[ByteArray.data_extract,Array.toList_extract];show(r.data.toList.drop n).take (r.data.toList.length-n)=_;rw[aD aR]
theorem Rf:∀(l:aI) (n:Nat),0<n->n<=3->n<=l.length->(n<3->n=l.length) ->
  vo l=nz (Ck (l.getD 0 0) (l.getD 1 0) (l.getD 2 0)) n++vo (l.drop n)
 |[],n,h0,_,hl,_=>by simp at hl;omega
 |[a],n,h0,_,hl,_=>by
  obtain rfl:n=1:=by simp at hl;omega
  rfl
 |[a,b],n,h0,_,hl,h=>by
  obtain rfl:n=2:=by simp at hl h;omega
  rfl
 |a :: b :: c :: t,n,h0,h3,hl,h=>by
  obtain rfl:n=3:=by simp at hl h;omega
  rfl
theorem Rh(r:aj)(v n:Nat)(PF:0<n)(hn3:n<=3)(hnr:n<=r.size)(hnk:n<3->n=r.size)(hv:v=Ck (r.data.toList.getD 0 0) (r.data.toList.getD 1 0) (r.data.toList.getD 2 0)) :
  vo r.data.toList=nz v n++vo (r.extract n r.size).data.toList:=by
 rw[KL,hv];exact Rf _ n PF hn3 hnr hnk
theorem DD(r:aj)(n:Nat):(r.extract n r.size).size=r.size-n:=by
 have h:(r.extract n r.size).data.toList.length=(r.data.toList.drop n).length:=by rw[KL]
 rw[bK]at h;exact h
def ahO(r:aj)(w0:World)(v i:Value)(wr:World):Prop :=
 ∃k:Nat,k<=3/\i=.int .i64 k/\v=.int .i64 (rJ r.data.toList k)/\wr=w0
def adF(w:World)(s:aj)(v:Value)(wr:World):Prop :=
 ∃(r:aj) (acc:aI),r.size<=s.size/\v=.string r/\acc.length<=4*(s.size-r.size)/\vo s.data.toList=acc++vo r.data.toList/\FY w.heap.size w.heap.size acc wr/\Fr aS w wr/\w.heap.size<=wr.heap.size
def lenOf:Value->Nat
 | .string r=>r.size
 |_=>0
theorem Nw(s:aj)(w:World)(hs:s.size<4398046511104) :
  aB 97 #[.string s] w fun e w'=>e=.returned (.string ⟨(vo s.data.toList).toArray⟩)/\Fr aS w w':=by
 go_enter func97,ntmps97;go_wp2;go_loopw[0] (adF w s) (fun v _=>lenOf v)
 case atStart=>exact⟨s,[],ay _,rfl,aR,aR,FY.new w,(ae _ _).alloc _,aR⟩
 case round =>
  obtain⟨r,acc,hr,rfl,Ch,hun,hb,hf,hz⟩:=hrel;have HUN:=O hun;clear hun;by_cases hr0:0<r.size
  ·have yL:(0:Int)<(r.size:Int):=ab;obtain⟨n,PF,hn3,hnr,hni,hnk⟩:∃n:Nat,0<n/\n<=3/\n<=r.size/\min (3:Int) (r.size:Int)=(n:Int)/\(n<3->n=r.size):=⟨min 3 r.size,ab,ab,ab,ab,ab⟩;go_wp2_with fail
   go_loopw[5,14] (ahO r wr) (fun _ i _=>3-(intOf i).toNat)
   case atStart=>exact⟨0,ab,rfl,rfl,rfl⟩
   case round =>
    obtain⟨k,hk,rfl,rfl,rfl⟩:=hrel;by_cases Ib:k<3
    ·have pq:(k:Int)<3:=ab;have UP:=DC r.data.toList k;have anM:rJ r.data.toList k<65536:=cP UP (aG (Nat.pow_le_pow_right ab (show k<=2 from ab)) ag);have auS:¬(9223372036854775807:Int)<(rJ r.data.toList k:Int)*256:=ab;by_cases ES:k<n
     ·have anN:(k:Int)<(n:Int):=ab;have anO:k<r.size:=ab;have hkr:(k:Int)<(r.size:Int):=ab;have ir:=O (UO r k anO);have ow:=r[k].toNat_lt;go_wp2_with fail
      refine⟨⟨k+1,ab,bg,?_,rfl⟩,by simp[intOf];omega⟩;rw[adE _ _ (Nat.lt_trans anM ag) ow,ir.o]
     ·have anN:¬(k:Int)<(n:Int):=ab;have ir:=O (Rc r k ab);go_wp2_with fail
      refine⟨⟨k+1,ab,bg,?_,rfl⟩,by simp[intOf];omega⟩;rw[ir.o];rfl
    ·have pq:¬(k:Int)<3:=ab;have Zr:k=3:=ab;subst Zr;have UP:=DC r.data.toList 3;have hvv:=O (Re r);generalize rJ r.data.toList 3=v at UP hvv;go_wp2_with fail
     go_loopw[29] (ahN w acc v n) (fun i _=>4-(intOf i).toNat)
     case atStart=>exact⟨0,ab,rfl,by simpa using hb,hf,hz⟩
     case round =>
      obtain⟨k,hk,rfl,qf,dr,k_⟩:=hrel;have oB:∀j,(acc++(nz v n).take j).length<=4*s.size+4:=by intro j;rw[aN,aM];show _+min j 4<=_;omega
      match k,hk,qf with
      |0,_,qf =>
       obtain⟨m,hm,hl,DE⟩:=P1 v 0 UP;rw[show(((v/2^(18-6*0):Nat):Int))=(v:Int)/262144 from ab]at DE;have ES:(0:Int)<=(n:Int):=ab;have hq:(0:Int)<=(m:Int)/\(m:Int)<64:=ab;go_wp2_with fail
       rw[zw m hm,hl];refine(ko _ _ _ (sg v 0) wr qf (by have:=oB 0;omega) k_).mono ?_;rintro e w2⟨rfl,kB,dB⟩;have lp:w.heap.size<=w2.heap.size:=aG k_ dB.size;have pV:FY w.heap.size w.heap.size (acc++(nz v n).take (0+1)) w2:=by
        have e:(nz v n).take (0+1)=(nz v n).take 0++[(sg v 0)]:=by simp[nz, *]
        rw[e, <-cK];exact kB
       clear qf kB;go_wp2;go_roundw
       case rel=>exact⟨0+1,ab,bg,pV,dr.lX dB,lp⟩
       case measure=>simp[intOf]
      |1,_,qf =>
       obtain⟨m,hm,hl,DE⟩:=P1 v 1 UP;rw[show(((v/2^(18-6*1):Nat):Int))=(v:Int)/4096 from ab]at DE;have ES:(1:Int)<=(n:Int):=ab;have hq:(0:Int)<=(m:Int)/\(m:Int)<64:=ab;go_wp2_with fail
       rw[zw m hm,hl];refine(ko _ _ _ (sg v 1) wr qf (by have:=oB 1;omega) k_).mono ?_;rintro e w2⟨rfl,kB,dB⟩;have lp:w.heap.size<=w2.heap.size:=aG k_ dB.size;have pV:FY w.heap.size w.heap.size (acc++(nz v n).take (1+1)) w2:=by
        have e:(nz v n).take (1+1)=(nz v n).take 1++[(sg v 1)]:=by simp[nz, *]
        rw[e, <-cK];exact kB
       clear qf kB;go_wp2;go_roundw
       case rel=>exact⟨1+1,ab,bg,pV,dr.lX dB,lp⟩
       case measure=>simp[intOf]
      |2,_,qf =>
       obtain⟨m,hm,hl,DE⟩:=P1 v 2 UP;rw[show(((v/2^(18-6*2):Nat):Int))=(v:Int)/64 from ab]at DE;by_cases anP:2<=n
       ·have ES:(2:Int)<=(n:Int):=ab;have hq:(0:Int)<=(m:Int)/\(m:Int)<64:=ab;go_wp2_with fail
        rw[zw m hm,hl];refine(ko _ _ _ (sg v 2) wr qf (by have:=oB 2;omega) k_).mono ?_;rintro e w2⟨rfl,kB,dB⟩;have lp:w.heap.size<=w2.heap.size:=aG k_ dB.size;have pV:FY w.heap.size w.heap.size (acc++(nz v n).take (2+1)) w2:=by
         have e:(nz v n).take (2+1)=(nz v n).take 2++[(sg v 2)]:=by simp[nz, *]
         rw[e, <-cK];exact kB
        clear qf kB;go_wp2;go_roundw
        case rel=>exact⟨2+1,ab,bg,pV,dr.lX dB,lp⟩
        case measure=>simp[intOf]
       ·have ES:¬(2:Int)<=(n:Int):=ab;go_wp2_with fail
        refine(ko _ _ _ 61 wr qf (by have:=oB 2;omega) k_).mono ?_;rintro e w2⟨rfl,kB,dB⟩;have lp:w.heap.size<=w2.heap.size:=aG k_ dB.size;have pV:FY w.heap.size w.heap.size (acc++(nz v n).take (2+1)) w2:=by
         have e:(nz v n).take (2+1)=(nz v n).take 2++[61]:=by simp[nz, *]
         rw[e, <-cK];exact kB
        clear qf kB;go_wp2;go_roundw
        case rel=>exact⟨2+1,ab,bg,pV,dr.lX dB,lp⟩
        case measure=>simp[intOf]
      |3,_,qf =>
       obtain⟨m,hm,hl,DE⟩:=P1 v 3 UP;rw[show(((v/2^(18-6*3):Nat):Int))=(v:Int)from ab]at DE;by_cases anP:3<=n
       ·have ES:(3:Int)<=(n:Int):=ab;have hq:(0:Int)<=(m:Int)/\(m:Int)<64:=ab;go_wp2_with fail
        rw[zw m hm,hl];refine(ko _ _ _ (sg v 3) wr qf (by have:=oB 3;omega) k_).mono ?_;rintro e w2⟨rfl,kB,dB⟩;have lp:w.heap.size<=w2.heap.size:=aG k_ dB.size;have pV:FY w.heap.size w.heap.size (acc++(nz v n).take (3+1)) w2:=by
         have e:(nz v n).take (3+1)=(nz v n).take 3++[(sg v 3)]:=by simp[nz, *]
         rw[e, <-cK];exact kB
        clear qf kB;go_wp2;go_roundw
        case rel=>exact⟨3+1,ab,bg,pV,dr.lX dB,lp⟩
        case measure=>simp[intOf]
       ·have ES:¬(3:Int)<=(n:Int):=ab;go_wp2_with fail
        refine(ko _ _ _ 61 wr qf (by have:=oB 3;omega) k_).mono ?_;rintro e w2⟨rfl,kB,dB⟩;have lp:w.heap.size<=w2.heap.size:=aG k_ dB.size;have pV:FY w.heap.size w.heap.size (acc++(nz v n).take (3+1)) w2:=by
         have e:(nz v n).take (3+1)=(nz v n).take 3++[61]:=by simp[nz, *]
         rw[e, <-cK];exact kB
        clear qf kB;go_wp2;go_roundw
        case rel=>exact⟨3+1,ab,bg,pV,dr.lX dB,lp⟩
        case measure=>simp[intOf]
      |4,_,qf =>
       have auT:(nz v n).take 4=nz v n:=rfl;have P2:=Rh r v n PF hn3 hnr hnk hvv.o;go_wp2_with fail
       refine⟨⟨r.extract n r.size,acc++nz v n,?_,rfl,?_,?_,qf,dr,k_⟩,?_⟩
       ·rw[DD];omega
       ·rw[DD,aN];have hn4:(nz v n).length=4:=rfl;omega
       ·rw[HUN.o,P2,cK]
       ·show(r.extract n r.size).size<r.size;rw[DD];omega
  ·have yL:¬(0:Int)<(r.size:Int):=ab;have fg:vo s.data.toList=acc:=by rw[HUN.o,show r.data.toList=[]from cj (show r.size=0 from ab)];simp[vo]
   go_wp2_with fail
   refine(BK _ _ _ wr hb hz).mono ?_;rintro e w1⟨rfl,dr⟩;go_wp2;go_ret;rw[fg];exact⟨rfl,hf.lX dr⟩
def FG(w:World)(v:Value):Option (Nat×Option Nat)->Prop
 |none=>v=.nilIface
 |some (n,none)=>v=.iface 105 (.int .i64 n)
 |some (n,some p)=>∃g,v=.iface 211 (.pointer (some ⟨g,0,none⟩))/\w.heap[g]?=some (.cells #[.int .i64 n,.int .i64 p] 213 (0,0))
def lR:Nat->aI->Except Nat (List (aI))
 |0,_=>.ok []
 |f+1,r =>
  let r1:=r.dropWhile dN
  let w:=r1.takeWhile fW
  let r3:=(r1.dropWhile fW).dropWhile dN
  let ws:=if w.isEmpty then []else [w]
  match r3 with
  |[]=>.ok ws
  |c :: r4=>if c==44 then(lR f r4).map (ws++ ·)else .error (r4.length+1)
def g_(l:aI):Except Nat (List (aI)):=lR (l.length+1) l
theorem oH(p:UInt8->Bool)(l:aI):l.dropWhile p=l.drop (l.takeWhile p).length:=by
 induction l with
 |nil=>rfl
 |cons a t ih=>by_cases h:p a<;>simp[h,ih]
theorem ke(p:UInt8->Bool)(l:aI)(i:Nat):l.drop (cM p l i)=(l.drop i).dropWhile p:=by
 rw[oH,eB,cM]
theorem yU(p:UInt8->Bool)(l:aI):l.takeWhile p=l.take (l.takeWhile p).length:=by
 induction l with
 |nil=>rfl
 |cons a t ih=>by_cases h:p a<;>simp[h];exact ih
theorem yV(p:UInt8->Bool)(s:aj)(i:Nat):(s.extract i (cM p s.data.toList i))=⟨((s.data.toList.drop i).takeWhile p).toArray⟩:=by
 apply Go.WideShapes.bytes_inj;rw[Lib.extract_data,yU,List.take_drop];rw[cM,List.drop_take];generalize (List.takeWhile p (List.drop i s.data.toList)).length=n;rw[show i+(i+n-i)-i=n from ab]
def dU(l:List (aI)):List aj:=l.map fun w=>⟨w.toArray⟩
def XQ(l:aI)(k:Nat):Nat:=cM dN l k
def T5(l:aI)(k:Nat):Nat:=cM fW l (XQ l k)
def vd(l:aI)(k:Nat):Nat:=cM dN l (T5 l k)
def xm(l:aI)(k:Nat):aI:=(l.drop (XQ l k)).takeWhile fW
def XR(l:aI)(k:Nat):List (aI):=if(xm l k).isEmpty then []else [xm l k]
theorem vC(f:Nat)(l:aI)(k:Nat):lR (f+1) (l.drop k) =
  match l.drop (vd l k)with
  |[]=>.ok (XR l k)
  |c :: r4=>if c==44 then(lR f r4).map (XR l k++ ·)else .error (r4.length+1):=by
 rw[lR];simp only[vd,T5,XQ,ke,XR,xm]
theorem FH{l:aI}(h:l.length<=vd l k):lR (f+1) (l.drop k)=.ok (XR l k):=by
 rw[vC,cQ h]
theorem BC{l:aI}(h:l[vd l k]?=some 44):lR (f+1) (l.drop k)=(lR f (l.drop (vd l k+1))).map (XR l k++ ·):=by
 rw[vC,drop_at h];rfl
theorem FI{l:aI}{c:UInt8}(h:l[vd l k]?=some c)(hc:(c==44)=false):lR (f+1) (l.drop k)=.error (l.length-vd l k):=by
 rw[vC,drop_at h];simp only[hc,cJ,eW];have:=(List.getElem?_eq_some_iff.1 h).1;simp;omega
theorem YM(l:aI)(k:Nat):k<=XQ l k/\XQ l k<=T5 l k/\T5 l k<=vd l k:=⟨lH,lH,lH⟩
theorem ag3{l:aI}(h:k<=l.length):XQ l k<=l.length/\T5 l k<=l.length/\vd l k<=l.length :=
 ⟨ib h,ib (ib h),ib (ib (ib h))⟩
theorem FJ(p:UInt8->Bool)(l:aI)(k:Nat):cM p l (cM p l k)=cM p l k:=by
 unfold cM;have h:(l.drop (k+((l.drop k).takeWhile p).length)).takeWhile p=[]:=by
  rw[<-eB, <-oH];cases hd:(l.drop k).dropWhile p with
  |nil=>rfl
  |cons a t =>
   have:=List.head_dropWhile_not p (l:=l.drop k) (by rw[hd];simp);simp only[hd,List.head_cons]at this;simp[this]
 rw[h];rfl
theorem J4{l:aI}(h:xm l k=[]):T5 l k=XQ l k/\vd l k=XQ l k:=by
 have h1:T5 l k=XQ l k:=by unfold T5 cM;rw[show(l.drop (XQ l k)).takeWhile fW=[]from h];rfl
 exact⟨h1,by unfold vd;rw[h1];exact FJ _ _ _⟩
theorem pF:∀(f:Nat) {r:aI},r.length<f->lR f r=lR (r.length+1) r
 |0,_,h=>absurd h (ct _)
 |f+1,r,h=>by
  have key:∀(c:UInt8) (r4:aI),((r.dropWhile dN).dropWhile fW).dropWhile dN=c :: r4->r4.length<r.length:=by
   intro c r4 e;have h1:=((jb (p:=dN) (l:=(r.dropWhile dN).dropWhile fW))).length_le;have h2:=((jb (p:=fW) (l:=r.dropWhile dN))).length_le;have h3:=((jb (p:=dN) (l:=r))).length_le;rw[e]at h1;simp at h1;omega
  rw[lR,lR];cases e:((r.dropWhile dN).dropWhile fW).dropWhile dN with
  |nil=>rfl
  |cons c r4 =>
   have hk:=key c r4 e;simp only;rw[pF f (show r4.length<f from ab),pF r.length hk]
def jy(s:aj)(w:World)(e:Ending)(w':World):Prop :=
 ∃v er,e=.returned (.tuple #[v,er])/\Fr aS w w' /\
  match g_ s.data.toList with
  | .ok ws=>if 40<ws.length then v=.slice none 0 0/\FG w' er (some (4,none))else Strs w.heap.size w' v (dU ws)/\er=.nilIface
  | .error m=>v=.slice none 0 0/\FG w' er (some (3,some (s.size-m)))
theorem jy.ok(h:g_ s.data.toList=.ok ws)(hn:ws.length<=40)(hv:Strs w.heap.size w' v (dU ws))(hf:Fr aS w w') :
  jy s w (.returned (.tuple #[v,.nilIface])) w':=⟨v,_,rfl,hf,by rw[h];show(if 40<ws.length then _ else _);rw[aq (show¬40<ws.length from ab)];exact⟨hv,rfl⟩⟩
theorem jy.long(h:g_ s.data.toList=.ok ws)(hn:40<ws.length)(hf:Fr aS w w') :
  jy s w (.returned (.tuple #[.slice none 0 0,.iface 105 (.int .i64 4)])) w':=⟨_,_,rfl,hf,by rw[h];show(if 40<ws.length then _ else _);rw[az hn];exact⟨rfl,rfl⟩⟩
theorem jy.bad{m g:Nat}(h:g_ s.data.toList=.error m)(hg:w'.heap[g]?=some (.cells #[.int .i64 3,.int .i64 (s.size-m:Nat)] 213 (0,0)))(hf:Fr aS w w') :
  jy s w (.returned (.tuple #[.slice none 0 0,.iface 211 (.pointer (some ⟨g,0,none⟩))])) w':=⟨_,_,rfl,hf,by rw[h];exact⟨rfl,g,rfl,hg⟩⟩
def am4(s:aj)(w:World)(v:Value)(wr:World):Prop :=
 ∃k acc,k<=s.size/\acc.length<=k/\dx wr w.heap.size s k/\Strs (w.heap.size+1) wr v (dU acc)/\Fr aS w wr /\
  g_ s.data.toList=(lR (s.size-k+1) (s.data.toList.drop k)).map (acc++ ·)
theorem Fr.xO{wr w1:World}{c:Nat}(h:Fr aS w wr)(g:Fr (one c) wr w1)(hc:w.heap.size<=c):Fr aS w w1:=h.step g (fun k hk e=>by have e':k=c:=e;omega)
theorem J5(a:List (aI))(x:aI):dU (a++[x])=dU a++[⟨x.toArray⟩]:=by simp[dU]
theorem pG(a:List (aI)):(dU a).length=a.length:=by simp[dU]
theorem Pp{l:aI}(h:xm l k≠ []):XR l k=[xm l k]:=by unfold XR;rw[aq (by simpa using h)]
theorem J6{l:aI}(h:xm l k=[]):XR l k=[]:=by unfold XR;rw[h];rfl
theorem T6{a b:List (aI)}(h:r=.ok b):r.map (a++ ·)=.ok (a++b):=by rw[h];rfl
theorem FK{a:List (aI)}{m:Nat}(h:r=.error m):r.map (a++ ·)=.error m:=by rw[h];rfl
theorem map_map{a b:List (aI)}(r:Except Nat (List (aI))):(r.map (b++ ·)).map (a++ ·)=r.map ((a++b)++ ·):=by cases r<;>simp[Except.map]
theorem xP{b b':Nat}(h:Strs b' w v ss)(hb:b<=b'):Strs b w v ss:=by
 obtain⟨h1,h2⟩:=h;refine⟨h1,?_⟩;rcases h2 with h2|⟨g,cap,cur,hv,hg,r⟩
 ·exact Or.inl h2
 ·exact Or.inr ⟨g,cap,cur,hv,aG hb hg,r⟩
theorem J7(s:aj)(w:World)(hs:s.size<4398046511104) :
  aB 174 #[.string s] w (jy s w):=by
 have hm:s.size<=maxLen:=fx;go_enter func174,ntmps174;go_wp2_with (go_at_call 110;refine(TU _ _).mono ?_;rintro e w1 ⟨rfl,rfl⟩)
 go_loopw[4] (am4 s w) (fun _ wr=>s.size-pD wr w.heap.size)
 case atStart=>exact⟨0,[],aQ _,ay _,aC _ _,kU _ _,(ae _ _).alloc _,by rw[eG];cases h:lR (s.size-0+1) s.data.toList<;>simp[g_,Except.map]<;>simpa using h⟩
 case round =>
  obtain⟨k,acc,hk,ag4,hc,cR,cL,u_⟩:=hrel;have gK:=O u_;clear u_;have iE:w.heap.size+1<=wr.heap.size:=hc.lt;have ag5:=YM s.data.toList k;have hle:=ag3 (l:=s.data.toList) (k:=k) (by simpa using hk);have yG:s.data.toList.length=s.size:=aR;rw[yG]at hle;obtain⟨m1,m2,m3⟩:=ag5;obtain⟨q1,q2,q3⟩:=hle;have p_:=O hc.pos;obtain⟨pH,CU⟩:∃x,x=acc++XR s.data.toList k:=⟨_,rfl⟩;have E0:=O CU;clear CU;go_wp2_with fail
  refine(mB _ s k wr hc hm hk).mono ?_;rintro e w1⟨rfl,pA,dr⟩;have lC:=cL.xO dr (ay _);have rA:=cR.fr dr (fun k hk=>by have e:k=w.heap.size:=hk;omega);have Cf:w.heap.size+1<=w1.heap.size:=pA.lt;go_wp2_with fail
  refine(vB _ s _ w1 pA hm q1).mono ?_;rintro e w2⟨rfl,sr,dB⟩;have f_:=lC.xO dB (ay _);have fC:=rA.fr dB (fun k hk=>by have e:k=w.heap.size:=hk;omega);have ML:w.heap.size+1<=w2.heap.size:=sr.lt;have YN:dx w2 w.heap.size s (T5 s.data.toList k):=sr;rw[yV];have hW:((s.data.toList.drop (cM dN s.data.toList k)).takeWhile fW)=xm s.data.toList k:=rfl;rw[hW];clear hW sr pA dr dB
  generalize hW2:xm s.data.toList k=W;have HW:=O hW2;clear hW2;cases W with
  |nil =>
   have hem:=O (J4 HW.o);have uj:dx w2 w.heap.size s (vd s.data.toList k):=by have h:=YN;rw[hem.o.1, <-hem.o.2]at h;exact h
   have BD:Strs (w.heap.size+1) w2 u4 (dU pH):=by rw[E0.o,J6 HW.o,dV];exact fC
   clear YN fC rA cR;have hlen:pH.length<=k+1:=by have e:=E0.o;rw[J6 HW.o,dV]at e;rw[e];omega
   obtain⟨av,cv,hv⟩:=BD.form;subst hv;go_wp2_with fail
   by_cases AI:s.size<=vd s.data.toList k
   ·have fg:=O (show g_ s.data.toList=.ok pH by rw[gK.o,T6 (FH (by simpa using AI)),E0.o]);have hd:decide (s.size<=vd s.data.toList k)=true:=by simpa using AI
    refine(wN _ s _ w2 uj).mono ?_;rintro e w4⟨rfl,n4,rfl⟩;rw[hd];by_cases Hi:40<(dU pH).length
    ·have ac0:((40:Int)<((dU pH).length:Int)):=ab;go_wp2;go_ret2;exact jy.long fg.o (by rw[pG]at Hi;exact Hi) (f_.drewN _)
    ·have ac0:¬((40:Int)<((dU pH).length:Int)):=ab;go_wp2;go_ret2;exact jy.ok fg.o (by rw[pG]at Hi;omega) (xP BD (bV _)) (f_.drewN _)
   ·have hd:decide (s.size<=vd s.data.toList k)=false:=by simpa using AI
    refine(wN _ s _ w2 uj).mono ?_;rintro e w4⟨rfl,n4,rfl⟩;rw[hd];have ug:dx (w2.drewN n4) w.heap.size s (vd s.data.toList k):=uj;have Pq:Strs (w.heap.size+1) (w2.drewN n4) _ (dU pH):=BD;have jZ:=f_.drewN n4;go_wp2_with fail
    refine(p9 _ s _ 44 _ ug hm).mono ?_;rintro e w5⟨rfl,uh,lQ⟩;have xn:=jZ.xO lQ (ay _);have hv5:=Pq.fr lQ (fun k hk=>by have e:k=w.heap.size:=hk;omega);have uf:vd s.data.toList k<s.data.toList.length:=by simpa using AI
    have dT:=O (List.getElem?_eq_getElem uf);cases e1:km s (vd s.data.toList k) 44
    ·have fg:=O (show g_ s.data.toList=.error (s.data.toList.length-vd s.data.toList k)by
      rw[gK.o,FK (FI dT.o (by have h:=e1;unfold km at h;rw[dT.o]at h;simpa using h))])
     rw[pC e1]at uh;have c1:=uh.h_;have EN:=O (show s.size-(s.data.toList.length-vd s.data.toList k)=vd s.data.toList k by rw[yG]at uf ⊢; omega);go_wp2
     go_region
     all_goals
      go_wp2;go_ret2;exact jy.bad fg.o (by rw[EN.o];exact aC w5 _) ((xn.alloc _).drew)
    ·have fg:=O (show g_ s.data.toList=(lR (s.size-(vd s.data.toList k+1)+1) (s.data.toList.drop (vd s.data.toList k+1))).map (pH++ ·)by
      rw[gK.o,E0.o,BC (by have h:=e1;unfold km at h;simpa using h),map_map];rw[pF (f:=s.size-k) bI,pF (f:=s.size-(vd s.data.toList k+1)+1) aR])
     rw[pB e1]at uh;go_wp2;go_roundw
     case rel=>exact⟨_,pH,ab,ab,uh,hv5,xn,fg.o⟩
     case measure=>rw[p_.o,uh.pos];omega
  |cons x W' =>
   have hne:xm s.data.toList k≠ []:=by rw[HW.o];simp
   have Cv:=O hne;clear hne;have CV:=O (show dU pH=dU acc++[⟨(x :: W').toArray⟩]by rw[E0.o,Pp Cv.o,HW.o,J5]);have hlen:pH.length<=k+1:=by have e:=E0.o;rw[Pp Cv.o]at e;rw[e];simp;omega
   obtain⟨av,cv,hv⟩:=fC.form;subst hv;have hlA:acc.length<4398046511104:=ab;have EO:=O (pG acc);clear rA cR;go_wp2_with (at_builtin;refine nO rfl _ _ rfl (w.heap.size+1) (.slice av _ cv) (dU acc) rfl (by apply iG;exact fC) ⟨w2.heap.size,0,none⟩ 1 ⟨(x :: W').toArray⟩ rfl (jw _ _ _ _) (by rw[EO.o];exact hlA) bI ?_;intro v' w3 fu Cw)
   have ac1:dx w3 w.heap.size s (T5 s.data.toList k):=by
    have h2:dx (w2.alloc (.cells #[.string ⟨(x :: W').toArray⟩] 9)) w.heap.size s (T5 s.data.toList k):=YN.alloc;unfold dx at h2 ⊢;rw[Cw.block _ (bj h2) (fun e=>by have:=fC.block _ e.symm;omega)];exact h2
   have iA:=(f_.alloc (.cells #[.string ⟨(x :: W').toArray⟩] 9)).fR Cw (fun k hk=>by have:=fC.block k hk;omega);rw[<-CV.o]at fu;clear fC Cw YN;have T7:w.heap.size+1<=w3.heap.size:=ac1.lt;go_wp2_with fail
   refine(mB _ s _ w3 ac1 hm q2).mono ?_;rintro e w6⟨rfl,uj,nF⟩;have uj:dx w6 w.heap.size s (vd s.data.toList k):=uj;have yH:=iA.xO nF (ay _);have BD:=fu.fr nF (fun k hk=>by have e:k=w.heap.size:=hk;omega);clear fu nF ac1;have hs6:w.heap.size+1<=w6.heap.size:=uj.lt;obtain⟨av3,cv3,hv⟩:=BD.form;subst hv;go_wp2_with fail
   by_cases AI:s.size<=vd s.data.toList k
   ·have fg:=O (show g_ s.data.toList=.ok pH by rw[gK.o,T6 (FH (by simpa using AI)),E0.o]);have hd:decide (s.size<=vd s.data.toList k)=true:=by simpa using AI
    refine(wN _ s _ w6 uj).mono ?_;rintro e w4⟨rfl,n4,rfl⟩;rw[hd];by_cases Hi:40<(dU pH).length
    ·have ac0:((40:Int)<((dU pH).length:Int)):=ab;go_wp2;go_ret2;exact jy.long fg.o (by rw[pG]at Hi;exact Hi) (yH.drewN _)
    ·have ac0:¬((40:Int)<((dU pH).length:Int)):=ab;go_wp2;go_ret2;exact jy.ok fg.o (by rw[pG]at Hi;omega) (xP BD (bV _)) (yH.drewN _)
   ·have hd:decide (s.size<=vd s.data.toList k)=false:=by simpa using AI
    refine(wN _ s _ w6 uj).mono ?_;rintro e w4⟨rfl,n4,rfl⟩;rw[hd];have ug:dx (w6.drewN n4) w.heap.size s (vd s.data.toList k):=uj;have Pq:Strs (w.heap.size+1) (w6.drewN n4) _ (dU pH):=BD;have jZ:=yH.drewN n4;go_wp2_with fail
    refine(p9 _ s _ 44 _ ug hm).mono ?_;rintro e w5⟨rfl,uh,lQ⟩;have xn:=jZ.xO lQ (ay _);have hv5:=Pq.fr lQ (fun k hk=>by have e:k=w.heap.size:=hk;omega);have uf:vd s.data.toList k<s.data.toList.length:=by simpa using AI
    have dT:=O (List.getElem?_eq_getElem uf);cases e1:km s (vd s.data.toList k) 44
    ·have fg:=O (show g_ s.data.toList=.error (s.data.toList.length-vd s.data.toList k)by
      rw[gK.o,FK (FI dT.o (by have h:=e1;unfold km at h;rw[dT.o]at h;simpa using h))])
     rw[pC e1]at uh;have c1:=uh.h_;have EN:=O (show s.size-(s.data.toList.length-vd s.data.toList k)=vd s.data.toList k by rw[yG]at uf ⊢; omega);go_wp2
     go_region
     all_goals
      go_wp2;go_ret2;exact jy.bad fg.o (by rw[EN.o];exact aC w5 _) ((xn.alloc _).drew)
    ·have fg:=O (show g_ s.data.toList=(lR (s.size-(vd s.data.toList k+1)+1) (s.data.toList.drop (vd s.data.toList k+1))).map (pH++ ·)by
      rw[gK.o,E0.o,BC (by have h:=e1;unfold km at h;simpa using h),map_map];rw[pF (f:=s.size-k) bI,pF (f:=s.size-(vd s.data.toList k+1)+1) aR])
     rw[pB e1]at uh;go_wp2;go_roundw
     case rel=>exact⟨_,pH,ab,ab,uh,hv5,xn,fg.o⟩
     case measure=>rw[p_.o,uh.pos];omega
theorem Hj:∀(f:Nat) (r a z:aI),r.length<=f->vy r=some (a,z)->a.length+z.length+1<=r.length
 |0,r,a,z,hf,h=>by
  have:r=[]:=cj ab;subst this;rw[vy.eq_def]at h;simp at h
 |f+1,[],a,z,hf,h=>by rw[vy.eq_def]at h;simp at h
 |f+1,x :: r,a,z,hf,h=>by
  rw[vy.eq_def]at h;simp only at h;by_cases h1:(x==34)=true
  ·rw[az h1]at h;cases h;simp
  ·rw[aq h1]at h;by_cases h2:(x==92)=true
   ·rw[az h2]at h;cases r with
    |nil=>simp at h
    |cons y r' =>
     simp only at h;by_cases h3:nw y=true
     ·rw[az h3]at h;cases hq:vy r' with
      |none=>rw[hq]at h;simp at h
      |some p =>
       rw[hq]at h;simp at h;obtain⟨rfl,rfl⟩:=h;have:=Hj f r' p.1 p.2 (by simp at hf;omega) hq;simp;omega
     ·rw[aq h3]at h;simp at h
   ·rw[aq h2]at h;by_cases h3:nw x=true
    ·rw[az h3]at h;cases hq:vy r with
     |none=>rw[hq]at h;simp at h
     |some p =>
      rw[hq]at h;simp at h;obtain⟨rfl,rfl⟩:=h;have:=Hj f r p.1 p.2 (by simp at hf;omega) hq;simp;omega
    ·rw[aq h3]at h;simp at h
def T8(k:Int)(n:Nat):Nat:=(max 0 (min k n)).toNat
theorem xQ(b:Nat)(s:aj)(i:Nat)(k:Int)(w:World)(h:dx w b s i)(hs:s.size<=maxLen) :
  aB 213 #[.pointer (some ⟨b,0,none⟩),.int .i64 k] w fun e w'=>e=.returned (.tuple #[])/\dx w' b s (T8 k s.size)/\Fr (one b) w w':=by
 have h0:=h.cell0;have h1:=h.h_;have hf:=h.free 1;unfold maxLen at hs;go_enter func213,ntmps213;go_wp2;go_end0;rw[show max 0 (min k (s.size:Int))=((T8 k s.size:Nat):Int)from by unfold T8;omega];exact⟨rfl,h.setCell,mz w b _ 0⟩
def Hk(l:aI):Bool:=AH l||n9 l
def iI:List aj:=[⟨#[68,69,76,69,84,69]⟩,⟨#[71,69,84]⟩,⟨#[72,69,65,68]⟩,⟨#[79,80,84,73,79,78,83]⟩,⟨#[80,79,83,84]⟩,⟨#[80,85,84]⟩]
def nx:List aj->aj->aj
 |[],s=>s
 |m :: l,s=>if dJ s.data.toList m.data.toList then m else nx l s
def jL(s:aj):aj:=nx iI s
def qU(s:aj):Bool:=s.toList== [71,69,84]||s.toList== [72,69,65,68]||s.toList== [80,79,83,84]
theorem za:∀(l:List aj) (s:aj),(nx l s∈l/\dJ s.data.toList (nx l s).data.toList=true)\/nx l s=s
 |[],s=>.inr rfl
 |m :: l,s=>by
  unfold nx;by_cases h:dJ s.data.toList m.data.toList=true
  ·rw[az h];exact .inl ⟨cY .., h⟩
  ·rw[aq h];rcases za l s with ⟨h1,h2⟩|h1
   ·exact .inl ⟨bQ _ h1,h2⟩
   ·exact .inr h1
theorem M_(s:aj)(w:World) :
  aB 120 #[.string s] w fun e w'=>e=.returned (.bool (qU s))/\w=w':=by
 by_cases h1:s.toList=[71,69,84]
 ·have hb:=O (show qU s=true by unfold qU;rw[h1];rfl);go_enter func120,ntmps120;go_wp2;go_ret;exact⟨fB hb.o.symm,rfl⟩
 ·by_cases h2:s.toList=[72,69,65,68]
  ·have hb:=O (show qU s=true by unfold qU;rw[h2];rfl);go_enter func120,ntmps120;go_wp2;go_ret;exact⟨fB hb.o.symm,rfl⟩
  ·have hb:=O (show qU s=(s.toList== [71,69,84]||s.toList== [72,69,65,68]||s.toList== [80,79,83,84])from rfl);go_enter func120,ntmps120;go_wp2;go_ret;exact⟨fB hb.o.symm,rfl⟩
def ag8(s:aj)(w:World)(i:Value)(wr:World):Prop:=∃k:Nat,k<=6/\i=.int .i64 k/\jL s=nx (iI.drop k) s/\Fr aS w wr
theorem xT(s:aj)(w:World)(hs:s.size<100000) :
  aB 51 #[.string s] w fun e w'=>e=.returned (.string (jL s))/\Fr aS w w':=by
 have HC:=O (show∀U,Fr aS (w.alloc (.cells (iI.map Value.string).toArray 9)) U->∀(k:Nat) x,iI[k]?=some x->U.cell? ⟨w.heap.size,k,none⟩=some (.string x)from fun U hU k x hx=>by
  have h:=hU.keep (aC w (.cells (iI.map Value.string).toArray 9)) id;have e:(iI.map Value.string)[k]?=some (.string x):=by rw[List.getElem?_map,hx];rfl
  simp only[World.cell?,h];simpa using e)
 have ks:Fr aS w (w.alloc (.cells (iI.map Value.string).toArray 9)):=(ae aS w).alloc _;have mr:=O ks;obtain⟨wb,j6⟩:∃wb,wb=w.alloc (.cells (iI.map Value.string).toArray 9):=⟨_,rfl⟩;rw[<-j6]at HC mr
 have qV:=O (show wb=w.alloc (.cells #[.string ⟨#[68,69,76,69,84,69]⟩,.string ⟨#[71,69,84]⟩,.string ⟨#[72,69,65,68]⟩,.string ⟨#[79,80,84,73,79,78,83]⟩,.string ⟨#[80,79,83,84]⟩,.string ⟨#[80,85,84]⟩] 9)from j6);clear j6 ks;go_enter func51,ntmps51;go_wp2;rw[<-qV.o];go_loopw[7] (ag8 s wb) (fun i _=>6-(intOf i).toNat)
 case atStart=>exact⟨0,ab,rfl,rfl,ae _ _⟩
 case round =>
  obtain⟨k,hk,rfl,hm,cL⟩:=hrel;by_cases hk6:k<6
  ·have pq:(k:Int)<6:=ab;obtain⟨m,Pw⟩:∃m,iI[k]?=some m:=⟨_,List.getElem?_eq_getElem (by show k<6;exact hk6)⟩;have hcell:=HC.o wr cL k m Pw;have hmz:m.size<=10:=(show∀x∈iI,x.size<=10 from ag) m (cq Pw);have HD:=O (show jL s=if dJ s.data.toList m.data.toList then m else nx (iI.drop (k+1)) s by
    rw[hm,cU (show k<iI.length from hk6)];have e:iI[k]'(show k<iI.length from hk6)=m:=by rw[List.getElem?_eq_getElem (show k<iI.length from hk6)]at Pw;exact j8 Pw
    rw[e];rfl)
   clear hm Pw;have HSA:=O (mA s m wr ab ab);go_wp2_with fail
   refine HSA.o.mono ?_;rintro e w5⟨rfl,lQ⟩;clear HSA;cases pj:dJ s.data.toList m.data.toList
   ·have HD2:=O (show jL s=nx (iI.drop (k+1)) s by rw[HD.o,pj];rfl);clear pj;go_wp2;go_roundw
    case rel=>exact⟨k+1,ab,bg,HD2.o,cL.trans lQ⟩
    case measure=>simp[intOf];omega
   ·have HD2:=O (show jL s=m by rw[HD.o,pj];rfl);clear pj;go_wp2;go_ret;exact⟨by rw[HD2.o];rfl,mr.o.trans (cL.trans lQ)⟩
  ·have pq:¬(k:Int)<6:=ab;have HD2:=O (show jL s=s by rw[hm,cQ (by show 6<=k;omega)];rfl);clear hm;go_wp2;go_ret;exact⟨by rw[HD2.o];rfl,mr.o.trans cL⟩
