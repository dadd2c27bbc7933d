/- Lemmas for the law's walk. -/
import Derived.Test.YtjndhcngnghpiaaGreatDoorPn2
import Derived.Laws.AppendOwnNone
set_option maxRecDepth 100000
set_option maxHeartbeats 16000000
set_option linter.unusedSimpArgs false
namespace Go.Proofs.YtjndhcngnghpiaaGreatDoor
open Go.Proofs.Tryz
open Go.RowKit
variable {p:UInt8->Bool} {k base f:Nat} {x:UInt8} {R:Value->List aj->Prop} {S:dB} {w w':World} {v:Value} {ss:List aj} {s:aj} {ws:List (aH)} {r:Except Nat (List (aH))}
def Ar(l:aH):Bool:=l.all fV&&!l.isEmpty
theorem xc{l:aH}(h:l[k]?=some x):(l.take (k+1)).all p=((l.take k).all p&&p x):=by
 rw[cC,h];simp
theorem yK{l:aH}(h:l[k]?=some x)(hp:p x=false):l.all p=false:=by
 rw[iZ];exact⟨x,cj h,by simp[hp]⟩
theorem CB(s:aj)(w:World)(hs:s.size<17592186044416) :
  aB 96 #[.string s] w fun e w'=>e=.returned (.bool (Ar s.data.toList))/\w=w':=by
 go_enter func96,ntmps96;go_wp2
 go_loop [6] (fun i=>∃k:Nat,k<=s.size/\i=.int .i64 k/\(s.data.toList.take k).all fV=true) (fun i=>s.size-(intOf i).toNat)
 case atStart=>exact⟨0,aQ _,rfl,aR⟩
 case round =>
  obtain⟨k,hk,rfl,iL⟩:=hrel;have JL:=O iL;clear iL;by_cases fk:k<s.size
  ·have dP:=O (byte_at s k fk);generalize hx:s[k]=x at dP;cases e1:fV x
   ·have fe:=O (show Ar s.data.toList=false by unfold Ar;rw[yK dP.o e1];rfl);go_wp2_with (go_at_call 153;refine(yH _ _).mono ?_;rintro e w' ⟨rfl,rfl⟩)
    go_ret;rw[fe.o];exact⟨rfl,rfl⟩
   ·have pV:=O (show(s.data.toList.take (k+1)).all fV=true by rw[xc dP.o,JL.o,e1];rfl);go_wp2_with (go_at_call 153;refine(yH _ _).mono ?_;rintro e w' ⟨rfl,rfl⟩)
    go_round
    case rel=>exact⟨k+1,ab,bg,pV.o⟩
    case measure=>simp[intOf];omega
  ·have OZ:=O (show s.data.toList.all fV=true by have h:=JL.o;rw[aD bH]at h;exact h);go_wp2;go_ret;refine⟨fy ?_,rfl⟩;unfold Ar;rw[OZ.o,aO];simp
def sQ(l:aH):aH:=l.flatMap (fun c=>if c==34||c==92 then [92,c]else [c])
def fQ(l:aH):aH:=34 :: (sQ l++[34])
theorem O0(l:aH):(sQ l).length<=2*l.length:=by
 induction l with
 |nil=>simp[sQ]
 |cons c l ih=>simp[sQ]at ih ⊢; split<;>simp<;>omega
theorem Qo{l:aH}(h:l[k]?=some x):sQ (l.take (k+1))=sQ (l.take k)++(if x==34||x==92 then [92,x]else [x]):=by
 rw[cC,h];simp[sQ]
def nU(l:aH):Bool:=l.all np
def Qp(s:aj)(w:World)(e:Ending)(w':World):Prop :=
 e=.returned (.tuple (if nU s.data.toList then #[.string ⟨(fQ s.data.toList).toArray⟩,.nilIface]else #[.string ⟨#[]⟩,.iface 82 (.int .i64 3)]))/\Fr aS w w'
def agr(s:aj)(w:World)(v i:Value)(wr:World):Prop :=
 ∃k:Nat,k<=s.size/\i=.int .i64 k/\Bytes w.heap.size wr v (34 :: sQ (s.data.toList.take k))/\Fr aS w wr/\(s.data.toList.take k).all np=true
theorem Fg(s:aj)(w:World)(hs:s.size<17592186044416) :
  aB 107 #[.string s] w (Qp s w):=by
 go_enter func107,ntmps107;go_wp2;go_loopw[4,9] (agr s w) (fun _ i _=>s.size-(intOf i).toNat)
 case atStart =>
  exact⟨0,aQ _,rfl,Bytes.amh w 34,(ae _ _).alloc _,aR⟩
 case round =>
  obtain⟨k,hk,rfl,cQ,cL,iL⟩:=hrel;have JL:=O iL;clear iL;have ix:w.heap.size<=wr.heap.size:=cL.size;have Yf:=O (show(sQ (s.data.toList.take k)).length<=2*k from aF (O0 _) (Nat.mul_le_mul_left 2 bH));obtain⟨av,cv,hv⟩:=cQ.form;subst hv;by_cases fk:k<s.size
  ·have dP:=O (byte_at s k fk);generalize hx:s[k]=x at dP;cases e1:np x
   ·have fe:=O (show nU s.data.toList=false from yK dP.o e1);go_wp2_with (go_at_call 159;refine(pS _ _).mono ?_;rintro e w' ⟨rfl,rfl⟩)
    go_ret2;refine⟨?_,cL⟩;rw[fe.o];rfl
   ·have pV:=O (show(s.data.toList.take (k+1)).all np=true by rw[xc dP.o,JL.o,e1];rfl);have Mn:=O (Qo dP.o);cases e2:x==34
    ·cases e3:x==92
     ·have n1:((x.toNat:Int)==34)=false:=by rw[<-e2];exact uJ 34 ag
      have n2:((x.toNat:Int)==92)=false:=by rw[<-e3];exact uJ 92 ag
      have CC:=O (show sQ (s.data.toList.take (k+1))=sQ (s.data.toList.take k)++[x]by rw[Mn.o,e2,e3];rfl);clear e2 e3
      go_wp2_with (first|(at_builtin;refine j5 (o:=⟨some 36,_,_,_,_,_⟩) rfl _ _ rfl w.heap.size (.slice av _ cv) (34 :: sQ (s.data.toList.take k)) rfl (by apply gC;exact cQ) ⟨wr.heap.size,0,none⟩ 1 x rfl (jk _ _ _ _) (by have:=Yf.o;simp;omega) bH ?_;intro v' w2 fA xb)|(go_at_call 159;refine(pS _ _).mono ?_;rintro e w' ⟨rfl,rfl⟩))
      go_roundw
      case rel=>exact⟨k+1,ab,bg,by rw[CC.o];exact fA,(cL.alloc _).fP xb cQ.block,pV.o⟩
      case measure=>simp[intOf];omega
     ·have n1:((x.toNat:Int)==34)=false:=by rw[<-e2];exact uJ 34 ag
      have n2:((x.toNat:Int)==92)=true:=by rw[<-e3];exact uJ 92 ag
      have CC:=O (show sQ (s.data.toList.take (k+1))=sQ (s.data.toList.take k)++[92,x]by rw[Mn.o];simp only[e2,e3,ka,eb]);clear e2 e3
      go_wp2_with (first|(at_builtin;refine j5 (o:=⟨some 30,_,_,_,_,_⟩) rfl _ _ rfl w.heap.size (.slice av _ cv) (34 :: sQ (s.data.toList.take k)) rfl (by apply gC;exact cQ) ⟨wr.heap.size,0,none⟩ 1 92 rfl (jk _ _ _ _) (by have:=Yf.o;simp;omega) bH ?_;intro v1 w1 ri Fh;have pW:wr.heap.size+1<=w1.heap.size:=by simpa using Fh.size)|(at_builtin;refine j5 (o:=⟨some 36,_,_,_,_,_⟩) rfl _ _ rfl w.heap.size v1 (34 :: sQ (s.data.toList.take k)++[92]) rfl (by apply gC;exact ri) ⟨w1.heap.size,0,none⟩ 1 x rfl (jk _ _ _ _) (by have:=Yf.o;simp;omega) bH ?_;intro v' w2 fA xb)|(go_at_call 159;refine(pS _ _).mono ?_;rintro e w' ⟨rfl,rfl⟩))
      go_roundw
      case rel=>exact⟨k+1,ab,bg,by rw[CC.o];simpa using fA,((((cL.alloc _).fP Fh cQ.block).alloc _).fP xb ri.block),pV.o⟩
      case measure=>simp[intOf];omega
    ·have n1:((x.toNat:Int)==34)=true:=by rw[<-e2];exact uJ 34 ag
     have CC:=O (show sQ (s.data.toList.take (k+1))=sQ (s.data.toList.take k)++[92,x]by rw[Mn.o];simp only[e2,Bool.true_or,eb]);clear e2
     go_wp2_with (first|(at_builtin;refine j5 (o:=⟨some 30,_,_,_,_,_⟩) rfl _ _ rfl w.heap.size (.slice av _ cv) (34 :: sQ (s.data.toList.take k)) rfl (by apply gC;exact cQ) ⟨wr.heap.size,0,none⟩ 1 92 rfl (jk _ _ _ _) (by have:=Yf.o;simp;omega) bH ?_;intro v1 w1 ri Fh;have pW:wr.heap.size+1<=w1.heap.size:=by simpa using Fh.size)|(at_builtin;refine j5 (o:=⟨some 36,_,_,_,_,_⟩) rfl _ _ rfl w.heap.size v1 (34 :: sQ (s.data.toList.take k)++[92]) rfl (by apply gC;exact ri) ⟨w1.heap.size,0,none⟩ 1 x rfl (jk _ _ _ _) (by have:=Yf.o;simp;omega) bH ?_;intro v' w2 fA xb)|(go_at_call 159;refine(pS _ _).mono ?_;rintro e w' ⟨rfl,rfl⟩))
     go_roundw
     case rel=>exact⟨k+1,ab,bg,by rw[CC.o];simpa using fA,((((cL.alloc _).fP Fh cQ.block).alloc _).fP xb ri.block),pV.o⟩
     case measure=>simp[intOf];omega
  ·have OZ:=O (show s.data.toList.take k=s.data.toList from aD bH)
   go_wp2_with (at_builtin;refine j5 (o:=⟨some 40,_,_,_,_,_⟩) rfl _ _ rfl w.heap.size (.slice av _ cv) (34 :: sQ (s.data.toList.take k)) rfl (by apply gC;exact cQ) ⟨wr.heap.size,0,none⟩ 1 34 rfl (jk _ _ _ _) (by have:=Yf.o;simp;omega) bH ?_;intro v1 w1 ri Fh;obtain⟨a1,c1,EE⟩:=ri.form;subst EE;have ht1:=ri.text;simp only[aN,List.length_cons,List.length_nil,bw]at ht1)
   go_ret2;refine⟨?_,(cL.alloc _).fP Fh cQ.block⟩;have ags:nU s.data.toList=true:=by rw[<-OZ.o];exact JL.o
   rw[aA ags,OZ.o];rfl
abbrev bE:=List aj
structure gq where
 aE:Bool
 host:aj
 port:Int
def gq.cells(o:gq):aX:=[.bool o.aE,.string o.host,.int .i64 o.port]
structure fI (D:Type) where
 scheme:Int
 aK:aj
 bq:aj
 cy:aj
 cA:Bool
 eF:aj
 cN:Bool
 dom:D
def fI.cells(a:fI Value):aX:=[.int .i64 a.scheme,.string a.aK,.string a.bq,.string a.cy,.bool a.cA,.string a.eF,.bool a.cN,a.dom]
structure aP (D:Type) where
 o:gq
 proxy:Bool
 user:aj
 pass:aj
 a:fI D
 count:Int
 paths:D
def aP.cells(g:aP Value):aX :=
 [.bool g.o.aE,.string g.o.host,.int .i64 g.o.port,.bool g.proxy,.string g.user,.string g.pass,
  .int .i64 g.a.scheme,.string g.a.aK,.string g.a.bq,.string g.a.cy,.bool g.a.cA,.string g.a.eF,.bool g.a.cN,g.a.dom,.int .i64 g.count,g.paths]
def fI.Reads(R:Value->List aj->Prop)(r:fI Value)(a:fI (List aj)):Prop :=
 r.scheme=a.scheme/\r.aK=a.aK/\r.bq=a.bq/\r.cy=a.cy/\r.cA=a.cA/\r.eF=a.eF/\r.cN=a.cN/\R r.dom a.dom
def aP.Reads(R:Value->List aj->Prop)(r:aP Value)(g:aP (List aj)):Prop :=
 r.o=g.o/\r.proxy=g.proxy/\r.user=g.user/\r.pass=g.pass/\r.a.Reads R g.a/\r.count=g.count/\R r.paths g.paths
theorem fI.Reads.mono{S:Value->List aj->Prop}{r:fI Value}{a:fI (List aj)}(h:r.Reads R a)(hs:∀v l,R v l->S v l):r.Reads S a :=
 ⟨h.1,h.2.1,h.2.2.1,h.2.2.2.1,h.2.2.2.2.1,h.2.2.2.2.2.1,h.2.2.2.2.2.2.1,hs _ _ h.2.2.2.2.2.2.2⟩
theorem aP.Reads.mono{S:Value->List aj->Prop}{r:aP Value}{g:aP (List aj)}(h:r.Reads R g)(hs:∀v l,R v l->S v l):r.Reads S g :=
 ⟨h.1,h.2.1,h.2.2.1,h.2.2.2.1,h.2.2.2.2.1.mono hs,h.2.2.2.2.2.1,hs _ _ h.2.2.2.2.2.2⟩
def gq.kV(a b:gq):Bool:=a.aE==b.aE&&(a.host.toList==b.host.toList&&a.port==b.port)
theorem toList_inj{a b:aj}:a.toList=b.toList↔a=b:=by
 constructor
 ·intro h;rw[Go.ByteArray.toList_eq,Go.ByteArray.toList_eq]at h;exact Go.WideShapes.bytes_inj h
 ·intro h;rw[h]
theorem gq.wC(a b:gq):a.kV b=true↔a=b:=by
 obtain⟨s,h,p⟩:=a;obtain⟨s',h',p'⟩:=b;simp only[gq.kV,cF,dT,gq.mk.injEq,toList_inj]
theorem jo(a b:gq)(w:World):(binOp .eql 24 (.agg #[.bool a.aE,.string a.host,.int .i64 a.port]) (.agg #[.bool b.aE,.string b.host,.int .i64 b.port])).run prog w=.ok (.bool (a.kV b)) w:=by
 go_simp;by_cases h1:a.aE=b.aE<;>by_cases h2:a.host.toList=b.host.toList<;>by_cases h3:a.port=b.port<;>simp[gq.kV,h1,h2,h3]
theorem Bn(a b:gq)(w:World):(binOp .neq 24 (.agg #[.bool a.aE,.string a.host,.int .i64 a.port]) (.agg #[.bool b.aE,.string b.host,.int .i64 b.port])).run prog w=.ok (.bool (!a.kV b)) w:=by
 go_simp;by_cases h1:a.aE=b.aE<;>by_cases h2:a.host.toList=b.host.toList<;>by_cases h3:a.port=b.port<;>simp[gq.kV,h1,h2,h3]
def cB(x:aX)(i:Nat):Bool:=match x[i]? with|some (.bool b)=>b|_=>false
def cS(x:aX)(i:Nat):aj:=match x[i]? with|some (.string s)=>s|_=>ByteArray.empty
def cI(x:aX)(i:Nat):Int:=match x[i]? with|some (.int _ n)=>n|_=>0
def agw(x:aX):gq:=⟨cB x 0,cS x 1,cI x 2⟩
theorem G5:∀(l:aH) (c:UInt8),¬0<=Lib.indexByte l c↔ ∀x∈l,x≠c
 |[],c=>by simp[Lib.indexByte]
 |x :: l,c=>by
  have ih:=G5 l c;have hge:=Lib.indexByte_ge l c;show¬0<=(if x==c then(0:Int)else if Lib.indexByte l c== -1 then -1 else Lib.indexByte l c+1)↔_;by_cases hx:x=c
  ·subst hx;simp
  ·rw[ar (by simpa using hx)];by_cases h1:Lib.indexByte l c= -1
   ·rw[aA (by simpa using h1)];constructor
    ·intro _ y hy;rcases bB.1 hy with rfl|hy
     ·exact hx
     ·exact ih.1 (by rw[h1];decide) y hy
    ·intro _;decide
   ·rw[ar (by simpa using h1)];constructor
    ·intro h;omega
    ·intro h;have:=ih.2 (fun y hy=>h y (bP _ hy));omega
theorem JY(s:aj)(c:UInt8)(i:Nat)(w:World)(hs:s.size<4398046511104)(hi:Lib.indexByte s.data.toList c=(i:Int))(hl:i<s.size) :
  aB 133 #[.string s,.string ⟨#[c]⟩] w fun e w'=>e=.returned (.tuple #[.string (s.extract 0 i),.string (s.extract (i+1) s.size),.bool true])/\∃n,w'=w.drewN n:=by
 have Xm:aB 187 #[.string s,.string ⟨#[c]⟩] w fun e w'=>e=.returned (.tuple #[.string (s.extract 0 i),.string (s.extract (i+1) s.size),.bool true])/\∃n,w'=w.drewN n:=by
  have q0:(0:Int)<=(i:Int):=ab;have q1:(i:Int)<=(s.size:Int):=ab;have q2:(i:Int)+1<=(s.size:Int):=ab;have q3:(0:Int)<=(i:Int)+1:=ab;go_enter func187,ntmps187;go_wp2_with fail
  refine(stringslite_Index_one s c w).mono ?_;rintro e w1⟨rfl,rfl⟩;rw[hi];go_wp2;go_quiet (fail);go_wp2
  go_ret3
  exact⟨rfl,_,rfl⟩
 go_enter func133,ntmps133;go_wp2_with fail
 refine Xm.mono ?_;rintro e w1⟨rfl,n,rfl⟩;go_wp2
 go_ret3
 exact⟨rfl,n,rfl⟩
theorem Fs(s:aj)(c:UInt8)(w:World)(hi:¬0<=Lib.indexByte s.data.toList c) :
  aB 133 #[.string s,.string ⟨#[c]⟩] w fun e w'=>e=.returned (.tuple #[.string s,.string ⟨#[]⟩,.bool false])/\w'=w:=by
 have Xm:aB 187 #[.string s,.string ⟨#[c]⟩] w fun e w'=>e=.returned (.tuple #[.string s,.string ⟨#[]⟩,.bool false])/\w'=w:=by
  go_enter func187,ntmps187;go_wp2_with fail
  refine(stringslite_Index_one s c w).mono ?_;rintro e w1⟨rfl,rfl⟩;go_wp2
  go_ret3
  exact⟨rfl,rfl⟩
 go_enter func133,ntmps133;go_wp2_with fail
 refine Xm.mono ?_;rintro e w1⟨rfl,rfl⟩;go_wp2
 go_ret3
 exact⟨rfl,rfl⟩
open Go.RowKit Go.Sort
def ue(ls:List (aH)):List (aH):=ls.mergeSort fun x y=>decide (x<=y)
theorem TQ(base:Nat)(v:Value)(ls:List (aH))(w:World)(h:w.ownsRow base 9 1 v ls.length (ls.map encStr))(hl:ls.length<1000000) :
  aB 183 #[v] w fun e w'=>e=.returned (.tuple #[])/\w'.ownsRow base 9 1 v ls.length ((ue ls).map encStr)/\w.grownBy w' v.ownBlock:=by
 rcases h.2 with ⟨rfl,h0⟩|⟨g,cap,cur,rfl,ix,hb,h1,h2,h3,h4⟩
 ·obtain rfl:ls=[]:=dG.1 h0;refine(slices_Sort_string_none none 0 w).mono ?_;rintro e w'⟨rfl,rfl⟩;exact⟨rfl,by rw[show ue []=[]by simp[ue]];exact h,⟨rfl,rfl,rfl,ay _,fun _ _ _=>rfl⟩⟩
 ·refine(slices_Sort_string g 0 cap ls w (holds_of_block hb (by simpa using h4)) (bj hb) ab).mono ?_;rintro e w'⟨rfl,n,os,rfl⟩;exact⟨rfl,ownsRow_sorted aR ix hb h1 h2 h3,grownBy_sorted _⟩
theorem J0(base:Nat)(v:Value)(ls:List (aH))(w:World)(h:w.ownsRow base 9 1 v ls.length (ls.map encStr))(hl:ls.length<1000000) :
  aB 184 #[v] w fun e w'=>∃u,e=.returned u/\w'.ownsRow base 9 1 u (Lib.compact ls).length ((Lib.compact ls).map encStr)/\w.grownBy w' v.ownBlock:=by
 rcases h.2 with ⟨rfl,h0⟩|⟨g,cap,cur,rfl,ix,hb,h1,h2,h3,h4⟩
 ·obtain rfl:ls=[]:=dG.1 h0;refine(slices_Compact_string_empty none 0 w).mono ?_;rintro e w'⟨rfl,rfl⟩;exact⟨_,rfl,h,⟨rfl,rfl,rfl,ay _,fun _ _ _=>rfl⟩⟩
 ·refine(slices_Compact_string g 0 cap ls w (holds_of_block hb (by simpa using h4)) ab h1).mono ?_;have hle:=Lib.compact_length_le ls;obtain⟨ts,hts⟩:∃ts:List (aH),ts=Lib.compact ls++List.replicate (ls.length-(Lib.compact ls).length) []:=⟨_,rfl⟩;have hlen:ts.length=ls.length:=by rw[hts,aN,fi];omega
  rw[<-hts];rintro e w'⟨rfl,q,rfl⟩;have hw:=heap_sorted (n:=q) (os:= #[]) ts.toArray hb;have hg:=grownBy_sorted (w:=w) (g:=g) (n:=q) (os:= #[]) ts.toArray;rw[grow_empty]at hw hg;have tk:=take_putCells cur ts ab;refine⟨_,rfl,⟨aR,.inr ⟨g,cap,_,rfl,ix,hw,ab,h2,by simp[putCells,h3],?_⟩⟩,hg⟩
  have e1:(putCells encStr 0 ts.toArray cur).toList.take (Lib.compact ls).length=((putCells encStr 0 ts.toArray cur).toList.take ts.length).take (Lib.compact ls).length:=by
   rw[km,dL ab]
  rw[Nat.mul_one,e1,tk,hts,bG,List.take_left' aR]
def Sep(w:World)(v v':Value):Prop:=v'.ownBlock=v.ownBlock\/∀k,v'.ownBlock=some k->w.heap.size<=k
theorem CQ{P:Program}(w:World)(base:Nat)(t ty e:TypeId)(i:TypeInfo)(z:Value)(size bytes:Nat)(ht:P.underlying t=some (.slice e))(hi:P.info? e=some i)(hz:i.zero=some z)
  (Fx:i.size=size)(qM:i.bytes=bytes)(hzs:z.cells.size=size)(yx:0<size)
  (v:Value)(n:Nat)(xs:aX)(cQ:w.ownsRow base e size v n xs)
  (a:Addr)(m c:Nat)(news:aX)(hl:news.length=m*size)(ky:∀j u,news[j]?=some u->w.cell? (a.add j)=some u)(h1:∀u∈news,u.oneCell'=true)
  (h63:n+m<=maxLen)(CR:(n+m)*bytes<=140737488355328)(ix:base<=w.heap.size) :
  ∃v' w',(Builtin.append_ #[t,t] ty #[v,.slice (some a) m c]).run P w=.ok v' w'/\w'.ownsRow base e size v' (n+m) (xs++news)/\w.grownBy w' v.ownBlock/\Sep w v v':=by
 obtain⟨v',w',hr,h2,h3,_⟩:=run_append_own (P:=P) w base t ty e i z size bytes ht hi hz Fx qM hzs yx v n xs cQ a m c news hl ky h1 h63 CR ix;refine⟨v',w',hr,h2,h3,?_⟩;rcases cQ.2 with ⟨rfl,rfl⟩|⟨g,cap,cur,rfl,hbg,hg,hnc,hcm,hcs,rp⟩
 ·have hx:xs=[]:=cg (by simpa using cQ.1);subst hx;obtain⟨v2,w2,ob,Yi,_,_⟩:=run_append_own (P:=P) w w.heap.size t ty e i z size bytes ht hi hz Fx qM hzs yx (.slice none 0 0) 0 [] (World.ownsRow_nil _ _ _ _) a m c news hl ky h1 h63 CR (ay _);rw[hr]at ob;injection ob with e1 e2
  subst e1;exact Or.inr fun k hk=>(Yi.lt k hk).1
 ·by_cases aaV:n+m<=cap
  ·subst Fx;have sR:n*i.size+news.length<=cur.size:=by rw[hl,hcs, <-dE];exact bO _ aaV
   have ob:=run_append_room (P:=P) w t ty e i ht hi g n cap cur hg a m c news hl ky h1 aaV sR;rw[hr]at ob;injection ob with e1 e2
   subst e1;exact Or.inl rfl
  ·subst Fx;subst qM;have G8:n+m<=9223372036854775807:=by simp only[maxLen]at h63;omega
   have holds:∀j u,xs[j]?=some u->w.cell? ((⟨g,0,none⟩:Addr).add j)=some u:=cQ.cells (g:=g) rfl;have ob:=run_append_grow (P:=P) w t ty e i z ht hi hz ⟨g,0,none⟩ n cap xs cQ.1 holds a m c news hl ky ab ab (growslice_fits ab CR);rw[hr]at ob;injection ob with e1 e2
   subst e1;exact Or.inr fun k hk=>by simp[Value.ownBlock]at hk;omega
theorem yU{P:Program}{w:World}{ops:Array Oper}{rest:List Oper}{o:Oper}{a:Act}{Q:Exit->Act->World->Prop}(yE:o.guard=none)(s x:Operand)(t:TypeId)
  (ho:o.op=.call {callee:=.builtin .append,args:= #[s,x],argTypes:= #[t,t]})
  (base:Nat)(e:TypeId)(i:TypeInfo)(z:Value)(size bytes:Nat)(ht:P.underlying t=some (.slice e))(hi:P.info? e=some i)(hz:i.zero=some z)
  (Fx:i.size=size)(qM:i.bytes=bytes)(hzs:z.cells.size=size)(yx:0<size)
  (v:Value)(n:Nat)(xs:aX)(hs:a.eval s=v)(cQ:w.ownsRow base e size v n xs)
  (ad:Addr)(m c:Nat)(news:aX)(hx:a.eval x=.slice (some ad) m c)(hl:news.length=m*size)(ky:∀j u,news[j]?=some u->w.cell? (ad.add j)=some u)(h1:∀u∈news,u.oneCell'=true)
  (h63:n+m<=maxLen)(CR:(n+m)*bytes<=140737488355328)(ix:base<=w.heap.size)
  (h:∀v' w',w'.ownsRow base e size v' (n+m) (xs++news)->w.grownBy w' v.ownBlock->Sep w v v'->wpList P ops Q rest (a.put o.dst v') w'):wpList P ops Q (o :: rest) a w :=
 wpList_plain yE fun _ hK=>by
  obtain⟨v',w',hr,h2,h3,h4⟩:=CQ (P:=P) w base t o.type e i z size bytes ht hi hz Fx qM hzs yx v n xs cQ ad m c news hl ky h1 h63 CR ix;unfold Oper.wp execOp;simp only[ho,resolve,invoke,builtin,Sem.run_bind,Sem.run_pure,Result.andThen_ok,eC,cD,dp,hs,hx,hr];exact hK _ _ (h v' w' h2 h3 h4)
theorem Bp{ops:Array Oper}{rest:List Oper}{o:Oper}{a:Act}{Q:Exit->Act->World->Prop}{w:World}(yE:o.guard=none)(s x:Operand)
  (ho:o.op=.call {callee:=.builtin .append,args:= #[s,x],argTypes:= #[125,125]})(base:Nat)(v:Value)(l:List aj)(hs:a.eval s=v)(cQ:Strs base w v l)
  (ad:Addr)(c:Nat)(y:aj)(hx:a.eval x=.slice (some ad) 1 c)(hy:w.cell? ad=some (.string y))(hlen:l.length<4398046511104)(ix:base<=w.heap.size)
  (h:∀v' w',Strs base w' v' (l++[y])->w.grownBy w' v.ownBlock->Sep w v v'->wpList prog ops Q rest (a.put o.dst v') w'):wpList prog ops Q (o :: rest) a w:=by
 obtain⟨i0,hi,o9,kQ,ld⟩:=info_parts yG;refine yU yE s x 125 ho base 9 i0 (.string ⟨#[]⟩) 1 16 underlying125 hi o9 kQ ld rfl ag v l.length (l.map Value.string) hs cQ ad 1 c [.string y] hx rfl ?_ ?_ ?_ ?_ ix ?_
 ·intro j u hj
  match j,hj with
  |0,hj=>simp at hj;subst hj;simpa[Addr.add]using hy
 ·intro u hu;simp at hu;subst hu;rfl
 ·unfold maxLen;omega
 ·omega
 ·intro v' w' h1 h2 h3;exact h v' w' (by unfold Strs;simpa using h1) h2 h3
theorem J1{ops:Array Oper}{rest:List Oper}{o:Oper}{a:Act}{Q:Exit->Act->World->Prop}{w:World}(yE:o.guard=none)(s x:Operand)
  (ho:o.op=.call {callee:=.builtin .append,args:= #[s,x],argTypes:= #[125,125]})(base:Nat)(v:Value)(l:List aj)(hs:a.eval s=v)(cQ:Strs base w v l)
  (vx:Value)(m:List aj)(hx:a.eval x=vx)(hm:fM w vx m)(hlen:l.length+m.length<4398046511104)(ix:base<=w.heap.size)
  (h:∀v' w',Strs base w' v' (l++m)->w.grownBy w' v.ownBlock->wpList prog ops Q rest (a.put o.dst v') w'):wpList prog ops Q (o :: rest) a w:=by
 obtain⟨i0,hi,o9,kQ,ld⟩:=info_parts yG;obtain⟨ax,cx,fH⟩:=hm.form;cases ax with
 |none =>
  obtain⟨Yj,h2⟩:m=[]/\cx=0:=by
   rcases hm with ⟨a',c',hv,hs,hc⟩|⟨bk,o',c,hf,_⟩
   ·rw[fH]at hv;injection hv with e1 e2 e3
    exact⟨hs,e3.trans (hc e1.symm)⟩
   ·rw[fH]at hf;injection hf with e1;cases e1
  subst Yj;have TS:a.eval x=.slice none 0 0:=by rw[hx,fH,h2];rfl
  refine wpList_append_own_none yE s x 125 ho base 9 i0 1 underlying125 hi v l.length (l.map Value.string) hs cQ TS ?_;exact h v w (by rw[dR];exact cQ) ⟨rfl,rfl,rfl,ay _,fun _ _ _=>rfl⟩
 |some ad =>
  refine wpList_append_own w yE s x 125 ho base 9 i0 (.string ⟨#[]⟩) 1 16 underlying125 hi o9 kQ ld rfl ag v l.length (l.map Value.string) hs cQ ad m.length cx (m.map Value.string) (hx.trans fH) aR ?_ ?_ ?_ ?_ ix ?_
  ·intro j u hj;rcases hm with ⟨_,_,_,e,_⟩|⟨bk,o',c,hf,g1,g2,g3,g4⟩
   ·subst e;simp at hj
   ·rw[hf]at fH;cases fH;obtain⟨y,hy,rfl⟩:∃y,m[j]?=some y/\Value.string y=u:=by
     rw[List.getElem?_map]at hj;cases hmj:m[j]? with
     |none=>rw[hmj]at hj;cases hj
     |some y=>rw[hmj]at hj;exact⟨y,rfl,by simpa using hj⟩
    have ea:(Addr.add ⟨bk,o',none⟩ j)=⟨bk,o'+j,none⟩:=by unfold Addr.add;split<;>simp_all
    rw[ea];exact g4 j y hy
  ·intro u hu;obtain⟨y,_,rfl⟩:=bZ.1 hu;rfl
  ·unfold maxLen;omega
  ·omega
  ·intro v' w' h1 h2 _;exact h v' w' (by unfold Strs;simpa using h1) h2
def Still(base:Nat)(w:World)(k:Nat):Prop:=k<base\/∃c f,w.heap[k]?=some (.cells c 9 f)
def rR(base:Nat)(w:World)(S:dB):Prop:=∀k,S k->k<w.heap.size->base<=k/\∀c f,w.heap[k]?≠some (.cells c 9 f)
theorem rR.none(base:Nat)(w:World):rR base w aS:=fun _ h=>absurd h id
theorem Still.fr(h:Still base w k)(hf:Fr S w w')(ho:rR base w S):Still base w' k:=by
 rcases h with h|⟨c,f,h⟩
 ·exact Or.inl h
 ·exact Or.inr ⟨c,f,hf.keep h (fun hs=>(ho k hs (bj h)).2 c f h)⟩
structure du (base:Nat) (w:World) (v:Value) (ss:List aj):Prop where
 rd:fM w v ss
 own:∀k,v.ownBlock=some k->ss≠ []->k<w.heap.size/\Still base w k
 qZ:ss.length<4398046511104
theorem fM.empty(h:fM w v []):fM w' v []:=by
 rcases h with h|⟨bk,o,c,hv,_⟩
 ·exact Or.inl h
 ·exact Or.inl ⟨_,_,hv,rfl,fun e=>by cases e⟩
theorem du.fr(h:du base w v ss)(hf:Fr S w w')(ho:rR base w S):du base w' v ss:=by
 refine⟨?_,fun k hk hs=>⟨cO (h.own k hk hs).1 hf.size,(h.own k hk hs).2.fr hf ho⟩,h.qZ⟩;by_cases he:ss=[]
 ·subst he;exact h.rd.empty
 refine h.rd.fr hf (fun k hk hs=>?_);obtain⟨hl,jq⟩:=h.own k hk he;have rS:=ho k hs hl;rcases jq with g|⟨c,f,g⟩
 ·omega
 ·exact rS.2 c f g
theorem du.di(h:du base w v ss)(hf:Fr aS w w'):du base w' v ss:=h.fr hf (rR.none _ _)
theorem du.nil(base:Nat)(w:World):du base w (.slice none 0 0) []:=⟨fM.nil w,fun k hk=>by simp[Value.ownBlock]at hk,aR⟩
theorem Strs.in{base b:Nat}(h:Strs b w v ss)(hl:ss.length<4398046511104):du base w v ss:=by
 refine⟨h.at,fun k hk _=>?_,hl⟩;rcases h.2 with ⟨hv,_⟩|⟨g,cap,cur,hv,hg,hh,_⟩
 ·rw[hv]at hk;simp[Value.ownBlock]at hk
 ·rw[hv]at hk;simp[Value.ownBlock]at hk;subst hk;exact⟨bj hh,Or.inr ⟨_,_,hh⟩⟩
inductive kT {α β:Type} (R:α->β->Prop):List α->List β->Prop
 |nil:kT R [] []
 |cons {a b l m}:R a b->kT R l m->kT R (a :: l) (b :: m)
namespace kT
variable {α β : Type} {R T : α → β → Prop} {l l' : List α} {m m' : List β}
theorem len(h:kT R l m):l.length=m.length:=by induction h with
 |nil=>rfl
 |cons _ _ ih=>simp[ih]
theorem mono(h:kT R l m)(hs:∀a b,R a b->T a b):kT T l m:=by induction h with
 |nil=>exact .nil
 |cons h _ ih=>exact .cons (hs _ _ h) ih
theorem get(h:kT R l m){i:Nat}{a:α}(hi:l[i]?=some a):∃b,m[i]?=some b/\R a b:=by
 induction h generalizing i with
 |nil=>simp at hi
 |cons h _ ih =>
  cases i with
  |zero=>simp at hi;subst hi;exact⟨_,rfl,h⟩
  |succ i=>simpa using ih (by simpa using hi)
theorem app(h:kT R l m)(h':kT R l' m'):kT R (l++l') (m++m'):=by induction h with
 |nil=>exact h'
 |cons h _ ih=>exact .cons h ih
theorem take(h:kT R l m)(n:Nat):kT R (l.take n) (m.take n):=by
 induction h generalizing n with
 |nil=>simp;exact .nil
 |cons h _ ih=>cases n with
  |zero=>exact .nil
  |succ n=>exact .cons h (ih n)
theorem drop(h:kT R l m)(n:Nat):kT R (l.drop n) (m.drop n):=by
 induction h generalizing n with
 |nil=>simp;exact .nil
 |cons h t ih=>cases n with
  |zero=>exact .cons h t
  |succ n=>exact ih n
theorem filter(h:kT R l m){p:α->Bool}{q:β->Bool}(hpq:∀a b,R a b->p a=q b):kT R (l.filter p) (m.filter q):=by
 induction h with
 |nil=>exact .nil
 |cons h _ ih =>
  rw[List.filter_cons,List.filter_cons,hpq _ _ h];split
  ·exact .cons h ih
  ·exact ih
end kT
theorem Fr.setRow{a w:World}(h:Fr S a w){g:Nat}(hg:g<a.heap.size->S g)(cs:bS):Fr S a (w.setRow g cs) :=
 ⟨h.os,h.tape,h.output,by simpa[World.setRow]using h.size,fun k hk hn=>by
  rw[<-h.block k hk hn];simp only[World.setRow,Array.getElem?_modify];by_cases e:g=k
  ·subst e;exact absurd (hg hk) hn
  ·simp[e]⟩
def own(v:Value):dB:=fun k=>v.ownBlock=some k
theorem OwnRows.off{base b k:Nat}{e:TypeId}{xs:cY}(h:OwnRows b e k w v xs)(hb:base<=b)(he:e≠9):rR base w (own v):=by
 intro g hg _;obtain⟨cap,cur,_,h1,h2,_⟩:=h.open hg;exact⟨aF hb h1,fun c f e2=>by rw[h2]at e2;cases e2;exact he rfl⟩
theorem Fr.Pj(o:Obj)(h:(w.alloc o).grownBy w' v.ownBlock):Fr (own v) w w' :=
 ((ae (own v) w).alloc o).grown h (fun _ hk _=>hk)
abbrev fC := @rR.none
open Go.RowKit
def kA:Nat->Nat->aH
 |0,_=>[]
 |k+1,n=>kA k (n/16)++[C7 (n%16).toUInt8]
theorem nK:∀k n,(kA k n).length=k
 |0,_=>rfl
 |k+1,n=>by rw[kA,aN,nK k];rfl
theorem Bv:∀j n,C7 (n/16^j%16).toUInt8 :: kA j n=kA (j+1) n
 |0,n=>by simp[kA]
 |j+1,n=>by
  have h:=Bv j (n/16);rw[Nat.div_div_eq_div_mul,show 16*16^j=16^(j+1)from by rw[Nat.pow_succ];omega]at h;show _ :: (kA j (n/16)++[_])=kA (j+1) (n/16)++[_];rw[<-h];rfl
theorem Bw:∀d,kA d 0=List.replicate d 48
 |0=>rfl
 |d+1=>by
  rw[kA,show(0:Nat)/16=0 from rfl,Bw d,List.replicate_succ'];rfl
theorem C9:∀k d n,n<16^k->List.replicate d 48++kA k n=kA (k+d) n
 |0,d,n,h=>by
  obtain rfl:n=0:=by simpa using h
  rw[bw,Bw d];exact dR _
 |k+1,d,n,h=>by
  have h2:n/16<16^k:=by rw[Nat.pow_succ]at h;omega
  rw[show k+1+d=(k+d)+1 from ab,kA,kA, <-C9 k d (n/16) h2,cK]
def jt(n:Nat):aH:=kA 8 n
def Dd(dM:Bool)(x:Int)(i:Nat):UInt8:=if dM then(x/2^(8*i)%256).toNat.toUInt8 else(x/2^(24-8*i)%256).toNat.toUInt8
def qe(dM:Bool)(x:Int):aH:=(List.range 4).map (Dd dM x)
def kK(dM:Bool)(ws:List Int):aH:=ws.flatMap (qe dM)
def oG(dM:Bool)(ws:List Int):aH:=xS (kK dM ws)
theorem tI(dM:Bool)(x:Int):(qe dM x).length=4:=by simp[qe]
theorem De(dM:Bool)(x:Int)(j:Nat)(hj:j<4):(qe dM x).take (j+1)=(qe dM x).take j++[Dd dM x j]:=by
 have hg:(qe dM x)[j]?=some (Dd dM x j):=by simp[qe,hj]
 rw[cC,hg];rfl
theorem nY(dM:Bool)(ws:List Int):(kK dM ws).length=4*ws.length:=by
 unfold kK
 induction ws with
 |nil=>rfl
 |cons a l ih=>rw[List.flatMap_cons,aN,tI,ih,List.length_cons];omega
theorem ze(dM:Bool){ws:List Int}{x:Int}(h:ws[k]?=some x):kK dM (ws.take (k+1))=kK dM (ws.take k)++qe dM x:=by
 rw[cC,h];simp[kK]
theorem Kh(x:Int)(e:Nat):(((x/2^e%256).toNat.toUInt8.toNat:Nat):Int)=x/2^e%256:=by
 have h1:=Int.emod_nonneg (x/2^e) (show(256:Int)≠0 from ag);have h2:=Int.emod_lt_of_pos (x/2^e) (show(0:Int)<256 from ag);generalize x/2^e%256=y at *
 rw[show y.toNat.toUInt8.toNat=y.toNat from by simp[Nat.toUInt8];omega];omega
def abh(dM:Bool)(ws:List Int)(w:World)(v i:Value)(wr:World):Prop:=∃k:Nat,k<=ws.length/\i=.int .i64 k/\Bytes w.heap.size wr v (kK dM (ws.take k))/\Fr aS w wr
def agT(dM:Bool)(pre:aH)(x:Int)(w:World)(v i:Value)(wr:World):Prop:=∃j:Nat,j<=4/\i=.int .i64 j/\Bytes w.heap.size wr v (pre++(qe dM x).take j)/\Fr aS w wr
theorem Bx(g:Nat)(ws:List Int)(dM:Bool)(w:World)(hl:ws.length<=8)(hg:g<w.heap.size)(hc:∀(j:Nat) x,ws[j]?=some x->w.cell? ⟨g,j,none⟩=some (.int .u32 x))(hx:∀x∈ws,0<=x/\x<4294967296) :
  aB 240 #[.slice (some ⟨g,0,none⟩) ws.length ws.length,.bool dM] w fun e w'=>e=.returned (.string ⟨(oG dM ws).toArray⟩)/\Fr aS w w':=by
 have HC:=O hc;have HX:=O hx;clear hc hx;cases dM
 all_goals
  go_enter func240,ntmps240;go_wp2
 ·go_loopw[5,11] (abh false ws w) (fun _ i _=>ws.length-(intOf i).toNat)
  case atStart=>exact⟨0,aQ _,rfl,Bytes.nil _ _,ae _ _⟩
  case round =>
   obtain⟨k,hk,rfl,cQ,cL⟩:=hrel;by_cases fk:k<ws.length
   ·have dP:=O (List.getElem?_eq_getElem fk);obtain⟨x0,x1⟩:=HX.o _ (bM fk);have hcell:wr.cell? ⟨g,k,none⟩=some (.int .u32 ws[k]):=(cL.cell (p:=⟨g,k,none⟩) hg id).trans (HC.o k _ dP.o);generalize ws[k]=x at *
    have I9:=O (ze false dP.o);have Ev:=O (show(kK false (ws.take k)).length<=32 by rw[nY,aM];omega);generalize kK false (ws.take k)=pre at *
    obtain⟨av,cv,hv⟩:=cQ.form;subst hv;go_wp2;clear hcell;go_loopw[5,15] (agT false pre x w) (fun _ i _=>4-(intOf i).toNat)
    case atStart=>exact⟨0,ab,rfl,by simpa using cQ,cL⟩
    case round =>
     obtain⟨j,hj,rfl,fA,je⟩:=hrel;have ix:w.heap.size<=wr.heap.size:=je.size;obtain⟨av,cv,hv⟩:=fA.form;subst hv;by_cases hj4:j<4
     ·have Fw:(j:Int)<4:=ab;have jQ:=O (De false x j hj4);have qM:x/2^(24-8*j)%256=((Dd false x j).toNat:Int):=(Kh x (24-8*j)).symm;generalize Dd false x j=c at *
      have Ui:=O (show(pre++(qe false x).take j).length<100 by rw[aN,aM,tI];have:=Ev.o;omega);go_wp2_with (at_builtin;refine j5 rfl _ _ rfl w.heap.size (.slice av _ cv) (pre++(qe false x).take j) rfl (by apply gC;exact fA) ⟨wr.heap.size,0,none⟩ 1 c rfl (jk _ _ _ _) (by have:=Ui.o;omega) bH ?_;intro v' w2 fq xb)
      go_roundw
      case rel=>exact⟨j+1,ab,bg,by rw[jQ.o, <-cK];exact fq,(je.alloc _).fP xb fA.block⟩
      case measure=>simp[intOf];omega
     ·have hj5:j=4:=ab;subst hj5;have fq:Bytes w.heap.size wr (.slice av (pre++(qe false x).take 4).length cv) (pre++qe false x):=by
       have h:=fA;rw[aD (by rw[tI];omega)]at h ⊢; exact h
      have HO:=O fq;clear fq fA;go_wp2;go_roundw
      case rel=>exact⟨k+1,ab,bg,by rw[I9.o];exact HO.o,je⟩
      case measure=>simp[intOf];omega
   ·rw[aD ab]at cQ;have Ew:(kK false ws).length<=32:=by rw[nY];omega
    have jq:=O (show oG false ws=xS (kK false ws)from rfl);generalize kK false ws=bs at *
    obtain⟨av,cv,hv⟩:=cQ.form;subst hv;have Bf:=cQ.text;go_wp2_with fail
    refine(Ps ⟨bs.toArray⟩ wr (by show bs.toArray.size<_;simp;omega)).mono ?_;rintro e w3⟨rfl,il⟩;go_wp2;go_ret;rw[jq.o];exact⟨rfl,cL.trans il⟩
 ·go_loopw[5,11] (abh true ws w) (fun _ i _=>ws.length-(intOf i).toNat)
  case atStart=>exact⟨0,aQ _,rfl,Bytes.nil _ _,ae _ _⟩
  case round =>
   obtain⟨k,hk,rfl,cQ,cL⟩:=hrel;by_cases fk:k<ws.length
   ·have dP:=O (List.getElem?_eq_getElem fk);obtain⟨x0,x1⟩:=HX.o _ (bM fk);have hcell:wr.cell? ⟨g,k,none⟩=some (.int .u32 ws[k]):=(cL.cell (p:=⟨g,k,none⟩) hg id).trans (HC.o k _ dP.o);generalize ws[k]=x at *
    have I9:=O (ze true dP.o);have Ev:=O (show(kK true (ws.take k)).length<=32 by rw[nY,aM];omega);generalize kK true (ws.take k)=pre at *
    obtain⟨av,cv,hv⟩:=cQ.form;subst hv;go_wp2;clear hcell;go_loopw[5,15] (agT true pre x w) (fun _ i _=>4-(intOf i).toNat)
    case atStart=>exact⟨0,ab,rfl,by simpa using cQ,cL⟩
    case round =>
     obtain⟨j,hj,rfl,fA,je⟩:=hrel;have ix:w.heap.size<=wr.heap.size:=je.size;obtain⟨av,cv,hv⟩:=fA.form;subst hv;by_cases hj4:j<4
     ·have Fw:(j:Int)<4:=ab;have jQ:=O (De true x j hj4);have qM:x/2^(8*j)%256=((Dd true x j).toNat:Int):=(Kh x (8*j)).symm;generalize Dd true x j=c at *
      have Ui:=O (show(pre++(qe true x).take j).length<100 by rw[aN,aM,tI];have:=Ev.o;omega);go_wp2_with (at_builtin;refine j5 rfl _ _ rfl w.heap.size (.slice av _ cv) (pre++(qe true x).take j) rfl (by apply gC;exact fA) ⟨wr.heap.size,0,none⟩ 1 c rfl (jk _ _ _ _) (by have:=Ui.o;omega) bH ?_;intro v' w2 fq xb)
      go_roundw
      case rel=>exact⟨j+1,ab,bg,by rw[jQ.o, <-cK];exact fq,(je.alloc _).fP xb fA.block⟩
      case measure=>simp[intOf];omega
     ·have hj5:j=4:=ab;subst hj5;have fq:Bytes w.heap.size wr (.slice av (pre++(qe true x).take 4).length cv) (pre++qe true x):=by
       have h:=fA;rw[aD (by rw[tI];omega)]at h ⊢; exact h
      have HO:=O fq;clear fq fA;go_wp2;go_roundw
      case rel=>exact⟨k+1,ab,bg,by rw[I9.o];exact HO.o,je⟩
      case measure=>simp[intOf];omega
   ·rw[aD ab]at cQ;have Ew:(kK true ws).length<=32:=by rw[nY];omega
    have jq:=O (show oG true ws=xS (kK true ws)from rfl);generalize kK true ws=bs at *
    obtain⟨av,cv,hv⟩:=cQ.form;subst hv;have Bf:=cQ.text;go_wp2_with fail
    refine(Ps ⟨bs.toArray⟩ wr (by show bs.toArray.size<_;simp;omega)).mono ?_;rintro e w3⟨rfl,il⟩;go_wp2;go_ret;rw[jq.o];exact⟨rfl,cL.trans il⟩
def ac8(n:Nat):UInt8:=if n<26 then(n+65).toUInt8 else if n<52 then(n+71).toUInt8 else if n<62 then(n-4).toUInt8 else if n=62 then 43 else 47
def BW(a b c:UInt8):Nat:=a.toNat*65536+b.toNat*256+c.toNat
def rX(v i:Nat):UInt8:=ac8 (v/2^(18-6*i)%64)
def uX:aH->aH
 |[]=>[]
 |[a]=>[rX (BW a 0 0) 0,rX (BW a 0 0) 1,61,61]
 |[a,b]=>[rX (BW a b 0) 0,rX (BW a b 0) 1,rX (BW a b 0) 2,61]
 |a :: b :: c :: r=>rX (BW a b c) 0 :: rX (BW a b c) 1 :: rX (BW a b c) 2 :: rX (BW a b c) 3 :: uX r
def rB(l:aH):Nat->Nat
 |0=>0
 |k+1=>rB l k*256+(l.getD k 0).toNat
theorem Dl(l:aH):∀k,rB l k<256^k
 |0=>by simp[rB]
 |k+1=>by
  have h:=Dl l k;have h2:=(l.getD k 0).toNat_lt;rw[rB,Nat.pow_succ];omega
theorem ac9(v x:Nat)(hv:v<4294967296)(hx:x<256):bits .or .i64 ((v:Int)*256) (x:Int)=((v*256+x:Nat):Int):=by
 have hm:((v:Int)*256)=((v*256:Nat):Int):=ab;rw[hm];have h1:(BitVec.ofInt 64 ((v*256:Nat):Int)).toNat=v*256:=by
  rw[BitVec.ofInt_natCast,BitVec.toNat_ofNat];exact Nat.mod_eq_of_lt ab
 have h2:(BitVec.ofInt 64 (x:Int)).toNat=x:=by
  rw[BitVec.ofInt_natCast,BitVec.toNat_ofNat];exact Nat.mod_eq_of_lt ab
 show IntKind.i64.wrap ((BitVec.ofInt 64 ((v*256:Nat):Int) ||| BitVec.ofInt 64 (x:Int)).toNat:Int)=_;have h3:v*256 ||| x=v*256+x:=by
  have h:=Nat.shiftLeft_add_eq_or_of_lt (show x<2^8 from hx) v;rw[Nat.shiftLeft_eq]at h;exact h.symm
 rw[BitVec.toNat_or,h1,h2,h3,IntWalk.i64_left];exact IntWalk.wrap64_in _ ab
theorem Ut(r:aj)(k:Nat)(h:k<r.size):rB r.data.toList (k+1)=rB r.data.toList k*256+r[k].toNat:=by
 rw[rB,List.getD_eq_getElem?_getD,byte_at r k h];rfl
theorem QT(r:aj)(k:Nat)(h:¬k<r.size):rB r.data.toList (k+1)=rB r.data.toList k*256:=by
 rw[rB,List.getD_eq_getElem?_getD,tB r k h];simp only[Option.getD_none];exact Nat.add_zero _
theorem QU(r:aj):rB r.data.toList 3=BW (r.data.toList.getD 0 0) (r.data.toList.getD 1 0) (r.data.toList.getD 2 0):=by
 show((0*256+_)*256+_)*256+_=_*65536+_*256+_;rw[ia,bw,dE,Nat.mul_assoc]
def nu(v n:Nat):aH:=[rX v 0,rX v 1,if 2<=n then rX v 2 else 61,if 3<=n then rX v 3 else 61]
def ahc(w:World)(acc:aH)(v n:Nat)(i:Value)(wr:World):Prop :=
 ∃k:Nat,k<=4/\i=.int .i64 k/\FA w.heap.size w.heap.size (acc++(nu v n).take k) wr/\Fr aS w wr/\w.heap.size<=wr.heap.size
theorem zl:∀n (h:n<64),(⟨#[65,66,67,68,69,70,71,72,73,74,75,76,77,78,79,80,81,82,83,84,85,86,87,88,89,90,97,98,99,100,101,102,103,104,105,106,107,108,109,110,111,112,113,114,115,116,117,118,119,120,121,122,48,49,50,51,52,53,54,55,56,57,43,47]⟩:aj)[n]'h=ac8 n:=dt
theorem PG(v i:Nat)(hv:v<16777216):∃m:Nat,m<64/\ac8 m=rX v i/\bits .and .i64 ((v/2^(18-6*i):Nat):Int) 63=(m:Int):=by
 refine⟨v/2^(18-6*i)%64,Nat.mod_lt _ ag,rfl,?_⟩;have hx:v/2^(18-6*i)<16777216:=iD (Nat.div_le_self _ _) hv;generalize v/2^(18-6*i)=x at hx;have h1:(BitVec.ofInt 64 (x:Int)).toNat=x:=by
  rw[BitVec.ofInt_natCast,BitVec.toNat_ofNat];exact Nat.mod_eq_of_lt ab
 have h2:(BitVec.ofInt 64 63).toNat=63:=ag;show IntKind.i64.wrap ((BitVec.ofInt 64 (x:Int) &&& BitVec.ofInt 64 63).toNat:Int)=_;rw[BitVec.toNat_and,h1,h2,Nat.and_two_pow_sub_one_eq_mod x 6,IntWalk.i64_left];exact IntWalk.wrap64_in _ ab
theorem Ks(r:aj)(n:Nat):(r.extract n r.size).data.toList=r.data.toList.drop n:=by
 rw[ByteArray.data_extract,Array.toList_extract];show(r.data.toList.drop n).take (r.data.toList.length-n)=_;rw[aD aR]
theorem QV:∀(l:aH) (n:Nat),0<n->n<=3->n<=l.length->(n<3->n=l.length) ->
  uX l=nu (BW (l.getD 0 0) (l.getD 1 0) (l.getD 2 0)) n++uX (l.drop n)
 |[],n,h0,_,hl,_=>by simp at hl;omega
 |[a],n,h0,_,hl,_=>by
  obtain rfl:n=1:=by simp at hl;omega
  rfl
 |[a,b],n,h0,_,hl,h=>by
  obtain rfl:n=2:=by simp at hl h;omega
  rfl
 |a :: b :: c :: t,n,h0,h3,hl,h=>by
  obtain rfl:n=3:=by simp at hl h;omega
  rfl
theorem QW(r:aj)(v n:Nat)(Pm:0<n)(hn3:n<=3)(hnr:n<=r.size)(hnk:n<3->n=r.size)(hv:v=BW (r.data.toList.getD 0 0) (r.data.toList.getD 1 0) (r.data.toList.getD 2 0)) :
  uX r.data.toList=nu v n++uX (r.extract n r.size).data.toList:=by
 rw[Ks,hv];exact QV _ n Pm hn3 hnr hnk
theorem Dm(r:aj)(n:Nat):(r.extract n r.size).size=r.size-n:=by
 have h:(r.extract n r.size).data.toList.length=(r.data.toList.drop n).length:=by rw[Ks]
 rw[bJ]at h;exact h
def ahd(r:aj)(w0:World)(v i:Value)(wr:World):Prop :=
 ∃k:Nat,k<=3/\i=.int .i64 k/\v=.int .i64 (rB r.data.toList k)/\wr=w0
def ac_(w:World)(s:aj)(v:Value)(wr:World):Prop :=
 ∃(r:aj) (acc:aH),r.size<=s.size/\v=.string r/\acc.length<=4*(s.size-r.size)/\uX s.data.toList=acc++uX r.data.toList/\FA w.heap.size w.heap.size acc wr/\Fr aS w wr/\w.heap.size<=wr.heap.size
def lenOf:Value->Nat
 | .string r=>r.size
 |_=>0
theorem M9(s:aj)(w:World)(hs:s.size<4398046511104) :
  aB 104 #[.string s] w fun e w'=>e=.returned (.string ⟨(uX s.data.toList).toArray⟩)/\Fr aS w w':=by
 go_enter func104,ntmps104;go_wp2;go_loopw[0] (ac_ w s) (fun v _=>lenOf v)
 case atStart=>exact⟨s,[],ay _,rfl,aR,aR,FA.new w,(ae _ _).alloc _,aR⟩
 case round =>
  obtain⟨r,acc,hr,rfl,BS,hun,hb,hf,hz⟩:=hrel;have HUN:=O hun;clear hun;by_cases hr0:0<r.size
  ·have yC:(0:Int)<(r.size:Int):=ab;obtain⟨n,Pm,hn3,hnr,hni,hnk⟩:∃n:Nat,0<n/\n<=3/\n<=r.size/\min (3:Int) (r.size:Int)=(n:Int)/\(n<3->n=r.size):=⟨min 3 r.size,ab,ab,ab,ab,ab⟩;go_wp2_with fail
   go_loopw[5,14] (ahd r wr) (fun _ i _=>3-(intOf i).toNat)
   case atStart=>exact⟨0,ab,rfl,rfl,rfl⟩
   case round =>
    obtain⟨k,hk,rfl,rfl,rfl⟩:=hrel;by_cases Hj:k<3
    ·have o_:(k:Int)<3:=ab;have Uu:=Dl r.data.toList k;have am3:rB r.data.toList k<65536:=cO Uu (aF (Nat.pow_le_pow_right ab (show k<=2 from ab)) ag);have aua:¬(9223372036854775807:Int)<(rB r.data.toList k:Int)*256:=ab;by_cases QX:k<n
     ·have am4:(k:Int)<(n:Int):=ab;have am5:k<r.size:=ab;have hkr:(k:Int)<(r.size:Int):=ab;have jq:=O (Ut r k am5);have om:=r[k].toNat_lt;go_wp2_with fail
      refine⟨⟨k+1,ab,bg,?_,rfl⟩,by simp[intOf];omega⟩;rw[ac9 _ _ (Nat.lt_trans am3 ag) om,jq.o]
     ·have am4:¬(k:Int)<(n:Int):=ab;have jq:=O (QT r k ab);go_wp2_with fail
      refine⟨⟨k+1,ab,bg,?_,rfl⟩,by simp[intOf];omega⟩;rw[jq.o];rfl
    ·have o_:¬(k:Int)<3:=ab;have YY:k=3:=ab;subst YY;have Uu:=Dl r.data.toList 3;have hvv:=O (QU r);generalize rB r.data.toList 3=v at Uu hvv;go_wp2_with fail
     go_loopw[29] (ahc w acc v n) (fun i _=>4-(intOf i).toNat)
     case atStart=>exact⟨0,ab,rfl,by simpa using hb,hf,hz⟩
     case round =>
      obtain⟨k,hk,rfl,pW,dn,kQ⟩:=hrel;have ou:∀j,(acc++(nu v n).take j).length<=4*s.size+4:=by intro j;rw[aN,aM];show _+min j 4<=_;omega
      match k,hk,pW with
      |0,_,pW =>
       obtain⟨m,hm,hl,Dn⟩:=PG v 0 Uu;rw[show(((v/2^(18-6*0):Nat):Int))=(v:Int)/262144 from ab]at Dn;have QX:(0:Int)<=(n:Int):=ab;have hq:(0:Int)<=(m:Int)/\(m:Int)<64:=ab;go_wp2_with fail
       rw[zl m hm,hl];refine(j9 _ _ _ (rX v 0) wr pW (by have:=ou 0;omega) kQ).mono ?_;rintro e w2⟨rfl,ko,dz⟩;have ld:w.heap.size<=w2.heap.size:=aF kQ dz.size;have pN:FA w.heap.size w.heap.size (acc++(nu v n).take (0+1)) w2:=by
        have e:(nu v n).take (0+1)=(nu v n).take 0++[(rX v 0)]:=by simp[nu, *]
        rw[e, <-cK];exact ko
       clear pW ko;go_wp2;go_roundw
       case rel=>exact⟨0+1,ab,bg,pN,dn.lR dz,ld⟩
       case measure=>simp[intOf]
      |1,_,pW =>
       obtain⟨m,hm,hl,Dn⟩:=PG v 1 Uu;rw[show(((v/2^(18-6*1):Nat):Int))=(v:Int)/4096 from ab]at Dn;have QX:(1:Int)<=(n:Int):=ab;have hq:(0:Int)<=(m:Int)/\(m:Int)<64:=ab;go_wp2_with fail
       rw[zl m hm,hl];refine(j9 _ _ _ (rX v 1) wr pW (by have:=ou 1;omega) kQ).mono ?_;rintro e w2⟨rfl,ko,dz⟩;have ld:w.heap.size<=w2.heap.size:=aF kQ dz.size;have pN:FA w.heap.size w.heap.size (acc++(nu v n).take (1+1)) w2:=by
        have e:(nu v n).take (1+1)=(nu v n).take 1++[(rX v 1)]:=by simp[nu, *]
        rw[e, <-cK];exact ko
       clear pW ko;go_wp2;go_roundw
       case rel=>exact⟨1+1,ab,bg,pN,dn.lR dz,ld⟩
       case measure=>simp[intOf]
      |2,_,pW =>
       obtain⟨m,hm,hl,Dn⟩:=PG v 2 Uu;rw[show(((v/2^(18-6*2):Nat):Int))=(v:Int)/64 from ab]at Dn;by_cases am6:2<=n
       ·have QX:(2:Int)<=(n:Int):=ab;have hq:(0:Int)<=(m:Int)/\(m:Int)<64:=ab;go_wp2_with fail
        rw[zl m hm,hl];refine(j9 _ _ _ (rX v 2) wr pW (by have:=ou 2;omega) kQ).mono ?_;rintro e w2⟨rfl,ko,dz⟩;have ld:w.heap.size<=w2.heap.size:=aF kQ dz.size;have pN:FA w.heap.size w.heap.size (acc++(nu v n).take (2+1)) w2:=by
         have e:(nu v n).take (2+1)=(nu v n).take 2++[(rX v 2)]:=by simp[nu, *]
         rw[e, <-cK];exact ko
        clear pW ko;go_wp2;go_roundw
        case rel=>exact⟨2+1,ab,bg,pN,dn.lR dz,ld⟩
        case measure=>simp[intOf]
       ·have QX:¬(2:Int)<=(n:Int):=ab;go_wp2_with fail
        refine(j9 _ _ _ 61 wr pW (by have:=ou 2;omega) kQ).mono ?_;rintro e w2⟨rfl,ko,dz⟩;have ld:w.heap.size<=w2.heap.size:=aF kQ dz.size;have pN:FA w.heap.size w.heap.size (acc++(nu v n).take (2+1)) w2:=by
         have e:(nu v n).take (2+1)=(nu v n).take 2++[61]:=by simp[nu, *]
         rw[e, <-cK];exact ko
        clear pW ko;go_wp2;go_roundw
        case rel=>exact⟨2+1,ab,bg,pN,dn.lR dz,ld⟩
        case measure=>simp[intOf]
      |3,_,pW =>
       obtain⟨m,hm,hl,Dn⟩:=PG v 3 Uu;rw[show(((v/2^(18-6*3):Nat):Int))=(v:Int)from ab]at Dn;by_cases am6:3<=n
       ·have QX:(3:Int)<=(n:Int):=ab;have hq:(0:Int)<=(m:Int)/\(m:Int)<64:=ab;go_wp2_with fail
        rw[zl m hm,hl];refine(j9 _ _ _ (rX v 3) wr pW (by have:=ou 3;omega) kQ).mono ?_;rintro e w2⟨rfl,ko,dz⟩;have ld:w.heap.size<=w2.heap.size:=aF kQ dz.size;have pN:FA w.heap.size w.heap.size (acc++(nu v n).take (3+1)) w2:=by
         have e:(nu v n).take (3+1)=(nu v n).take 3++[(rX v 3)]:=by simp[nu, *]
         rw[e, <-cK];exact ko
        clear pW ko;go_wp2;go_roundw
        case rel=>exact⟨3+1,ab,bg,pN,dn.lR dz,ld⟩
        case measure=>simp[intOf]
       ·have QX:¬(3:Int)<=(n:Int):=ab;go_wp2_with fail
        refine(j9 _ _ _ 61 wr pW (by have:=ou 3;omega) kQ).mono ?_;rintro e w2⟨rfl,ko,dz⟩;have ld:w.heap.size<=w2.heap.size:=aF kQ dz.size;have pN:FA w.heap.size w.heap.size (acc++(nu v n).take (3+1)) w2:=by
         have e:(nu v n).take (3+1)=(nu v n).take 3++[61]:=by simp[nu, *]
         rw[e, <-cK];exact ko
        clear pW ko;go_wp2;go_roundw
        case rel=>exact⟨3+1,ab,bg,pN,dn.lR dz,ld⟩
        case measure=>simp[intOf]
      |4,_,pW =>
       have aub:(nu v n).take 4=nu v n:=rfl;have PH:=QW r v n Pm hn3 hnr hnk hvv.o;go_wp2_with fail
       refine⟨⟨r.extract n r.size,acc++nu v n,?_,rfl,?_,?_,pW,dn,kQ⟩,?_⟩
       ·rw[Dm];omega
       ·rw[Dm,aN];have hn4:(nu v n).length=4:=rfl;omega
       ·rw[HUN.o,PH,cK]
       ·show(r.extract n r.size).size<r.size;rw[Dm];omega
  ·have yC:¬(0:Int)<(r.size:Int):=ab;have fe:uX s.data.toList=acc:=by rw[HUN.o,show r.data.toList=[]from cg (show r.size=0 from ab)];simp[uX]
   go_wp2_with fail
   refine(Bq _ _ _ wr hb hz).mono ?_;rintro e w1⟨rfl,dn⟩;go_wp2;go_ret;rw[fe];exact⟨rfl,hf.lR dn⟩
def Fi(w:World)(v:Value):Option (Nat×Option Nat)->Prop
 |none=>v=.nilIface
 |some (n,none)=>v=.iface 82 (.int .i64 n)
 |some (n,some p)=>∃g,v=.iface 220 (.pointer (some ⟨g,0,none⟩))/\w.heap[g]?=some (.cells #[.int .i64 n,.int .i64 p] 222 (0,0))
def lM:Nat->aH->Except Nat (List (aH))
 |0,_=>.ok []
 |f+1,r =>
  let r1:=r.dropWhile dK
  let w:=r1.takeWhile fV
  let r3:=(r1.dropWhile fV).dropWhile dK
  let ws:=if w.isEmpty then []else [w]
  match r3 with
  |[]=>.ok ws
  |c :: r4=>if c==44 then(lM f r4).map (ws++ ·)else .error (r4.length+1)
def gU(l:aH):Except Nat (List (aH)):=lM (l.length+1) l
theorem oz(p:UInt8->Bool)(l:aH):l.dropWhile p=l.drop (l.takeWhile p).length:=by
 induction l with
 |nil=>rfl
 |cons a t ih=>by_cases h:p a<;>simp[h,ih]
theorem jV(p:UInt8->Bool)(l:aH)(i:Nat):l.drop (cM p l i)=(l.drop i).dropWhile p:=by
 rw[oz,ew,cM]
theorem yL(p:UInt8->Bool)(l:aH):l.takeWhile p=l.take (l.takeWhile p).length:=by
 induction l with
 |nil=>rfl
 |cons a t ih=>by_cases h:p a<;>simp[h];exact ih
theorem yM(p:UInt8->Bool)(s:aj)(i:Nat):(s.extract i (cM p s.data.toList i))=⟨((s.data.toList.drop i).takeWhile p).toArray⟩:=by
 apply Go.WideShapes.bytes_inj;rw[Lib.extract_data,yL,List.take_drop];rw[cM,List.drop_take];generalize (List.takeWhile p (List.drop i s.data.toList)).length=n;rw[show i+(i+n-i)-i=n from ab]
def dQ(l:List (aH)):List aj:=l.map fun w=>⟨w.toArray⟩
def Xk(l:aH)(k:Nat):Nat:=cM dK l k
def TD(l:aH)(k:Nat):Nat:=cM fV l (Xk l k)
def uS(l:aH)(k:Nat):Nat:=cM dK l (TD l k)
def xd(l:aH)(k:Nat):aH:=(l.drop (Xk l k)).takeWhile fV
def Xl(l:aH)(k:Nat):List (aH):=if(xd l k).isEmpty then []else [xd l k]
theorem vp(f:Nat)(l:aH)(k:Nat):lM (f+1) (l.drop k) =
  match l.drop (uS l k)with
  |[]=>.ok (Xl l k)
  |c :: r4=>if c==44 then(lM f r4).map (Xl l k++ ·)else .error (r4.length+1):=by
 rw[lM];simp only[uS,TD,Xk,jV,Xl,xd]
theorem Fj{l:aH}(h:l.length<=uS l k):lM (f+1) (l.drop k)=.ok (Xl l k):=by
 rw[vp,cP h]
theorem Bj{l:aH}(h:l[uS l k]?=some 44):lM (f+1) (l.drop k)=(lM f (l.drop (uS l k+1))).map (Xl l k++ ·):=by
 rw[vp,drop_at h];rfl
theorem Fk{l:aH}{c:UInt8}(h:l[uS l k]?=some c)(hc:(c==44)=false):lM (f+1) (l.drop k)=.error (l.length-uS l k):=by
 rw[vp,drop_at h];simp only[hc,cJ,eV];have:=(List.getElem?_eq_some_iff.1 h).1;simp;omega
theorem Yg(l:aH)(k:Nat):k<=Xk l k/\Xk l k<=TD l k/\TD l k<=uS l k:=⟨lA,lA,lA⟩
theorem agt{l:aH}(h:k<=l.length):Xk l k<=l.length/\TD l k<=l.length/\uS l k<=l.length :=
 ⟨gZ h,gZ (gZ h),gZ (gZ (gZ h))⟩
theorem Fl(p:UInt8->Bool)(l:aH)(k:Nat):cM p l (cM p l k)=cM p l k:=by
 unfold cM;have h:(l.drop (k+((l.drop k).takeWhile p).length)).takeWhile p=[]:=by
  rw[<-ew, <-oz];cases hd:(l.drop k).dropWhile p with
  |nil=>rfl
  |cons a t =>
   have:=List.head_dropWhile_not p (l:=l.drop k) (by rw[hd];simp);simp only[hd,List.head_cons]at this;simp[this]
 rw[h];rfl
theorem JM{l:aH}(h:xd l k=[]):TD l k=Xk l k/\uS l k=Xk l k:=by
 have h1:TD l k=Xk l k:=by unfold TD cM;rw[show(l.drop (Xk l k)).takeWhile fV=[]from h];rfl
 exact⟨h1,by unfold uS;rw[h1];exact Fl _ _ _⟩
theorem py:∀(f:Nat) {r:aH},r.length<f->lM f r=lM (r.length+1) r
 |0,_,h=>absurd h (cq _)
 |f+1,r,h=>by
  have key:∀(c:UInt8) (r4:aH),((r.dropWhile dK).dropWhile fV).dropWhile dK=c :: r4->r4.length<r.length:=by
   intro c r4 e;have h1:=((iR (p:=dK) (l:=(r.dropWhile dK).dropWhile fV))).length_le;have h2:=((iR (p:=fV) (l:=r.dropWhile dK))).length_le;have h3:=((iR (p:=dK) (l:=r))).length_le;rw[e]at h1;simp at h1;omega
  rw[lM,lM];cases e:((r.dropWhile dK).dropWhile fV).dropWhile dK with
  |nil=>rfl
  |cons c r4 =>
   have hk:=key c r4 e;simp only;rw[py f (show r4.length<f from ab),py r.length hk]
def jm(s:aj)(w:World)(e:Ending)(w':World):Prop :=
 ∃v er,e=.returned (.tuple #[v,er])/\Fr aS w w' /\
  match gU s.data.toList with
  | .ok ws=>if 40<ws.length then v=.slice none 0 0/\Fi w' er (some (4,none))else Strs w.heap.size w' v (dQ ws)/\er=.nilIface
  | .error m=>v=.slice none 0 0/\Fi w' er (some (3,some (s.size-m)))
theorem jm.ok(h:gU s.data.toList=.ok ws)(hn:ws.length<=40)(hv:Strs w.heap.size w' v (dQ ws))(hf:Fr aS w w') :
  jm s w (.returned (.tuple #[v,.nilIface])) w':=⟨v,_,rfl,hf,by rw[h];show(if 40<ws.length then _ else _);rw[ar (show¬40<ws.length from ab)];exact⟨hv,rfl⟩⟩
theorem jm.long(h:gU s.data.toList=.ok ws)(hn:40<ws.length)(hf:Fr aS w w') :
  jm s w (.returned (.tuple #[.slice none 0 0,.iface 82 (.int .i64 4)])) w':=⟨_,_,rfl,hf,by rw[h];show(if 40<ws.length then _ else _);rw[aA hn];exact⟨rfl,rfl⟩⟩
theorem jm.bad{m g:Nat}(h:gU s.data.toList=.error m)(hg:w'.heap[g]?=some (.cells #[.int .i64 3,.int .i64 (s.size-m:Nat)] 222 (0,0)))(hf:Fr aS w w') :
  jm s w (.returned (.tuple #[.slice none 0 0,.iface 220 (.pointer (some ⟨g,0,none⟩))])) w':=⟨_,_,rfl,hf,by rw[h];exact⟨rfl,g,rfl,hg⟩⟩
def amm(s:aj)(w:World)(v:Value)(wr:World):Prop :=
 ∃k acc,k<=s.size/\acc.length<=k/\dw wr w.heap.size s k/\Strs (w.heap.size+1) wr v (dQ acc)/\Fr aS w wr /\
  gU s.data.toList=(lM (s.size-k+1) (s.data.toList.drop k)).map (acc++ ·)
theorem Fr.xG{wr w1:World}{c:Nat}(h:Fr aS w wr)(g:Fr (one c) wr w1)(hc:w.heap.size<=c):Fr aS w w1:=h.step g (fun k hk e=>by have e':k=c:=e;omega)
theorem JN(a:List (aH))(x:aH):dQ (a++[x])=dQ a++[⟨x.toArray⟩]:=by simp[dQ]
theorem pz(a:List (aH)):(dQ a).length=a.length:=by simp[dQ]
theorem O2{l:aH}(h:xd l k≠ []):Xl l k=[xd l k]:=by unfold Xl;rw[ar (by simpa using h)]
theorem JO{l:aH}(h:xd l k=[]):Xl l k=[]:=by unfold Xl;rw[h];rfl
theorem TE{a b:List (aH)}(h:r=.ok b):r.map (a++ ·)=.ok (a++b):=by rw[h];rfl
theorem Fm{a:List (aH)}{m:Nat}(h:r=.error m):r.map (a++ ·)=.error m:=by rw[h];rfl
theorem map_map{a b:List (aH)}(r:Except Nat (List (aH))):(r.map (b++ ·)).map (a++ ·)=r.map ((a++b)++ ·):=by cases r<;>simp[Except.map]
theorem xH{b b':Nat}(h:Strs b' w v ss)(hb:b<=b'):Strs b w v ss:=by
 obtain⟨h1,h2⟩:=h;refine⟨h1,?_⟩;rcases h2 with h2|⟨g,cap,cur,hv,hg,r⟩
 ·exact Or.inl h2
 ·exact Or.inr ⟨g,cap,cur,hv,aF hb hg,r⟩
theorem JP(s:aj)(w:World)(hs:s.size<4398046511104) :
  aB 175 #[.string s] w (jm s w):=by
 have hm:s.size<=maxLen:=ft;go_enter func175,ntmps175;go_wp2_with (go_at_call 117;refine(Tx _ _).mono ?_;rintro e w1 ⟨rfl,rfl⟩)
 go_loopw[4] (amm s w) (fun _ wr=>s.size-pq wr w.heap.size)
 case atStart=>exact⟨0,[],aQ _,ay _,aC _ _,kI _ _,(ae _ _).alloc _,by rw[eE];cases h:lM (s.size-0+1) s.data.toList<;>simp[gU,Except.map]<;>simpa using h⟩
 case round =>
  obtain⟨k,acc,hk,agu,hc,cQ,cL,uR⟩:=hrel;have gG:=O uR;clear uR;have ix:w.heap.size+1<=wr.heap.size:=hc.lt;have agv:=Yg s.data.toList k;have hle:=agt (l:=s.data.toList) (k:=k) (by simpa using hk);have yx:s.data.toList.length=s.size:=aR;rw[yx]at hle;obtain⟨m1,m2,m3⟩:=agv;obtain⟨q1,q2,q3⟩:=hle;have pU:=O hc.pos;obtain⟨pA,CD⟩:∃x,x=acc++Xl s.data.toList k:=⟨_,rfl⟩;have EF:=O CD;clear CD;go_wp2_with fail
  refine(mo _ s k wr hc hm hk).mono ?_;rintro e w1⟨rfl,pk,dn⟩;have lq:=cL.xG dn (ay _);have ri:=cQ.fr dn (fun k hk=>by have e:k=w.heap.size:=hk;omega);have BQ:w.heap.size+1<=w1.heap.size:=pk.lt;go_wp2_with fail
  refine(vo _ s _ w1 pk hm q1).mono ?_;rintro e w2⟨rfl,se,dz⟩;have fY:=lq.xG dz (ay _);have fA:=ri.fr dz (fun k hk=>by have e:k=w.heap.size:=hk;omega);have Mo:w.heap.size+1<=w2.heap.size:=se.lt;have Yh:dw w2 w.heap.size s (TD s.data.toList k):=se;rw[yM];have hW:((s.data.toList.drop (cM dK s.data.toList k)).takeWhile fV)=xd s.data.toList k:=rfl;rw[hW];clear hW se pk dn dz
  generalize hW2:xd s.data.toList k=W;have HW:=O hW2;clear hW2;cases W with
  |nil =>
   have hem:=O (JM HW.o);have tZ:dw w2 w.heap.size s (uS s.data.toList k):=by have h:=Yh;rw[hem.o.1, <-hem.o.2]at h;exact h
   have Bk:Strs (w.heap.size+1) w2 u4 (dQ pA):=by rw[EF.o,JO HW.o,dR];exact fA
   clear Yh fA ri cQ;have hlen:pA.length<=k+1:=by have e:=EF.o;rw[JO HW.o,dR]at e;rw[e];omega
   obtain⟨av,cv,hv⟩:=Bk.form;subst hv;go_wp2_with fail
   by_cases Au:s.size<=uS s.data.toList k
   ·have fe:=O (show gU s.data.toList=.ok pA by rw[gG.o,TE (Fj (by simpa using Au)),EF.o]);have hd:decide (s.size<=uS s.data.toList k)=true:=by simpa using Au
    refine(wB _ s _ w2 tZ).mono ?_;rintro e w4⟨rfl,n4,rfl⟩;rw[hd];by_cases GW:40<(dQ pA).length
    ·have acw:((40:Int)<((dQ pA).length:Int)):=ab;go_wp2;go_ret2;exact jm.long fe.o (by rw[pz]at GW;exact GW) (fY.drewN _)
    ·have acw:¬((40:Int)<((dQ pA).length:Int)):=ab;go_wp2;go_ret2;exact jm.ok fe.o (by rw[pz]at GW;omega) (xH Bk (bV _)) (fY.drewN _)
   ·have hd:decide (s.size<=uS s.data.toList k)=false:=by simpa using Au
    refine(wB _ s _ w2 tZ).mono ?_;rintro e w4⟨rfl,n4,rfl⟩;rw[hd];have tW:dw (w2.drewN n4) w.heap.size s (uS s.data.toList k):=tZ;have O5:Strs (w.heap.size+1) (w2.drewN n4) _ (dQ pA):=Bk;have jO:=fY.drewN n4;go_wp2_with fail
    refine(pT _ s _ 44 _ tW hm).mono ?_;rintro e w5⟨rfl,tX,lL⟩;have xe:=jO.xG lL (ay _);have hv5:=O5.fr lL (fun k hk=>by have e:k=w.heap.size:=hk;omega);have tV:uS s.data.toList k<s.data.toList.length:=by simpa using Au
    have dP:=O (List.getElem?_eq_getElem tV);cases e1:j6 s (uS s.data.toList k) 44
    ·have fe:=O (show gU s.data.toList=.error (s.data.toList.length-uS s.data.toList k)by
      rw[gG.o,Fm (Fk dP.o (by have h:=e1;unfold j6 at h;rw[dP.o]at h;simpa using h))])
     rw[po e1]at tX;have c1:=tX.gW;have Ev:=O (show s.size-(s.data.toList.length-uS s.data.toList k)=uS s.data.toList k by rw[yx]at tV ⊢; omega);go_wp2
     go_region
     all_goals
      go_wp2;go_ret2;exact jm.bad fe.o (by rw[Ev.o];exact aC w5 _) ((xe.alloc _).drew)
    ·have fe:=O (show gU s.data.toList=(lM (s.size-(uS s.data.toList k+1)+1) (s.data.toList.drop (uS s.data.toList k+1))).map (pA++ ·)by
      rw[gG.o,EF.o,Bj (by have h:=e1;unfold j6 at h;simpa using h),map_map];rw[py (f:=s.size-k) bH,py (f:=s.size-(uS s.data.toList k+1)+1) aR])
     rw[pn e1]at tX;go_wp2;go_roundw
     case rel=>exact⟨_,pA,ab,ab,tX,hv5,xe,fe.o⟩
     case measure=>rw[pU.o,tX.pos];omega
  |cons x W' =>
   have hne:xd s.data.toList k≠ []:=by rw[HW.o];simp
   have Ce:=O hne;clear hne;have CE:=O (show dQ pA=dQ acc++[⟨(x :: W').toArray⟩]by rw[EF.o,O2 Ce.o,HW.o,JN]);have hlen:pA.length<=k+1:=by have e:=EF.o;rw[O2 Ce.o]at e;rw[e];simp;omega
   obtain⟨av,cv,hv⟩:=fA.form;subst hv;have hlA:acc.length<4398046511104:=ab;have Ew:=O (pz acc);clear ri cQ;go_wp2_with (at_builtin;refine nH rfl _ _ rfl (w.heap.size+1) (.slice av _ cv) (dQ acc) rfl (by apply iy;exact fA) ⟨w2.heap.size,0,none⟩ 1 ⟨(x :: W').toArray⟩ rfl (jk _ _ _ _) (by rw[Ew.o];exact hlA) bH ?_;intro v' w3 fq Cf)
   have acx:dw w3 w.heap.size s (TD s.data.toList k):=by
    have h2:dw (w2.alloc (.cells #[.string ⟨(x :: W').toArray⟩] 9)) w.heap.size s (TD s.data.toList k):=Yh.alloc;unfold dw at h2 ⊢;rw[Cf.block _ (bj h2) (fun e=>by have:=fA.block _ e.symm;omega)];exact h2
   have iq:=(fY.alloc (.cells #[.string ⟨(x :: W').toArray⟩] 9)).fP Cf (fun k hk=>by have:=fA.block k hk;omega);rw[<-CE.o]at fq;clear fA Cf Yh;have TF:w.heap.size+1<=w3.heap.size:=acx.lt;go_wp2_with fail
   refine(mo _ s _ w3 acx hm q2).mono ?_;rintro e w6⟨rfl,tZ,nz⟩;have tZ:dw w6 w.heap.size s (uS s.data.toList k):=tZ;have yy:=iq.xG nz (ay _);have Bk:=fq.fr nz (fun k hk=>by have e:k=w.heap.size:=hk;omega);clear fq nz acx;have hs6:w.heap.size+1<=w6.heap.size:=tZ.lt;obtain⟨av3,cv3,hv⟩:=Bk.form;subst hv;go_wp2_with fail
   by_cases Au:s.size<=uS s.data.toList k
   ·have fe:=O (show gU s.data.toList=.ok pA by rw[gG.o,TE (Fj (by simpa using Au)),EF.o]);have hd:decide (s.size<=uS s.data.toList k)=true:=by simpa using Au
    refine(wB _ s _ w6 tZ).mono ?_;rintro e w4⟨rfl,n4,rfl⟩;rw[hd];by_cases GW:40<(dQ pA).length
    ·have acw:((40:Int)<((dQ pA).length:Int)):=ab;go_wp2;go_ret2;exact jm.long fe.o (by rw[pz]at GW;exact GW) (yy.drewN _)
    ·have acw:¬((40:Int)<((dQ pA).length:Int)):=ab;go_wp2;go_ret2;exact jm.ok fe.o (by rw[pz]at GW;omega) (xH Bk (bV _)) (yy.drewN _)
   ·have hd:decide (s.size<=uS s.data.toList k)=false:=by simpa using Au
    refine(wB _ s _ w6 tZ).mono ?_;rintro e w4⟨rfl,n4,rfl⟩;rw[hd];have tW:dw (w6.drewN n4) w.heap.size s (uS s.data.toList k):=tZ;have O5:Strs (w.heap.size+1) (w6.drewN n4) _ (dQ pA):=Bk;have jO:=yy.drewN n4;go_wp2_with fail
    refine(pT _ s _ 44 _ tW hm).mono ?_;rintro e w5⟨rfl,tX,lL⟩;have xe:=jO.xG lL (ay _);have hv5:=O5.fr lL (fun k hk=>by have e:k=w.heap.size:=hk;omega);have tV:uS s.data.toList k<s.data.toList.length:=by simpa using Au
    have dP:=O (List.getElem?_eq_getElem tV);cases e1:j6 s (uS s.data.toList k) 44
    ·have fe:=O (show gU s.data.toList=.error (s.data.toList.length-uS s.data.toList k)by
      rw[gG.o,Fm (Fk dP.o (by have h:=e1;unfold j6 at h;rw[dP.o]at h;simpa using h))])
     rw[po e1]at tX;have c1:=tX.gW;have Ev:=O (show s.size-(s.data.toList.length-uS s.data.toList k)=uS s.data.toList k by rw[yx]at tV ⊢; omega);go_wp2
     go_region
     all_goals
      go_wp2;go_ret2;exact jm.bad fe.o (by rw[Ev.o];exact aC w5 _) ((xe.alloc _).drew)
    ·have fe:=O (show gU s.data.toList=(lM (s.size-(uS s.data.toList k+1)+1) (s.data.toList.drop (uS s.data.toList k+1))).map (pA++ ·)by
      rw[gG.o,EF.o,Bj (by have h:=e1;unfold j6 at h;simpa using h),map_map];rw[py (f:=s.size-k) bH,py (f:=s.size-(uS s.data.toList k+1)+1) aR])
     rw[pn e1]at tX;go_wp2;go_roundw
     case rel=>exact⟨_,pA,ab,ab,tX,hv5,xe,fe.o⟩
     case measure=>rw[pU.o,tX.pos];omega
theorem GX:∀(f:Nat) (r a z:aH),r.length<=f->vg r=some (a,z)->a.length+z.length+1<=r.length
 |0,r,a,z,hf,h=>by
  have:r=[]:=cg ab;subst this;rw[vg.eq_def]at h;simp at h
 |f+1,[],a,z,hf,h=>by rw[vg.eq_def]at h;simp at h
 |f+1,x :: r,a,z,hf,h=>by
  rw[vg.eq_def]at h;simp only at h;by_cases h1:(x==34)=true
  ·rw[aA h1]at h;cases h;simp
  ·rw[ar h1]at h;by_cases h2:(x==92)=true
   ·rw[aA h2]at h;cases r with
    |nil=>simp at h
    |cons y r' =>
     simp only at h;by_cases h3:np y=true
     ·rw[aA h3]at h;cases hq:vg r' with
      |none=>rw[hq]at h;simp at h
      |some p =>
       rw[hq]at h;simp at h;obtain⟨rfl,rfl⟩:=h;have:=GX f r' p.1 p.2 (by simp at hf;omega) hq;simp;omega
     ·rw[ar h3]at h;simp at h
   ·rw[ar h2]at h;by_cases h3:np x=true
    ·rw[aA h3]at h;cases hq:vg r with
     |none=>rw[hq]at h;simp at h
     |some p =>
      rw[hq]at h;simp at h;obtain⟨rfl,rfl⟩:=h;have:=GX f r p.1 p.2 (by simp at hf;omega) hq;simp;omega
    ·rw[ar h3]at h;simp at h
def TG(k:Int)(n:Nat):Nat:=(max 0 (min k n)).toNat
theorem xI(b:Nat)(s:aj)(i:Nat)(k:Int)(w:World)(h:dw w b s i)(hs:s.size<=maxLen) :
  aB 212 #[.pointer (some ⟨b,0,none⟩),.int .i64 k] w fun e w'=>e=.returned (.tuple #[])/\dw w' b s (TG k s.size)/\Fr (one b) w w':=by
 have h0:=h.cell0;have h1:=h.gW;have hf:=h.free 1;unfold maxLen at hs;go_enter func212,ntmps212;go_wp2;go_end0;rw[show max 0 (min k (s.size:Int))=((TG k s.size:Nat):Int)from by unfold TG;omega];exact⟨rfl,h.setCell,mj w b _ 0⟩
def GY(l:aH):Bool:=Ar l||nU l
def iA:List aj:=[⟨#[68,69,76,69,84,69]⟩,⟨#[71,69,84]⟩,⟨#[72,69,65,68]⟩,⟨#[79,80,84,73,79,78,83]⟩,⟨#[80,79,83,84]⟩,⟨#[80,85,84]⟩]
def nr:List aj->aj->aj
 |[],s=>s
 |m :: l,s=>if dH s.data.toList m.data.toList then m else nr l s
def jD(s:aj):aj:=nr iA s
def qJ(s:aj):Bool:=s.toList== [71,69,84]||s.toList== [72,69,65,68]||s.toList== [80,79,83,84]
theorem yS:∀(l:List aj) (s:aj),(nr l s∈l/\dH s.data.toList (nr l s).data.toList=true)\/nr l s=s
 |[],s=>.inr rfl
 |m :: l,s=>by
  unfold nr;by_cases h:dH s.data.toList m.data.toList=true
  ·rw[aA h];exact .inl ⟨cX .., h⟩
  ·rw[ar h];rcases yS l s with ⟨h1,h2⟩|h1
   ·exact .inl ⟨bP _ h1,h2⟩
   ·exact .inr h1
theorem MM(s:aj)(w:World) :
  aB 126 #[.string s] w fun e w'=>e=.returned (.bool (qJ s))/\w=w':=by
 by_cases h1:s.toList=[71,69,84]
 ·have hb:=O (show qJ s=true by unfold qJ;rw[h1];rfl);go_enter func126,ntmps126;go_wp2;go_ret;exact⟨fy hb.o.symm,rfl⟩
 ·by_cases h2:s.toList=[72,69,65,68]
  ·have hb:=O (show qJ s=true by unfold qJ;rw[h2];rfl);go_enter func126,ntmps126;go_wp2;go_ret;exact⟨fy hb.o.symm,rfl⟩
  ·have hb:=O (show qJ s=(s.toList== [71,69,84]||s.toList== [72,69,65,68]||s.toList== [80,79,83,84])from rfl);go_enter func126,ntmps126;go_wp2;go_ret;exact⟨fy hb.o.symm,rfl⟩
def agy(s:aj)(w:World)(i:Value)(wr:World):Prop:=∃k:Nat,k<=6/\i=.int .i64 k/\jD s=nr (iA.drop k) s/\Fr aS w wr
theorem xL(s:aj)(w:World)(hs:s.size<100000) :
  aB 73 #[.string s] w fun e w'=>e=.returned (.string (jD s))/\Fr aS w w':=by
 have HC:=O (show∀U,Fr aS (w.alloc (.cells (iA.map Value.string).toArray 9)) U->∀(k:Nat) x,iA[k]?=some x->U.cell? ⟨w.heap.size,k,none⟩=some (.string x)from fun U hU k x hx=>by
  have h:=hU.keep (aC w (.cells (iA.map Value.string).toArray 9)) id;have e:(iA.map Value.string)[k]?=some (.string x):=by rw[List.getElem?_map,hx];rfl
  simp only[World.cell?,h];simpa using e)
 have kf:Fr aS w (w.alloc (.cells (iA.map Value.string).toArray 9)):=(ae aS w).alloc _;have mh:=O kf;obtain⟨wb,jQ⟩:∃wb,wb=w.alloc (.cells (iA.map Value.string).toArray 9):=⟨_,rfl⟩;rw[<-jQ]at HC mh
 have qL:=O (show wb=w.alloc (.cells #[.string ⟨#[68,69,76,69,84,69]⟩,.string ⟨#[71,69,84]⟩,.string ⟨#[72,69,65,68]⟩,.string ⟨#[79,80,84,73,79,78,83]⟩,.string ⟨#[80,79,83,84]⟩,.string ⟨#[80,85,84]⟩] 9)from jQ);clear jQ kf;go_enter func73,ntmps73;go_wp2;rw[<-qL.o];go_loopw[7] (agy s wb) (fun i _=>6-(intOf i).toNat)
 case atStart=>exact⟨0,ab,rfl,rfl,ae _ _⟩
 case round =>
  obtain⟨k,hk,rfl,hm,cL⟩:=hrel;by_cases hk6:k<6
  ·have o_:(k:Int)<6:=ab;obtain⟨m,Pc⟩:∃m,iA[k]?=some m:=⟨_,List.getElem?_eq_getElem (by show k<6;exact hk6)⟩;have hcell:=HC.o wr cL k m Pc;have hmz:m.size<=10:=(show∀x∈iA,x.size<=10 from ag) m (cj Pc);have HD:=O (show jD s=if dH s.data.toList m.data.toList then m else nr (iA.drop (k+1)) s by
    rw[hm,cR (show k<iA.length from hk6)];have e:iA[k]'(show k<iA.length from hk6)=m:=by rw[List.getElem?_eq_getElem (show k<iA.length from hk6)]at Pc;exact jR Pc
    rw[e];rfl)
   clear hm Pc;have HSA:=O (ml s m wr ab ab);go_wp2_with fail
   refine HSA.o.mono ?_;rintro e w5⟨rfl,lL⟩;clear HSA;cases oZ:dH s.data.toList m.data.toList
   ·have HD2:=O (show jD s=nr (iA.drop (k+1)) s by rw[HD.o,oZ];rfl);clear oZ;go_wp2;go_roundw
    case rel=>exact⟨k+1,ab,bg,HD2.o,cL.trans lL⟩
    case measure=>simp[intOf];omega
   ·have HD2:=O (show jD s=m by rw[HD.o,oZ];rfl);clear oZ;go_wp2;go_ret;exact⟨by rw[HD2.o];rfl,mh.o.trans (cL.trans lL)⟩
  ·have o_:¬(k:Int)<6:=ab;have HD2:=O (show jD s=s by rw[hm,cP (by show 6<=k;omega)];rfl);clear hm;go_wp2;go_ret;exact⟨by rw[HD2.o];rfl,mh.o.trans cL⟩
