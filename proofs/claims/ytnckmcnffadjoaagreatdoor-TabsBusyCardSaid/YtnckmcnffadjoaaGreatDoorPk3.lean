/- Lemmas for the law's walk. -/
import Derived.Test.YtnckmcnffadjoaaGreatDoorPk2
import Derived.Lib.Atoi
import Derived.Deep.MidRow
set_option maxRecDepth 100000
set_option maxHeartbeats 16000000
set_option linter.unusedSimpArgs false
namespace Go.Proofs.YtnckmcnffadjoaaGreatDoor
open Go.Proofs.Tryz
open Go.RowKit
variable {l a:aG} {k b i j g base cap:Nat} {x y:UInt8} {s:aj} {w w':World} {P:Program} {ops:Array Oper} {Q:Exit->Act->World->Prop} {e:TypeId} {v:Value} {xs:List (List Value)} {p:UInt8->Bool} {R S:Value->List aj->Prop}
def vV:aG->Option (aG×aG)
 |[]=>none
 |x :: r =>
  if x==34 then some ([],r)
  else if x==92 then
   match r with
   |[]=>none
   |y :: r'=>if nx y then(vV r').map (fun p=>(y :: p.1,p.2))else none
  else if nx x then(vV r).map (fun p=>(x :: p.1,p.2))else none
def tD(l:aG)(k:Nat)(a:aG):Option (aG×Nat):=(vV (l.drop k)).map (fun p=>(a++p.1,l.length-p.2.length))
theorem T'(h:l[k]?=none):tD l k a=none:=by
 unfold tD;rw[JZ h];simp[vV]
theorem QS(h:l[k]?=some 34):tD l k a=some (a,k+1):=by
 have hk:=(List.getElem?_eq_some_iff.1 h).1;unfold tD;rw[drop_at h,vV.eq_def];simp;omega
theorem QT(h:l[k]?=some x)(h1:(x==34)=false)(h2:(x==92)=false)(h3:nx x=true):tD l k a=tD l (k+1) (a++[x]):=by
 unfold tD;rw[drop_at h];rw[vV.eq_def];simp only[h1,h2,h3,cG,eU,eb];cases vV (l.drop (k+1))<;>simp
theorem Ua(h:l[k]?=some x)(h1:(x==34)=false)(h2:(x==92)=false)(h3:nx x=false):tD l k a=none:=by
 unfold tD;rw[drop_at h];rw[vV.eq_def];simp only[h1,h2,h3,cG,eU,Option.map_none]
theorem QU(h:l[k]?=some 92)(h1:l[k+1]?=none):tD l k a=none:=by
 unfold tD;rw[drop_at h,JZ h1,vV.eq_def];simp
theorem Ub(h:l[k]?=some 92)(h1:l[k+1]?=some y)(h3:nx y=true):tD l k a=tD l (k+2) (a++[y]):=by
 unfold tD;rw[drop_at h,drop_at h1];rw[vV.eq_def];simp only[show((92:UInt8)==34)=false from rfl,show((92:UInt8)==92)=true from rfl,h3,cG,eU,eb];cases vV (l.drop (k+1+1))<;>simp
theorem Kh(h:l[k]?=some 92)(h1:l[k+1]?=some y)(h3:nx y=false):tD l k a=none:=by
 unfold tD;rw[drop_at h,drop_at h1];rw[vV.eq_def];simp only[show((92:UInt8)==34)=false from rfl,show((92:UInt8)==92)=true from rfl,h3,cG,eU,eb,Option.map_none]
def gM(l:aG)(i:Nat):Option (aG×Nat):=if l[i]?=some 34 then tD l (i+1) []else none
def pH(l:aG)(i:Nat):Nat:=match gM l i with|some p=>p.2|none=>i
def nP(l:aG)(i:Nat):aG:=match gM l i with|some p=>p.1|none=>[]
def ib(b:Nat)(s:aj)(i:Nat)(w:World)(e:Ending)(w':World):Prop :=
 e=.returned (.tuple #[.string ⟨(nP s.data.toList i).toArray⟩,.bool (gM s.data.toList i).isSome])/\du w' b s (pH s.data.toList i)/\Fr (one b) w w'
theorem ib.none(h:gM s.data.toList i=none)(hc:du w' b s i)(hf:Fr (one b) w w') :
  ib b s i w (.returned (.tuple #[.string ⟨#[]⟩,.bool false])) w':=by
 refine⟨?_,?_,hf⟩
 ·simp[nP,h]
 ·simpa[pH,h]using hc
theorem ib.some(h:gM s.data.toList i=some (a,j))(hc:du w' b s j)(hf:Fr (one b) w w') :
  ib b s i w (.returned (.tuple #[.string ⟨a.toArray⟩,.bool true])) w':=by
 refine⟨?_,?_,hf⟩
 ·simp[nP,h]
 ·simpa[pH,h]using hc
def ag_(b:Nat)(s:aj)(i:Nat)(w:World)(v:Value)(wr:World):Prop :=
 ∃k a,k<=s.size/\a.length<=k/\du wr b s k/\Bytes w.heap.size wr v a/\Fr (one b) w wr/\gM s.data.toList i=tD s.data.toList k a
theorem Uc{b i k j:Nat}{s:aj}{w wr wx w2:World}{v v':Value}{a l:aG}(sO:b<w.heap.size)(hcx:du wx b s j)(Ki:Fr (one b) w wx)(hg:wx.grownBy w2 v.ownBlock)
  (cP:Bytes w.heap.size wr v a)(fy:Bytes w.heap.size w2 v' l)(hj:j<=s.size)(hl:l.length<=j)(vG:gM s.data.toList i=tD s.data.toList j l)(hkj:k<j)(qh:pG wr b=k) :
  ag_ b s i w v' w2/\s.size-pG w2 b<s.size-pG wr b:=by
 have hv:=cP.block;have sN:du w2 b s j:=by
  unfold du at hcx ⊢;rw[hg.block b (bj hcx) (fun e=>by have:=hv b e.symm;omega)];exact hcx
 refine⟨⟨j,l,hj,hl,sN,fy,Ki.grown hg (fun k hk hs=>by have:=hv k hk;omega),vG⟩,?_⟩;rw[qh,sN.pos];omega
theorem Nc(b:Nat)(s:aj)(i:Nat)(w:World)(h:du w b s i)(hs:s.size<70368744177664) :
  Calls prog 215 #[.pointer (some ⟨b,0,none⟩)] w (ib b s i w):=by
 have h0:=h.cell0;have h1:=h.hZ;have hm:s.size<=maxLen:=fq;cases e1:kn s i 34
 ·have hq:=O (show gM s.data.toList i=none by unfold gM;rw[aq (by simpa[kn]using e1)]);go_enter func215,ntmps215;go_wp2_with fail
  refine(qg b s i 34 w h hm).mono ?_;rintro e w1⟨rfl,px,df⟩;rw[pF e1]at px;rw[e1];clear e1 h0 h1;have c0:=px.cell0;have c1:=px.hZ;have cf:=px.free 1;have YW:=px.eI;go_wp2;refine wp_loop_rounds 1 ?_;rw[rounds_succ];go_wp2;go_quiet (fail);go_wp2;go_ret2;exact ib.none hq.o (ko (j:=i) (by repeat(first|exact YW|apply jw|apply ig))) (by repeat(first|exact df|apply dz|apply iZ))
 ·have hq:=O (show gM s.data.toList i=tD s.data.toList (i+1) []by unfold gM;rw[az (by simpa[kn]using e1)]);have Nd:i+1<=s.size:=by
   have:s.data.toList[i]?=some 34:=by simpa[kn]using e1
   have:=(List.getElem?_eq_some_iff.1 this).1;have h2:i<s.size:=by simpa using this
   omega
  go_enter func215,ntmps215;go_wp2_with fail
  refine(qg b s i 34 w h hm).mono ?_;rintro e w1⟨rfl,px,df⟩;rw[pE e1]at px;rw[e1];clear e1 h0 h1;go_wp2;go_loopw[5] (ag_ b s i w) (fun _ wr=>s.size-pG wr b)
  case atStart=>exact⟨i+1,[],Nd,aQ,px,Bytes.nil _ _,df,hq.o⟩
  case round =>
   rename_i v wr;obtain⟨k,a,hk,ha,hc,cP,cK,vG⟩:=hrel;have gJ:=O vG;clear vG;have c0:=hc.cell0;have c1:=hc.hZ;have cf:=hc.free 1;have YW:=hc.eI;have qh:=O hc.pos;obtain⟨av,cv,hv⟩:=cP.form;subst hv;have hbB:b<w.heap.size:=h.lt;have BJ:∀n u,(convert 177 9 (.slice av a.length cv)).run prog ((wr.drewN n).setCell ⟨b,1,none⟩ u)=.ok (.string ⟨a.toArray⟩) ((wr.drewN n).setCell ⟨b,1,none⟩ u):=fun n u =>
    Bytes.text (oI (p:=⟨b,1,none⟩) hbB (Bytes.drewN cP))
   have sO:b<w.heap.size:=h.lt;have iD:w.heap.size<=wr.heap.size:=cK.size;by_cases eX:k<s.size
   ·have hd:decide (k<s.size)=true:=by simp[eX]
    have dN:=O (byte_at s k eX);generalize hx:s[k]=x at dN;cases e1:x==34
    ·have n1:((x.toNat:Int)==34)=false:=by rw[<-e1];exact vr 34 ag
     cases e2:x==92
     ·have n2:((x.toNat:Int)==92)=false:=by rw[<-e2];exact vr 92 ag
      cases e3:nx x
      ·have fc:=O (show gM s.data.toList i=none by rw[gJ.o,Ua dN.o e1 e2 e3]);clear e1 e2;go_wp2;go_quiet (fail);go_wp2;go_quiet (fail);go_wp2;go_quiet (fail);go_wp2_with (go_at_call 158;refine(qf _ _).mono ?_;rintro e w' ⟨rfl,rfl⟩)
       go_ret2;exact ib.none fc.o (ko (j:=i) (by repeat(first|exact YW|apply jw|apply ig))) (by repeat(first|exact cK|apply dz|apply iZ))
      ·have qi:=O (gJ.o.trans (QT (a:=a) dN.o e1 e2 e3));clear e1 e2;go_wp2;go_quiet (fail);go_wp2;go_quiet (fail);go_wp2;go_quiet (fail)
       go_wp2_with (first|(at_builtin;refine km rfl _ _ rfl w.heap.size (.slice av a.length cv) a rfl (by repeat(first|exact cP|apply gF|apply oI (p:=⟨b,1,none⟩) hbB|apply Bytes.drewN|apply Bytes.drew)) ⟨wr.heap.size,0,none⟩ 1 x rfl (by rw[World.cell?_alloc_at _ _ _ _ aQ];rfl) ab bG ?_;intro v' w2 fy xN)|(go_at_call 158;refine(qf _ _).mono ?_;rintro e w' ⟨rfl,rfl⟩))
       exact Uc sO (by repeat(first|exact ko (j:=k+1) (by repeat(first|exact YW|apply jw|apply ig))|apply du.alloc|apply du.drewN)) (by repeat(first|exact cK|apply dz|apply iZ|apply bz)) xN cP fy ab bG qi.o (Nat.lt_succ_self k) qh.o
     ·have am0:x=92:=by simpa using e2
      clear e1 e2;subst am0;by_cases mf:k+1<s.size
      ·have zj:decide ((k:Int)+1<(s.size:Int))=true:=bG;have ac5:=O (byte_at s (k+1) mf);generalize hy:s[k+1]=y at ac5;cases e3:nx y
       ·have fc:=O (show gM s.data.toList i=none by rw[gJ.o,Kh dN.o ac5.o e3]);go_wp2;go_quiet (fail);go_wp2;go_quiet (fail);go_wp2;go_quiet (fail);go_wp2;go_quiet (fail);go_wp2_with (go_at_call 158;refine(qf _ _).mono ?_;rintro e w' ⟨rfl,rfl⟩)
        go_ret2;exact ib.none fc.o (ko (j:=i) (by repeat(first|exact YW|apply jw|apply ig))) (by repeat(first|exact cK|apply dz|apply iZ|apply bz))
       ·have qi:=O (gJ.o.trans (Ub (a:=a) dN.o ac5.o e3));go_wp2;go_quiet (fail);go_wp2;go_quiet (fail);go_wp2;go_quiet (fail);go_wp2;go_quiet (fail)
        go_wp2_with (first|(at_builtin;refine km rfl _ _ rfl w.heap.size (.slice av a.length cv) a rfl (by repeat(first|exact cP|apply gF|apply oI (p:=⟨b,1,none⟩) hbB|apply Bytes.drewN|apply Bytes.drew)) ⟨wr.heap.size,0,none⟩ 1 y rfl (by rw[World.cell?_alloc_at _ _ _ _ aQ];rfl) ab bG ?_;intro v' w2 fy xN)|(go_at_call 158;refine(qf _ _).mono ?_;rintro e w' ⟨rfl,rfl⟩))
        exact Uc sO (by repeat(first|exact ko (j:=k+1+1) (by repeat(first|exact YW|apply jw|apply ig))|apply du.alloc|apply du.drewN)) (by repeat(first|exact cK|apply dz|apply iZ|apply bz)) xN cP fy ab bG qi.o ab qh.o
      ·have zj:decide ((k:Int)+1<(s.size:Int))=false:=bG;have fc:=O (show gM s.data.toList i=none by rw[gJ.o,QU dN.o (tY s (k+1) mf)]);go_wp2;go_quiet (fail);go_wp2;go_quiet (fail);go_wp2;go_quiet (fail);go_wp2;go_ret2;exact ib.none fc.o (ko (j:=i) (by repeat(first|exact YW|apply jw|apply ig))) (by repeat(first|exact cK|apply dz|apply iZ|apply bz))
    ·have n1:((x.toNat:Int)==34)=true:=by rw[<-e1];exact vr 34 ag
     have fc:=O (show gM s.data.toList i=some (a,k+1)by rw[gJ.o,QS (by rw[dN.o];simpa using e1)]);clear e1;go_wp2;go_quiet (fail);go_wp2;go_quiet (fail);go_wp2;go_ret2;exact ib.some fc.o (ko (j:=k+1) (by repeat(first|exact YW|apply jw|apply ig))) (by repeat(first|exact cK|apply dz|apply iZ))
   ·have hd:decide (k<s.size)=false:=bG;have fc:=O (show gM s.data.toList i=none by rw[gJ.o,T' (tY s k eX)]);go_wp2;go_quiet (fail);go_wp2;go_ret2;exact ib.none fc.o (ko (j:=i) (by repeat(first|exact YW|apply jw|apply ig))) (by repeat(first|exact cK|apply dz|apply iZ))
def mE(c:UInt8):aG->aG×aG×Bool
 |[]=>([],[],false)
 |x :: l=>if x=c then([],l,true)else(x :: (mE c l).1,(mE c l).2.1,(mE c l).2.2)
theorem Ko(c:UInt8):∀(a b:aG),c∉a->mE c (a++c :: b)=(a,b,true)
 |[],b,_=>by simp[mE]
 |x :: a,b,h=>by
  have hx:¬x=c:=fun e=>h (by rw[e];exact cQ ..);rw[List.cons_append,mE,aq hx,Ko c a b (fun e=>h (bN _ e))]
theorem Gd(c:UInt8):∀(a:aG),c∉a->mE c a=(a,[],false)
 |[],_=>rfl
 |x :: a,h=>by
  have hx:¬x=c:=fun e=>h (by rw[e];exact cQ ..);rw[mE,aq hx,Gd c a (fun e=>h (bN _ e))]
theorem PM(c:UInt8):∀l:aG,c∉(mE c l).1/\(((mE c l).2.2=true/\l=(mE c l).1++c :: (mE c l).2.1)\/((mE c l).2.2=false/\l=(mE c l).1/\(mE c l).2.1=[]))
 |[]=>⟨by simp[mE],Or.inr ⟨rfl,rfl,rfl⟩⟩
 |x :: l=>by
  have ih:=PM c l;unfold mE;split
  ·rename_i h;exact⟨aQ,Or.inl ⟨rfl,by rw[h];rfl⟩⟩
  ·rename_i h;refine⟨fun e=>?_,?_⟩
   ·rcases bB.1 e with e|e
    ·exact h e.symm
    ·exact ih.1 e
   ·rcases ih.2 with ⟨h1,h2⟩|⟨h1,h2,h3⟩
    ·exact Or.inl ⟨h1,by rw[List.cons_append, <-h2]⟩
    ·exact Or.inr ⟨h1,by rw[<-h2],h3⟩
def Kp(c:UInt8):Bool:=decide (97<=c.toNat/\c.toNat<=122)||decide (48<=c.toNat/\c.toNat<=57)||decide (c.toNat=45)
def Dj(l:aG):Bool:=!l.isEmpty&&!(l.head?==some 45)&&!(l.getLast?==some 45)&&l.all Kp
def PN(l:aG):Bool:=decide (l.length<=60)&&(dZ 46 l).all Dj
def Dk(s:Bool):Int:=if s then 443 else 80
structure ac_ where
 aF:Bool
 host:aG
 port:Int
def ac'(o:ac_):Bool:=PN o.host&&(decide (1<=o.port)&&decide (o.port<=65535))
def ahf:aG:=[104,116,116,112,58,47,47]
def ada:aG:=[104,116,116,112,115,58,47,47]
def abB(s:Bool):aG:=if s then ada else ahf
def Ge(o:ac_):aG:=abB o.aF++o.host++(if o.port=Dk o.aF then []else 58 :: Lib.itoa o.port)
def abL:Go.Shelf.Ren:=⟨fun|166=>98|240=>157|276=>206|n=>n,fun|70=>176|9=>9|72=>179|37=>177|164=>275|20=>20|75=>56|80=>187|5=>5|3=>3|n=>n,fun|n=>n⟩
theorem adm:Go.Proofs.Lays.n166 prog abL:={
 mixed:=af
 f166:=func98.trans (ar some af)
 f240:=func157.trans (ar some af)
 f276:=func206.trans (ar some af)
 t0:=underlying0
 a0:=isAgg0
 z0:=sizeOf0
 v0:=zeroValue0
 t3:=underlying3
 a3:=isAgg3
 z3:=sizeOf3
 v3:=zeroValue3
 t4:=underlying4
 a4:=isAgg4
 z4:=sizeOf4
 v4:=zeroValue4
 t9:=underlying9
 a9:=isAgg9
 z9:=sizeOf9
 v9:=zeroValue9
 t20:=underlying20
 a20:=isAgg20
 z20:=sizeOf20
 v20:=zeroValue20
 t37:=underlying177
 a37:=isAgg177
 z37:=sizeOf177
 v37:=zeroValue177
 t70:=underlying176
 a70:=isAgg176
 z70:=sizeOf176
 v70:=zeroValue176
 t72:=underlying179
 a72:=isAgg179
 z72:=sizeOf179
 v72:=zeroValue179
 t75:=underlying56
 a75:=isAgg56
 z75:=sizeOf56
 v75:=zeroValue56
 t164:=underlying275
 a164:=isAgg275
 z164:=sizeOf275
 v164:=zeroValue275}
theorem Y7:Builder.Extra prog abL:={
 sizeBuilder:=af
 liesBuilder:=af
 t5:=underlying5
 a5:=isAgg5
 z5:=sizeOf5
 v5:=zeroValue5
 infoByte:=af
 cellsByte:=af
 sizeByte:=af
 neB5:=ag}
def wA(B b:Nat)(l:aG)(w:World):Prop:=Lib.IsBuilderF 179 5 B b (ux l) w
abbrev ahp(b:Nat)(w w':World):Prop:=Lib.OthersKept 5 (some b) w w'
theorem Ir(s:aj):Lib.strCells s=ux s.data.toList:=by
 unfold Lib.strCells ux;rfl
theorem Y8(a b:aG):ux (a++b)=ux a++ux b:=by unfold ux;simp
theorem ec(B b:Nat)(l:aG)(s:aj)(w:World)(h:wA B b l w)(hlen:l.length+s.size<=140737488355328)(YH:B<=w.heap.size) :
  Calls prog 98 #[.pointer (some ⟨b,0,none⟩),.string s] w fun e w'=>e=.returned (.tuple #[.int .i64 s.size,.nilIface])/\wA B b (l++s.data.toList) w'/\Below B w w'/\ahp b w w':=by
 refine(Any.Builder_WriteString_k adm Y7 B b (ux l) s w h (by rw[yh];exact hlen) YH).mono ?_;rintro e w'⟨he,hb,hw,ho⟩;refine⟨he,?_,hw,ho⟩;unfold wA;rw[Y8, <-Ir];exact Or.inr hb
theorem wB(B b:Nat)(l:aG)(w:World)(h:wA B b l w) :
  Calls prog 101 #[.pointer (some ⟨b,0,none⟩)] w fun e w'=>e=.returned (.int .i64 l.length)/\w=w':=by
 refine(Builder_Len_f B b (ux l) w h).mono ?_;rintro e w'⟨rfl,rfl⟩;exact⟨by rw[yh],rfl⟩
theorem kt{rest:List Oper}{a:Act}(o:Oper)(h:wpList P ops Q (o :: rest) a w):wpList P ops Q (o :: rest) a w:=h
theorem mR{a:Act}{K:Act->World->Prop}{E:Prop}(o:Oper)(h:if Region.wanted o (yielded ops a.tmps)=true then Oper.wp P o a w K Q else E):if Region.wanted o (yielded ops a.tmps)=true then Oper.wp P o a w K Q else E:=h
theorem Ba{P:Program}{ops:Array Oper}{a:Act}{w:World}{K:Act->World->Prop}{Q:Exit->Act->World->Prop}{E:Prop}{o:Oper}(zd:o.guard=none)(f:FuncId)(args:Array Value)(am_:(execOp a.eval o).run P w=.ok (.enter f args) w){Uy:Ending->World->Prop}(hc:Calls P f args w Uy)
  (h:∀e w',Uy e w'->∃v,e=.returned v/\K (a.put o.dst v) w'):if Region.wanted o (yielded ops a.tmps)=true then Oper.wp P o a w K Q else E:=by
 have hw:Region.wanted o (yielded ops a.tmps)=true:=by simp[Region.wanted,zd]
 rw[az hw];unfold Oper.wp;rw[am_,Oper.upon_enter];refine hc.mono fun e w' hh=>?_;obtain⟨v,rfl,hk⟩:=h e w' hh;exact hk
theorem zA(w:World)(old cells:Array Value)(t:TypeId):(w.alloc (.cells old t)).setRow w.heap.size cells=w.alloc (.cells cells t):=by
 unfold World.setRow World.alloc
 congr 1
 apply Array.ext
 ·simp
 ·intro k h1 h2;simp only[Array.getElem_modify];by_cases hk:w.heap.size=k
  ·subst hk;simp
  ·have:k<w.heap.size:=by simp at h2;omega
   simp[hk,Array.getElem_push,this]
theorem pQ{P:Program}{ops:Array Oper}{rest:List Oper}{o:Oper}{a:Act}{w:World}{Q:Exit->Act->World->Prop}(zd:o.guard=none)(ty:TypeId)(x y:Operand)(ho:o.op=.store ty x y)(old:Array Value)
  (cells:Array Value)(hx:a.eval x=.pointer (some ⟨w.heap.size,0,none⟩))(hy:a.eval y=.agg cells)
  (hi:(P.info? ty).map (·.size)=some cells.size)(hold:old.size=cells.size)(h1:cells.all (·.oneCell')=true)
  (h:wpList P ops Q rest (a.put o.dst undef) (w.alloc (.cells cells ty))):wpList P ops Q (o :: rest) a (w.alloc (.cells old ty)):=by
 refine aE zd ty x y ho w.heap.size cells hx hy ty old (aB w _) hi hold h1 ?_;rw[zA];exact h
theorem run_storeCells_new(w:World)(t:TypeId)(old:Array Value)(x:List Value)(hold:old.size=x.length)(h1:∀u∈x,u.oneCell'=true) :
  Sem.run P (storeCells ⟨w.heap.size,0,none⟩ x 0) (w.alloc (.cells old t))=.ok () (w.alloc (.cells x.toArray t)):=by
 have h:=run_storeCells_from (P:=P) w.heap.size t x 0 old (w.alloc (.cells old t)) (aB w _) ab h1;rw[h,List.take_zero,List.nil_append,zA]
theorem b_{cur:Array Value}{t:TypeId}{f:Nat×Nat}(h:w.heap[b]?=some (.cells cur t f))(o:Nat)(v:Value):(w.setCell ⟨b,o,none⟩ v).heap[b]?=some (.cells (cur.setIfInBounds o v) t f):=by
 simp[World.setCell,Array.getElem?_modify,h]
theorem tH(hg:g≠b)(o:Nat)(v:Value):(w.setCell ⟨b,o,none⟩ v).heap[g]?=w.heap[g]?:=Below.heap_setCell _ _ _ _ hg
theorem pY{b:Nat}{t:TypeId}{f:Nat×Nat}:∀(vs:List Value) (o:Nat) (w:World) (cur:Array Value),w.heap[b]?=some (.cells cur t f)->o+vs.length<=cur.size ->
  (w.setCells b o vs).heap[b]?=some (.cells (cur.toList.take o++vs++cur.toList.drop (o+vs.length)).toArray t f)
 |[],o,w,cur,h,hl=>by
  rw[World.setCells,h];simp
 |v :: r,o,w,cur,h,hl=>by
  simp only[List.length_cons]at hl;rw[World.setCells,pY r (o+1) _ _ (b_ h o v) bG]
  congr 3
  simp only[Array.toList_setIfInBounds,List.length_cons];have h1:(cur.toList.set o v).take (o+1)=cur.toList.take o++[v]:=by
   have sO:o<cur.toList.length:=bG;rw[bZ,List.getElem?_set_self sO,gj (ay o)];rfl
  have h2:(cur.toList.set o v).drop (o+1+r.length)=cur.toList.drop (o+(r.length+1)):=by
   rw[gl ab]
   congr 1;omega
  rw[h1,h2];simp
theorem Fr.setCells{S:Nat->Prop}{a w:World}(h:Fr S a w){b:Nat}(hb:b<a.heap.size->S b):∀(vs:List Value) (o:Nat),Fr S a (w.setCells b o vs):=by
 intro vs
 induction vs generalizing w with
 |nil=>intro o;exact h
 |cons v r ih=>intro o;exact ih (h.setCell (p:=⟨b,o,none⟩) hb v) (o+1)
theorem xR:∀(y:List Value) (i:Nat) (z:Array Value),i+y.length<=z.size->List.foldl (fun cs x=>cs.setIfInBounds x.snd x.fst) z (y.zipIdx i)=(z.toList.take i++y++z.toList.drop (i+y.length)).toArray
 |[],i,z,_=>aQ
 |v :: r,i,z,hl=>by
  simp only[List.length_cons]at hl;rw[List.zipIdx_cons,List.foldl_cons,xR r (i+1) _ bG]
  congr 1
  simp only[Array.toList_setIfInBounds,List.length_cons];have h1:(z.toList.set i v).take (i+1)=z.toList.take i++[v]:=by
   have sO:i<z.toList.length:=bG;rw[bZ,List.getElem?_set_self sO,gj (ay i)];rfl
  have h2:(z.toList.set i v).drop (i+1+r.length)=z.toList.drop (i+(r.length+1)):=by
   rw[gl ab]
   congr 1;omega
  rw[h1,h2];simp
theorem wD(y:List Value)(z:Array Value)(h:z.size=y.length):List.foldl (fun cs x=>cs.setIfInBounds x.snd x.fst) z y.zipIdx=y.toArray:=by
 rw[xR y 0 z ab,List.take_zero,List.nil_append,cO bG,dR]
theorem BW{k:Nat}:∀ {xs:List (List Value)} (_:∀x∈xs,x.length=k) {i:Nat} {y:List Value} (_:i<xs.length),(xs.set i y).flatten=xs.flatten.take (i*k)++y++xs.flatten.drop (i*k+k)
 |[],_,i,y,hi=>absurd hi (bS _)
 |x :: xs,hl,0,y,hi=>by
  have hx:=hl x aQ;simp only[List.set_cons_zero,List.flatten_cons,ik,List.take_zero,List.nil_append,bw];rw[List.drop_append_of_le_length ab,cO ab];simp
 |x :: xs,hl,i+1,y,hi=>by
  have hx:=hl x aQ;have ih:=BW (k:=k) (xs:=xs) (fun z hz=>hl z (bN _ hz)) (i:=i) (y:=y) (by simpa using hi);have e1:(i+1)*k=x.length+i*k:=by rw[il,hx];omega
  simp only[List.set_cons_succ,List.flatten_cons,ih,e1];rw[List.take_length_add_append,show x.length+i*k+k=x.length+(i*k+k)from ab,List.drop_length_add_append];simp
theorem zB{k:Nat}:∀ {xs:List (List Value)} (_:∀x∈xs,x.length=k) (i:Nat),(xs.take i).flatten=xs.flatten.take (i*k)
 |[],_,i=>aQ
 |x :: xs,hl,0=>aQ
 |x :: xs,hl,i+1=>by
  have hx:=hl x aQ;have ih:=zB (k:=k) (xs:=xs) (fun z hz=>hl z (bN _ hz)) i;rw[List.take_succ_cons,List.flatten_cons,ih,List.flatten_cons,show(i+1)*k=x.length+i*k from by rw[il,hx];omega,List.take_length_add_append]
theorem KG(L:List Value)(a n:Nat)(y:List Value)(ham:a+y.length<=n)(hn:n<=L.length):(L.take a++y++L.drop (a+y.length)).take n=(L.take n).take a++y++(L.take n).drop (a+y.length):=by
 have hA:(L.take a++y).length=a+y.length:=by rw[aM,aJ];omega
 rw[List.take_append,aC ab,hA,kA,dK ab,List.drop_take]
theorem Iu(L:List Value)(a:Nat)(y:List Value)(ham:a+y.length<=L.length):(L.take a++y++L.drop (a+y.length)).take (a+y.length)=L.take a++y:=by
 have hA:(L.take a++y).length=a+y.length:=by rw[aM,aJ];omega
 rw[List.take_append_of_le_length ab,aC ab]
theorem OwnRows.open(h:OwnRows base e k w v xs)(hg:v.ownBlock=some g) :
  ∃cap cur,v=.slice (some ⟨g,0,none⟩) xs.length cap/\base<=g/\w.heap[g]?=some (.cells cur e (0,0))/\xs.length<=cap/\cap<=maxLen/\cur.size=cap*k/\cur.toList.take (xs.length*k)=xs.flatten:=by
 rcases h.2.2 with ⟨hv,_⟩|⟨g',cap,cur,hv,h1,h2,h3,h4,h5,h6⟩
 ·rw[hv]at hg;simp[Value.ownBlock]at hg
 ·rw[hv]at hg;simp[Value.ownBlock]at hg;subst hg;exact⟨cap,cur,hv,h1,h2,h3,h4,h5,h6⟩
theorem OwnRows.store(h:OwnRows base e k w v xs){y:List Value}(hi:i<xs.length)(hy:y.length=k)(Fi:∀u∈y,u.oneCell'=true)(hg:v.ownBlock=some g) :
  OwnRows base e k (w.setCells g (i*k) y) v (xs.set i y):=by
 obtain⟨cap,cur,hv,h1,h2,h3,h4,h5,h6⟩:=h.open hg;have MW:i*k+k<=xs.length*k:=by have:(i+1)*k<=xs.length*k:=bO _ hi;rw[il]at this;exact this
 have hck:xs.length*k<=cap*k:=bO _ h3;have hxs:∀x∈xs,x.length=k:=fun x hx=>(h.1 x hx).1;have hh:=pY y (i*k) w cur h2 ab;have hA:(cur.toList.take (i*k)).length=i*k:=by rw[aJ];simp;omega
 have KH:(xs.set i y).flatten=(cur.toList.take (i*k)++y++cur.toList.drop (i*k+y.length)).take (xs.length*k):=by
  rw[BW hxs hi, <-h6,KG _ _ _ _ ab bG,hy]
 refine⟨?_,?_,Or.inr ⟨g,cap,_,by rw[d_];exact hv,h1,hh,by rw[d_];exact h3,h4,?_,?_⟩⟩
 ·intro x hx;rcases List.mem_or_eq_of_mem_set hx with hx|rfl
  ·exact h.1 x hx
  ·exact⟨hy,Fi⟩
 ·rw[KH,d_,aJ,dK];simp;omega
 ·simp;omega
 ·rw[d_,KH]
theorem OwnRows.Dw{base k:Nat}{e:TypeId}{w:World}{v:Value}{xs:List (List Value)}(h:OwnRows base e k w v xs){i:Nat}{ys:List (List Value)}(hi:i<=xs.length)(hy:∀y∈ys,y.length=k/\∀u∈y,u.oneCell'=true){g cap:Nat}
  (hg:v=.slice (some ⟨g,0,none⟩) xs.length cap)(hc:i+ys.length<=cap):OwnRows base e k (w.setCells g (i*k) ys.flatten) (.slice (some ⟨g,0,none⟩) (i+ys.length) cap) (xs.take i++ys):=by
 obtain⟨Cu,cur,hv,h1,h2,h3,h4,h5,h6⟩:=h.open (g:=g) (by rw[hg];rfl);rw[hg]at hv;cases hv;have KI:ys.flatten.length=ys.length*k:=gC (fun y hm=>(hy y hm).1);have vt:cur.toList.length=cur.size:=aQ;have MW:i*k+ys.length*k<=cap*k:=by rw[<-dC];exact bO _ hc
 have vW:i*k<=xs.length*k:=bO _ hi;have hh:=pY ys.flatten (i*k) w cur h2 ab;have hlen:(xs.take i++ys).length=i+ys.length:=by rw[aM,aJ];omega
 have hxs:∀x∈xs,x.length=k:=fun x hx=>(h.1 x hx).1;have KH:(xs.take i++ys).flatten=(cur.toList.take (i*k)++ys.flatten++cur.toList.drop (i*k+ys.flatten.length)).take ((i+ys.length)*k):=by
  rw[dC, <-KI,Iu _ _ _ (by rw[KI];omega),ed,zB hxs, <-h6,kA,dK vW]
 refine⟨?_,?_,Or.inr ⟨g,cap,_,by rw[hlen],h1,hh,by rw[hlen];exact hc,h4,?_,?_⟩⟩
 ·intro x hx;rcases bK.1 hx with hx|hx
  ·exact h.1 x (dX hx)
  ·exact hy x hx
 ·rw[KH,hlen,aJ,dK];rw[aM,aM,aJ,bJ,KI,dC];omega
 ·rw[aW,aM,aM,aJ,bJ,KI];omega
 ·rw[hlen,KH]
theorem OwnRows.cut(h:OwnRows base e k w v xs)(hi:i<=xs.length)(hg:v=.slice (some ⟨g,0,none⟩) xs.length cap):OwnRows base e k w (.slice (some ⟨g,0,none⟩) i cap) (xs.take i):=by
 obtain⟨Cu,cur,hv,h1,h2,h3,h4,h5,h6⟩:=h.open (g:=g) (by rw[hg];rfl);have hc:cap=Cu:=by rw[hg]at hv;cases hv;rfl
 have:=h.Dw (i:=i) (ys:=[]) hi (fun y hy=>by cases hy) hg bG;simpa[World.setCells]using this
theorem OwnRows.behind{base k:Nat}{e:TypeId}{w:World}{v:Value}{xs:List (List Value)}(h:OwnRows base e k w v xs){o:Nat}{vs:List Value}(ho:xs.length*k<=o){g cap:Nat}
  (hg:v=.slice (some ⟨g,0,none⟩) xs.length cap)(hc:o+vs.length<=cap*k):OwnRows base e k (w.setCells g o vs) v xs:=by
 obtain⟨Cu,cur,hv,h1,h2,h3,h4,h5,h6⟩:=h.open (g:=g) (by rw[hg];rfl);rw[hg]at hv;cases hv;have hh:=pY vs o w cur h2 ab;refine⟨h.1,h.2.1,Or.inr ⟨g,cap,_,hg,h1,hh,h3,h4,bG,?_⟩⟩;have hA:xs.length*k<=(cur.toList.take o).length:=by rw[aJ];simp;omega
 rw[cH];show List.take (xs.length*k) (List.take o cur.toList++(vs++List.drop (o+vs.length) cur.toList))=_;rw[List.take_append_of_le_length hA,kA,dK ho,h6]
theorem OwnRows.there(h:OwnRows base e k w v xs)(hg:v=.slice (some ⟨g,0,none⟩) xs.length cap){o n:Nat}(hn:o+n<=cap*k):w.there g o n:=by
 obtain⟨Cu,cur,hv,h1,h2,h3,h4,h5,h6⟩:=h.open (g:=g) (by rw[hg];rfl);rw[hg]at hv;cases hv;intro j hj;constructor
 ·simp only[World.cell?,h2];rw[Array.getElem?_eq_getElem ab];rfl
 ·simp[World.frozen?,h2]
theorem results_cell_tmp{P:Program}{fn:Func}{p q:Tmp}{ty:TypeId}(h:fn.results= #[.cell p ty,.tmp q])(tmps:Array Value)(w:World)(g:Nat)(t:TypeId)(cs:Array Value)(fr:Nat×Nat)(d:TypeDesc)
  (hp:tmps.getD p undef=.pointer (some ⟨g,0,none⟩))(hg:w.heap[g]?=some (.cells cs t fr))
  (hu:P.underlying ty=some d)(hd:(match d with| .struct _| .array _ _=>true|_=>false)=true)(hi:(P.info? ty).map (·.size)=some cs.size) :
  (results fn tmps).run P w=.ok (.tuple #[.agg cs,tmps.getD q undef]) w:=by
 have hp':tmps[p]?.getD undef=.pointer (some ⟨g,0,none⟩):=by simpa using hp
 simp[results,h,hp',asAddr,run_loadVar_row w g t ty cs fr d hg hu hd hi]
theorem kQ(w:World)(y:List Value)(t:TypeId):∀j u,y[j]?=some u->(w.alloc (.cells y.toArray t)).cell? ((⟨w.heap.size,0,none⟩:Addr).add j)=some u:=by
 intro j u hj;have ea:(Addr.add ⟨w.heap.size,0,none⟩ j)=⟨w.heap.size,j,none⟩:=by unfold Addr.add;split<;>simp_all
 rw[ea,World.cell?_alloc_mark];simpa using hj
abbrev fF := @Fr.setCells
def DD(n:UInt8):UInt8:=if n<10 then n+48 else n+87
def yv(l:aG):aG:=l.flatMap fun(c:UInt8)=>[DD (c >>> 4),DD (c &&& 15)]
theorem DE(l:aG):(yv l).length=2*l.length:=by
 unfold yv
 induction l with
 |nil=>rfl
 |cons c l ih=>simp at ih ⊢; omega
theorem UK(l m:aG):yv (l++m)=yv l++yv m:=by unfold yv;exact List.flatMap_append
theorem Rh(s:aj)(k:Nat)(hk:k<s.size):yv (s.data.toList.take (k+1))=yv (s.data.toList.take k)++[DD (s[k] >>> 4),DD (s[k] &&& 15)]:=by
 rw[bZ,byte_at s k hk,UK];rfl
theorem P4:∀n (h:n<16),(⟨#[48,49,50,51,52,53,54,55,56,57,97,98,99,100,101,102]⟩:aj)[n]'h=DD n.toUInt8:=ag
theorem ann(c:UInt8):(c.toNat/16).toUInt8=c >>> 4:=by
 apply iX.1;have:=c.toNat_lt;simp[UInt8.toNat_shiftRight,Nat.shiftRight_eq_div_pow];omega
theorem ahx(c:UInt8):(c.toNat%16).toUInt8=c &&& 15:=by
 apply iX.1;have:=c.toNat_lt;have h:=Nat.and_two_pow_sub_one_eq_mod c.toNat 4;simp[UInt8.toNat_and]at h ⊢;omega
def adw(w:World)(s:aj)(i:Value)(wr:World):Prop :=
 ∃k:Nat,k<=s.size/\i=.int .i64 k/\Gn w.heap.size w.heap.size (yv (s.data.toList.take k)) wr/\Fr aR w wr/\w.heap.size<=wr.heap.size
theorem P5(s:aj)(w:World)(hs:s.size<4398046511104) :
  Calls prog 269 #[.string s] w fun e w'=>e=.returned (.string ⟨(yv s.data.toList).toArray⟩)/\Fr aR w w':=by
 go_enter func269,ntmps269;go_wp2;go_loopw[7] (adw w s) (fun i _=>s.size-(intOf i).toNat)
 case atStart=>exact⟨0,aI _,rfl,Gn.new w,(ae _ _).alloc _,aQ⟩
 case round =>
  obtain⟨k,hk,rfl,hb,hf,hz⟩:=hrel;by_cases eX:k<s.size
  ·have py:(k:Int)<(s.size:Int):=ab;have hq1:0<=(s[k].toNat:Int)/16/\(s[k].toNat:Int)/16<16:=by have:=s[k].toNat_lt;omega
   have hlen:(yv (s.data.toList.take k)).length<=2*k:=by rw[DE,aJ];omega
   go_wp2_with fail
   rw[P4,ann];refine(kp _ _ _ _ wr hb ab hz).mono ?_;rintro e w1⟨rfl,qj,df⟩;have kZ:=df.size;go_wp2_with fail
   rw[P4,ahx];refine(kp _ _ _ _ w1 qj (by rw[aM];simp;omega) ab).mono ?_;rintro e w2⟨rfl,kC,dy⟩;have lq:=dy.size;have JL:=O (Rh s k eX);rw[cH]at kC;have pZ:Gn w.heap.size w.heap.size (yv (s.data.toList.take (k+1))) w2:=by rw[JL.o];exact kC
   clear hb qj kC;go_wp2;go_roundw
   case rel=>exact⟨k+1,ab,a_,pZ,(hf.lY df).lY dy,ab⟩
   case measure=>simp[intOf];omega
  ·have py:¬(k:Int)<(s.size:Int):=ab;have su:k=s.size:=ab;have fc:=O (show s.data.toList.take k=s.data.toList from aC (by rw[su];exact ay _));go_wp2_with fail
   refine(BV _ _ _ wr hb hz).mono ?_;rintro e w1⟨rfl,df⟩;rw[fc.o];go_wp2;go_ret;exact⟨rfl,hf.lY df⟩
def P6(a b c d:UInt8):Int:=bits .or .u32 (bits .or .u32 (bits .or .u32 ((a.toNat:Int)%4294967296) ((b.toNat:Int)%4294967296*256%4294967296)) ((c.toNat:Int)%4294967296*65536%4294967296)) ((d.toNat:Int)%4294967296*16777216%4294967296)
def Fz(l:aG)(i:Nat):UInt8:=l.getD i 0
def qN(dL:Bool)(l:aG):Int:=if dL then P6 (Fz l 0) (Fz l 1) (Fz l 2) (Fz l 3)else P6 (Fz l 3) (Fz l 2) (Fz l 1) (Fz l 0)
theorem sW(s:aj)(i:Nat)(h:i<s.size):Fz s.data.toList i=s[i]:=by
 unfold Fz;rw[List.getD_eq_getElem?_getD,byte_at s i h];rfl
theorem P7{a b:Int}(h:a=b):Ending.returned (.int .u32 a)=.returned (.int .u32 b):=by rw[h]
theorem wJ(s:aj)(dL:Bool)(w:World)(hs:4<=s.size)(MX:s.size<17592186044416) :
  Calls prog 239 #[.string s,.bool dL] w fun e w'=>e=.returned (.int .u32 (qN dL s.data.toList))/\∃n,w'=w.drewN n:=by
 have h0:0<s.size:=ab;have h1:1<s.size:=ab;have h2:2<s.size:=ab;have h3:3<s.size:=ab
 have HWF:=O (show qN false s.data.toList=bits .or .u32 (bits .or .u32 (bits .or .u32 ((s[3].toNat:Int)%4294967296) ((s[2].toNat:Int)%4294967296*256%4294967296)) ((s[1].toNat:Int)%4294967296*65536%4294967296)) ((s[0].toNat:Int)%4294967296*16777216%4294967296)by rw[<-sW s 0 h0, <-sW s 1 h1, <-sW s 2 h2, <-sW s 3 h3];unfold qN P6;rw[aq ag])
 have HWT:=O (show qN true s.data.toList=bits .or .u32 (bits .or .u32 (bits .or .u32 ((s[0].toNat:Int)%4294967296) ((s[1].toNat:Int)%4294967296*256%4294967296)) ((s[2].toNat:Int)%4294967296*65536%4294967296)) ((s[3].toNat:Int)%4294967296*16777216%4294967296)by rw[<-sW s 0 h0, <-sW s 1 h1, <-sW s 2 h2, <-sW s 3 h3];unfold qN P6;rw[az rfl]);cases dL
 ·go_enter func239,ntmps239;go_wp2;have i0:(0:Int)<(s.size:Int):=ab;have i1:(1:Int)<(s.size:Int):=ab;have i2:(2:Int)<(s.size:Int):=ab;have i3:(3:Int)<(s.size:Int):=ab;go_quiet (fail);go_wp2;go_ret;exact⟨P7 HWF.o.symm,_,rfl⟩
 ·go_enter func239,ntmps239;go_wp2;have i0:(0:Int)<(s.size:Int):=ab;have i1:(1:Int)<(s.size:Int):=ab;have i2:(2:Int)<(s.size:Int):=ab;have i3:(3:Int)<(s.size:Int):=ab;go_quiet (fail);go_wp2;go_ret;exact⟨P7 HWT.o.symm,_,rfl⟩
def ma(x:Int)(n:Nat):Int:=bits .or .u32 (x*2^n%4294967296) (x/2^(32-n))
theorem CV(x k:Int)(n:Nat)(w:World)(hk:0<=k)(su:k<32)(hb:bits .and .u64 k 31=(n:Int))(hn:n<32) :
  Calls prog 240 #[.int .u32 x,.int .i64 k] w fun e w'=>e=.returned (.int .u32 (ma x n))/\w=w':=by
 go_enter func240,ntmps240;go_wp2;go_ret;exact⟨rfl,rfl⟩
theorem Zr(x k:Int)(n:Nat)(w:World)(hk: -32<k)(su:k<0)(hb:bits .and .u64 (k+18446744073709551616) 31=(n:Int))(hn:n<32) :
  Calls prog 240 #[.int .u32 x,.int .i64 k] w fun e w'=>e=.returned (.int .u32 (ma x n))/\w=w':=by
 have hw:IntKind.u64.wrap k=k+18446744073709551616:=by
  have e:IntKind.u64.wrap k=k%18446744073709551616:=by simp[IntKind.wrap,IntKind.signed,IntKind.bits]
  rw[e];omega
 go_enter func240,ntmps240;go_wp2;go_ret;exact⟨rfl,rfl⟩
def uK(dL:Bool)(n i:Nat):UInt8:=if dL then(n/2^(8*i)%256).toUInt8 else(n/2^(56-8*i)%256).toUInt8
def yx(dL:Bool)(n:Nat):aG:=(List.range 8).map (uK dL n)
def vJ(dL:Bool)(l:aG):aG:=l++[128]++List.replicate ((55-(l.length:Int)%64+64)%64).toNat 0++yx dL (l.length*8)
theorem ahz(w:World):(Instr.makeSlice 177 (.int .i64 8) (.int .i64 8)).run prog w=.ok (.slice (some ⟨w.heap.size,0,none⟩) 8 8) (w.alloc (.cells (ux (List.replicate 8 0)).toArray 5)):=by
 obtain⟨i0,hi,pq,kZ,lq⟩:=info_parts Px;have h:=run_makeSlice w 177 5 i0 (.int .u8 0) underlying177 hi pq .i64 .i64 8 8 ag ag (by rw[kZ];decide) (by rw[lq];decide) ag;rw[kZ]at h;have e:madeCells (Value.int .u8 0).cells (Int.toNat 8*1)=(ux (List.replicate 8 0)).toArray:=af;rw[e]at h;exact h
def yy(w:World)(g:Nat)(l:aG):Prop:=w.heap[g]?=some (.cells (ux l).toArray 5 (0,0))
theorem yy.cell(h:yy w g l){c:UInt8}(hj:l[j]?=some c):w.cell? ⟨g,j,none⟩=some (.int .u8 (c.toNat:Int)):=by
 obtain⟨hl,he⟩:=List.getElem?_eq_some_iff.1 hj;unfold yy at h;simp only[World.cell?,h];simp[ux,hl,he]
theorem yy.free(h:yy w g l)(j:Nat):w.frozen? ⟨g,j,none⟩=false:=by
 unfold yy at h;simp[World.frozen?,h]
theorem yy.set(h:yy w g l)(j:Nat)(c:UInt8):yy (w.setCell ⟨g,j,none⟩ (.int .u8 (c.toNat:Int))) g (l.set j c):=by
 unfold yy at h ⊢;simp only[World.setCell,Array.getElem?_modify,h];simp[ux,List.map_set]
theorem yy.text(h:yy w g l)(n c:Nat)(hn:n=l.length) :
  (convert 177 9 (.slice (some ⟨g,0,none⟩) n c)).run prog w=.ok (.string ⟨l.toArray⟩) w:=by
 subst hn;refine run_convert_bytes_back (P:=prog) w 177 9 5 ⟨g,0,none⟩ c l underlying177 underlying5 underlying9 ?_;intro j hj;have ea:(Addr.add ⟨g,0,none⟩ j)=⟨g,j,none⟩:=by unfold Addr.add;split<;>simp_all
 rw[ea];exact h.cell (List.getElem?_eq_getElem hj)
theorem nz(dL:Bool)(n:Nat):(yx dL n).length=8:=by simp[yx]
def ue(dL:Bool)(n k:Nat):aG:=(yx dL n).take k++List.replicate (8-k) 0
theorem DJ(dL:Bool)(n k:Nat)(hk:k<8):ue dL n (k+1)=(ue dL n k).set k (uK dL n k):=by
 have hg:(yx dL n)[k]?=some (uK dL n k):=by simp[yx,hk]
 unfold ue;rw[bZ,hg];have e:List.replicate (8-k) (0:UInt8)=0 :: List.replicate (8-(k+1)) 0:=by
  rw[show 8-k=(8-(k+1))+1 from ab,List.replicate_succ]
 rw[e,List.set_append,aq (by rw[aJ,nz];omega)];rw[show k-((yx dL n).take k).length=0 from by rw[aJ,nz];omega];simp
theorem Gw(dL:Bool)(n:Nat):ue dL n 8=yx dL n:=by
 unfold ue;rw[aC (by rw[nz];omega)];simp
theorem DK:∀(k:Nat),(Lib.repeatL [0] k).length=k
 |0=>rfl
 |k+1=>by
  show(([0]:aG)++Lib.repeatL [0] k).length=k+1;rw[aM,DK k];simp;omega
theorem Gx:∀(k:Nat),Lib.repeatL [0] k=List.replicate k (0:UInt8)
 |0=>rfl
 |k+1=>by
  show([0]:aG)++Lib.repeatL [0] k=_;rw[Gx k,List.replicate_succ];rfl
theorem Gy(n e:Nat):(((n/2^e%256).toUInt8.toNat:Nat):Int)=(n:Int)/2^e%256:=by
 rw[show(n/2^e%256).toUInt8.toNat=n/2^e%256 from by simp[Nat.toUInt8]];rw[Int.natCast_emod,Int.natCast_ediv,Int.natCast_pow];rfl
def UO(dL:Bool)(n g:Nat)(w:World)(i:Value)(wr:World):Prop:=∃k:Nat,k<=8/\i=.int .i64 k/\yy wr g (ue dL n k)/\Fr aR w wr
theorem P8(s:aj)(dL:Bool)(w:World)(hs:s.size<17592186044416) :
  Calls prog 238 #[.string s,.bool dL] w fun e w'=>e=.returned (.string ⟨(vJ dL s.data.toList).toArray⟩)/\Fr aR w w':=by
 obtain⟨q,hq⟩:∃q:Nat,(55-(s.size:Int))%64=(q:Int):=⟨((55-(s.size:Int))%64).toNat,ab⟩;have auO:q<64:=ab;have ahA:=O (show vJ dL s.data.toList=s.data.toList++[128]++Lib.repeatL [0] q++yx dL (s.size*8)by
  unfold vJ;rw[Gx,show s.data.toList.length=s.size from aQ,show((55-(s.size:Int)%64+64)%64).toNat=q from ab])
 have vI:=DK q;have PQ:=fun W=>ahz W;go_enter func238,ntmps238;go_wp2_with fail
 refine(strings_Repeat ⟨#[0]⟩ q w ab (by show 1*q<=_;omega)).mono ?_;rintro e w1⟨rfl,qj⟩;have Zs:¬9223372036854775807<s.size+1+(Lib.repeatL [0] q).length:=ab;have df:=fj qj;have HL:=O vI;clear vI qj;have abY:yy (w1.alloc (.cells (ux (List.replicate 8 0)).toArray 5)) w1.heap.size (ue dL (s.size*8) 0):=by
  unfold yy;rw[aB];rfl
 have HR0:=O abY;have Cp:=df.size;clear abY;cases dL
 ·go_wp2;clear PQ;go_loopw[26] (UO false (s.size*8) w1.heap.size w) (fun i _=>8-(intOf i).toNat)
  case atStart=>exact⟨0,ab,rfl,HR0.o,df.alloc _⟩
  case round =>
   obtain⟨k,hk,rfl,lZ,cK⟩:=hrel;by_cases eX:k<8
   ·have hlen:(ue false (s.size*8) k).length=8:=by unfold ue;rw[aM,aJ,nz,fi];omega
    have hc:=lZ.cell (List.getElem?_eq_getElem (show k<(ue false (s.size*8) k).length from ab));have hf:=lZ.free k;have py:(k:Int)<8:=ab;have qV:=O (lZ.set k (uK false (s.size*8) k));have hsc:=O (DJ false (s.size*8) k eX);have YF:=O (show((uK false (s.size*8) k).toNat:Int)=(s.size:Int)*8/2^(56-8*k)%256 from(Gy (s.size*8) (56-8*k)).trans (by rw[Int.natCast_mul];rfl));go_wp2;go_roundw
    case rel=>exact⟨k+1,ab,a_,by rw[hsc.o];have h:=qV.o;rw[YF.o]at h;exact h,cK.gI (p:=⟨w1.heap.size,k,none⟩) Cp _⟩
    case measure=>simp[intOf];omega
   ·have hk8:k=8:=ab;subst hk8;rw[Gw]at lZ;have BJ:=lZ.text 8 8 (by rw[nz]);have M1:(yx false (s.size*8)).length=8:=nz _ _;have ahB:¬9223372036854775807<s.size+1+(Lib.repeatL [0] q).length+(yx false (s.size*8)).length:=by have:=HL.o;omega
    have fc:=O (show(s++⟨#[128]⟩++⟨(Lib.repeatL [0] q).toArray⟩++⟨(yx false (s.size*8)).toArray⟩:aj)=⟨(vJ false s.data.toList).toArray⟩from by
     apply Go.WideShapes.bytes_inj;rw[ahA.o];simp[gN])
    go_wp2;go_ret;exact⟨by rw[<-fc.o];rfl,cK⟩
 ·go_wp2;clear PQ;go_loopw[26] (UO true (s.size*8) w1.heap.size w) (fun i _=>8-(intOf i).toNat)
  case atStart=>exact⟨0,ab,rfl,HR0.o,df.alloc _⟩
  case round =>
   obtain⟨k,hk,rfl,lZ,cK⟩:=hrel;by_cases eX:k<8
   ·have hlen:(ue true (s.size*8) k).length=8:=by unfold ue;rw[aM,aJ,nz,fi];omega
    have hc:=lZ.cell (List.getElem?_eq_getElem (show k<(ue true (s.size*8) k).length from ab));have hf:=lZ.free k;have py:(k:Int)<8:=ab;have qV:=O (lZ.set k (uK true (s.size*8) k));have hsc:=O (DJ true (s.size*8) k eX);have YF:=O (show((uK true (s.size*8) k).toNat:Int)=(s.size:Int)*8/2^(8*k)%256 from(Gy (s.size*8) (8*k)).trans (by rw[Int.natCast_mul];rfl));go_wp2;go_roundw
    case rel=>exact⟨k+1,ab,a_,by rw[hsc.o];have h:=qV.o;rw[YF.o]at h;exact h,cK.gI (p:=⟨w1.heap.size,k,none⟩) Cp _⟩
    case measure=>simp[intOf];omega
   ·have hk8:k=8:=ab;subst hk8;rw[Gw]at lZ;have BJ:=lZ.text 8 8 (by rw[nz]);have M1:(yx true (s.size*8)).length=8:=nz _ _;have ahB:¬9223372036854775807<s.size+1+(Lib.repeatL [0] q).length+(yx true (s.size*8)).length:=by have:=HL.o;omega
    have fc:=O (show(s++⟨#[128]⟩++⟨(Lib.repeatL [0] q).toArray⟩++⟨(yx true (s.size*8)).toArray⟩:aj)=⟨(vJ true s.data.toList).toArray⟩from by
     apply Go.WideShapes.bytes_inj;rw[ahA.o];simp[gN])
    go_wp2;go_ret;exact⟨by rw[<-fc.o];rfl,cK⟩
def AX(l:aG):Bool:=l.all fY&&!l.isEmpty
theorem xO(h:l[k]?=some x):(l.take (k+1)).all p=((l.take k).all p&&p x):=by
 rw[bZ,h];simp
theorem zk(h:l[k]?=some x)(hp:p x=false):l.all p=false:=by
 rw[jl];exact⟨x,bT h,by simp[hp]⟩
theorem Db(s:aj)(w:World)(hs:s.size<17592186044416) :
  Calls prog 91 #[.string s] w fun e w'=>e=.returned (.bool (AX s.data.toList))/\w=w':=by
 go_enter func91,ntmps91;go_wp2
 go_loop [6] (fun i=>∃k:Nat,k<=s.size/\i=.int .i64 k/\(s.data.toList.take k).all fY=true) (fun i=>s.size-(intOf i).toNat)
 case atStart=>exact⟨0,aI _,rfl,aQ⟩
 case round =>
  obtain⟨k,hk,rfl,iB⟩:=hrel;have AY:=O iB;clear iB;by_cases eX:k<s.size
  ·have dN:=O (byte_at s k eX);generalize hx:s[k]=x at dN;cases e1:fY x
   ·have fc:=O (show AX s.data.toList=false by unfold AX;rw[zk dN.o e1];rfl);go_wp2_with (go_at_call 152;refine(zh _ _).mono ?_;rintro e w' ⟨rfl,rfl⟩)
    go_ret;rw[fc.o];exact⟨rfl,rfl⟩
   ·have qi:=O (show(s.data.toList.take (k+1)).all fY=true by rw[xO dN.o,AY.o,e1];rfl);go_wp2_with (go_at_call 152;refine(zh _ _).mono ?_;rintro e w' ⟨rfl,rfl⟩)
    go_round
    case rel=>exact⟨k+1,ab,a_,qi.o⟩
    case measure=>simp[intOf];omega
  ·have PG:=O (show s.data.toList.all fY=true by have h:=AY.o;rw[aC bG]at h;exact h);go_wp2;go_ret;refine⟨fx ?_,rfl⟩;unfold AX;rw[PG.o,aO];simp
def tE(l:aG):aG:=l.flatMap (fun c=>if c==34||c==92 then [92,c]else [c])
def fR(l:aG):aG:=34 :: (tE l++[34])
theorem PH(l:aG):(tE l).length<=2*l.length:=by
 induction l with
 |nil=>simp[tE]
 |cons c l ih=>simp[tE]at ih ⊢; split<;>simp<;>omega
theorem QV(h:l[k]?=some x):tE (l.take (k+1))=tE (l.take k)++(if x==34||x==92 then [92,x]else [x]):=by
 rw[bZ,h];simp[tE]
def n_(l:aG):Bool:=l.all nx
def QW(s:aj)(w:World)(e:Ending)(w':World):Prop :=
 e=.returned (.tuple (if n_ s.data.toList then #[.string ⟨(fR s.data.toList).toArray⟩,.nilIface]else #[.string ⟨#[]⟩,.iface 105 (.int .i64 3)]))/\Fr aR w w'
def ag'(s:aj)(w:World)(v i:Value)(wr:World):Prop :=
 ∃k:Nat,k<=s.size/\i=.int .i64 k/\Bytes w.heap.size wr v (34 :: tE (s.data.toList.take k))/\Fr aR w wr/\(s.data.toList.take k).all nx=true
theorem F2(s:aj)(w:World)(hs:s.size<17592186044416) :
  Calls prog 100 #[.string s] w (QW s w):=by
 go_enter func100,ntmps100;go_wp2;go_loopw[4,9] (ag' s w) (fun _ i _=>s.size-(intOf i).toNat)
 case atStart =>
  exact⟨0,aI _,rfl,Bytes.amW w 34,(ae _ _).alloc _,aQ⟩
 case round =>
  obtain⟨k,hk,rfl,cP,cK,iB⟩:=hrel;have AY:=O iB;clear iB;have iD:w.heap.size<=wr.heap.size:=cK.size;have YX:=O (show(tE (s.data.toList.take k)).length<=2*k from aD (PH _) (Nat.mul_le_mul_left 2 bG));obtain⟨av,cv,hv⟩:=cP.form;subst hv;by_cases eX:k<s.size
  ·have dN:=O (byte_at s k eX);generalize hx:s[k]=x at dN;cases e1:nx x
   ·have fc:=O (show n_ s.data.toList=false from zk dN.o e1);go_wp2_with (go_at_call 158;refine(qf _ _).mono ?_;rintro e w' ⟨rfl,rfl⟩)
    go_ret2;refine⟨?_,cK⟩;rw[fc.o];rfl
   ·have qi:=O (show(s.data.toList.take (k+1)).all nx=true by rw[xO dN.o,AY.o,e1];rfl);have F7:=O (QV dN.o);cases e2:x==34
    ·cases e3:x==92
     ·have n1:((x.toNat:Int)==34)=false:=by rw[<-e2];exact vr 34 ag
      have n2:((x.toNat:Int)==92)=false:=by rw[<-e3];exact vr 92 ag
      have Ud:=O (show tE (s.data.toList.take (k+1))=tE (s.data.toList.take k)++[x]by rw[F7.o,e2,e3];rfl);clear e2 e3
      go_wp2_with (first|(at_builtin;refine km (o:=⟨some 36,_,_,_,_,_⟩) rfl _ _ rfl w.heap.size (.slice av _ cv) (34 :: tE (s.data.toList.take k)) rfl (by apply gF;exact cP) ⟨wr.heap.size,0,none⟩ 1 x rfl (jv _ _ _ _) (by have:=YX.o;simp;omega) bG ?_;intro v' w2 fy xN)|(go_at_call 158;refine(qf _ _).mono ?_;rintro e w' ⟨rfl,rfl⟩))
      go_roundw
      case rel=>exact⟨k+1,ab,a_,by rw[Ud.o];exact fy,(cK.alloc _).fQ xN cP.block,qi.o⟩
      case measure=>simp[intOf];omega
     ·have n1:((x.toNat:Int)==34)=false:=by rw[<-e2];exact vr 34 ag
      have n2:((x.toNat:Int)==92)=true:=by rw[<-e3];exact vr 92 ag
      have Ud:=O (show tE (s.data.toList.take (k+1))=tE (s.data.toList.take k)++[92,x]by rw[F7.o];simp only[e2,e3,kq,eb]);clear e2 e3
      go_wp2_with (first|(at_builtin;refine km (o:=⟨some 30,_,_,_,_,_⟩) rfl _ _ rfl w.heap.size (.slice av _ cv) (34 :: tE (s.data.toList.take k)) rfl (by apply gF;exact cP) ⟨wr.heap.size,0,none⟩ 1 92 rfl (jv _ _ _ _) (by have:=YX.o;simp;omega) bG ?_;intro v1 w1 rE F8;have qj:wr.heap.size+1<=w1.heap.size:=by simpa using F8.size)|(at_builtin;refine km (o:=⟨some 36,_,_,_,_,_⟩) rfl _ _ rfl w.heap.size v1 (34 :: tE (s.data.toList.take k)++[92]) rfl (by apply gF;exact rE) ⟨w1.heap.size,0,none⟩ 1 x rfl (jv _ _ _ _) (by have:=YX.o;simp;omega) bG ?_;intro v' w2 fy xN)|(go_at_call 158;refine(qf _ _).mono ?_;rintro e w' ⟨rfl,rfl⟩))
      go_roundw
      case rel=>exact⟨k+1,ab,a_,by rw[Ud.o];simpa using fy,((((cK.alloc _).fQ F8 cP.block).alloc _).fQ xN rE.block),qi.o⟩
      case measure=>simp[intOf];omega
    ·have n1:((x.toNat:Int)==34)=true:=by rw[<-e2];exact vr 34 ag
     have Ud:=O (show tE (s.data.toList.take (k+1))=tE (s.data.toList.take k)++[92,x]by rw[F7.o];simp only[e2,Bool.true_or,eb]);clear e2
     go_wp2_with (first|(at_builtin;refine km (o:=⟨some 30,_,_,_,_,_⟩) rfl _ _ rfl w.heap.size (.slice av _ cv) (34 :: tE (s.data.toList.take k)) rfl (by apply gF;exact cP) ⟨wr.heap.size,0,none⟩ 1 92 rfl (jv _ _ _ _) (by have:=YX.o;simp;omega) bG ?_;intro v1 w1 rE F8;have qj:wr.heap.size+1<=w1.heap.size:=by simpa using F8.size)|(at_builtin;refine km (o:=⟨some 36,_,_,_,_,_⟩) rfl _ _ rfl w.heap.size v1 (34 :: tE (s.data.toList.take k)++[92]) rfl (by apply gF;exact rE) ⟨w1.heap.size,0,none⟩ 1 x rfl (jv _ _ _ _) (by have:=YX.o;simp;omega) bG ?_;intro v' w2 fy xN)|(go_at_call 158;refine(qf _ _).mono ?_;rintro e w' ⟨rfl,rfl⟩))
     go_roundw
     case rel=>exact⟨k+1,ab,a_,by rw[Ud.o];simpa using fy,((((cK.alloc _).fQ F8 cP.block).alloc _).fQ xN rE.block),qi.o⟩
     case measure=>simp[intOf];omega
  ·have PG:=O (show s.data.toList.take k=s.data.toList from aC bG)
   go_wp2_with (at_builtin;refine km (o:=⟨some 40,_,_,_,_,_⟩) rfl _ _ rfl w.heap.size (.slice av _ cv) (34 :: tE (s.data.toList.take k)) rfl (by apply gF;exact cP) ⟨wr.heap.size,0,none⟩ 1 34 rfl (jv _ _ _ _) (by have:=YX.o;simp;omega) bG ?_;intro v1 w1 rE F8;obtain⟨a1,c1,Ft⟩:=rE.form;subst Ft;have ht1:=rE.text;simp only[aM,List.length_cons,List.length_nil,bw]at ht1)
   go_ret2;refine⟨?_,(cK.alloc _).fQ F8 cP.block⟩;have aha:n_ s.data.toList=true:=by rw[<-PG.o];exact AY.o
   rw[az aha,PG.o];rfl
abbrev bD:=List aj
structure gz where
 aF:Bool
 host:aj
 port:Int
def gz.cells(o:gz):List Value:=[.bool o.aF,.string o.host,.int .i64 o.port]
structure fK (D:Type) where
 scheme:Int
 aK:aj
 bq:aj
 cj:aj
 cy:Bool
 eE:aj
 cM:Bool
 dom:D
def fK.cells(a:fK Value):List Value:=[.int .i64 a.scheme,.string a.aK,.string a.bq,.string a.cj,.bool a.cy,.string a.eE,.bool a.cM,a.dom]
structure aP (D:Type) where
 o:gz
 proxy:Bool
 user:aj
 pass:aj
 a:fK D
 count:Int
 paths:D
def aP.cells(g:aP Value):List Value :=
 [.bool g.o.aF,.string g.o.host,.int .i64 g.o.port,.bool g.proxy,.string g.user,.string g.pass,
  .int .i64 g.a.scheme,.string g.a.aK,.string g.a.bq,.string g.a.cj,.bool g.a.cy,.string g.a.eE,.bool g.a.cM,g.a.dom,.int .i64 g.count,g.paths]
def fK.Reads(R:Value->List aj->Prop)(r:fK Value)(a:fK (List aj)):Prop :=
 r.scheme=a.scheme/\r.aK=a.aK/\r.bq=a.bq/\r.cj=a.cj/\r.cy=a.cy/\r.eE=a.eE/\r.cM=a.cM/\R r.dom a.dom
def aP.Reads(R:Value->List aj->Prop)(r:aP Value)(g:aP (List aj)):Prop :=
 r.o=g.o/\r.proxy=g.proxy/\r.user=g.user/\r.pass=g.pass/\r.a.Reads R g.a/\r.count=g.count/\R r.paths g.paths
theorem fK.Reads.mono{r:fK Value}{a:fK (List aj)}(h:r.Reads R a)(hs:∀v l,R v l->S v l):r.Reads S a :=
 ⟨h.1,h.2.1,h.2.2.1,h.2.2.2.1,h.2.2.2.2.1,h.2.2.2.2.2.1,h.2.2.2.2.2.2.1,hs _ _ h.2.2.2.2.2.2.2⟩
theorem aP.Reads.mono{r:aP Value}{g:aP (List aj)}(h:r.Reads R g)(hs:∀v l,R v l->S v l):r.Reads S g :=
 ⟨h.1,h.2.1,h.2.2.1,h.2.2.2.1,h.2.2.2.2.1.mono hs,h.2.2.2.2.2.1,hs _ _ h.2.2.2.2.2.2⟩
def gz.ll(a b:gz):Bool:=a.aF==b.aF&&(a.host.toList==b.host.toList&&a.port==b.port)
theorem toList_inj{a b:aj}:a.toList=b.toList↔a=b:=by
 constructor
 ·intro h;rw[Go.ByteArray.toList_eq,Go.ByteArray.toList_eq]at h;exact Go.WideShapes.bytes_inj h
 ·intro h;rw[h]
theorem gz.xj(a b:gz):a.ll b=true↔a=b:=by
 obtain⟨s,h,p⟩:=a;obtain⟨s',h',p'⟩:=b;simp only[gz.ll,cD,dT,gz.mk.injEq,toList_inj]
theorem jz(a b:gz)(w:World):(binOp .eql 32 (.agg #[.bool a.aF,.string a.host,.int .i64 a.port]) (.agg #[.bool b.aF,.string b.host,.int .i64 b.port])).run prog w=.ok (.bool (a.ll b)) w:=by
 go_simp;by_cases h1:a.aF=b.aF<;>by_cases h2:a.host.toList=b.host.toList<;>by_cases h3:a.port=b.port<;>simp[gz.ll,h1,h2,h3]
theorem BR(a b:gz)(w:World):(binOp .neq 32 (.agg #[.bool a.aF,.string a.host,.int .i64 a.port]) (.agg #[.bool b.aF,.string b.host,.int .i64 b.port])).run prog w=.ok (.bool (!a.ll b)) w:=by
 go_simp;by_cases h1:a.aF=b.aF<;>by_cases h2:a.host.toList=b.host.toList<;>by_cases h3:a.port=b.port<;>simp[gz.ll,h1,h2,h3]
def cB(x:List Value)(i:Nat):Bool:=match x[i]? with|some (.bool b)=>b|_=>false
def cS(x:List Value)(i:Nat):aj:=match x[i]? with|some (.string s)=>s|_=>ByteArray.empty
def cI(x:List Value)(i:Nat):Int:=match x[i]? with|some (.int _ n)=>n|_=>0
def ahe(x:List Value):gz:=⟨cB x 0,cS x 1,cI x 2⟩
