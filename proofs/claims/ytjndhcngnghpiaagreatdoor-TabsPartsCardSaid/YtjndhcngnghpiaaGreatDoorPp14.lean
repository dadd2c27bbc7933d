/- Lemmas for the law's walk. -/
import Derived.Test.YtjndhcngnghpiaaGreatDoorPp13
import Derived.Test.YtjndhcngnghpiaaGreatDoorPp23
set_option maxRecDepth 100000
set_option maxHeartbeats 16000000
set_option linter.unusedSimpArgs false
namespace Go.Proofs.YtjndhcngnghpiaaGreatDoor
open Go.Proofs.Tryz
open Go.RowKit
variable {c:UInt8} {s:ai} {i k base b B:Nat} {o:jx} {w a w':World} {ps:List ep} {r:qE} {now:Int} {p:ep} {ws:List (bL bG)} {gs:List (aU bG)} {gv wv bv:Value} {S:dB} {cs:a_}
theorem ac1(l:Bs):Lib.trimSuffix l [13]=sX l:=by
 unfold Lib.trimSuffix Lib.hasSuffix sX;rcases List.eq_nil_or_concat l with rfl|⟨a,b,rfl⟩
 ·rfl
 ·have h1:(List.isSuffixOf [13] (a.concat b)=true)↔b=13:=by
   rw[List.isSuffixOf_iff_suffix,List.concat_eq_append];constructor
   ·rintro⟨t,ht⟩;have:=(List.append_inj' ht rfl).2;simpa using this.symm
   ·rintro rfl;exact⟨a,rfl⟩
  have h2:(a.concat b).getLast?=some b:=by rw[List.concat_eq_append];simp
  rw[h2];by_cases hb:b=13
  ·rw[aB (h1.2 hb),aB (by rw[hb]),List.dropLast_eq_take];rfl
  ·rw[ay (fun h=>hb (h1.1 h)),ay (fun h=>hb (jQ h))]
theorem Fw(l:Bs):(sX l).length<=l.length:=by unfold sX;split<;>simp
theorem Qu(h:¬0<=Lib.indexByte s.data.toList c):mg c s.data.toList=(s.data.toList,[],false) :=
 Ep c _ (fun hc=>(FU _ _).1 h c hc rfl)
theorem UJ(h:Lib.indexByte s.data.toList c=(i:Int)):mg c s.data.toList=(s.data.toList.take i,s.data.toList.drop (i+1),true):=by
 obtain⟨he,hn⟩:=wh _ _ _ h;have:=Iv c (s.data.toList.take i) (s.data.toList.drop (i+1)) hn;rw[<-he]at this;exact this
theorem Ak(c:UInt8):∀d:Bs,(dY c d).length<=d.length+1/\∀p∈dY c d,p.length<=d.length
 |[]=>by simp[dY]
 |x :: d=>by
  have ih:=Ak c d;by_cases hx:x=c
  ·subst hx;rw[qX];refine⟨bH,fun p hp=>?_⟩;rcases bE.1 hp with rfl|hp
   ·simp
   ·have:=ih.2 p hp;simp;omega
  ·cases e:dY c d with
   |nil=>exact absurd e (vZ c d)
   |cons q qs =>
    rw[e]at ih;rw[nL hx e];refine⟨by simp at ih ⊢; omega,fun p hp=>?_⟩;rcases bE.1 hp with rfl|hp
    ·have:=ih.2 q (cY ..);simp;omega
    ·have:=ih.2 p (bV _ hp);simp;omega
def MO(s:ai)(w:World)(e:Ending)(w':World):Prop :=
 Fr aX w w'/\match mE s.data.toList with
 | .ok ps=>∃v,e=.returned (.tuple #[v,.nilIface])/\OwnRows w.heap.size 142 2 w' v (ps.map nX)
 | .error n=>∃er,e=.returned (.tuple #[.slice none 0 0,er])/\TP n er w'
def ahH(L:List Bs)(w:World)(out t:Value)(wr:World):Prop :=
 ∃(k:Nat) (acc:List jn),k<=L.length/\t=.int .i64 k/\OwnRows w.heap.size 142 2 wr out (acc.map nX)/\kB L []=kB (L.drop k) acc/\acc.length<=40/\Fr aX w wr
theorem Kh{L:List Bs}{x:Bs}{acc:List jn}(h:L[k]?=some x):kB (L.drop k) acc=match B' x with
  |none=>.error 3
  |some none=>kB (L.drop (k+1)) acc
  |some (some p)=>if acc.length=40 then .error 4 else kB (L.drop (k+1)) (acc++[p]):=by
 have hk:=(List.getElem?_eq_some_iff.1 h).1;have hx:L.drop k=x :: L.drop (k+1):=by
  rw[cP hk];have:=(List.getElem?_eq_some_iff.1 h).2;rw[this]
 rw[hx,kB];rfl
theorem MP(s:ai)(w:World)(hs:s.size<100000) :
  aE 86 #[.string s] w (MO s w):=by
 by_cases h3:3000<s.size
 ·have h3':(3000:Int)<(s.size:Int):=ab;have HE:=O (show mE s.data.toList=.error 4 by unfold mE;rw[aB (show 3000<s.data.toList.length from h3)]);go_enter func86,ntmps86;go_wp2;go_ret2;refine⟨ae _ _,?_⟩;rw[HE.o];exact⟨_,rfl,Or.inl rfl⟩
 ·have h3':¬(3000:Int)<(s.size:Int):=ab;have HE:=O (show mE s.data.toList=kB (dY 10 s.data.toList) []by unfold mE;rw[ay (show¬3000<s.data.toList.length from h3)]);have hle:=Ak 10 s.data.toList;have xm:=O (xI s 10 w ab);obtain⟨L,hL⟩:∃L,L=dY 10 s.data.toList:=⟨_,rfl⟩;obtain⟨B,hB⟩:∃B,B=iL 10 s:=⟨_,rfl⟩;have hBL:B=L.map fun l=>(⟨l.toArray⟩:ai):=by rw[hB,hL];rfl
  have hlen:B.length=L.length:=by rw[hBL,aj]
  rw[<-hL]at HE hle;rw[<-hB]at xm;have Wu:=O hle;have hL1:L.length<=3001:=by have h:=hle.1;have h2:s.data.toList.length=s.size:=rfl;omega
  have oH:=O hBL;have ZZ:=O (show∀p∈L,p.length<=3000 from fun p hp=>by have h:=hle.2 p hp;have h2:s.data.toList.length=s.size:=rfl;omega);clear hle hL hB hBL;go_enter func86,ntmps86;go_wp2_with fail
  refine xm.o.mono ?_;rintro e w0⟨rfl,Rr⟩;have oL:Fr aX w w0:=by rw[Rr];exact(ae _ _).alloc _
  have su:w0.heap[w.heap.size]?=some (.cells (B.map Value.string).toArray 9 (0,0)):=by rw[Rr];exact aC _ _
  have HC:=O (show∀U,Fr aX w0 U->∀(k:Nat) x,L[k]?=some x->U.cell? ⟨w.heap.size,k,none⟩=some (.string ⟨x.toArray⟩)from fun U hU k x hx=>by
   have h:=hU.keep su id;have e:(B.map Value.string)[k]?=some (.string ⟨x.toArray⟩):=by rw[List.getElem?_map,oH.o,List.getElem?_map,hx];rfl
   simp only[World.cell?,h];simpa using e)
  have AX:=O oL;rw[hlen];clear Rr oL su xm oH hlen;go_wp2;go_loopw[4,17] (ahH L w0) (fun _ t _=>L.length-(intOf t).toNat)
  case atStart=>exact⟨0,[],aW _,rfl,dp _ _ _ _,by rw[eF],ag,ae _ _⟩
  case round =>
   obtain⟨k,acc,hk,rfl,ho,hn,aeH,cR⟩:=hrel;obtain⟨ao,co,OO⟩:=ho.form;rw[aj]at OO;subst OO;by_cases fE:k<L.length
   ·have qm:(k:Int)<(L.length:Int):=ab;have dT:=O (List.getElem?_eq_getElem fE);have jc:=O (bQ fE);generalize L[k]=x at dT jc;have hxz:=ZZ.o x jc.o;have c0:=HC.o wr cR k x dT.o;obtain⟨lb,Wc⟩:∃lb:ai,lb=⟨x.toArray⟩:=⟨_,rfl⟩;have Ev:lb.data.toList=x:=by rw[Wc]
    rw[<-Wc]at c0;obtain⟨y,hy⟩:∃y:ai,y=⟨(Lib.trimSuffix lb.data.toList [13]).toArray⟩:=⟨_,rfl⟩;have hyl:y.data.toList=sX x:=by rw[hy,Ev,ac1]
    have hyz:y.size<=3000:=by
     have h:=Fw x;have h2:y.data.toList.length=y.size:=rfl;rw[hyl]at h2;omega
    have KV:lb.size<=3000:=by have h2:lb.data.toList.length=lb.size:=rfl;rw[Ev]at h2;omega
    have HTS:=O (show aE 132 #[.string lb,.string ⟨#[13]⟩] wr fun e w'=>e=.returned (.string y)/\wr=w' from(strings_TrimSuffix lb ⟨#[13]⟩ wr ab).mono (by rintro e w' ⟨rfl,rfl⟩;exact⟨by rw[hy],rfl⟩));have mC:=O (Kh (acc:=acc) dT.o);have HN:=O hn;have HO:=O ho
    have HLR:=O (show B' x=if y.data.toList.isEmpty then some none else if !(mg 58 y.data.toList).2.2||!zI (mg 58 y.data.toList).1 then none else some (some ((mg 58 y.data.toList).1,trimB (mg 58 y.data.toList).2.1))by rw[hyl];rfl);clear Wc Ev hy hyl hn ho;have Re:y.toList=y.data.toList:=aN _;by_cases hy0:y.size=0
    ·have DK:=gN.2 hy0;have ac2:y.toList=[]:=by rw[Re];exact DK
     have anh:(y.toList== [])=true:=by rw[ac2];rfl
     have HR:=O (show kB L []=kB (L.drop (k+1)) acc by rw[HN.o,mC.o,HLR.o,DK];rfl);clear Re DK;go_wp2_with fail
     refine HTS.o.mono ?_;rintro e u⟨rfl,rfl⟩;go_wp2;go_roundw
     case rel=>exact⟨k+1,acc,ab,bh,HO.o,HR.o,aeH,cR⟩
     case measure=>simp[intOf];omega
    ·have DK:¬y.data.toList=[]:=fun h=>hy0 (gN.1 h);have ac2:¬y.toList=[]:=by rw[Re];exact DK
     have anh:(y.toList== [])=false:=by rw[aL];exact ac2
     have MQ:=O (show B' x=if !(mg 58 y.data.toList).2.2||!zI (mg 58 y.data.toList).1 then none else some (some ((mg 58 y.data.toList).1,trimB (mg 58 y.data.toList).2.1))by
      rw[HLR.o,ay (by simpa using DK)])
     clear Re DK HLR;by_cases v_:0<=Lib.indexByte y.data.toList 58
     ·obtain⟨i,hi⟩:∃i:Nat,Lib.indexByte y.data.toList 58=(i:Int):=⟨(Lib.indexByte y.data.toList 58).toNat,ab⟩;have hil:i<y.size:=SN hi;have hcut:=UJ hi;obtain⟨nm,VV⟩:∃nm:ai,nm=y.extract 0 i:=⟨_,rfl⟩;obtain⟨vl,Q8⟩:∃vl:ai,vl=y.extract (i+1) y.size:=⟨_,rfl⟩;have rA:nm.data.toList=y.data.toList.take i:=by rw[VV,oA];simp
      have ac3:vl.data.toList=y.data.toList.drop (i+1):=by
       rw[Q8,oA];exact aG (by rw[bJ];exact az _)
      have hnz:nm.size<=3000:=by
       have h2:nm.data.toList.length=nm.size:=rfl;rw[rA,aQ]at h2;have h3:y.data.toList.length=y.size:=rfl;omega
      have Z_:vl.size<=3000:=by
       have h2:vl.data.toList.length=vl.size:=rfl;rw[ac3,bJ]at h2;have h3:y.data.toList.length=y.size:=rfl;omega
      have FV:=O (ID y 58 i wr ab hi hil);rw[<-VV, <-Q8]at FV;rw[hcut]at MQ;simp only at MQ;rw[<-rA, <-ac3]at MQ;clear VV Q8 rA ac3 hcut;cases GN:zI nm.data.toList
      ·have HR:=O (show mE s.data.toList=.error 3 by rw[HE.o,HN.o,mC.o,MQ.o,GN];rfl);have HIS:=O (fun U=>BQ nm U ab);rw[GN]at HIS;clear GN hi v_;go_wp2_with fail
       refine HTS.o.mono ?_;rintro e u⟨rfl,rfl⟩;go_wp2_with fail
       refine FV.o.mono ?_;rintro e u⟨rfl,n,rfl⟩;go_wp2_with fail
       refine(HIS.o _).mono ?_;rintro e u⟨rfl,rfl⟩;have su:=aC (wr.drewN n) (.cells #[.int .i64 3,.int .i64 k] 222);have HBK:=O su;have O2:=O ((cR.drewN n).alloc (.cells #[.int .i64 3,.int .i64 k] 222));clear su;go_wp2;go_ret2;refine⟨AX.o.trans O2.o,?_⟩;rw[HR.o];exact⟨_,rfl,Or.inr ⟨_,k,rfl,HBK.o⟩⟩
      ·by_cases FM:acc.length=40
       ·have HR:=O (show mE s.data.toList=.error 4 by rw[HE.o,HN.o,mC.o,MQ.o,GN];simp[FM]);have HIS:=O (fun U=>BQ nm U ab);rw[GN]at HIS;have i40:(acc.length:Int)=40:=ab;clear GN hi v_;go_wp2_with fail
        refine HTS.o.mono ?_;rintro e u⟨rfl,rfl⟩;go_wp2_with fail
        refine FV.o.mono ?_;rintro e u⟨rfl,n,rfl⟩;go_wp2_with fail
        refine(HIS.o _).mono ?_;rintro e u⟨rfl,rfl⟩;have O2:=O (cR.drewN n);go_wp2;go_ret2;refine⟨AX.o.trans O2.o,?_⟩;rw[HR.o];exact⟨_,rfl,Or.inl rfl⟩
       ·have HIS:=O (fun U=>BQ nm U ab);have Px:=O (fun U=>rT vl ⟨#[32,9]⟩ U ab ag ag ag);obtain⟨tv,htv⟩:∃tv:ai,tv=⟨(Lib.trimS vl.data.toList [32,9]).toArray⟩:=⟨_,rfl⟩;have OL:tv.data.toList=trimB vl.data.toList:=by rw[htv];rfl
        have anj:=O (show∀U,aE 134 #[.string vl,.string ⟨#[32,9]⟩] U fun e w'=>e=.returned (.string tv)/\Fr aX U w' from fun U=>by rw[htv];exact Px.o U);have HPC:=O (show nX (nm.data.toList,tv.data.toList)=[.string nm,.string tv]by unfold nX;simp only[RV]);have HR:=O (show kB L []=kB (L.drop (k+1)) (acc++[(nm.data.toList,tv.data.toList)])by rw[HN.o,mC.o,MQ.o,GN,OL];simp[FM]);rw[GN]at HIS
        have i40:¬(acc.length:Int)=40:=ab;clear GN hi v_ htv OL Px;go_wp2_with fail
        refine HTS.o.mono ?_;rintro e u⟨rfl,rfl⟩;go_wp2_with fail
        refine FV.o.mono ?_;rintro e u⟨rfl,n,rfl⟩;go_wp2_with fail
        refine(HIS.o _).mono ?_;rintro e u⟨rfl,rfl⟩;go_wp2_with fail
        refine(anj.o _).mono ?_;rintro e u⟨rfl,hu⟩;have T4:=O ((cR.drewN n).trans hu);have HOU:=O (HO.o.drewN (n:=n) |>.fr hu (fun _ _ h=>h));have hsu:w0.heap.size<=u.heap.size:=T4.o.size;clear hu
        go_wp2_with (at_builtin;refine nA rfl _ _ 27 142 rfl 2 32 (.agg #[.string ⟨#[]⟩,.string ⟨#[]⟩]) underlying27 IY rfl ag ag w0.heap.size (.slice ao acc.length co) (acc.map nX) rfl (HOU.o.alloc _) u.heap.size 1 [.string nm,.string tv] rfl rfl bS (fun i u hi=>by rw[World.cell?_alloc_mark];simpa using hi) (by rw[aj];omega) bH ?_;intro v' w4 eV Ba)
        have jN:=O ((T4.o.alloc (.cells #[.string nm,.string tv] 142)).fJ Ba (fun j hj=>HOU.o.block j hj));go_roundw
        case rel=>exact⟨k+1,acc++[(nm.data.toList,tv.data.toList)],ab,bh,by rw[bI,cA,du,HPC.o];exact eV,HR.o,bH,jN.o⟩
        case measure=>simp[intOf];omega
     ·have hcut:=Qu v_;have HR:=O (show mE s.data.toList=.error 3 by rw[HE.o,HN.o,mC.o,MQ.o,hcut];rfl);have FV:=O (Es y 58 wr v_);clear v_ hcut;go_wp2_with fail
      refine HTS.o.mono ?_;rintro e u⟨rfl,rfl⟩;go_wp2_with fail
      refine FV.o.mono ?_;rintro e u⟨rfl,rfl⟩;have su:=aC u (.cells #[.int .i64 3,.int .i64 k] 222);have HBK:=O su;have O2:=O (cR.alloc (.cells #[.int .i64 3,.int .i64 k] 222));clear su;go_wp2;go_ret2;refine⟨AX.o.trans O2.o,?_⟩;rw[HR.o];exact⟨_,rfl,Or.inr ⟨_,k,rfl,HBK.o⟩⟩
   ·have qm:¬(k:Int)<(L.length:Int):=ab;have IC:L.drop k=[]:=List.drop_of_length_le ab;have HR:=O (show mE s.data.toList=.ok acc by rw[HE.o,hn,IC];rfl);have HO:=O ho;clear ho hn;go_wp2;go_ret2;refine⟨AX.o.trans cR,?_⟩;rw[HR.o];exact⟨_,rfl,HO.o.up AX.o.size⟩
theorem ed.eq{v w:ed}(h:∀i,v.part i=w.part i)(hn:v.now=w.now):v=w:=by
 cases v;cases w;simp only[ed.mk.injEq];exact⟨funext h,hn⟩
theorem ed.JO(w:ed)(k:Nat):w.set k (w.part k)=w:=by
 refine ed.eq (fun i=>?_) rfl;unfold ed.set;show(if i=k then w.part k else w.part i)=w.part i;split
 ·rename_i h;rw[h]
 ·rfl
theorem ed.Mi(w:ed)(k:Nat)(p:eD):(w.set k p).part k=p:=by unfold ed.set;simp
theorem ed.Gx(w:ed)(p:eD)(h:i≠k):(w.set k p).part i=w.part i:=by unfold ed.set;simp[h]
theorem Gy{w:ed}(h:o.right=false):nj w o=(w,rep 7):=by unfold nj;rw[h];rfl
theorem C7{w:ed}(h:o.right=true)(hw:o.what≠10):nj w o=(w.set o.part.toNat (wk (w.part o.part.toNat) w.now o).1,(wk (w.part o.part.toNat) w.now o).2):=by
 unfold nj;rw[aB h,ay hw]
theorem C8{w:ed}(h:o.right=true)(hw:o.what=10):nj w o=if o.n<0\/1099511627776-w.now<o.n then(w,rep 7)else({w with now:=w.now+o.n},rep 1):=by
 unfold nj;rw[aB h,aB hw]
theorem ja(h:o.right=true):0<=o.part/\o.part<4:=by
 unfold jx.right jx.TI at h;simp only[cF,dM]at h;exact⟨h.2.2.1.1,h.2.2.1.2.1⟩
theorem gP{P:Program}{ops:Array Oper}{a:Act}{w:World}{K:Act->World->Prop}{Q:Exit->Act->World->Prop}{E:Prop}{o:Oper}(yc:o.guard=none)(ty:TypeId)(x y:Operand)(ho:o.op=.store ty x y)
  (g:Nat)(cells:bW)(hx:a.eval x=.pointer (some ⟨g,0,none⟩))(hy:a.eval y=.agg cells)
  (t:TypeId)(old:bW)(hg:w.heap[g]?=some (.cells old t (0,0)))(hi:(P.info? ty).map (·.size)=some cells.size)
  (hold:old.size=cells.size)(h1:cells.all (·.oneCell')=true)(h:K (a.put o.dst undef) (w.setRow g cells)):if Region.wanted o (yielded ops a.tmps)=true then Oper.wp P o a w K Q else E:=by
 have hw:Region.wanted o (yielded ops a.tmps)=true:=by simp[Region.wanted,yc]
 rw[aB hw];exact wp_store_row ty x y ho g cells hx hy t old hg hi hold h1 h
def Uj(xs:List mW)(w:World)(e:Ending)(w':World):Prop :=
 Fr aX w w'/\∃r:fX Value,r.Reads (Strs w.heap.size w') (iY xs)/\e=.returned (.tuple #[.agg r.cells.toArray,.bool (decide (0<(iY xs).scheme))])
def ag7(w:World)(xs:List mW)(t:Value)(wr:World):Prop :=
 ∃(k:Nat) (r:fX Value),k<=xs.length/\t=.int .i64 k/\wr.heap[w.heap.size]?=some (.cells gG 127 (0,0))/\fL wr (w.heap.size+1) r/\r.Reads (Strs w.heap.size wr) (iY (xs.take k))/\Fr aX w wr
theorem Reads.amB{r:fX Value}{a:fX bG}(h:r.Reads (Strs base w) a):r.dom.oneCell'=true:=by
 obtain⟨x,c,e⟩:=h.2.2.2.2.2.2.2.form;rw[e];rfl
theorem Mz(base:Nat)(w:World):jg.Reads (Strs base w) Nu:=⟨rfl,rfl,rfl,rfl,rfl,rfl,rfl,kA _ _⟩
theorem Strs.upS{b':Nat}{v:Value}{ss:List ai}(h:Strs b' w v ss)(hb:b<=b'):Strs b w v ss:=xo h hb
theorem Uk(v:Value)(xs:List mW)(w:World)(h:uj w v xs)(_hl:xs.length<=1000000)(hz:∀x∈xs,x.Fit) :
  aE 77 #[v] w (Uj xs w):=by
 obtain⟨av,cv,hv⟩:=h.form;subst hv;obtain⟨w2,eC⟩:∃w2,w2=(w.alloc (.cells gG 127)).alloc (.cells gG 127):=⟨_,rfl⟩;have dw:Fr aX (w.alloc (.cells gG 127)) w2:=by rw[eC];exact(ae _ _).alloc _
 have pN:w2.heap[w.heap.size]?=some (.cells gG 127 (0,0)):=dw.keep (aC w _) id;have jX:fL w2 (w.heap.size+1) jg:=by
  rw[eC];have:=aC (w.alloc (.cells gG 127)) (.cells gG 127);rw[show(w.alloc (.cells gG 127)).heap.size=w.heap.size+1 from aS]at this;exact this
 have dF:Fr aX w w2:=((ae aX w).alloc _).trans dw;have ow:=O eC;clear eC dw;go_enter func77,ntmps77;go_wp2_with fail
 rw[<-ow.o];go_loopw[11] (ag7 w xs) (fun t _=>xs.length-(intOf t).toNat)
 case atStart=>exact⟨0,jg,aW _,rfl,pN,jX,Mz _ _,dF⟩
 case round =>
  obtain⟨k,r,hk,rfl,uJ,wY,J6,cR⟩:=hrel;by_cases fE:k<xs.length
  case pos =>
   have qm:(k:Int)<(xs.length:Int):=ab;have dT:=O (List.getElem?_eq_getElem fE);have HZ:=O (hz _ (bQ fE));generalize xs[k]=x at dT HZ;obtain⟨bk,of,pv,rfl,h1,h2,c0,c1,c2,hp⟩:=(h.i_ cR).cells dT.o;unfold maxLen at h2;have HBT:=O (show iY (xs.take (k+1))=po (iY (xs.take k)) x by rw[cD,dT.o];exact Lg _ _);obtain⟨a1,c1',e1⟩:=hp.form;subst e1
   obtain⟨wb,jP⟩:∃wb,wb=wr.alloc (.cells #[.string (bA x.scheme),.string (bA x.token),.slice a1 x.params.length c1'] 208):=⟨_,rfl⟩;have kf:Fr aX wr wb:=by rw[jP];exact(ae aX wr).alloc _
   have WK:ks wb wr.heap.size (bA x.scheme) (bA x.token) (.slice a1 x.params.length c1'):=by rw[jP];exact aC _ _
   have x0:=WK.cell0;have x1:=WK.gU;have x2:=WK.lQ;have KN:=O (Qe x _ wb (bM hp kf) HZ.o);have qB:=O jP;have hsb:w.heap.size+1<wb.heap.size:=by have:=bg (kf.keep wY id);exact this
   clear jP hp;go_wp2_with fail
   rw[<-qB.o];refine KN.o.mono ?_;intro e w3 hkp;obtain⟨iG,Xe⟩:=hkp;have Ul:=(kf.trans iG).keep uJ id;have acJ:fL w3 (w.heap.size+1) r:=(kf.trans iG).keep wY id;have Ym:r.Reads (Strs w.heap.size w3) (iY (xs.take k)):=J6.mono (fun u l hu=>hu.fr (kf.trans iG) (fun _ h=>h.elim));have il:=O ((cR.trans kf).trans iG);have RQ:w.heap.size+1<w3.heap.size:=cN hsb iG.size;clear x0 x1 x2 c0 c1 c2 WK uJ wY J6
   cases Pn:mN x with
   |none =>
    rw[Pn]at Xe;subst Xe;have qe:=O (show iY (xs.take (k+1))=iY (xs.take k)by rw[HBT.o];unfold po;rw[Pn]);have iQ:=fun W=>run_storeCells_new (P:=prog) W 127 gG gG.toList rfl P_;have kH:Fr aX w3 (w3.alloc (.cells gG 127)):=(ae _ _).alloc _;have Oi:=kH.keep Ul id;have MB:fL (w3.alloc (.cells gG 127)) (w.heap.size+1) r:=kH.keep acJ id
    have acK:r.Reads (Strs w.heap.size (w3.alloc (.cells gG 127))) (iY (xs.take k)):=Ym.mono (fun u l hu=>hu.fr kH (fun _ h=>h.elim));have jN:=O (il.o.trans kH);clear Pn;go_wp2;go_roundw
    case rel=>exact⟨k+1,r,ab,bh,Oi,MB,by rw[qe.o];exact acK,jN.o⟩
    case measure=>simp[intOf];omega
   |some a =>
    rw[Pn]at Xe;obtain⟨r2,Yn,rfl⟩:=Xe;have ec:=O (GH r2 (Reads.amB Yn));obtain⟨y,hy⟩:∃y,y=r2.cells.toArray:=⟨_,rfl⟩;have Ew:y.size=8:=by rw[hy];rfl
    have HY:=O hy;have Xp:y.all (·.oneCell')=true:=by rw[hy];exact ec.o
    have Bd:(prog.info? 127).map (·.size)=some y.size:=by rw[Ew];kernel_rfl
    have hyz:gG.size=y.size:=by rw[Ew];rfl
    have hrz:r.cells.toArray.size=y.size:=by rw[Ew];rfl
    obtain⟨w4,qf⟩:∃w4,w4=w3.alloc (.cells y 127):=⟨_,rfl⟩;have kH:Fr aX w3 w4:=by rw[qf];exact(ae _ _).alloc _
    have ag9:fL w4 w3.heap.size r2:=by rw[qf,hy];exact aC _ _
    have Oi:=kH.keep Ul id;have MB:fL w4 (w.heap.size+1) r:=kH.keep acJ id;have acK:r.Reads (Strs w.heap.size w4) (iY (xs.take k)):=Ym.mono (fun u l hu=>hu.fr kH (fun _ h=>h.elim));have amE:r2.Reads (Strs w.heap.size w4) a:=Yn.mono (fun u l hu=>(hu.upS ab).fr kH (fun _ h=>h.elim));have jN:=O (il.o.trans kH);have Ms:=O qf
    have n0:w4.cell? ⟨w3.heap.size,0,none⟩=some (.int .i64 a.scheme):=by rw[<-Yn.1];exact ag9.cell rfl
    have m0:w4.cell? ⟨w.heap.size+1,0,none⟩=some (.int .i64 (iY (xs.take k)).scheme):=by rw[<-Ym.1];exact MB.cell rfl
    have ag_:=O (show iY (xs.take (k+1))=if(iY (xs.take k)).scheme<a.scheme then a else iY (xs.take k)by rw[HBT.o];unfold po;rw[Pn]);have ZQ:w3.heap.size<w4.heap.size:=by rw[qf];simp
    rw[<-hy];clear Pn hy qf Ul acJ Ym Yn;by_cases tK:(iY (xs.take k)).scheme<a.scheme
    case pos =>
     have qe:=O (show iY (xs.take (k+1))=a by rw[ag_.o,aB tK]);obtain⟨w5,hw5⟩:∃w5,w5=w4.setRow (w.heap.size+1) y:=⟨_,rfl⟩;have lB:Fr (one (w.heap.size+1)) w4 w5:=by rw[hw5];exact(ae (one (w.heap.size+1)) w4).setRow (fun _=>rfl) y
     have EN:=O hw5;have ag':=lB.keep Oi (fun h=>by have h':w.heap.size=w.heap.size+1:=h;omega);have amF:fL w5 (w.heap.size+1) r2:=by rw[hw5,HY.o];unfold fL;simp[World.setRow,Array.getElem?_modify,show w4.heap[w.heap.size+1]?=_ from MB]
     have amG:r2.Reads (Strs w.heap.size w5) a:=amE.mono (fun u l hu=>hu.Yg lB MB ag);have wR:=O (jN.o.step lB (fun k hk h=>by have h':k=w.heap.size+1:=h;omega));clear hw5 lB
     go_wp2_with (first|((with_reducible refine lH ⟨none,.store 127 (.tmp 7) (.tmp 18),_,_,_,_⟩ ?_);refine sY rfl 127 (.tmp 7) (.tmp 18) rfl gG y rfl rfl Bd hyz Xp ?_;rw[<-Ms.o])|((with_reducible refine dt 28 ?_);refine aJ rfl 127 (.tmp 7) rfl w3.heap.size rfl 127 y (0,0) _ (by rw[HY.o];exact ag9) underlying127 rfl Bd ?_)|((with_reducible refine lH ⟨none,.store 127 (.tmp 4) (.tmp 28),_,_,_,_⟩ ?_);refine aI rfl 127 (.tmp 4) (.tmp 28) rfl (w.heap.size+1) y rfl rfl 127 r.cells.toArray MB Bd hrz Xp ?_;rw[<-EN.o])|fail)
     go_roundw
     case rel=>exact⟨k+1,r2,ab,bh,ag',amF,by rw[qe.o];exact amG,wR.o⟩
     case measure=>simp[intOf];omega
    case neg =>
     have qe:=O (show iY (xs.take (k+1))=iY (xs.take k)by rw[ag_.o,ay tK]);go_wp2_with (first|((with_reducible refine lH ⟨none,.store 127 (.tmp 7) (.tmp 18),_,_,_,_⟩ ?_);refine sY rfl 127 (.tmp 7) (.tmp 18) rfl gG y rfl rfl Bd hyz Xp ?_;rw[<-Ms.o])|fail)
     go_roundw
     case rel=>exact⟨k+1,r,ab,bh,Oi,MB,by rw[qe.o];exact acK,jN.o⟩
     case measure=>simp[intOf];omega
  case neg =>
   have qm:¬(k:Int)<(xs.length:Int):=ab;have iH:xs.take k=xs:=aG ab;rw[iH]at J6;have b0:=wY.cell (i:=0) rfl;have b1:=wY.cell (i:=1) rfl;have b2:=wY.cell (i:=2) rfl;have b3:=wY.cell (i:=3) rfl;have b4:=wY.cell (i:=4) rfl;have b5:=wY.cell (i:=5) rfl;have b6:=wY.cell (i:=6) rfl;have b7:=wY.cell (i:=7) rfl;obtain⟨da,dc,hd⟩:=J6.2.2.2.2.2.2.2.form;rw[hd]at b7;have TW:=O J6;have HD:=O hd;have ue:=O cR
   have z:∀i u,gG[i]?=some u->wr.cell? ⟨w.heap.size,i,none⟩=some u:=fun i u hu=>by simp only[World.cell?,uJ];simpa using hu
   have zf:∀i,wr.frozen? ⟨w.heap.size,i,none⟩=false:=fun i=>by simp[World.frozen?,uJ]
   have z0:=z 0 _ rfl;have f0:=zf 0;have z1:=z 1 _ rfl;have f1:=zf 1;have z2:=z 2 _ rfl;have f2:=zf 2;have z3:=z 3 _ rfl;have f3:=zf 3;have z4:=z 4 _ rfl;have f4:=zf 4;have z5:=z 5 _ rfl;have f5:=zf 5;have z6:=z 6 _ rfl;have f6:=zf 6;have z7:=z 7 _ rfl;have f7:=zf 7;clear z zf;have gy:=O uJ;clear hd uJ wY J6 cR;go_wp2_with fail
   go_region
   all_goals
    have pA:fL wr w.heap.size jg:=gy.o
    have Bj:=((((((((pA.set 0 (.int .i64 r.scheme) (r':={jg with scheme:=r.scheme}) rfl).set 1 (.string r.aO) (r':={jg with scheme:=r.scheme,aO:=r.aO}) rfl).set 2 (.string r.bC) (r':={jg with scheme:=r.scheme,aO:=r.aO,bC:=r.bC}) rfl).set 3 (.string r.cj) (r':={jg with scheme:=r.scheme,aO:=r.aO,bC:=r.bC,cj:=r.cj}) rfl).set 4 (.bool r.cy) (r':={jg with scheme:=r.scheme,aO:=r.aO,bC:=r.bC,cj:=r.cj,cy:=r.cy}) rfl).set 5 (.string r.eZ) (r':={jg with scheme:=r.scheme,aO:=r.aO,bC:=r.bC,cj:=r.cj,cy:=r.cy,eZ:=r.eZ}) rfl).set 6 (.bool r.dr) (r':={jg with scheme:=r.scheme,aO:=r.aO,bC:=r.bC,cj:=r.cj,cy:=r.cy,eZ:=r.eZ,dr:=r.dr}) rfl).set 7 (.slice da (iY xs).dom.length dc) (r':={jg with scheme:=r.scheme,aO:=r.aO,bC:=r.bC,cj:=r.cj,cy:=r.cy,eZ:=r.eZ,dr:=r.dr,dom:=.slice da (iY xs).dom.length dc}) rfl)
    have nt:=(((((((((ae (one w.heap.size) wr).setCell (p:=⟨w.heap.size,0,none⟩) (fun _=>rfl) (.int .i64 r.scheme)).setCell (p:=⟨w.heap.size,1,none⟩) (fun _=>rfl) (.string r.aO)).setCell (p:=⟨w.heap.size,2,none⟩) (fun _=>rfl) (.string r.bC)).setCell (p:=⟨w.heap.size,3,none⟩) (fun _=>rfl) (.string r.cj)).setCell (p:=⟨w.heap.size,4,none⟩) (fun _=>rfl) (.bool r.cy)).setCell (p:=⟨w.heap.size,5,none⟩) (fun _=>rfl) (.string r.eZ)).setCell (p:=⟨w.heap.size,6,none⟩) (fun _=>rfl) (.bool r.dr)).setCell (p:=⟨w.heap.size,7,none⟩) (fun _=>rfl) (.slice da (iY xs).dom.length dc))
    generalize ((((((((wr.setCell ⟨w.heap.size,0,none⟩ (.int .i64 r.scheme)).setCell ⟨w.heap.size,1,none⟩ (.string r.aO)).setCell ⟨w.heap.size,2,none⟩ (.string r.bC)).setCell ⟨w.heap.size,3,none⟩ (.string r.cj)).setCell ⟨w.heap.size,4,none⟩ (.bool r.cy)).setCell ⟨w.heap.size,5,none⟩ (.string r.eZ)).setCell ⟨w.heap.size,6,none⟩ (.bool r.dr)).setCell ⟨w.heap.size,7,none⟩ (.slice da (iY xs).dom.length dc))=w6 at Bj nt ⊢
    have Bl:({jg with scheme:=r.scheme,aO:=r.aO,bC:=r.bC,cj:=r.cj,cy:=r.cy,eZ:=r.eZ,dr:=r.dr,dom:=.slice da (iY xs).dom.length dc}:fX Value)=r:=by rw[<-HD.o]
    rw[Bl]at Bj;have amH:r.Reads (Strs w.heap.size w6.drew) (iY xs):=TW.o.mono (fun u l hu=>(hu.Yg nt gy.o ag).drew);have x_:=O (ue.o.step nt (fun k hk h=>by have h':k=w.heap.size:=h;omega));have Dj:fL w6.drew w.heap.size r:=Bj;have d0:=Dj.cell (i:=0) rfl;have d1:=Dj.cell (i:=1) rfl;have d2:=Dj.cell (i:=2) rfl;have d3:=Dj.cell (i:=3) rfl;have d4:=Dj.cell (i:=4) rfl;have d5:=Dj.cell (i:=5) rfl
    have d6:=Dj.cell (i:=6) rfl;have d7:=Dj.cell (i:=7) rfl;have hsc:r.scheme=(iY xs).scheme:=TW.o.1;clear Bj nt pA;go_wp2;refine aR (results_cell_tmp bB _ _ w.heap.size 127 r.cells.toArray (0,0) _ rfl Dj underlying127 rfl af) rfl ?_;exact⟨x_.o.drewN 1,r,amH,by rw[<-hsc];rfl⟩
theorem UK(c:UInt8)(l:Bs):(mg c l).1.length<=l.length/\(mg c l).2.1.length<=l.length:=by
 rcases(Nv c l).2 with ⟨_,e⟩|⟨_,e,e2⟩
 ·have h:=ar List.length e;rw[aM,List.length_cons]at h;exact⟨ab,ab⟩
 ·exact⟨by have h:=ar List.length e;omega,by rw[e2];exact aW _⟩
theorem Ki{l:Bs}{p:jn}(h:B' l=some (some p)):p.1.length<=l.length/\p.2.length<=l.length:=by
 unfold B' at h;split at h
 ·cases h
 ·split at h
  ·cases h
  ·cases h;have h1:=UK 58 (sX l);have h2:=Fw l;have h3:=IE (mg 58 (sX l)).2.1 [32,9];refine⟨by show(mg 58 (sX l)).1.length<=_;omega,?_⟩;show(trimB _).length<=_;unfold trimB;omega
theorem sQ(N:Nat):∀(ls:List Bs) (acc out:List jn),kB ls acc=.ok out->acc.length<=40->(∀l∈ls,l.length<=N)->(∀p∈acc,p.1.length<=N/\p.2.length<=N)->out.length<=40/\∀p∈out,p.1.length<=N/\p.2.length<=N
 |[],acc,out,h,ha,_,hp=>by rw[kB]at h;cases h;exact⟨ha,hp⟩
 |l :: ls,acc,out,h,ha,hl,hp=>by
  rw[kB]at h;cases hr:B' l with
  |none=>rw[hr]at h;cases h
  |some q =>
   rw[hr]at h;cases q with
   |none=>exact sQ N ls acc out h ha (fun m hm=>hl m (bV _ hm)) hp
   |some p =>
    simp only at h;split at h
    ·cases h
    ·rename_i hn;refine sQ N ls (acc++[p]) out h (by rw[aM];simp only[List.length_cons,List.length_nil];omega) (fun m hm=>hl m (bV _ hm)) (fun x hx=>?_);rcases bO.1 hx with hx|hx
     ·exact hp x hx
     ·rw[dh.1 hx];have h1:=Ki hr;have h2:=hl l (cY ..);exact⟨ab,ab⟩
theorem GP{s:Bs}{x:List jn}(h:mE s=.ok x):kY x:=by
 unfold mE at h;split at h
 ·cases h
 ·have h1:=sQ 3000 _ _ _ h (aW _) (fun l hl=>by have:=(Ak 10 s).2 l hl;omega) (fun _ hp=>by cases hp);exact⟨ab,fun p hp=>by have:=h1.2 p hp;omega⟩
def ahJ(ps:List ep)(r:qE)(now:Int)(w1:World)(out t:Value)(wr:World):Prop :=
 ∃k:Nat,k<=ps.length/\t=.int .i64 k/\OwnRows w1.heap.size 137 12 wr out ((iP (ps.take k) r now).map ep.cells)/\Fr aX w1 wr
theorem YA(h:ps[k]?=some p)(hm:r.Sb now p=true):iP (ps.take (k+1)) r now=iP (ps.take k) r now++[p]:=by
 unfold iP;rw[dU h,cC];simp[hm]
theorem UL(h:ps[k]?=some p)(hm:r.Sb now p=false):iP (ps.take (k+1)) r now=iP (ps.take k) r now:=by
 unfold iP;rw[dU h,cC];simp[hm]
theorem YB(base:Nat)(w:World)(b:Nat)(v:Value)(ps:List ep)(r:fW Value)(hs:List gT)(now:Int)(h:eP base w b v ps)(hlen:ps.length<1000000) :
  aE 85 #[.pointer (some ⟨b,0,none⟩),.agg r.cells.toArray,.int .i64 now] w fun e w'=>∃v',e=.returned v'/\OwnRows w.heap.size 137 12 w' v' ((iP ps (r.dX hs) now).map ep.cells)/\Fr aX w w':=by
 obtain⟨rc,ui⟩:∃rc,rc=r.cells.toArray:=⟨_,rfl⟩;obtain⟨w1,oM⟩:∃w1,w1=w.alloc (.cells rc 29):=⟨_,rfl⟩;have dw:Fr aX w w1:=by rw[oM];exact(ae _ _).alloc _
 have l_:w1.heap[w.heap.size]?=some (.cells rc 29 (0,0)):=by rw[oM];exact aC _ _
 have h1:=h.dx dw;obtain⟨ak,ck,Ro⟩:=h.form;subst Ro;have lU:ez 12 w1 (.slice ak ps.length ck) (ps.map ep.cells):=h1.rows.at
 have HC:=O (show∀U,Fr aX w1 U->U.cell? ⟨w.heap.size,1,none⟩=some (.bool r.cG.aD)/\U.cell? ⟨w.heap.size,2,none⟩=some (.string r.cG.host)/\U.cell? ⟨w.heap.size,3,none⟩=some (.int .i64 r.cG.port)/\U.cell? ⟨w.heap.size,4,none⟩=some (.bool r.o.aD)/\U.cell? ⟨w.heap.size,5,none⟩=some (.string r.o.host)/\U.cell? ⟨w.heap.size,6,none⟩=some (.int .i64 r.o.port)/\U.cell? ⟨w.heap.size,7,none⟩=some (.string r.path)/\U.cell? ⟨w.heap.size,8,none⟩=some (.string r.query)/\U.cell? ⟨w.heap.size,11,none⟩=some (.bool r.fq)from fun U hU=>by
  have j:=hU.keep l_ id;rw[ui]at j;have hc:∀i u,r.cells[i]?=some u->U.cell? ⟨w.heap.size,i,none⟩=some u:=fun i u hu=>by simp only[World.cell?,j];simpa using hu
  exact⟨hc 1 _ rfl,hc 2 _ rfl,hc 3 _ rfl,hc 4 _ rfl,hc 5 _ rfl,hc 6 _ rfl,hc 7 _ rfl,hc 8 _ rfl,hc 11 _ rfl⟩)
 have HM:=O (show∀p:ep,(r.dX hs).Sb now p=(p.alive now&&(p.cG.kM r.cG&&((p.o.kM r.o&&(p.path.toList==r.path.toList&&p.query.toList==r.query.toList))&&(p.fq||!r.fq))))from fun _=>rfl);generalize r.dX hs=rl at HM ⊢;have c0:=h1.c0;rw[oM]at c0;have Pd:=O oM;have lA:=O dw;have A1:w.heap.size<=w1.heap.size:=dw.size;rw[<-ui];clear oM dw l_ h1 h ui;go_enter func85,ntmps85;go_wp2_with fail
 rw[<-Pd.o];go_loopw[7,15] (ahJ ps rl now w1) (fun _ t _=>ps.length-(intOf t).toNat)
 case atStart=>exact⟨0,aW _,rfl,dp _ _ _ _,ae _ _⟩
 case round =>
  obtain⟨k,hk,rfl,ho,cR⟩:=hrel;obtain⟨ao,co,OO⟩:=ho.form;rw[aj]at OO;subst OO;have Q7:(iP (ps.take k) rl now).length<=1000000:=by
   have h1:=bR (rl.Sb now) (ps.take k);rw[aQ]at h1;unfold iP;omega
  by_cases fE:k<ps.length
  ·have qm:(k:Int)<(ps.length:Int):=ab;have dT:=O (List.getElem?_eq_getElem fE);generalize ps[k]=p at dT;have lJ:ez 12 wr (.slice ak ps.length ck) (ps.map ep.cells):=bM lU cR;rcases lJ.2 with ⟨_,_,_,e,_⟩|⟨bk,of,c,hf,g1,g2,g3,g4⟩
   ·have:ps.length=0:=by have:=ar List.length e;simpa using this
    omega
   rw[aj]at hf g1;cases hf;unfold maxLen at g2;obtain⟨x,hx⟩:∃x,x=p.cells:=⟨_,rfl⟩;have lI:x.length=12:=by rw[hx];rfl
   have ec:∀u∈x,u.oneCell'=true:=by rw[hx];exact p.tC
   have hcell:=g4 k x (by rw[List.getElem?_map,dT.o,hx];rfl);have iQ:=fun W=>run_storeCells_new (P:=prog) W 137 D8 x (by rw[lI];rfl) ec;have ET:(prog.info? 137).map (·.size)=some x.length:=zZ lI;have ac4:=O (show(prog.info? 137).map (·.size)=some x.toArray.size by rw[bd];exact ET);clear g4 lJ;have HX:=O hx;have KX:=O ET;have wH:=O ec;have ank:=O (aC wr (.cells x.toArray 137))
   have dF:Fr aX wr (wr.alloc (.cells x.toArray 137)):=(ae _ _).alloc _;have HP:=O (show∀U,Fr aX (wr.alloc (.cells x.toArray 137)) U->U.heap[wr.heap.size]?=some (.cells x.toArray 137 (0,0))from fun U hU=>hU.keep (aC _ _) id)
   have HPC:=O (show∀U,Fr aX (wr.alloc (.cells x.toArray 137)) U->U.cell? ⟨wr.heap.size,0,none⟩=some (.bool p.cG.aD)/\U.cell? ⟨wr.heap.size,1,none⟩=some (.string p.cG.host)/\U.cell? ⟨wr.heap.size,2,none⟩=some (.int .i64 p.cG.port)/\U.cell? ⟨wr.heap.size,3,none⟩=some (.bool p.o.aD)/\U.cell? ⟨wr.heap.size,4,none⟩=some (.string p.o.host)/\U.cell? ⟨wr.heap.size,5,none⟩=some (.int .i64 p.o.port)/\U.cell? ⟨wr.heap.size,6,none⟩=some (.string p.path)/\U.cell? ⟨wr.heap.size,7,none⟩=some (.string p.query)/\U.cell? ⟨wr.heap.size,8,none⟩=some (.bool p.fq)from fun U hU=>by
    have j:=HP.o U hU;rw[HX.o]at j;have hc:∀i u,p.cells[i]?=some u->U.cell? ⟨wr.heap.size,i,none⟩=some u:=fun i u hu=>by simp only[World.cell?,j];simpa using hu
    exact⟨hc 0 _ rfl,hc 1 _ rfl,hc 2 _ rfl,hc 3 _ rfl,hc 4 _ rfl,hc 5 _ rfl,hc 6 _ rfl,hc 7 _ rfl,hc 8 _ rfl⟩)
   have zM:=O (show∀U,aE 130 #[.agg x.toArray,.int .i64 now] U fun e w'=>e=.returned (.bool (p.alive now))/\Fr aX U w' from fun U=>by rw[HX.o];exact Ff p now U);have hwr:w.heap.size<=wr.heap.size:=by have:=cR.size;omega
   have ue:=O (cR.trans dF);have HO:=O (show∀U,Fr aX (wr.alloc (.cells x.toArray 137)) U->OwnRows w1.heap.size 137 12 U (.slice ao (iP (ps.take k) rl now).length co) ((iP (ps.take k) rl now).map ep.cells)from fun U hU=>(ho.alloc _).fr hU (fun _ _ h=>h));have Rw:=O (HM.o p);have Dt:=O (fun hm=>YA (r:=rl) (now:=now) dT.o hm);have vU:=O (fun hm=>UL (r:=rl) (now:=now) dT.o hm)
   obtain⟨fs,kx⟩:∃fs,fs=iP (ps.take k) rl now:=⟨_,rfl⟩;rw[<-kx]at HO Dt vU Q7 ⊢;clear hx ET ec ho dF cR kx;go_wp2_with (first|((with_reducible refine dt 18 ?_);refine bu rfl 137 (.tmp 17) rfl bk (of+k*12) rfl x _ hcell underlying137 rfl KX.o ?_)|((with_reducible refine dt 19 ?_);refine aJ rfl 137 (.tmp 9) rfl wr.heap.size rfl _ x.toArray (0,0) _ ank.o underlying137 rfl ac4.o ?_)|fail)
   have EW:=vw x #[.bool false,.string ⟨#[]⟩,.int .i64 0,.bool false,.string ⟨#[]⟩,.int .i64 0,.string ⟨#[]⟩,.string ⟨#[]⟩,.bool false,.string ⟨#[]⟩,.string ⟨#[]⟩,.int .i64 0] (by rw[lI];rfl);clear iQ hcell;generalize wr.alloc (.cells x.toArray 137)=W2 at *
   refine(zM.o W2).mono ?_;rintro e w3⟨rfl,iG⟩;obtain⟨p0,p1,p2,p3,p4,p5,p6,p7,p8⟩:=HPC.o w3 iG;have il:=O (ue.o.trans iG);obtain⟨r1,r2,r3,r4,r5,r6,r7,r8,r11⟩:=HC.o w3 il.o;have Rs:=O (HP.o w3 iG);have xx:=O (HO.o w3 iG);have h33:w1.heap.size<=w3.heap.size:=il.o.size;have heq:=j8 p.cG r.cG;have heu:=zb p.o p.path p.query r.o r.path r.query;clear zM HP HPC iG;cases ea:p.alive now
   ·have HN:=O (vU.o (by rw[Rw.o,ea];rfl));clear Rw Dt vU ea heq heu;go_wp2;go_roundw
    case rel=>exact⟨k+1,ab,bh,by rw[HN.o];exact xx.o,il.o⟩
    case measure=>simp[intOf];omega
   ·cases e1:p.cG.kM r.cG
    ·rw[e1]at heq;have HN:=O (vU.o (by rw[Rw.o,ea,e1];rfl));clear Rw Dt vU ea e1 heu;go_wp2;go_roundw
     case rel=>exact⟨k+1,ab,bh,by rw[HN.o];exact xx.o,il.o⟩
     case measure=>simp[intOf];omega
    ·rw[e1]at heq;cases e2:(p.o.kM r.o&&(p.path.toList==r.path.toList&&p.query.toList==r.query.toList))
     ·rw[e2]at heu;have HN:=O (vU.o (by rw[Rw.o,ea,e1,e2];rfl));clear Rw Dt vU ea e1 e2;go_wp2;go_roundw
      case rel=>exact⟨k+1,ab,bh,by rw[HN.o];exact xx.o,il.o⟩
      case measure=>simp[intOf];omega
     ·rw[e2]at heu;cases e3:p.fq
      ·rw[e3]at p8;cases e4:r.fq
       ·rw[e4]at r11;have HY:=O (Dt.o (by rw[Rw.o,ea,e1,e2,e3,e4];rfl));clear Rw Dt vU ea e1 e2 e3 e4
        go_wp2_with (first|((with_reducible refine dt 46 ?_);refine aJ rfl 137 (.tmp 9) rfl wr.heap.size rfl _ x.toArray (0,0) _ Rs.o underlying137 rfl ac4.o ?_)|(at_builtin;refine nA rfl _ _ 119 137 rfl 12 144 (.agg D8) underlying119 z_ rfl ag ag w1.heap.size (.slice ao fs.length co) (fs.map ep.cells) rfl (xx.o.alloc _) w3.heap.size 1 x rfl lI wH.o (fun i u hi=>by rw[World.cell?_alloc_mark];simpa using hi) (by rw[aj];omega) bH ?_;intro v' w4 eV Ba))
        have jN:=O ((il.o.alloc (.cells x.toArray 137)).fJ Ba (fun j hj=>xx.o.block j hj));go_roundw
        case rel=>exact⟨k+1,ab,bh,by rw[HY.o,bI,cA,du, <-HX.o];exact eV,jN.o⟩
        case measure=>simp[intOf];omega
       ·rw[e4]at r11;have HN:=O (vU.o (by rw[Rw.o,ea,e1,e2,e3,e4];rfl));clear Rw Dt vU ea e1 e2 e3 e4;go_wp2;go_roundw
        case rel=>exact⟨k+1,ab,bh,by rw[HN.o];exact xx.o,il.o⟩
        case measure=>simp[intOf];omega
      ·rw[e3]at p8;have HY:=O (Dt.o (by rw[Rw.o,ea,e1,e2,e3];rfl));clear Rw Dt vU ea e1 e2 e3
       go_wp2_with (first|((with_reducible refine dt 46 ?_);refine aJ rfl 137 (.tmp 9) rfl wr.heap.size rfl _ x.toArray (0,0) _ Rs.o underlying137 rfl ac4.o ?_)|(at_builtin;refine nA rfl _ _ 119 137 rfl 12 144 (.agg D8) underlying119 z_ rfl ag ag w1.heap.size (.slice ao fs.length co) (fs.map ep.cells) rfl (xx.o.alloc _) w3.heap.size 1 x rfl lI wH.o (fun i u hi=>by rw[World.cell?_alloc_mark];simpa using hi) (by rw[aj];omega) bH ?_;intro v' w4 eV Ba))
       have jN:=O ((il.o.alloc (.cells x.toArray 137)).fJ Ba (fun j hj=>xx.o.block j hj));go_roundw
       case rel=>exact⟨k+1,ab,bh,by rw[HY.o,bI,cA,du, <-HX.o];exact eV,jN.o⟩
       case measure=>simp[intOf];omega
  ·have qm:¬(k:Int)<(ps.length:Int):=ab;have OL:ps.take k=ps:=aG ab;rw[OL]at ho Q7 ⊢;obtain⟨fs,kx⟩:∃fs,fs=iP ps rl now:=⟨_,rfl⟩;rw[<-kx]at ho Q7 ⊢;have HO:=O ho;have HEQ:=O kx;clear ho kx;go_wp2;go_ret;exact⟨.slice ao fs.length co,rfl,by rw[<-HEQ.o];exact HO.o.up A1,lA.o.trans cR⟩
def xd(ws:List (bL bG)):Prop:=ws.Pairwise fun x y=>zX x.o x.proxy y=false
theorem C9{o:gz}{proxy:Bool}{x:bL bG}:zX o proxy x=true↔x.o=o/\x.proxy=proxy:=by
 unfold zX;rw[cF,gz.yl,dP]
theorem qT(o:gz)(proxy:Bool):∀ws:List (bL bG),(lR o proxy ws).1.Sublist ws
 |[]=>List.Sublist.slnil
 |g :: l=>by
  rw[lR];split
  ·exact List.sublist_cons_self _ _
  ·exact(qT o proxy l).cons_cons _
theorem C_{o:gz}{proxy:Bool}:∀ {ws:List (bL bG)},xd ws->∀x∈(lR o proxy ws).1,zX o proxy x=false
 |[],_,x,hx=>by cases hx
 |g :: l,hu,x,hx=>by
  have hu':=List.pairwise_cons.1 hu;rw[lR]at hx;cases hg:zX o proxy g
  ·rw[hg]at hx;simp only[cJ,eT]at hx;rcases bE.1 hx with rfl|hx
   ·exact hg
   ·exact C_ hu'.2 x hx
  ·rw[hg,aB rfl]at hx;have hx:x∈l:=hx;obtain⟨e1,e2⟩:=C9.1 hg;have:=hu'.1 x hx;rw[e1,e2]at this;exact this
theorem xd.sub{l:List (bL bG)}(h:xd ws)(hs:l.Sublist ws):xd l:=List.Pairwise.sublist hs h
theorem xd.ask(h:xd ws)(m:bL bG):xd (yZ ws m):=by
 unfold yZ;refine xd.sub (ws:=(lR m.o m.proxy ws).1++[m]) ?_ (List.drop_sublist _ _);unfold xd;rw[List.pairwise_append];refine⟨h.sub (qT _ _ _),List.pairwise_singleton _ _,fun x hx y hy=>?_⟩;rw[dh]at hy;subst hy;have:=C_ h x hx;rw[Bool.eq_false_iff]at this ⊢;intro e;obtain⟨e1,e2⟩:=C9.1 e;exact this (C9.2 ⟨e1.symm,e2.symm⟩)
def D9(gs:List (aU bG)):Prop:=∀g∈gs,0<=g.count
structure mT (p:eD):Prop where
 uniq:xd p.waits
 nat:D9 p.bZ
 re:p.bZ.length<=8/\p.waits.length<=8/\p.book.length<=32/\p.eJ.length<=8
theorem mT.no:mT xR:=⟨List.Pairwise.nil,fun _ h=>(by cases h),ag⟩
theorem D9.filter(h:D9 gs)(f:aU bG->Bool):D9 (gs.filter f):=fun g hg=>h g (eY.1 hg).1
theorem D9.put(h:D9 gs){g:aU bG}(hg:0<=g.count):D9 (uT gs g):=by
 unfold uT;intro x hx;have hx:=eB hx;rcases bO.1 hx with hx|hx
 ·exact h x (eY.1 hx).1
 ·rw[dh]at hx;rw[hx];exact hg
theorem JP(gs:List (aU bG))(g:aU bG):(uT gs g).length<=8/\1<=(uT gs g).length:=by
 unfold uT;simp only[bJ,aM,List.length_singleton];omega
theorem XO(h:D9 gs)(o:gz)(proxy:Bool)(path:ai):D9 (uU gs o proxy path).1/\(uU gs o proxy path).1.length<=gs.length:=by
 unfold uU;split
 ·split
  ·rename_i g hg;have hk:=(List.getElem?_eq_some_iff.1 hg).1;have hl:D9 (gs.take (tz gs o proxy path).toNat++gs.drop ((tz gs o proxy path).toNat+1)):=fun x hx=>by
    rcases bO.1 hx with hx|hx
    ·exact h x (eL hx)
    ·exact h x (eB hx)
   simp only;split
   ·refine⟨hl,?_⟩;simp only[aM,aQ,bJ];omega
   ·refine⟨fun x hx=>?_,?_⟩
    ·rcases bO.1 hx with hx|hx
     ·exact hl x hx
     ·rw[dh]at hx;rw[hx];have:=h g (cL hg);show 0<=g.count+1;omega
    ·simp only[aM,aQ,bJ,List.length_singleton];omega
  ·exact⟨h,az _⟩
 ·exact⟨h,az _⟩
theorem mT.wk{p:eD}(h:mT p)(now:Int)(o:jx):mT (wk p now o).1:=by
 obtain⟨hu,hn,f1,f2,f3,f4⟩:=h;unfold Go.Proofs.YtjndhcngnghpiaaGreatDoor.wk;by_cases h1:o.what=1
 ·rw[aB h1];have hU:=XO hn o.o o.proxy o.path;unfold lq;split
  ·rename_i gs e he;rw[he]at hU;exact⟨hu,hU.1,aH hU.2 f1,f2,f3,f4⟩
  ·rename_i gs g he;rw[he]at hU;split
   ·exact⟨hu,hU.1.filter _,aH (bR _ _) (aH hU.2 f1),f2,f3,f4⟩
   ·exact⟨hu,hU.1,aH hU.2 f1,f2,f3,f4⟩
 rw[ay h1];by_cases h2:o.what=2
 ·rw[aB h2];unfold jv;split
  ·exact⟨hu,hn,f1,f2,f3,f4⟩
  ·rename_i l _;split
   ·split
    ·rename_i g hg;have hc:0<=g.count:=by
      unfold C6 at hg;split at hg
      ·split at hg
       ·cases hg;exact gq _
       ·cases hg
      ·cases hg
     exact⟨hu,hn.put hc,(JP _ _).1,f2,f3,f4⟩
    ·exact⟨hu.ask _,hn.filter _,aH (bR _ _) f1,Tx _ _,f3,f4⟩
   ·exact⟨hu,hn,f1,f2,f3,f4⟩
 rw[ay h2];by_cases h3:o.what=3
 ·rw[aB h3];have hs:=qT o.o o.proxy p.waits;unfold kT;split
  ·rename_i ws e;rw[e]at hs;exact⟨hu.sub hs,hn,f1,aH hs.length_le f2,f3,f4⟩
  ·rename_i ws x e;rw[e]at hs;exact⟨hu.sub hs,hn.put (gq _),(JP _ _).1,aH hs.length_le f2,f3,f4⟩
 rw[ay h3];by_cases h4:o.what=4
 ·rw[aB h4];exact⟨hu,hn,f1,f2,f3,f4⟩
 rw[ay h4];by_cases h5:o.what=5
 ·rw[aB h5];unfold kU;split
  ·exact⟨hu,hn,f1,f2,f3,f4⟩
  ·split
   ·exact⟨hu,hn,f1,f2,aH (bR _ _) f3,f4⟩
   ·exact⟨hu,hn,f1,f2,IJ _ _ _,f4⟩
 rw[ay h5];by_cases h6:o.what=6
 ·rw[aB h6];exact⟨hu,hn,f1,f2,f3,f4⟩
 rw[ay h6];by_cases h7:o.what=7
 ·rw[aB h7];unfold oD;split
  ·exact⟨hu,hn,f1,f2,f3,f4⟩
  ·refine⟨hu,hn,f1,f2,f3,?_⟩;show(xc p.eJ o.o o.cert).length<=8;unfold xc;simp only[bJ];omega
 rw[ay h7];unfold rB;split
 ·exact mT.no
 ·have Sm:mT (vN p o.o):=⟨hu.sub List.filter_sublist,hn.filter _,aH (bR _ _) f1,aH (bR _ _) f2,f3,f4⟩;split
  ·exact⟨Sm.uniq,Sm.nat,Sm.re.1,Sm.re.2.1,aH (bR _ _) f3,aH (bR _ _) f4⟩
  ·exact Sm
structure C' (w:ed):Prop where
 part:∀k,mT (w.part k)
 now:0<=w.now/\w.now<=1099511627776
theorem C'.new:C' Gw:=⟨fun _=>mT.no,ag,ag⟩
theorem C'.nj{w:ed}(h:C' w)(o:jx):C' (nj w o).1:=by
 cases hr:o.right
 ·rw[Gy hr];exact h
 ·by_cases hw:o.what=10
  ·rw[C8 hr hw];split
   ·exact h
   ·rename_i hn;refine⟨h.part,?_⟩;show 0<=w.now+o.n/\w.now+o.n<=1099511627776;have:=h.now;omega
  ·rw[C7 hr hw];refine⟨fun k=>?_,h.now⟩;by_cases hk:k=o.part.toNat
   ·subst hk;rw[ed.Mi];exact(h.part _).wk _ _
   ·rw[ed.Gx _ _ hk];exact h.part k
def lS(c:gz×Int):a_:=[.bool c.1.aD,.string c.1.host,.int .i64 c.1.port,.int .i64 c.2]
structure dn where
 b:Nat
 gv:Value
 wv:Value
 k:Nat
 kv:Value
 cv:Value
def dn.cells(v:dn):a_:=[.pointer (some ⟨v.b,0,none⟩),.pointer (some ⟨v.k,0,none⟩),v.cv]
structure eQ (base:Nat) (w:World) (v:dn) (p:eD):Prop where
 oT:dC base w v.b v.gv v.wv p.bZ p.waits
 book:eP base w v.k v.kv p.book
 eJ:OwnRows base 105 4 w v.cv (p.eJ.map lS)
def dn.jS(v:dn):dB:=fun i=>dk v.b v.gv v.wv i\/ik v.k v.kv i\/own v.cv i
section
variable {base : Nat} {w w' : World} {v : dn} {p : eD}
theorem dC.hZ(h:dC base w b gv wv gs ws)(hi:dk b gv wv i) :
  ∃c t,w.heap[i]?=some (.cells c t (0,0))/\(t=118\/t=133\/t=129):=by
 rcases hi with rfl|hi|hi
 ·exact⟨_,_,h.eK,Or.inl rfl⟩
 ·obtain⟨c,e⟩:=h.tB hi;exact⟨_,_,e,Or.inr (Or.inl rfl)⟩
 ·obtain⟨c,e⟩:=h.vJ hi;exact⟨_,_,e,Or.inr (Or.inr rfl)⟩
theorem eP.hZ(h:eP base w b bv ps)(hi:ik b bv i) :
  ∃c t,w.heap[i]?=some (.cells c t (0,0))/\(t=121\/t=137):=by
 rcases hi with rfl|hi
 ·exact⟨_,_,h.eK,Or.inl rfl⟩
 ·obtain⟨c,e⟩:=h.rows.Fe hi;exact⟨_,_,e,Or.inr rfl⟩
theorem dC.np(h:dC base w b gv wv gs ws)(hi:dk b gv wv i):base<=i:=by
 rcases hi with rfl|hi|hi
 ·exact h.low
 ·exact h.afM hi
 ·exact h.afN hi
theorem eP.np(h:eP base w b bv ps)(hi:ik b bv i):base<=i:=by
 rcases hi with rfl|hi
 ·exact h.low
 ·exact h.rows.block _ hi
theorem eQ.hZ(h:eQ base w v p)(hi:v.jS i) :
  ∃c t,w.heap[i]?=some (.cells c t (0,0))/\(t=118\/t=133\/t=129\/t=121\/t=137\/t=105):=by
 rcases hi with hi|hi|hi
 ·obtain⟨c,t,e,ht⟩:=h.oT.hZ hi;exact⟨c,t,e,by rcases ht with rfl|rfl|rfl<;>simp⟩
 ·obtain⟨c,t,e,ht⟩:=h.book.hZ hi;exact⟨c,t,e,by rcases ht with rfl|rfl<;>simp⟩
 ·obtain⟨c,e⟩:=h.eJ.Fe hi;exact⟨c,_,e,aS⟩
theorem eQ.np(h:eQ base w v p)(hi:v.jS i):base<=i:=by
 rcases hi with hi|hi|hi
 ·exact h.oT.np hi
 ·exact h.book.np hi
 ·exact h.eJ.block _ hi
theorem eQ.je(h:eQ base w v p)(hi:v.jS i):i<w.heap.size:=by
 obtain⟨c,t,e,_⟩:=h.hZ hi;exact bg e
theorem eQ.off(h:eQ base w v p):rJ base w v.jS:=fun i hi _=>by
 refine⟨h.np hi,fun c f e=>?_⟩;obtain⟨c',t,e',ht⟩:=h.hZ hi;rw[e]at e';cases e';revert ht;decide
theorem eQ.fr(h:eQ base w v p)(hf:Fr S w w')(ho:rJ base w S)(hn:∀i,v.jS i->¬S i):eQ base w' v p :=
 ⟨h.oT.fr hf ho (hn _ (Or.inl (Or.inl rfl))) (fun _ hk=>hn _ (Or.inl (Or.inr (Or.inl hk)))) (fun _ hk=>hn _ (Or.inl (Or.inr (Or.inr hk)))),
  h.book.fr hf (fun _ hk=>hn _ (Or.inr (Or.inl hk))),h.eJ.fr hf (fun _ hk=>hn _ (Or.inr (Or.inr hk)))⟩
theorem eQ.dx(h:eQ base w v p)(hf:Fr aX w w'):eQ base w' v p:=h.fr hf (mG _ _) (fun _ _ h=>h)
theorem eQ.wA(h:eQ base w v p)(hi:dk v.b v.gv v.wv i):¬ik v.k v.kv i:=fun hj=>by
 obtain⟨c,t,e,ht⟩:=h.oT.hZ hi;obtain⟨c',t',e',ht'⟩:=h.book.hZ hj;rw[e]at e';cases e';rcases ht with rfl|rfl|rfl<;>revert ht'<;>decide
theorem eQ.wB(h:eQ base w v p)(hi:dk v.b v.gv v.wv i):¬own v.cv i:=fun hj=>by
 obtain⟨c,t,e,ht⟩:=h.oT.hZ hi;obtain⟨c',e'⟩:=h.eJ.Fe hj;rw[e]at e';cases e';revert ht;decide
theorem eQ.Fi(h:eQ base w v p)(hi:ik v.k v.kv i):¬own v.cv i:=fun hj=>by
 obtain⟨c,t,e,ht⟩:=h.book.hZ hi;obtain⟨c',e'⟩:=h.eJ.Fe hj;rw[e]at e';cases e';revert ht;decide
end
def iz(pv:Nat->dn)(now:Int):a_:=(pv 0).cells++((pv 1).cells++((pv 2).cells++((pv 3).cells++[.int .i64 now])))
def xS(pv:Nat->dn)(i:Nat)(v:dn):Nat->dn:=fun j=>if j=i then v else pv j
def oU(cs:a_)(o:Nat)(v:dn):a_:=((cs.set o (.pointer (some ⟨v.b,0,none⟩))).set (o+1) (.pointer (some ⟨v.k,0,none⟩))).set (o+2) v.cv
theorem sk(pv:Nat->dn)(i:Nat)(v:dn):xS pv i v i=v:=by unfold xS;simp
theorem ml(pv:Nat->dn){j:Nat}(v:dn)(h:j≠i):xS pv i v j=pv j:=by unfold xS;simp[h]
theorem xT(pv:Nat->dn)(now:Int)(hi:i<4)(v:dn):oU (iz pv now) (i*3) v=iz (xS pv i v) now:=by
 unfold oU iz xS dn.cells
 match i,hi with
 |0,_=>rfl
 |1,_=>rfl
 |2,_=>rfl
 |3,_=>rfl
theorem wC(pv:Nat->dn)(now:Int)(hi:i<4):(iz pv now)[i*3]?=some (.pointer (some ⟨(pv i).b,0,none⟩))/\(iz pv now)[i*3+1]?=some (.pointer (some ⟨(pv i).k,0,none⟩))/\(iz pv now)[i*3+2]?=some (pv i).cv:=by
 unfold iz dn.cells
 match i,hi with
 |0,_=>exact⟨rfl,rfl,rfl⟩
 |1,_=>exact⟨rfl,rfl,rfl⟩
 |2,_=>exact⟨rfl,rfl,rfl⟩
 |3,_=>exact⟨rfl,rfl,rfl⟩
theorem Mn(pv:Nat->dn)(now:Int):(iz pv now)[12]?=some (.int .i64 now):=rfl
theorem xf(pv:Nat->dn)(now n:Int):(iz pv now).set 12 (.int .i64 n)=iz pv n:=rfl
structure di (base:Nat) (w:World) (B:Nat) (pv:Nat->dn) (x:ed):Prop where
 low:base<=B
 eK:w.heap[B]?=some (.cells (iz pv x.now).toArray 97 (0,0))
 part:∀i,i<4->eQ base w (pv i) (x.part i)
 apart:∀i j,i<4->j<4->i≠j->∀k,(pv i).jS k->¬(pv j).jS k
def mo(B:Nat)(pv:Nat->dn):dB:=fun k=>k=B\/∃i,i<4/\(pv i).jS k
def dy(base:Nat)(w:World)(B:Nat)(pv:Nat->dn)(x:ed)(w':World):Prop :=
 ∃IX,di base w' B IX x/\Fr (mo B pv) w w'/\∀k,mo B IX k->mo B pv k\/w.heap.size<=k
section
variable {base : Nat} {w w' : World} {B : Nat} {pv : Nat → dn} {x : ed}
theorem di.lt(h:di base w B pv x):B<w.heap.size:=bg h.eK
theorem di.je(h:di base w B pv x)(hk:mo B pv k):k<w.heap.size:=by
 rcases hk with rfl|⟨i,hi,hk⟩
 ·exact h.lt
 ·exact(h.part i hi).je hk
theorem di.np(h:di base w B pv x)(hk:mo B pv k):base<=k:=by
 rcases hk with rfl|⟨i,hi,hk⟩
 ·exact h.low
 ·exact(h.part i hi).np hk
theorem di.zd(h:di base w B pv x)(hi:i<4):¬(pv i).jS B:=fun hk=>by
 obtain⟨c,t,e,ht⟩:=(h.part i hi).hZ hk;rw[h.eK]at e;cases e;revert ht;decide
theorem di.PZ(h:di base w B pv x):rJ base w (one B):=by
 rintro k rfl _;exact⟨h.low,fun c f e=>by rw[h.eK]at e;cases e⟩
theorem di.off(h:di base w B pv x):rJ base w (mo B pv):=by
 rintro k(rfl|⟨i,hi,hk⟩)hl
 ·exact h.PZ _ rfl hl
 ·exact(h.part i hi).off k hk hl
theorem di.fr(h:di base w B pv x)(hf:Fr S w w')(ho:rJ base w S)(hn:∀k,mo B pv k->¬S k):di base w' B pv x :=
 ⟨h.low,hf.keep h.eK (hn B (Or.inl rfl)),fun i hi=>(h.part i hi).fr hf ho (fun k hk=>hn k (Or.inr ⟨i,hi,hk⟩)),h.apart⟩
theorem di.dx(h:di base w B pv x)(hf:Fr aX w w'):di base w' B pv x:=h.fr hf (mG _ _) (fun _ _ h=>h)
theorem dy.same(h:di base w B pv x)(hf:Fr aX w w'):dy base w B pv x w' :=
 ⟨pv,h.dx hf,hf.mono (fun _ _ h=>absurd h id),fun _ hk=>Or.inl hk⟩
end
theorem dy.frame{pv:Nat->dn}{x x':ed}(h:dy base w B pv x' w')(h0:di base w B pv x)(hf:Fr aX a w)(hb:a.heap.size<=base):Fr aX a w':=by
 obtain⟨_,_,h2,_⟩:=h;refine hf.step h2 (fun k hk hw=>?_);have:=h0.np hw;omega
structure gJ (w:World) (B:Nat) (cs:a_) (o:Nat) (v:dn):Prop where
 eK:w.heap[B]?=some (.cells cs.toArray 97 (0,0))
 c0:cs[o]?=some (.pointer (some ⟨v.b,0,none⟩))
 c1:cs[o+1]?=some (.pointer (some ⟨v.k,0,none⟩))
 c2:cs[o+2]?=some v.cv
theorem wD{o:Nat}{v:dn}(c0:cs[o]?=some (.pointer (some ⟨v.b,0,none⟩)))(c1:cs[o+1]?=some (.pointer (some ⟨v.k,0,none⟩)))(c2:cs[o+2]?=some v.cv):oU cs o v=cs:=by
 unfold oU;apply iW;intro i;by_cases h2:i=o+2
 ·subst h2;rw[List.getElem?_set_self (by simp;exact(List.getElem?_eq_some_iff.1 c2).1),c2]
 rw[List.getElem?_set_ne (kE h2)];by_cases h1:i=o+1
 ·subst h1;rw[List.getElem?_set_self (by simp;exact(List.getElem?_eq_some_iff.1 c1).1),c1]
 rw[List.getElem?_set_ne (kE h1)];by_cases h0:i=o
 ·subst h0;rw[List.getElem?_set_self (List.getElem?_eq_some_iff.1 c0).1,c0]
 rw[List.getElem?_set_ne (kE h0)]
section
variable {w w' : World} {B o : Nat} {cs : List Value} {v : dn}
theorem gJ.cell0(h:gJ w B cs o v):w.cell? ⟨B,o,none⟩=some (.pointer (some ⟨v.b,0,none⟩)):=by simp[World.cell?,h.eK,h.c0]
theorem gJ.gU(h:gJ w B cs o v):w.cell? ⟨B,o+1,none⟩=some (.pointer (some ⟨v.k,0,none⟩)):=by simp[World.cell?,h.eK,h.c1]
theorem gJ.lQ(h:gJ w B cs o v):w.cell? ⟨B,o+2,none⟩=some v.cv:=by simp[World.cell?,h.eK,h.c2]
theorem gJ.free(h:gJ w B cs o v)(k:Nat):w.frozen? ⟨B,k,none⟩=false:=by simp[World.frozen?,h.eK]
theorem gJ.fr(h:gJ w B cs o v)(hf:Fr S w w')(hn:¬S B):gJ w' B cs o v:=⟨hf.keep h.eK hn,h.c0,h.c1,h.c2⟩
theorem gJ.dx(h:gJ w B cs o v)(hf:Fr aX w w'):gJ w' B cs o v:=h.fr hf id
end
def ze(B:Nat)(v:dn):dB:=fun k=>k=B\/v.jS k
def cW(base:Nat)(w:World)(B:Nat)(cs:a_)(o:Nat)(v:dn)(p:eD)(w':World):Prop :=
 ∃v',eQ base w' v' p/\Fr (ze B v) w w'/\(∀k,v'.jS k->v.jS k\/w.heap.size<=k)/\w'.heap[B]?=some (.cells (oU cs o v').toArray 97 (0,0))
theorem cW.same{base:Nat}{w w':World}{B o:Nat}{cs:a_}{v:dn}{p:eD}(h:eQ base w v p)(ha:gJ w B cs o v)(hf:Fr aX w w'):cW base w B cs o v p w' :=
 ⟨v,h.dx hf,hf.mono (fun _ _ h=>absurd h id),fun _ hk=>Or.inl hk,by rw[wD ha.c0 ha.c1 ha.c2];exact hf.keep ha.eK id⟩
theorem cW.oT{base:Nat}{w w':World}{B o:Nat}{cs:a_}{v:dn}{p:eD}(h:eQ base w v p)(ha:gJ w B cs o v)(hB:¬v.jS B){gs:List (aU bG)}{ws:List (bL bG)}(hp:kp base w v.b v.gv v.wv gs ws w') :
  cW base w B cs o v {p with bZ:=gs,waits:=ws} w':=by
 obtain⟨gv',wv',h1,h2,h3⟩:=hp;refine⟨⟨v.b,gv',wv',v.k,v.kv,v.cv⟩,⟨h1,?_,?_⟩,h2.mono (fun k _ hk=>Or.inr (Or.inl hk)),?_,?_⟩
 ·exact h.book.fr h2 (fun k hk hb=>h.wA hb hk)
 ·exact h.eJ.fr h2 (fun k hk hb=>h.wB hb hk)
 ·rintro k(hk|hk|hk)
  ·rcases h3 k hk with hk|hk
   ·exact Or.inl (Or.inl hk)
   ·exact Or.inr hk
  ·exact Or.inl (Or.inr (Or.inl hk))
  ·exact Or.inl (Or.inr (Or.inr hk))
 ·show w'.heap[B]?=some (.cells (oU cs o v).toArray _ _);rw[wD ha.c0 ha.c1 ha.c2];exact h2.keep ha.eK (fun hb=>hB (Or.inl hb))
theorem cW.book{base:Nat}{w w':World}{B o:Nat}{cs:a_}{v:dn}{p:eD}(h:eQ base w v p)(ha:gJ w B cs o v)(hB:¬v.jS B){ps:List ep}(hp:C4 base w v.k v.kv ps w') :
  cW base w B cs o v {p with book:=ps} w':=by
 obtain⟨kv',h1,h2,h3⟩:=hp;have mJ:rJ base w (ik v.k v.kv):=fun k hk hl=>h.off k (Or.inr (Or.inl hk)) hl;refine⟨⟨v.b,v.gv,v.wv,v.k,kv',v.cv⟩,⟨?_,h1,?_⟩,h2.mono (fun k _ hk=>Or.inr (Or.inr (Or.inl hk))),?_,?_⟩
 ·exact h.oT.fr h2 mJ (fun hb=>h.wA (Or.inl rfl) hb) (fun k hk hb=>h.wA (Or.inr (Or.inl hk)) hb) (fun k hk hb=>h.wA (Or.inr (Or.inr hk)) hb)
 ·exact h.eJ.fr h2 (fun k hk hb=>h.Fi hb hk)
 ·rintro k(hk|hk|hk)
  ·exact Or.inl (Or.inl hk)
  ·rcases h3 k hk with hk|hk
   ·exact Or.inl (Or.inr (Or.inl hk))
   ·exact Or.inr hk
  ·exact Or.inl (Or.inr (Or.inr hk))
 ·show w'.heap[B]?=some (.cells (oU cs o v).toArray _ _);rw[wD ha.c0 ha.c1 ha.c2];exact h2.keep ha.eK (fun hb=>hB (Or.inr (Or.inl hb)))
theorem cW.after{base:Nat}{a w w':World}{B o:Nat}{cs:a_}{v:dn}{p:eD}(hf:Fr aX a w)(h:cW base w B cs o v p w'):cW base a B cs o v p w':=by
 obtain⟨v',h1,h2,h3,h4⟩:=h;refine⟨v',h1,fN (S:=ze B v) (hf.mono (fun _ _ h=>absurd h id)) h2 (fun _ _ h=>h),fun k hk=>?_,h4⟩;rcases h3 k hk with h|h
 ·exact Or.inl h
 ·exact Or.inr (aH hf.size h)
theorem cW.then{o:Nat}{v:dn}{p:eD}(h:cW base a B cs o v p w)(hf:Fr aX w w'):cW base a B cs o v p w':=by
 obtain⟨v',h1,h2,h3,h4⟩:=h;exact⟨v',h1.dx hf,h2.step (T:=aX) hf (fun _ _ h=>absurd h id),h3,hf.keep h4 id⟩
theorem di.step{base:Nat}{w w':World}{B:Nat}{pv:Nat->dn}{x:ed}{i:Nat}{p:eD}(h:di base w B pv x)(hi:i<4)(hp:cW base w B (iz pv x.now) (i*3) (pv i) p w') :
  dy base w B pv (x.set i p) w':=by
 obtain⟨v',h1,h2,h3,h4⟩:=hp;have kL:∀j k,j<4->(xS pv i v' j).jS k->(pv j).jS k\/w.heap.size<=k:=by
  intro j k hj hk;by_cases Hf:j=i
  ·subst Hf;rw[sk]at hk;exact h3 k hk
  ·rw[ml pv v' Hf]at hk;exact Or.inl hk
 refine⟨xS pv i v',⟨h.low,?_,fun j hj=>?_,fun a b ha hb qk k hka LN=>?_⟩,h2.mono ?_,?_⟩
 ·rw[h4,xT pv x.now hi];rfl
 ·by_cases Hf:j=i
  ·subst Hf;rw[sk,ed.Mi];exact h1
  ·rw[ml pv v' Hf,ed.Gx _ _ Hf];refine(h.part j hj).fr h2 ?_ ?_
   ·rintro k(rfl|hk)hl
    ·exact h.PZ _ rfl hl
    ·exact(h.part i hi).off k hk hl
   ·rintro k hk(rfl|Xo)
    ·exact h.zd hj hk
    ·exact h.apart j i hj hi Hf k hk Xo
 ·rcases kL a k ha hka with h5|h5
  ·rcases kL b k hb LN with h6|h6
   ·exact h.apart a b ha hb qk k h5 h6
   ·have:=(h.part a ha).je h5;omega
  ·rcases kL b k hb LN with h6|h6
   ·have:=(h.part b hb).je h6;omega
   ·by_cases hai:a=i
    ·by_cases hbi:b=i
     ·exact qk (hai.trans hbi.symm)
     ·rw[ml pv v' hbi]at LN;have:=(h.part b hb).je LN;omega
    ·rw[ml pv v' hai]at hka;have:=(h.part a ha).je hka;omega
 ·rintro k _(rfl|hk)
  ·exact Or.inl rfl
  ·exact Or.inr ⟨i,hi,hk⟩
 ·rintro k(rfl|⟨j,hj,hk⟩)
  ·exact Or.inl (Or.inl rfl)
  ·rcases kL j k hj hk with h5|h5
   ·exact Or.inl (Or.inr ⟨j,hj,h5⟩)
   ·exact Or.inr h5
theorem di.partAt{pv:Nat->dn}{x:ed}(h:di base w B pv x)(hi:i<4):gJ w B (iz pv x.now) (i*3) (pv i) :=
 ⟨h.eK,(wC pv x.now hi).1,(wC pv x.now hi).2.1,(wC pv x.now hi).2.2⟩
def kq.val(r:kq):Value:=.agg #[.int .i64 r.what,.string r.head,.int .i64 r.cert]
structure jI where
 what:Int
 aF:fW Value
 proxy:Bool
 text:ai
 user:ai
 pass:ai
 bz:ai
 cert:Int
 all:Bool
 n:Int
def jI.cells(o:jI):a_:=.int .i64 o.what :: (o.aF.cells++[.bool o.proxy,.string o.text,.string o.user,.string o.pass,.string o.bz,.int .i64 o.cert,.bool o.all,.int .i64 o.n])
def jI.dX(o:jI)(hs:List gT):jx:=⟨o.what,o.aF.part,o.aF.cG,o.aF.o,o.aF.path,o.aF.query,o.aF.method,hs,o.aF.fq,o.aF.body,o.proxy,o.text,o.user,o.pass,o.bz,o.cert,o.all,o.n⟩
structure gM (w:World) (o:jI) (hs:List gT):Prop where
 ef:ot w o.aF.ef hs
 aF:Fc o.aF hs
 cG:o.aF.cG.host.size<100000
 ori:o.aF.o.host.size<100000
 path:o.aF.path.size<=2000
 query:o.aF.query.size<=2000
 method:o.aF.method.size<=5000
 body:o.aF.body.size<=5000
 text:o.text.size<100000
 user:o.user.size<=5000
 pass:o.pass.size<=5000
 bz:o.bz.size<=5000
 TV: -9223372036854775808<=o.aF.cG.port/\o.aF.cG.port<=9223372036854775807
 agy: -9223372036854775808<=o.aF.o.port/\o.aF.o.port<=9223372036854775807
 part: -9223372036854775808<=o.aF.part/\o.aF.part<=9223372036854775807
 what: -9223372036854775808<=o.what/\o.what<=9223372036854775807
 cert: -9223372036854775808<=o.cert/\o.cert<=9223372036854775807
 n: -9223372036854775808<=o.n/\o.n<=9223372036854775807
theorem gM.dx{o:jI}{hs:List gT}(h:gM w o hs)(hf:Fr aX w w'):gM w' o hs:={h with ef:=bM h.ef hf}
abbrev cV := @cW.after
abbrev eR := @cW.oT
abbrev fx := @dy.same
abbrev kh := @di.step
abbrev lT := @cW.same
abbrev oF := @cW.book
