/- Lemmas for the law's walk. -/
import Derived.Test.YtjndhcngnghpiaaGreatDoorPo13
import Derived.Test.YtjndhcngnghpiaaGreatDoorPo23
set_option maxRecDepth 100000
set_option maxHeartbeats 16000000
set_option linter.unusedSimpArgs false
namespace Go.Proofs.YtjndhcngnghpiaaGreatDoor
open Go.Proofs.Tryz
open Go.RowKit
variable {c:UInt8} {s:ai} {i k base b B:Nat} {o:kn} {w a w':World} {ps:List en} {r:qF} {now:Int} {p:en} {ws:List (bJ bE)} {gs:List (aU bE)} {gv wv bv:Value} {S:dz} {cs:aX}
theorem adj(l:Bs):Lib.trimSuffix l [13]=th l:=by
 unfold Lib.trimSuffix Lib.hasSuffix th;rcases List.eq_nil_or_concat l with rfl|⟨a,b,rfl⟩
 ·rfl
 ·have h1:(List.isSuffixOf [13] (a.concat b)=true)↔b=13:=by
   rw[List.isSuffixOf_iff_suffix,List.concat_eq_append];constructor
   ·rintro⟨t,ht⟩;have:=(List.append_inj' ht rfl).2;simpa using this.symm
   ·rintro rfl;exact⟨a,rfl⟩
  have h2:(a.concat b).getLast?=some b:=by rw[List.concat_eq_append];simp
  rw[h2];by_cases hb:b=13
  ·rw[aA (h1.2 hb),aA (by rw[hb]),List.dropLast_eq_take];rfl
  ·rw[ar (fun h=>hb (h1.1 h)),ar (fun h=>hb (jK h))]
theorem FZ(l:Bs):(th l).length<=l.length:=by unfold th;split<;>simp
theorem Q0(h:¬0<=Lib.indexByte s.data.toList c):mi c s.data.toList=(s.data.toList,[],false) :=
 EM c _ (fun hc=>(Gq _ _).1 h c hc rfl)
theorem Vb(h:Lib.indexByte s.data.toList c=(i:Int)):mi c s.data.toList=(s.data.toList.take i,s.data.toList.drop (i+1),true):=by
 obtain⟨he,hn⟩:=wD _ _ _ h;have:=I8 c (s.data.toList.take i) (s.data.toList.drop (i+1)) hn;rw[<-he]at this;exact this
theorem AB(c:UInt8):∀d:Bs,(dU c d).length<=d.length+1/\∀p∈dU c d,p.length<=d.length
 |[]=>by simp[dU]
 |x :: d=>by
  have ih:=AB c d;by_cases hx:x=c
  ·subst hx;rw[qZ];refine⟨bF,fun p hp=>?_⟩;rcases bu.1 hp with rfl|hp
   ·simp
   ·have:=ih.2 p hp;simp;omega
  ·cases e:dU c d with
   |nil=>exact absurd e (wk c d)
   |cons q qs =>
    rw[e]at ih;rw[nU hx e];refine⟨by simp at ih ⊢; omega,fun p hp=>?_⟩;rcases bu.1 hp with rfl|hp
    ·have:=ih.2 q (cR ..);simp;omega
    ·have:=ih.2 p (bO _ hp);simp;omega
def Nn(s:ai)(w:World)(e:Ending)(w':World):Prop :=
 Fr aW w w'/\match mF s.data.toList with
 | .ok ps=>∃v,e=.returned (.tuple #[v,.nilIface])/\OwnRows w.heap.size 142 2 w' v (ps.map n_)
 | .error n=>∃er,e=.returned (.tuple #[.slice none 0 0,er])/\Uk n er w'
def ah5(L:List Bs)(w:World)(out t:Value)(wr:World):Prop :=
 ∃(k:Nat) (acc:List jh),k<=L.length/\t=.int .i64 k/\OwnRows w.heap.size 142 2 wr out (acc.map n_)/\kE L []=kE (L.drop k) acc/\acc.length<=40/\Fr aW w wr
theorem KF{L:List Bs}{x:Bs}{acc:List jh}(h:L[k]?=some x):kE (L.drop k) acc=match Cv x with
  |none=>.error 3
  |some none=>kE (L.drop (k+1)) acc
  |some (some p)=>if acc.length=40 then .error 4 else kE (L.drop (k+1)) (acc++[p]):=by
 have hk:=(List.getElem?_eq_some_iff.1 h).1;have hx:L.drop k=x :: L.drop (k+1):=by
  rw[cM hk];have:=(List.getElem?_eq_some_iff.1 h).2;rw[this]
 rw[hx,kE];rfl
theorem Np(s:ai)(w:World)(hs:s.size<100000) :
  aC 86 #[.string s] w (Nn s w):=by
 by_cases h3:3000<s.size
 ·have h3':(3000:Int)<(s.size:Int):=ab;have HE:=O (show mF s.data.toList=.error 4 by unfold mF;rw[aA (show 3000<s.data.toList.length from h3)]);go_enter func86,ntmps86;go_wp2;go_ret2;refine⟨ae _ _,?_⟩;rw[HE.o];exact⟨_,rfl,Or.inl rfl⟩
 ·have h3':¬(3000:Int)<(s.size:Int):=ab;have HE:=O (show mF s.data.toList=kE (dU 10 s.data.toList) []by unfold mF;rw[ar (show¬3000<s.data.toList.length from h3)]);have hle:=AB 10 s.data.toList;have xy:=O (xR s 10 w ab);obtain⟨L,hL⟩:∃L,L=dU 10 s.data.toList:=⟨_,rfl⟩;obtain⟨B,hB⟩:∃B,B=iJ 10 s:=⟨_,rfl⟩;have hBL:B=L.map fun l=>(⟨l.toArray⟩:ai):=by rw[hB,hL];rfl
  have hlen:B.length=L.length:=by rw[hBL,aj]
  rw[<-hL]at HE hle;rw[<-hB]at xy;have WY:=O hle;have hL1:L.length<=3001:=by have h:=hle.1;have h2:s.data.toList.length=s.size:=rfl;omega
  have oM:=O hBL;have T3:=O (show∀p∈L,p.length<=3000 from fun p hp=>by have h:=hle.2 p hp;have h2:s.data.toList.length=s.size:=rfl;omega);clear hle hL hB hBL;go_enter func86,ntmps86;go_wp2_with fail
  refine xy.o.mono ?_;rintro e w0⟨rfl,UJ⟩;have oQ:Fr aW w w0:=by rw[UJ];exact(ae _ _).alloc _
  have sG:w0.heap[w.heap.size]?=some (.cells (B.map Value.string).toArray 9 (0,0)):=by rw[UJ];exact aB _ _
  have HC:=O (show∀U,Fr aW w0 U->∀(k:Nat) x,L[k]?=some x->U.cell? ⟨w.heap.size,k,none⟩=some (.string ⟨x.toArray⟩)from fun U hU k x hx=>by
   have h:=hU.keep sG id;have e:(B.map Value.string)[k]?=some (.string ⟨x.toArray⟩):=by rw[List.getElem?_map,oM.o,List.getElem?_map,hx];rfl
   simp only[World.cell?,h];simpa using e)
  have BI:=O oQ;rw[hlen];clear UJ oQ sG xy oM hlen;go_wp2;go_loopw[4,17] (ah5 L w0) (fun _ t _=>L.length-(intOf t).toNat)
  case atStart=>exact⟨0,[],aS _,rfl,dr _ _ _ _,by rw[eC],ag,ae _ _⟩
  case round =>
   obtain⟨k,acc,hk,rfl,ho,hn,ae4,cN⟩:=hrel;obtain⟨ao,co,Pu⟩:=ho.form;rw[aj]at Pu;subst Pu;by_cases fx:k<L.length
   ·have qp:(k:Int)<(L.length:Int):=ab;have dL:=O (List.getElem?_eq_getElem fx);have gM:=O (bL fx);generalize L[k]=x at dL gM;have hxz:=T3.o x gM.o;have c0:=HC.o wr cN k x dL.o;obtain⟨lb,WE⟩:∃lb:ai,lb=⟨x.toArray⟩:=⟨_,rfl⟩;have ES:lb.data.toList=x:=by rw[WE]
    rw[<-WE]at c0;obtain⟨y,hy⟩:∃y:ai,y=⟨(Lib.trimSuffix lb.data.toList [13]).toArray⟩:=⟨_,rfl⟩;have hyl:y.data.toList=th x:=by rw[hy,ES,adj]
    have hyz:y.size<=3000:=by
     have h:=FZ x;have h2:y.data.toList.length=y.size:=rfl;rw[hyl]at h2;omega
    have Ls:lb.size<=3000:=by have h2:lb.data.toList.length=lb.size:=rfl;rw[ES]at h2;omega
    have HTS:=O (show aC 132 #[.string lb,.string ⟨#[13]⟩] wr fun e w'=>e=.returned (.string y)/\wr=w' from(strings_TrimSuffix lb ⟨#[13]⟩ wr ab).mono (by rintro e w' ⟨rfl,rfl⟩;exact⟨by rw[hy],rfl⟩));have lT:=O (KF (acc:=acc) dL.o);have HN:=O hn;have HO:=O ho
    have HLR:=O (show Cv x=if y.data.toList.isEmpty then some none else if !(mi 58 y.data.toList).2.2||!zY (mi 58 y.data.toList).1 then none else some (some ((mi 58 y.data.toList).1,trimB (mi 58 y.data.toList).2.1))by rw[hyl];rfl);clear WE ES hy hyl hn ho;have RI:y.toList=y.data.toList:=aN _;by_cases hy0:y.size=0
    ·have D9:=gN.2 hy0;have adk:y.toList=[]:=by rw[RI];exact D9
     have anE:(y.toList== [])=true:=by rw[adk];rfl
     have HR:=O (show kE L []=kE (L.drop (k+1)) acc by rw[HN.o,lT.o,HLR.o,D9];rfl);clear RI D9;go_wp2_with fail
     refine HTS.o.mono ?_;rintro e u⟨rfl,rfl⟩;go_wp2;go_roundw
     case rel=>exact⟨k+1,acc,ab,bf,HO.o,HR.o,ae4,cN⟩
     case measure=>simp[intOf];omega
    ·have D9:¬y.data.toList=[]:=fun h=>hy0 (gN.1 h);have adk:¬y.toList=[]:=by rw[RI];exact D9
     have anE:(y.toList== [])=false:=by rw[aK];exact adk
     have Nq:=O (show Cv x=if !(mi 58 y.data.toList).2.2||!zY (mi 58 y.data.toList).1 then none else some (some ((mi 58 y.data.toList).1,trimB (mi 58 y.data.toList).2.1))by
      rw[HLR.o,ar (by simpa using D9)])
     clear RI D9 HLR;by_cases wA:0<=Lib.indexByte y.data.toList 58
     ·obtain⟨i,hi⟩:∃i:Nat,Lib.indexByte y.data.toList 58=(i:Int):=⟨(Lib.indexByte y.data.toList 58).toNat,ab⟩;have hil:i<y.size:=Tq hi;have hcut:=Vb hi;obtain⟨nm,We⟩:∃nm:ai,nm=y.extract 0 i:=⟨_,rfl⟩;obtain⟨vl,RA⟩:∃vl:ai,vl=y.extract (i+1) y.size:=⟨_,rfl⟩;have rD:nm.data.toList=y.data.toList.take i:=by rw[We,oD];simp
      have adl:vl.data.toList=y.data.toList.drop (i+1):=by
       rw[RA,oD];exact aD (by rw[bH];exact ay _)
      have hnz:nm.size<=3000:=by
       have h2:nm.data.toList.length=nm.size:=rfl;rw[rD,aL]at h2;have h3:y.data.toList.length=y.size:=rfl;omega
      have hvz:vl.size<=3000:=by
       have h2:vl.data.toList.length=vl.size:=rfl;rw[adl,bH]at h2;have h3:y.data.toList.length=y.size:=rfl;omega
      have Gr:=O (Jd y 58 i wr ab hi hil);rw[<-We, <-RA]at Gr;rw[hcut]at Nq;simp only at Nq;rw[<-rD, <-adl]at Nq;clear We RA rD adl hcut;cases Hi:zY nm.data.toList
      ·have HR:=O (show mF s.data.toList=.error 3 by rw[HE.o,HN.o,lT.o,Nq.o,Hi];rfl);have HIS:=O (fun U=>Cg nm U ab);rw[Hi]at HIS;clear Hi hi wA;go_wp2_with fail
       refine HTS.o.mono ?_;rintro e u⟨rfl,rfl⟩;go_wp2_with fail
       refine Gr.o.mono ?_;rintro e u⟨rfl,n,rfl⟩;go_wp2_with fail
       refine(HIS.o _).mono ?_;rintro e u⟨rfl,rfl⟩;have sG:=aB (wr.drewN n) (.cells #[.int .i64 3,.int .i64 k] 222);have HBK:=O sG;have PH:=O ((cN.drewN n).alloc (.cells #[.int .i64 3,.int .i64 k] 222));clear sG;go_wp2;go_ret2;refine⟨BI.o.trans PH.o,?_⟩;rw[HR.o];exact⟨_,rfl,Or.inr ⟨_,k,rfl,HBK.o⟩⟩
      ·by_cases Gi:acc.length=40
       ·have HR:=O (show mF s.data.toList=.error 4 by rw[HE.o,HN.o,lT.o,Nq.o,Hi];simp[Gi]);have HIS:=O (fun U=>Cg nm U ab);rw[Hi]at HIS;have i40:(acc.length:Int)=40:=ab;clear Hi hi wA;go_wp2_with fail
        refine HTS.o.mono ?_;rintro e u⟨rfl,rfl⟩;go_wp2_with fail
        refine Gr.o.mono ?_;rintro e u⟨rfl,n,rfl⟩;go_wp2_with fail
        refine(HIS.o _).mono ?_;rintro e u⟨rfl,rfl⟩;have PH:=O (cN.drewN n);go_wp2;go_ret2;refine⟨BI.o.trans PH.o,?_⟩;rw[HR.o];exact⟨_,rfl,Or.inl rfl⟩
       ·have HIS:=O (fun U=>Cg nm U ab);have HTR:=O (fun U=>rW vl ⟨#[32,9]⟩ U ab ag ag ag);obtain⟨tv,htv⟩:∃tv:ai,tv=⟨(Lib.trimS vl.data.toList [32,9]).toArray⟩:=⟨_,rfl⟩;have Ps:tv.data.toList=trimB vl.data.toList:=by rw[htv];rfl
        have anG:=O (show∀U,aC 134 #[.string vl,.string ⟨#[32,9]⟩] U fun e w'=>e=.returned (.string tv)/\Fr aW U w' from fun U=>by rw[htv];exact HTR.o U);have HPC:=O (show n_ (nm.data.toList,tv.data.toList)=[.string nm,.string tv]by unfold n_;simp only[Sv]);have HR:=O (show kE L []=kE (L.drop (k+1)) (acc++[(nm.data.toList,tv.data.toList)])by rw[HN.o,lT.o,Nq.o,Hi,Ps];simp[Gi]);rw[Hi]at HIS
        have i40:¬(acc.length:Int)=40:=ab;clear Hi hi wA htv Ps HTR;go_wp2_with fail
        refine HTS.o.mono ?_;rintro e u⟨rfl,rfl⟩;go_wp2_with fail
        refine Gr.o.mono ?_;rintro e u⟨rfl,n,rfl⟩;go_wp2_with fail
        refine(HIS.o _).mono ?_;rintro e u⟨rfl,rfl⟩;go_wp2_with fail
        refine(anG.o _).mono ?_;rintro e u⟨rfl,hu⟩;have Uu:=O ((cN.drewN n).trans hu);have HOU:=O (HO.o.drewN (n:=n) |>.fr hu (fun _ _ h=>h));have hsu:w0.heap.size<=u.heap.size:=Uu.o.size;clear hu
        go_wp2_with (at_builtin;refine nH rfl _ _ 27 142 rfl 2 32 (.agg #[.string ⟨#[]⟩,.string ⟨#[]⟩]) underlying27 Js rfl ag ag w0.heap.size (.slice ao acc.length co) (acc.map n_) rfl (HOU.o.alloc _) u.heap.size 1 [.string nm,.string tv] rfl rfl bX (fun i u hi=>by rw[World.cell?_alloc_mark];simpa using hi) (by rw[aj];omega) bF ?_;intro v' w4 eU Bt)
        have jH:=O ((Uu.o.alloc (.cells #[.string nm,.string tv] 142)).fH Bt (fun j hj=>HOU.o.block j hj));go_roundw
        case rel=>exact⟨k+1,acc++[(nm.data.toList,tv.data.toList)],ab,bf,by rw[bD,cz,cY,HPC.o];exact eU,HR.o,bF,jH.o⟩
        case measure=>simp[intOf];omega
     ·have hcut:=Q0 wA;have HR:=O (show mF s.data.toList=.error 3 by rw[HE.o,HN.o,lT.o,Nq.o,hcut];rfl);have Gr:=O (EO y 58 wr wA);clear wA hcut;go_wp2_with fail
      refine HTS.o.mono ?_;rintro e u⟨rfl,rfl⟩;go_wp2_with fail
      refine Gr.o.mono ?_;rintro e u⟨rfl,rfl⟩;have sG:=aB u (.cells #[.int .i64 3,.int .i64 k] 222);have HBK:=O sG;have PH:=O (cN.alloc (.cells #[.int .i64 3,.int .i64 k] 222));clear sG;go_wp2;go_ret2;refine⟨BI.o.trans PH.o,?_⟩;rw[HR.o];exact⟨_,rfl,Or.inr ⟨_,k,rfl,HBK.o⟩⟩
   ·have qp:¬(k:Int)<(L.length:Int):=ab;have Jc:L.drop k=[]:=List.drop_of_length_le ab;have HR:=O (show mF s.data.toList=.ok acc by rw[HE.o,hn,Jc];rfl);have HO:=O ho;clear ho hn;go_wp2;go_ret2;refine⟨BI.o.trans cN,?_⟩;rw[HR.o];exact⟨_,rfl,HO.o.up BI.o.size⟩
theorem d_.eq{v w:d_}(h:∀i,v.part i=w.part i)(hn:v.now=w.now):v=w:=by
 cases v;cases w;simp only[d_.mk.injEq];exact⟨funext h,hn⟩
theorem d_.Kb(w:d_)(k:Nat):w.set k (w.part k)=w:=by
 refine d_.eq (fun i=>?_) rfl;unfold d_.set;show(if i=k then w.part k else w.part i)=w.part i;split
 ·rename_i h;rw[h]
 ·rfl
theorem d_.MM(w:d_)(k:Nat)(p:eB):(w.set k p).part k=p:=by unfold d_.set;simp
theorem d_.G5(w:d_)(p:eB)(h:i≠k):(w.set k p).part i=w.part i:=by unfold d_.set;simp[h]
theorem G7{w:d_}(h:o.right=false):mX w o=(w,rep 7):=by unfold mX;rw[h];rfl
theorem Ds{w:d_}(h:o.right=true)(hw:o.what≠10):mX w o=(w.set o.part.toNat (wF (w.part o.part.toNat) w.now o).1,(wF (w.part o.part.toNat) w.now o).2):=by
 unfold mX;rw[aA h,ar hw]
theorem Dt{w:d_}(h:o.right=true)(hw:o.what=10):mX w o=if o.n<0\/1099511627776-w.now<o.n then(w,rep 7)else({w with now:=w.now+o.n},rep 1):=by
 unfold mX;rw[aA h,aA hw]
theorem ko(h:o.right=true):0<=o.part/\o.part<4:=by
 unfold kn.right kn.Ue at h;simp only[cy,dx]at h;exact⟨h.2.2.1.1,h.2.2.1.2.1⟩
theorem jC{P:Program}{ops:Array Oper}{a:Act}{w:World}{K:Act->World->Prop}{Q:Exit->Act->World->Prop}{E:Prop}{o:Oper}(ym:o.guard=none)(ty:TypeId)(x y:Operand)(ho:o.op=.store ty x y)
  (g:Nat)(cells:bS)(hx:a.eval x=.pointer (some ⟨g,0,none⟩))(hy:a.eval y=.agg cells)
  (t:TypeId)(old:bS)(hg:w.heap[g]?=some (.cells old t (0,0)))(hi:(P.info? ty).map (·.size)=some cells.size)
  (hold:old.size=cells.size)(h1:cells.all (·.oneCell')=true)(h:K (a.put o.dst undef) (w.setRow g cells)):if Region.wanted o (yielded ops a.tmps)=true then Oper.wp P o a w K Q else E:=by
 have hw:Region.wanted o (yielded ops a.tmps)=true:=by simp[Region.wanted,ym]
 rw[aA hw];exact wp_store_row ty x y ho g cells hx hy t old hg hi hold h1 h
def UM(xs:List mZ)(w:World)(e:Ending)(w':World):Prop :=
 Fr aW w w'/\∃r:fY Value,r.Reads (Strs w.heap.size w') (iW xs)/\e=.returned (.tuple #[.agg r.cells.toArray,.bool (decide (0<(iW xs).scheme))])
def ahv(w:World)(xs:List mZ)(t:Value)(wr:World):Prop :=
 ∃(k:Nat) (r:fY Value),k<=xs.length/\t=.int .i64 k/\wr.heap[w.heap.size]?=some (.cells gG 127 (0,0))/\fJ wr (w.heap.size+1) r/\r.Reads (Strs w.heap.size wr) (iW (xs.take k))/\Fr aW w wr
theorem Reads.amZ{r:fY Value}{a:fY bE}(h:r.Reads (Strs base w) a):r.dom.oneCell'=true:=by
 obtain⟨x,c,e⟩:=h.2.2.2.2.2.2.2.form;rw[e];rfl
theorem M5(base:Nat)(w:World):jb.Reads (Strs base w) N5:=⟨rfl,rfl,rfl,rfl,rfl,rfl,rfl,kD _ _⟩
theorem Strs.upS{b':Nat}{v:Value}{ss:List ai}(h:Strs b' w v ss)(hb:b<=b'):Strs b w v ss:=xA h hb
theorem UN(v:Value)(xs:List mZ)(w:World)(h:uk w v xs)(_hl:xs.length<=1000000)(hz:∀x∈xs,x.Fit) :
  aC 77 #[v] w (UM xs w):=by
 obtain⟨av,cv,hv⟩:=h.form;subst hv;obtain⟨w2,ez⟩:∃w2,w2=(w.alloc (.cells gG 127)).alloc (.cells gG 127):=⟨_,rfl⟩;have dn:Fr aW (w.alloc (.cells gG 127)) w2:=by rw[ez];exact(ae _ _).alloc _
 have oP:w2.heap[w.heap.size]?=some (.cells gG 127 (0,0)):=dn.keep (aB w _) id;have kh:fJ w2 (w.heap.size+1) jb:=by
  rw[ez];have:=aB (w.alloc (.cells gG 127)) (.cells gG 127);rw[show(w.alloc (.cells gG 127)).heap.size=w.heap.size+1 from aQ]at this;exact this
 have dD:Fr aW w w2:=((ae aW w).alloc _).trans dn;have oz:=O ez;clear ez dn;go_enter func77,ntmps77;go_wp2_with fail
 rw[<-oz.o];go_loopw[11] (ahv w xs) (fun t _=>xs.length-(intOf t).toNat)
 case atStart=>exact⟨0,jb,aS _,rfl,oP,kh,M5 _ _,dD⟩
 case round =>
  obtain⟨k,r,hk,rfl,uO,xg,Kt,cN⟩:=hrel;by_cases fx:k<xs.length
  case pos =>
   have qp:(k:Int)<(xs.length:Int):=ab;have dL:=O (List.getElem?_eq_getElem fx);have HZ:=O (hz _ (bL fx));generalize xs[k]=x at dL HZ;obtain⟨bk,of,pv,rfl,h1,h2,c0,c1,c2,hp⟩:=(h.iY cN).cells dL.o;unfold maxLen at h2;have HBT:=O (show iW (xs.take (k+1))=py (iW (xs.take k)) x by rw[ct,dL.o];exact LK _ _);obtain⟨a1,c1',e1⟩:=hp.form;subst e1
   obtain⟨wb,jJ⟩:∃wb,wb=wr.alloc (.cells #[.string (bA x.scheme),.string (bA x.token),.slice a1 x.params.length c1'] 208):=⟨_,rfl⟩;have j6:Fr aW wr wb:=by rw[jJ];exact(ae aW wr).alloc _
   have Xl:ks wb wr.heap.size (bA x.scheme) (bA x.token) (.slice a1 x.params.length c1'):=by rw[jJ];exact aB _ _
   have x0:=Xl.cell0;have x1:=Xl.gV;have x2:=Xl.lU;have KN:=O (QM x _ wb (bG hp j6) HZ.o);have qC:=O jJ;have hsb:w.heap.size+1<wb.heap.size:=by have:=bg (j6.keep xg id);exact this
   clear jJ hp;go_wp2_with fail
   rw[<-qC.o];refine KN.o.mono ?_;intro e w3 hkp;obtain⟨ik,RG⟩:=hkp;have UO:=(j6.trans ik).keep uO id;have ac1:fJ w3 (w.heap.size+1) r:=(j6.trans ik).keep xg id;have YK:r.Reads (Strs w.heap.size w3) (iW (xs.take k)):=Kt.mono (fun u l hu=>hu.fr (j6.trans ik) (fun _ h=>h.elim));have ij:=O ((cN.trans j6).trans ik);have Sp:w.heap.size+1<w3.heap.size:=cK hsb ik.size;clear x0 x1 x2 c0 c1 c2 Xl uO xg Kt
   cases PY:mR x with
   |none =>
    rw[PY]at RG;subst RG;have qg:=O (show iW (xs.take (k+1))=iW (xs.take k)by rw[HBT.o];unfold py;rw[PY]);have iM:=fun W=>run_storeCells_new (P:=prog) W 127 gG gG.toList rfl QG;have kz:Fr aW w3 (w3.alloc (.cells gG 127)):=(ae _ _).alloc _;have OY:=kz.keep UO id;have M6:fJ (w3.alloc (.cells gG 127)) (w.heap.size+1) r:=kz.keep ac1 id
    have ac2:r.Reads (Strs w.heap.size (w3.alloc (.cells gG 127))) (iW (xs.take k)):=YK.mono (fun u l hu=>hu.fr kz (fun _ h=>h.elim));have jH:=O (ij.o.trans kz);clear PY;go_wp2;go_roundw
    case rel=>exact⟨k+1,r,ab,bf,OY,M6,by rw[qg.o];exact ac2,jH.o⟩
    case measure=>simp[intOf];omega
   |some a =>
    rw[PY]at RG;obtain⟨r2,YL,rfl⟩:=RG;have dX:=O (Hd r2 (Reads.amZ YL));obtain⟨y,hy⟩:∃y,y=r2.cells.toArray:=⟨_,rfl⟩;have ET:y.size=8:=by rw[hy];rfl
    have HY:=O hy;have XP:y.all (·.oneCell')=true:=by rw[hy];exact dX.o
    have Bw:(prog.info? 127).map (·.size)=some y.size:=by rw[ET];kernel_rfl
    have hyz:gG.size=y.size:=by rw[ET];rfl
    have hrz:r.cells.toArray.size=y.size:=by rw[ET];rfl
    obtain⟨w4,qh⟩:∃w4,w4=w3.alloc (.cells y 127):=⟨_,rfl⟩;have kz:Fr aW w3 w4:=by rw[qh];exact(ae _ _).alloc _
    have ahx:fJ w4 w3.heap.size r2:=by rw[qh,hy];exact aB _ _
    have OY:=kz.keep UO id;have M6:fJ w4 (w.heap.size+1) r:=kz.keep ac1 id;have ac2:r.Reads (Strs w.heap.size w4) (iW (xs.take k)):=YK.mono (fun u l hu=>hu.fr kz (fun _ h=>h.elim));have am2:r2.Reads (Strs w.heap.size w4) a:=YL.mono (fun u l hu=>(hu.upS ab).fr kz (fun _ h=>h.elim));have jH:=O (ij.o.trans kz);have MX:=O qh
    have n0:w4.cell? ⟨w3.heap.size,0,none⟩=some (.int .i64 a.scheme):=by rw[<-YL.1];exact ahx.cell rfl
    have m0:w4.cell? ⟨w.heap.size+1,0,none⟩=some (.int .i64 (iW (xs.take k)).scheme):=by rw[<-YK.1];exact M6.cell rfl
    have ahy:=O (show iW (xs.take (k+1))=if(iW (xs.take k)).scheme<a.scheme then a else iW (xs.take k)by rw[HBT.o];unfold py;rw[PY]);have Z_:w3.heap.size<w4.heap.size:=by rw[qh];simp
    rw[<-hy];clear PY hy qh UO ac1 YK YL;by_cases tL:(iW (xs.take k)).scheme<a.scheme
    case pos =>
     have qg:=O (show iW (xs.take (k+1))=a by rw[ahy.o,aA tL]);obtain⟨w5,hw5⟩:∃w5,w5=w4.setRow (w.heap.size+1) y:=⟨_,rfl⟩;have lC:Fr (one (w.heap.size+1)) w4 w5:=by rw[hw5];exact(ae (one (w.heap.size+1)) w4).setRow (fun _=>rfl) y
     have Fi:=O hw5;have ahz:=lC.keep OY (fun h=>by have h':w.heap.size=w.heap.size+1:=h;omega);have am3:fJ w5 (w.heap.size+1) r2:=by rw[hw5,HY.o];unfold fJ;simp[World.setRow,Array.getElem?_modify,show w4.heap[w.heap.size+1]?=_ from M6]
     have am4:r2.Reads (Strs w.heap.size w5) a:=am2.mono (fun u l hu=>hu.YE lC M6 ag);have w_:=O (jH.o.step lC (fun k hk h=>by have h':k=w.heap.size+1:=h;omega));clear hw5 lC
     go_wp2_with (first|((with_reducible refine kA ⟨none,.store 127 (.tmp 7) (.tmp 18),_,_,_,_⟩ ?_);refine tj rfl 127 (.tmp 7) (.tmp 18) rfl gG y rfl rfl Bw hyz XP ?_;rw[<-MX.o])|((with_reducible refine dv 28 ?_);refine aJ rfl 127 (.tmp 7) rfl w3.heap.size rfl 127 y (0,0) _ (by rw[HY.o];exact ahx) underlying127 rfl Bw ?_)|((with_reducible refine kA ⟨none,.store 127 (.tmp 4) (.tmp 28),_,_,_,_⟩ ?_);refine aF rfl 127 (.tmp 4) (.tmp 28) rfl (w.heap.size+1) y rfl rfl 127 r.cells.toArray M6 Bw hrz XP ?_;rw[<-Fi.o])|fail)
     go_roundw
     case rel=>exact⟨k+1,r2,ab,bf,ahz,am3,by rw[qg.o];exact am4,w_.o⟩
     case measure=>simp[intOf];omega
    case neg =>
     have qg:=O (show iW (xs.take (k+1))=iW (xs.take k)by rw[ahy.o,ar tL]);go_wp2_with (first|((with_reducible refine kA ⟨none,.store 127 (.tmp 7) (.tmp 18),_,_,_,_⟩ ?_);refine tj rfl 127 (.tmp 7) (.tmp 18) rfl gG y rfl rfl Bw hyz XP ?_;rw[<-MX.o])|fail)
     go_roundw
     case rel=>exact⟨k+1,r,ab,bf,OY,M6,by rw[qg.o];exact ac2,jH.o⟩
     case measure=>simp[intOf];omega
  case neg =>
   have qp:¬(k:Int)<(xs.length:Int):=ab;have iE:xs.take k=xs:=aD ab;rw[iE]at Kt;have b0:=xg.cell (i:=0) rfl;have b1:=xg.cell (i:=1) rfl;have b2:=xg.cell (i:=2) rfl;have b3:=xg.cell (i:=3) rfl;have b4:=xg.cell (i:=4) rfl;have b5:=xg.cell (i:=5) rfl;have b6:=xg.cell (i:=6) rfl;have b7:=xg.cell (i:=7) rfl;obtain⟨da,dc,hd⟩:=Kt.2.2.2.2.2.2.2.form;rw[hd]at b7;have Uq:=O Kt;have HD:=O hd;have uf:=O cN
   have z:∀i u,gG[i]?=some u->wr.cell? ⟨w.heap.size,i,none⟩=some u:=fun i u hu=>by simp only[World.cell?,uO];simpa using hu
   have zf:∀i,wr.frozen? ⟨w.heap.size,i,none⟩=false:=fun i=>by simp[World.frozen?,uO]
   have z0:=z 0 _ rfl;have f0:=zf 0;have z1:=z 1 _ rfl;have f1:=zf 1;have z2:=z 2 _ rfl;have f2:=zf 2;have z3:=z 3 _ rfl;have f3:=zf 3;have z4:=z 4 _ rfl;have f4:=zf 4;have z5:=z 5 _ rfl;have f5:=zf 5;have z6:=z 6 _ rfl;have f6:=zf 6;have z7:=z 7 _ rfl;have f7:=zf 7;clear z zf;have gu:=O uO;clear hd uO xg Kt cN;go_wp2_with fail
   go_region
   all_goals
    have oZ:fJ wr w.heap.size jb:=gu.o
    have BD:=((((((((oZ.set 0 (.int .i64 r.scheme) (r':={jb with scheme:=r.scheme}) rfl).set 1 (.string r.aP) (r':={jb with scheme:=r.scheme,aP:=r.aP}) rfl).set 2 (.string r.bz) (r':={jb with scheme:=r.scheme,aP:=r.aP,bz:=r.bz}) rfl).set 3 (.string r.cC) (r':={jb with scheme:=r.scheme,aP:=r.aP,bz:=r.bz,cC:=r.cC}) rfl).set 4 (.bool r.cD) (r':={jb with scheme:=r.scheme,aP:=r.aP,bz:=r.bz,cC:=r.cC,cD:=r.cD}) rfl).set 5 (.string r.eY) (r':={jb with scheme:=r.scheme,aP:=r.aP,bz:=r.bz,cC:=r.cC,cD:=r.cD,eY:=r.eY}) rfl).set 6 (.bool r.du) (r':={jb with scheme:=r.scheme,aP:=r.aP,bz:=r.bz,cC:=r.cC,cD:=r.cD,eY:=r.eY,du:=r.du}) rfl).set 7 (.slice da (iW xs).dom.length dc) (r':={jb with scheme:=r.scheme,aP:=r.aP,bz:=r.bz,cC:=r.cC,cD:=r.cD,eY:=r.eY,du:=r.du,dom:=.slice da (iW xs).dom.length dc}) rfl)
    have nw:=(((((((((ae (one w.heap.size) wr).setCell (p:=⟨w.heap.size,0,none⟩) (fun _=>rfl) (.int .i64 r.scheme)).setCell (p:=⟨w.heap.size,1,none⟩) (fun _=>rfl) (.string r.aP)).setCell (p:=⟨w.heap.size,2,none⟩) (fun _=>rfl) (.string r.bz)).setCell (p:=⟨w.heap.size,3,none⟩) (fun _=>rfl) (.string r.cC)).setCell (p:=⟨w.heap.size,4,none⟩) (fun _=>rfl) (.bool r.cD)).setCell (p:=⟨w.heap.size,5,none⟩) (fun _=>rfl) (.string r.eY)).setCell (p:=⟨w.heap.size,6,none⟩) (fun _=>rfl) (.bool r.du)).setCell (p:=⟨w.heap.size,7,none⟩) (fun _=>rfl) (.slice da (iW xs).dom.length dc))
    generalize ((((((((wr.setCell ⟨w.heap.size,0,none⟩ (.int .i64 r.scheme)).setCell ⟨w.heap.size,1,none⟩ (.string r.aP)).setCell ⟨w.heap.size,2,none⟩ (.string r.bz)).setCell ⟨w.heap.size,3,none⟩ (.string r.cC)).setCell ⟨w.heap.size,4,none⟩ (.bool r.cD)).setCell ⟨w.heap.size,5,none⟩ (.string r.eY)).setCell ⟨w.heap.size,6,none⟩ (.bool r.du)).setCell ⟨w.heap.size,7,none⟩ (.slice da (iW xs).dom.length dc))=w6 at BD nw ⊢
    have BH:({jb with scheme:=r.scheme,aP:=r.aP,bz:=r.bz,cC:=r.cC,cD:=r.cD,eY:=r.eY,du:=r.du,dom:=.slice da (iW xs).dom.length dc}:fY Value)=r:=by rw[<-HD.o]
    rw[BH]at BD;have am5:r.Reads (Strs w.heap.size w6.drew) (iW xs):=Uq.o.mono (fun u l hu=>(hu.YE nw gu.o ag).drew);have yj:=O (uf.o.step nw (fun k hk h=>by have h':k=w.heap.size:=h;omega));have DG:fJ w6.drew w.heap.size r:=BD;have d0:=DG.cell (i:=0) rfl;have d1:=DG.cell (i:=1) rfl;have d2:=DG.cell (i:=2) rfl;have d3:=DG.cell (i:=3) rfl;have d4:=DG.cell (i:=4) rfl;have d5:=DG.cell (i:=5) rfl
    have d6:=DG.cell (i:=6) rfl;have d7:=DG.cell (i:=7) rfl;have hsc:r.scheme=(iW xs).scheme:=Uq.o.1;clear BD nw oZ;go_wp2;refine aR (results_cell_tmp bw _ _ w.heap.size 127 r.cells.toArray (0,0) _ rfl DG underlying127 rfl af) rfl ?_;exact⟨yj.o.drewN 1,r,am5,by rw[<-hsc];rfl⟩
theorem Vc(c:UInt8)(l:Bs):(mi c l).1.length<=l.length/\(mi c l).2.1.length<=l.length:=by
 rcases(N6 c l).2 with ⟨_,e⟩|⟨_,e,e2⟩
 ·have h:=aq List.length e;rw[aM,List.length_cons]at h;exact⟨ab,ab⟩
 ·exact⟨by have h:=aq List.length e;omega,by rw[e2];exact aS _⟩
theorem KG{l:Bs}{p:jh}(h:Cv l=some (some p)):p.1.length<=l.length/\p.2.length<=l.length:=by
 unfold Cv at h;split at h
 ·cases h
 ·split at h
  ·cases h
  ·cases h;have h1:=Vc 58 (th l);have h2:=FZ l;have h3:=Je (mi 58 (th l)).2.1 [32,9];refine⟨by show(mi 58 (th l)).1.length<=_;omega,?_⟩;show(trimB _).length<=_;unfold trimB;omega
theorem sU(N:Nat):∀(ls:List Bs) (acc out:List jh),kE ls acc=.ok out->acc.length<=40->(∀l∈ls,l.length<=N)->(∀p∈acc,p.1.length<=N/\p.2.length<=N)->out.length<=40/\∀p∈out,p.1.length<=N/\p.2.length<=N
 |[],acc,out,h,ha,_,hp=>by rw[kE]at h;cases h;exact⟨ha,hp⟩
 |l :: ls,acc,out,h,ha,hl,hp=>by
  rw[kE]at h;cases hr:Cv l with
  |none=>rw[hr]at h;cases h
  |some q =>
   rw[hr]at h;cases q with
   |none=>exact sU N ls acc out h ha (fun m hm=>hl m (bO _ hm)) hp
   |some p =>
    simp only at h;split at h
    ·cases h
    ·rename_i hn;refine sU N ls (acc++[p]) out h (by rw[aM];simp only[List.length_cons,List.length_nil];omega) (fun m hm=>hl m (bO _ hm)) (fun x hx=>?_);rcases bP.1 hx with hx|hx
     ·exact hp x hx
     ·rw[cV.1 hx];have h1:=KG hr;have h2:=hl l (cR ..);exact⟨ab,ab⟩
theorem Hj{s:Bs}{x:List jh}(h:mF s=.ok x):k_ x:=by
 unfold mF at h;split at h
 ·cases h
 ·have h1:=sU 3000 _ _ _ h (aS _) (fun l hl=>by have:=(AB 10 s).2 l hl;omega) (fun _ hp=>by cases hp);exact⟨ab,fun p hp=>by have:=h1.2 p hp;omega⟩
def ah7(ps:List en)(r:qF)(now:Int)(w1:World)(out t:Value)(wr:World):Prop :=
 ∃k:Nat,k<=ps.length/\t=.int .i64 k/\OwnRows w1.heap.size 137 12 wr out ((iL (ps.take k) r now).map en.cells)/\Fr aW w1 wr
theorem YZ(h:ps[k]?=some p)(hm:r.SG now p=true):iL (ps.take (k+1)) r now=iL (ps.take k) r now++[p]:=by
 unfold iL;rw[dT h,cE];simp[hm]
theorem Vd(h:ps[k]?=some p)(hm:r.SG now p=false):iL (ps.take (k+1)) r now=iL (ps.take k) r now:=by
 unfold iL;rw[dT h,cE];simp[hm]
theorem Y0(base:Nat)(w:World)(b:Nat)(v:Value)(ps:List en)(r:fX Value)(hs:List gU)(now:Int)(h:eM base w b v ps)(hlen:ps.length<1000000) :
  aC 85 #[.pointer (some ⟨b,0,none⟩),.agg r.cells.toArray,.int .i64 now] w fun e w'=>∃v',e=.returned v'/\OwnRows w.heap.size 137 12 w' v' ((iL ps (r.dP hs) now).map en.cells)/\Fr aW w w':=by
 obtain⟨rc,uj⟩:∃rc,rc=r.cells.toArray:=⟨_,rfl⟩;obtain⟨w1,oT⟩:∃w1,w1=w.alloc (.cells rc 29):=⟨_,rfl⟩;have dn:Fr aW w w1:=by rw[oT];exact(ae _ _).alloc _
 have lI:w1.heap[w.heap.size]?=some (.cells rc 29 (0,0)):=by rw[oT];exact aB _ _
 have h1:=h.dt dn;obtain⟨ak,ck,RS⟩:=h.form;subst RS;have lY:eb 12 w1 (.slice ak ps.length ck) (ps.map en.cells):=h1.rows.at
 have HC:=O (show∀U,Fr aW w1 U->U.cell? ⟨w.heap.size,1,none⟩=some (.bool r.cQ.aG)/\U.cell? ⟨w.heap.size,2,none⟩=some (.string r.cQ.host)/\U.cell? ⟨w.heap.size,3,none⟩=some (.int .i64 r.cQ.port)/\U.cell? ⟨w.heap.size,4,none⟩=some (.bool r.o.aG)/\U.cell? ⟨w.heap.size,5,none⟩=some (.string r.o.host)/\U.cell? ⟨w.heap.size,6,none⟩=some (.int .i64 r.o.port)/\U.cell? ⟨w.heap.size,7,none⟩=some (.string r.path)/\U.cell? ⟨w.heap.size,8,none⟩=some (.string r.query)/\U.cell? ⟨w.heap.size,11,none⟩=some (.bool r.fF)from fun U hU=>by
  have j:=hU.keep lI id;rw[uj]at j;have hc:∀i u,r.cells[i]?=some u->U.cell? ⟨w.heap.size,i,none⟩=some u:=fun i u hu=>by simp only[World.cell?,j];simpa using hu
  exact⟨hc 1 _ rfl,hc 2 _ rfl,hc 3 _ rfl,hc 4 _ rfl,hc 5 _ rfl,hc 6 _ rfl,hc 7 _ rfl,hc 8 _ rfl,hc 11 _ rfl⟩)
 have HM:=O (show∀p:en,(r.dP hs).SG now p=(p.alive now&&(p.cQ.kQ r.cQ&&((p.o.kQ r.o&&(p.path.toList==r.path.toList&&p.query.toList==r.query.toList))&&(p.fF||!r.fF))))from fun _=>rfl);generalize r.dP hs=rl at HM ⊢;have c0:=h1.c0;rw[oT]at c0;have PQ:=O oT;have lB:=O dn;have Bp:w.heap.size<=w1.heap.size:=dn.size;rw[<-uj];clear oT dn lI h1 h uj;go_enter func85,ntmps85;go_wp2_with fail
 rw[<-PQ.o];go_loopw[7,15] (ah7 ps rl now w1) (fun _ t _=>ps.length-(intOf t).toNat)
 case atStart=>exact⟨0,aS _,rfl,dr _ _ _ _,ae _ _⟩
 case round =>
  obtain⟨k,hk,rfl,ho,cN⟩:=hrel;obtain⟨ao,co,Pu⟩:=ho.form;rw[aj]at Pu;subst Pu;have Rz:(iL (ps.take k) rl now).length<=1000000:=by
   have h1:=bR (rl.SG now) (ps.take k);rw[aL]at h1;unfold iL;omega
  by_cases fx:k<ps.length
  ·have qp:(k:Int)<(ps.length:Int):=ab;have dL:=O (List.getElem?_eq_getElem fx);generalize ps[k]=p at dL;have lL:eb 12 wr (.slice ak ps.length ck) (ps.map en.cells):=bG lY cN;rcases lL.2 with ⟨_,_,_,e,_⟩|⟨bk,of,c,hf,g1,g2,g3,g4⟩
   ·have:ps.length=0:=by have:=aq List.length e;simpa using this
    omega
   rw[aj]at hf g1;cases hf;unfold maxLen at g2;obtain⟨x,hx⟩:∃x,x=p.cells:=⟨_,rfl⟩;have lr:x.length=12:=by rw[hx];rfl
   have dX:∀u∈x,u.oneCell'=true:=by rw[hx];exact p.tG
   have hcell:=g4 k x (by rw[List.getElem?_map,dL.o,hx];rfl);have iM:=fun W=>run_storeCells_new (P:=prog) W 137 Ew x (by rw[lr];rfl) dX;have Fo:(prog.info? 137).map (·.size)=some x.length:=Ao lr;have adm:=O (show(prog.info? 137).map (·.size)=some x.toArray.size by rw[ba];exact Fo);clear g4 lL;have HX:=O hx;have Lw:=O Fo;have wP:=O dX;have anH:=O (aB wr (.cells x.toArray 137))
   have dD:Fr aW wr (wr.alloc (.cells x.toArray 137)):=(ae _ _).alloc _;have HP:=O (show∀U,Fr aW (wr.alloc (.cells x.toArray 137)) U->U.heap[wr.heap.size]?=some (.cells x.toArray 137 (0,0))from fun U hU=>hU.keep (aB _ _) id)
   have HPC:=O (show∀U,Fr aW (wr.alloc (.cells x.toArray 137)) U->U.cell? ⟨wr.heap.size,0,none⟩=some (.bool p.cQ.aG)/\U.cell? ⟨wr.heap.size,1,none⟩=some (.string p.cQ.host)/\U.cell? ⟨wr.heap.size,2,none⟩=some (.int .i64 p.cQ.port)/\U.cell? ⟨wr.heap.size,3,none⟩=some (.bool p.o.aG)/\U.cell? ⟨wr.heap.size,4,none⟩=some (.string p.o.host)/\U.cell? ⟨wr.heap.size,5,none⟩=some (.int .i64 p.o.port)/\U.cell? ⟨wr.heap.size,6,none⟩=some (.string p.path)/\U.cell? ⟨wr.heap.size,7,none⟩=some (.string p.query)/\U.cell? ⟨wr.heap.size,8,none⟩=some (.bool p.fF)from fun U hU=>by
    have j:=HP.o U hU;rw[HX.o]at j;have hc:∀i u,p.cells[i]?=some u->U.cell? ⟨wr.heap.size,i,none⟩=some u:=fun i u hu=>by simp only[World.cell?,j];simpa using hu
    exact⟨hc 0 _ rfl,hc 1 _ rfl,hc 2 _ rfl,hc 3 _ rfl,hc 4 _ rfl,hc 5 _ rfl,hc 6 _ rfl,hc 7 _ rfl,hc 8 _ rfl⟩)
   have Ab:=O (show∀U,aC 130 #[.agg x.toArray,.int .i64 now] U fun e w'=>e=.returned (.bool (p.alive now))/\Fr aW U w' from fun U=>by rw[HX.o];exact FE p now U);have hwr:w.heap.size<=wr.heap.size:=by have:=cN.size;omega
   have uf:=O (cN.trans dD);have HO:=O (show∀U,Fr aW (wr.alloc (.cells x.toArray 137)) U->OwnRows w1.heap.size 137 12 U (.slice ao (iL (ps.take k) rl now).length co) ((iL (ps.take k) rl now).map en.cells)from fun U hU=>(ho.alloc _).fr hU (fun _ _ h=>h));have RY:=O (HM.o p);have DQ:=O (fun hm=>YZ (r:=rl) (now:=now) dL.o hm);have vZ:=O (fun hm=>Vd (r:=rl) (now:=now) dL.o hm)
   obtain⟨fs,kx⟩:∃fs,fs=iL (ps.take k) rl now:=⟨_,rfl⟩;rw[<-kx]at HO DQ vZ Rz ⊢;clear hx Fo dX ho dD cN kx;go_wp2_with (first|((with_reducible refine dv 18 ?_);refine a_ rfl 137 (.tmp 17) rfl bk (of+k*12) rfl x _ hcell underlying137 rfl Lw.o ?_)|((with_reducible refine dv 19 ?_);refine aJ rfl 137 (.tmp 9) rfl wr.heap.size rfl _ x.toArray (0,0) _ anH.o underlying137 rfl adm.o ?_)|fail)
   have Fq:=vC x #[.bool false,.string ⟨#[]⟩,.int .i64 0,.bool false,.string ⟨#[]⟩,.int .i64 0,.string ⟨#[]⟩,.string ⟨#[]⟩,.bool false,.string ⟨#[]⟩,.string ⟨#[]⟩,.int .i64 0] (by rw[lr];rfl);clear iM hcell;generalize wr.alloc (.cells x.toArray 137)=W2 at *
   refine(Ab.o W2).mono ?_;rintro e w3⟨rfl,ik⟩;obtain⟨p0,p1,p2,p3,p4,p5,p6,p7,p8⟩:=HPC.o w3 ik;have ij:=O (uf.o.trans ik);obtain⟨r1,r2,r3,r4,r5,r6,r7,r8,r11⟩:=HC.o w3 ij.o;have Na:=O (HP.o w3 ik);have xG:=O (HO.o w3 ik);have h33:w1.heap.size<=w3.heap.size:=ij.o.size;have heq:=jW p.cQ r.cQ;have heu:=zo p.o p.path p.query r.o r.path r.query;clear Ab HP HPC ik;cases ea:p.alive now
   ·have HN:=O (vZ.o (by rw[RY.o,ea];rfl));clear RY DQ vZ ea heq heu;go_wp2;go_roundw
    case rel=>exact⟨k+1,ab,bf,by rw[HN.o];exact xG.o,ij.o⟩
    case measure=>simp[intOf];omega
   ·cases e1:p.cQ.kQ r.cQ
    ·rw[e1]at heq;have HN:=O (vZ.o (by rw[RY.o,ea,e1];rfl));clear RY DQ vZ ea e1 heu;go_wp2;go_roundw
     case rel=>exact⟨k+1,ab,bf,by rw[HN.o];exact xG.o,ij.o⟩
     case measure=>simp[intOf];omega
    ·rw[e1]at heq;cases e2:(p.o.kQ r.o&&(p.path.toList==r.path.toList&&p.query.toList==r.query.toList))
     ·rw[e2]at heu;have HN:=O (vZ.o (by rw[RY.o,ea,e1,e2];rfl));clear RY DQ vZ ea e1 e2;go_wp2;go_roundw
      case rel=>exact⟨k+1,ab,bf,by rw[HN.o];exact xG.o,ij.o⟩
      case measure=>simp[intOf];omega
     ·rw[e2]at heu;cases e3:p.fF
      ·rw[e3]at p8;cases e4:r.fF
       ·rw[e4]at r11;have HY:=O (DQ.o (by rw[RY.o,ea,e1,e2,e3,e4];rfl));clear RY DQ vZ ea e1 e2 e3 e4
        go_wp2_with (first|((with_reducible refine dv 46 ?_);refine aJ rfl 137 (.tmp 9) rfl wr.heap.size rfl _ x.toArray (0,0) _ Na.o underlying137 rfl adm.o ?_)|(at_builtin;refine nH rfl _ _ 119 137 rfl 12 144 (.agg Ew) underlying119 Ap rfl ag ag w1.heap.size (.slice ao fs.length co) (fs.map en.cells) rfl (xG.o.alloc _) w3.heap.size 1 x rfl lr wP.o (fun i u hi=>by rw[World.cell?_alloc_mark];simpa using hi) (by rw[aj];omega) bF ?_;intro v' w4 eU Bt))
        have jH:=O ((ij.o.alloc (.cells x.toArray 137)).fH Bt (fun j hj=>xG.o.block j hj));go_roundw
        case rel=>exact⟨k+1,ab,bf,by rw[HY.o,bD,cz,cY, <-HX.o];exact eU,jH.o⟩
        case measure=>simp[intOf];omega
       ·rw[e4]at r11;have HN:=O (vZ.o (by rw[RY.o,ea,e1,e2,e3,e4];rfl));clear RY DQ vZ ea e1 e2 e3 e4;go_wp2;go_roundw
        case rel=>exact⟨k+1,ab,bf,by rw[HN.o];exact xG.o,ij.o⟩
        case measure=>simp[intOf];omega
      ·rw[e3]at p8;have HY:=O (DQ.o (by rw[RY.o,ea,e1,e2,e3];rfl));clear RY DQ vZ ea e1 e2 e3
       go_wp2_with (first|((with_reducible refine dv 46 ?_);refine aJ rfl 137 (.tmp 9) rfl wr.heap.size rfl _ x.toArray (0,0) _ Na.o underlying137 rfl adm.o ?_)|(at_builtin;refine nH rfl _ _ 119 137 rfl 12 144 (.agg Ew) underlying119 Ap rfl ag ag w1.heap.size (.slice ao fs.length co) (fs.map en.cells) rfl (xG.o.alloc _) w3.heap.size 1 x rfl lr wP.o (fun i u hi=>by rw[World.cell?_alloc_mark];simpa using hi) (by rw[aj];omega) bF ?_;intro v' w4 eU Bt))
       have jH:=O ((ij.o.alloc (.cells x.toArray 137)).fH Bt (fun j hj=>xG.o.block j hj));go_roundw
       case rel=>exact⟨k+1,ab,bf,by rw[HY.o,bD,cz,cY, <-HX.o];exact eU,jH.o⟩
       case measure=>simp[intOf];omega
  ·have qp:¬(k:Int)<(ps.length:Int):=ab;have Ps:ps.take k=ps:=aD ab;rw[Ps]at ho Rz ⊢;obtain⟨fs,kx⟩:∃fs,fs=iL ps rl now:=⟨_,rfl⟩;rw[<-kx]at ho Rz ⊢;have HO:=O ho;have HEQ:=O kx;clear ho kx;go_wp2;go_ret;exact⟨.slice ao fs.length co,rfl,by rw[<-HEQ.o];exact HO.o.up Bp,lB.o.trans cN⟩
def xl(ws:List (bJ bE)):Prop:=ws.Pairwise fun x y=>Al x.o x.proxy y=false
theorem Du{o:gy}{proxy:Bool}{x:bJ bE}:Al o proxy x=true↔x.o=o/\x.proxy=proxy:=by
 unfold Al;rw[cy,gy.yw,dQ]
theorem qV(o:gy)(proxy:Bool):∀ws:List (bJ bE),(lV o proxy ws).1.Sublist ws
 |[]=>List.Sublist.slnil
 |g :: l=>by
  rw[lV];split
  ·exact List.sublist_cons_self _ _
  ·exact(qV o proxy l).cons_cons _
theorem Dv{o:gy}{proxy:Bool}:∀ {ws:List (bJ bE)},xl ws->∀x∈(lV o proxy ws).1,Al o proxy x=false
 |[],_,x,hx=>by cases hx
 |g :: l,hu,x,hx=>by
  have hu':=List.pairwise_cons.1 hu;rw[lV]at hx;cases hg:Al o proxy g
  ·rw[hg]at hx;simp only[cG,eR]at hx;rcases bu.1 hx with rfl|hx
   ·exact hg
   ·exact Dv hu'.2 x hx
  ·rw[hg,aA rfl]at hx;have hx:x∈l:=hx;obtain⟨e1,e2⟩:=Du.1 hg;have:=hu'.1 x hx;rw[e1,e2]at this;exact this
theorem xl.sub{l:List (bJ bE)}(h:xl ws)(hs:l.Sublist ws):xl l:=List.Pairwise.sublist hs h
theorem xl.ask(h:xl ws)(m:bJ bE):xl (zj ws m):=by
 unfold zj;refine xl.sub (ws:=(lV m.o m.proxy ws).1++[m]) ?_ (List.drop_sublist _ _);unfold xl;rw[List.pairwise_append];refine⟨h.sub (qV _ _ _),List.pairwise_singleton _ _,fun x hx y hy=>?_⟩;rw[cV]at hy;subst hy;have:=Dv h x hx;rw[Bool.eq_false_iff]at this ⊢;intro e;obtain⟨e1,e2⟩:=Du.1 e;exact this (Du.2 ⟨e1.symm,e2.symm⟩)
def Ex(gs:List (aU bE)):Prop:=∀g∈gs,0<=g.count
structure mY (p:eB):Prop where
 uniq:xl p.waits
 nat:Ex p.bW
 rf:p.bW.length<=8/\p.waits.length<=8/\p.book.length<=32/\p.eH.length<=8
theorem mY.no:mY x_:=⟨List.Pairwise.nil,fun _ h=>(by cases h),ag⟩
theorem Ex.filter(h:Ex gs)(f:aU bE->Bool):Ex (gs.filter f):=fun g hg=>h g (eW.1 hg).1
theorem Ex.put(h:Ex gs){g:aU bE}(hg:0<=g.count):Ex (uW gs g):=by
 unfold uW;intro x hx;have hx:=ey hx;rcases bP.1 hx with hx|hx
 ·exact h x (eW.1 hx).1
 ·rw[cV]at hx;rw[hx];exact hg
theorem Kc(gs:List (aU bE))(g:aU bE):(uW gs g).length<=8/\1<=(uW gs g).length:=by
 unfold uW;simp only[bH,aM,List.length_singleton];omega
theorem Yc(h:Ex gs)(o:gy)(proxy:Bool)(path:ai):Ex (uX gs o proxy path).1/\(uX gs o proxy path).1.length<=gs.length:=by
 unfold uX;split
 ·split
  ·rename_i g hg;have hk:=(List.getElem?_eq_some_iff.1 hg).1;have hl:Ex (gs.take (tD gs o proxy path).toNat++gs.drop ((tD gs o proxy path).toNat+1)):=fun x hx=>by
    rcases bP.1 hx with hx|hx
    ·exact h x (ew hx)
    ·exact h x (ey hx)
   simp only;split
   ·refine⟨hl,?_⟩;simp only[aM,aL,bH];omega
   ·refine⟨fun x hx=>?_,?_⟩
    ·rcases bP.1 hx with hx|hx
     ·exact hl x hx
     ·rw[cV]at hx;rw[hx];have:=h g (cA hg);show 0<=g.count+1;omega
    ·simp only[aM,aL,bH,List.length_singleton];omega
  ·exact⟨h,ay _⟩
 ·exact⟨h,ay _⟩
theorem mY.wF{p:eB}(h:mY p)(now:Int)(o:kn):mY (wF p now o).1:=by
 obtain⟨hu,hn,f1,f2,f3,f4⟩:=h;unfold Go.Proofs.YtjndhcngnghpiaaGreatDoor.wF;by_cases h1:o.what=1
 ·rw[aA h1];have hU:=Yc hn o.o o.proxy o.path;unfold lu;split
  ·rename_i gs e he;rw[he]at hU;exact⟨hu,hU.1,aE hU.2 f1,f2,f3,f4⟩
  ·rename_i gs g he;rw[he]at hU;split
   ·exact⟨hu,hU.1.filter _,aE (bR _ _) (aE hU.2 f1),f2,f3,f4⟩
   ·exact⟨hu,hU.1,aE hU.2 f1,f2,f3,f4⟩
 rw[ar h1];by_cases h2:o.what=2
 ·rw[aA h2];unfold jo;split
  ·exact⟨hu,hn,f1,f2,f3,f4⟩
  ·rename_i l _;split
   ·split
    ·rename_i g hg;have hc:0<=g.count:=by
      unfold Dr at hg;split at hg
      ·split at hg
       ·cases hg;exact gQ _
       ·cases hg
      ·cases hg
     exact⟨hu,hn.put hc,(Kc _ _).1,f2,f3,f4⟩
    ·exact⟨hu.ask _,hn.filter _,aE (bR _ _) f1,T5 _ _,f3,f4⟩
   ·exact⟨hu,hn,f1,f2,f3,f4⟩
 rw[ar h2];by_cases h3:o.what=3
 ·rw[aA h3];have hs:=qV o.o o.proxy p.waits;unfold kV;split
  ·rename_i ws e;rw[e]at hs;exact⟨hu.sub hs,hn,f1,aE hs.length_le f2,f3,f4⟩
  ·rename_i ws x e;rw[e]at hs;exact⟨hu.sub hs,hn.put (gQ _),(Kc _ _).1,aE hs.length_le f2,f3,f4⟩
 rw[ar h3];by_cases h4:o.what=4
 ·rw[aA h4];exact⟨hu,hn,f1,f2,f3,f4⟩
 rw[ar h4];by_cases h5:o.what=5
 ·rw[aA h5];unfold kX;split
  ·exact⟨hu,hn,f1,f2,f3,f4⟩
  ·split
   ·exact⟨hu,hn,f1,f2,aE (bR _ _) f3,f4⟩
   ·exact⟨hu,hn,f1,f2,Ji _ _ _,f4⟩
 rw[ar h5];by_cases h6:o.what=6
 ·rw[aA h6];exact⟨hu,hn,f1,f2,f3,f4⟩
 rw[ar h6];by_cases h7:o.what=7
 ·rw[aA h7];unfold oI;split
  ·exact⟨hu,hn,f1,f2,f3,f4⟩
  ·refine⟨hu,hn,f1,f2,f3,?_⟩;show(xk p.eH o.o o.cert).length<=8;unfold xk;simp only[bH];omega
 rw[ar h7];unfold rE;split
 ·exact mY.no
 ·have SS:mY (vT p o.o):=⟨hu.sub List.filter_sublist,hn.filter _,aE (bR _ _) f1,aE (bR _ _) f2,f3,f4⟩;split
  ·exact⟨SS.uniq,SS.nat,SS.rf.1,SS.rf.2.1,aE (bR _ _) f3,aE (bR _ _) f4⟩
  ·exact SS
structure Dw (w:d_):Prop where
 part:∀k,mY (w.part k)
 now:0<=w.now/\w.now<=1099511627776
theorem Dw.new:Dw G3:=⟨fun _=>mY.no,ag,ag⟩
theorem Dw.mX{w:d_}(h:Dw w)(o:kn):Dw (mX w o).1:=by
 cases hr:o.right
 ·rw[G7 hr];exact h
 ·by_cases hw:o.what=10
  ·rw[Dt hr hw];split
   ·exact h
   ·rename_i hn;refine⟨h.part,?_⟩;show 0<=w.now+o.n/\w.now+o.n<=1099511627776;have:=h.now;omega
  ·rw[Ds hr hw];refine⟨fun k=>?_,h.now⟩;by_cases hk:k=o.part.toNat
   ·subst hk;rw[d_.MM];exact(h.part _).wF _ _
   ·rw[d_.G5 _ _ hk];exact h.part k
def lW(c:gy×Int):aX:=[.bool c.1.aG,.string c.1.host,.int .i64 c.1.port,.int .i64 c.2]
structure dm where
 b:Nat
 gv:Value
 wv:Value
 k:Nat
 kv:Value
 cv:Value
def dm.cells(v:dm):aX:=[.pointer (some ⟨v.b,0,none⟩),.pointer (some ⟨v.k,0,none⟩),v.cv]
structure eO (base:Nat) (w:World) (v:dm) (p:eB):Prop where
 oW:dB base w v.b v.gv v.wv p.bW p.waits
 book:eM base w v.k v.kv p.book
 eH:OwnRows base 105 4 w v.cv (p.eH.map lW)
def dm.jM(v:dm):dz:=fun i=>dh v.b v.gv v.wv i\/ig v.k v.kv i\/own v.cv i
section
variable {base : Nat} {w w' : World} {v : dm} {p : eB}
theorem dB.h_(h:dB base w b gv wv gs ws)(hi:dh b gv wv i) :
  ∃c t,w.heap[i]?=some (.cells c t (0,0))/\(t=118\/t=133\/t=129):=by
 rcases hi with rfl|hi|hi
 ·exact⟨_,_,h.eG,Or.inl rfl⟩
 ·obtain⟨c,e⟩:=h.tF hi;exact⟨_,_,e,Or.inr (Or.inl rfl)⟩
 ·obtain⟨c,e⟩:=h.vP hi;exact⟨_,_,e,Or.inr (Or.inr rfl)⟩
theorem eM.h_(h:eM base w b bv ps)(hi:ig b bv i) :
  ∃c t,w.heap[i]?=some (.cells c t (0,0))/\(t=121\/t=137):=by
 rcases hi with rfl|hi
 ·exact⟨_,_,h.eG,Or.inl rfl⟩
 ·obtain⟨c,e⟩:=h.rows.FD hi;exact⟨_,_,e,Or.inr rfl⟩
theorem dB.nt(h:dB base w b gv wv gs ws)(hi:dh b gv wv i):base<=i:=by
 rcases hi with rfl|hi|hi
 ·exact h.low
 ·exact h.af_ hi
 ·exact h.af' hi
theorem eM.nt(h:eM base w b bv ps)(hi:ig b bv i):base<=i:=by
 rcases hi with rfl|hi
 ·exact h.low
 ·exact h.rows.block _ hi
theorem eO.h_(h:eO base w v p)(hi:v.jM i) :
  ∃c t,w.heap[i]?=some (.cells c t (0,0))/\(t=118\/t=133\/t=129\/t=121\/t=137\/t=105):=by
 rcases hi with hi|hi|hi
 ·obtain⟨c,t,e,ht⟩:=h.oW.h_ hi;exact⟨c,t,e,by rcases ht with rfl|rfl|rfl<;>simp⟩
 ·obtain⟨c,t,e,ht⟩:=h.book.h_ hi;exact⟨c,t,e,by rcases ht with rfl|rfl<;>simp⟩
 ·obtain⟨c,e⟩:=h.eH.FD hi;exact⟨c,_,e,aQ⟩
theorem eO.nt(h:eO base w v p)(hi:v.jM i):base<=i:=by
 rcases hi with hi|hi|hi
 ·exact h.oW.nt hi
 ·exact h.book.nt hi
 ·exact h.eH.block _ hi
theorem eO.ja(h:eO base w v p)(hi:v.jM i):i<w.heap.size:=by
 obtain⟨c,t,e,_⟩:=h.h_ hi;exact bg e
theorem eO.off(h:eO base w v p):rL base w v.jM:=fun i hi _=>by
 refine⟨h.nt hi,fun c f e=>?_⟩;obtain⟨c',t,e',ht⟩:=h.h_ hi;rw[e]at e';cases e';revert ht;decide
theorem eO.fr(h:eO base w v p)(hf:Fr S w w')(ho:rL base w S)(hn:∀i,v.jM i->¬S i):eO base w' v p :=
 ⟨h.oW.fr hf ho (hn _ (Or.inl (Or.inl rfl))) (fun _ hk=>hn _ (Or.inl (Or.inr (Or.inl hk)))) (fun _ hk=>hn _ (Or.inl (Or.inr (Or.inr hk)))),
  h.book.fr hf (fun _ hk=>hn _ (Or.inr (Or.inl hk))),h.eH.fr hf (fun _ hk=>hn _ (Or.inr (Or.inr hk)))⟩
theorem eO.dt(h:eO base w v p)(hf:Fr aW w w'):eO base w' v p:=h.fr hf (mH _ _) (fun _ _ h=>h)
theorem eO.wH(h:eO base w v p)(hi:dh v.b v.gv v.wv i):¬ig v.k v.kv i:=fun hj=>by
 obtain⟨c,t,e,ht⟩:=h.oW.h_ hi;obtain⟨c',t',e',ht'⟩:=h.book.h_ hj;rw[e]at e';cases e';rcases ht with rfl|rfl|rfl<;>revert ht'<;>decide
theorem eO.wI(h:eO base w v p)(hi:dh v.b v.gv v.wv i):¬own v.cv i:=fun hj=>by
 obtain⟨c,t,e,ht⟩:=h.oW.h_ hi;obtain⟨c',e'⟩:=h.eH.FD hj;rw[e]at e';cases e';revert ht;decide
theorem eO.FH(h:eO base w v p)(hi:ig v.k v.kv i):¬own v.cv i:=fun hj=>by
 obtain⟨c,t,e,ht⟩:=h.book.h_ hi;obtain⟨c',e'⟩:=h.eH.FD hj;rw[e]at e';cases e';revert ht;decide
end
def iz(pv:Nat->dm)(now:Int):aX:=(pv 0).cells++((pv 1).cells++((pv 2).cells++((pv 3).cells++[.int .i64 now])))
def ya(pv:Nat->dm)(i:Nat)(v:dm):Nat->dm:=fun j=>if j=i then v else pv j
def oX(cs:aX)(o:Nat)(v:dm):aX:=((cs.set o (.pointer (some ⟨v.b,0,none⟩))).set (o+1) (.pointer (some ⟨v.k,0,none⟩))).set (o+2) v.cv
theorem sr(pv:Nat->dm)(i:Nat)(v:dm):ya pv i v i=v:=by unfold ya;simp
theorem mq(pv:Nat->dm){j:Nat}(v:dm)(h:j≠i):ya pv i v j=pv j:=by unfold ya;simp[h]
theorem yb(pv:Nat->dm)(now:Int)(hi:i<4)(v:dm):oX (iz pv now) (i*3) v=iz (ya pv i v) now:=by
 unfold oX iz ya dm.cells
 match i,hi with
 |0,_=>rfl
 |1,_=>rfl
 |2,_=>rfl
 |3,_=>rfl
theorem wJ(pv:Nat->dm)(now:Int)(hi:i<4):(iz pv now)[i*3]?=some (.pointer (some ⟨(pv i).b,0,none⟩))/\(iz pv now)[i*3+1]?=some (.pointer (some ⟨(pv i).k,0,none⟩))/\(iz pv now)[i*3+2]?=some (pv i).cv:=by
 unfold iz dm.cells
 match i,hi with
 |0,_=>exact⟨rfl,rfl,rfl⟩
 |1,_=>exact⟨rfl,rfl,rfl⟩
 |2,_=>exact⟨rfl,rfl,rfl⟩
 |3,_=>exact⟨rfl,rfl,rfl⟩
theorem MR(pv:Nat->dm)(now:Int):(iz pv now)[12]?=some (.int .i64 now):=rfl
theorem xn(pv:Nat->dm)(now n:Int):(iz pv now).set 12 (.int .i64 n)=iz pv n:=rfl
structure df (base:Nat) (w:World) (B:Nat) (pv:Nat->dm) (x:d_):Prop where
 low:base<=B
 eG:w.heap[B]?=some (.cells (iz pv x.now).toArray 97 (0,0))
 part:∀i,i<4->eO base w (pv i) (x.part i)
 apart:∀i j,i<4->j<4->i≠j->∀k,(pv i).jM k->¬(pv j).jM k
def mr(B:Nat)(pv:Nat->dm):dz:=fun k=>k=B\/∃i,i<4/\(pv i).jM k
def dy(base:Nat)(w:World)(B:Nat)(pv:Nat->dm)(x:d_)(w':World):Prop :=
 ∃Jr,df base w' B Jr x/\Fr (mr B pv) w w'/\∀k,mr B Jr k->mr B pv k\/w.heap.size<=k
section
variable {base : Nat} {w w' : World} {B : Nat} {pv : Nat → dm} {x : d_}
theorem df.lt(h:df base w B pv x):B<w.heap.size:=bg h.eG
theorem df.ja(h:df base w B pv x)(hk:mr B pv k):k<w.heap.size:=by
 rcases hk with rfl|⟨i,hi,hk⟩
 ·exact h.lt
 ·exact(h.part i hi).ja hk
theorem df.nt(h:df base w B pv x)(hk:mr B pv k):base<=k:=by
 rcases hk with rfl|⟨i,hi,hk⟩
 ·exact h.low
 ·exact(h.part i hi).nt hk
theorem df.zq(h:df base w B pv x)(hi:i<4):¬(pv i).jM B:=fun hk=>by
 obtain⟨c,t,e,ht⟩:=(h.part i hi).h_ hk;rw[h.eG]at e;cases e;revert ht;decide
theorem df.Qw(h:df base w B pv x):rL base w (one B):=by
 rintro k rfl _;exact⟨h.low,fun c f e=>by rw[h.eG]at e;cases e⟩
theorem df.off(h:df base w B pv x):rL base w (mr B pv):=by
 rintro k(rfl|⟨i,hi,hk⟩)hl
 ·exact h.Qw _ rfl hl
 ·exact(h.part i hi).off k hk hl
theorem df.fr(h:df base w B pv x)(hf:Fr S w w')(ho:rL base w S)(hn:∀k,mr B pv k->¬S k):df base w' B pv x :=
 ⟨h.low,hf.keep h.eG (hn B (Or.inl rfl)),fun i hi=>(h.part i hi).fr hf ho (fun k hk=>hn k (Or.inr ⟨i,hi,hk⟩)),h.apart⟩
theorem df.dt(h:df base w B pv x)(hf:Fr aW w w'):df base w' B pv x:=h.fr hf (mH _ _) (fun _ _ h=>h)
theorem dy.same(h:df base w B pv x)(hf:Fr aW w w'):dy base w B pv x w' :=
 ⟨pv,h.dt hf,hf.mono (fun _ _ h=>absurd h id),fun _ hk=>Or.inl hk⟩
end
theorem dy.frame{pv:Nat->dm}{x x':d_}(h:dy base w B pv x' w')(h0:df base w B pv x)(hf:Fr aW a w)(hb:a.heap.size<=base):Fr aW a w':=by
 obtain⟨_,_,h2,_⟩:=h;refine hf.step h2 (fun k hk hw=>?_);have:=h0.nt hw;omega
structure gJ (w:World) (B:Nat) (cs:aX) (o:Nat) (v:dm):Prop where
 eG:w.heap[B]?=some (.cells cs.toArray 97 (0,0))
 c0:cs[o]?=some (.pointer (some ⟨v.b,0,none⟩))
 c1:cs[o+1]?=some (.pointer (some ⟨v.k,0,none⟩))
 c2:cs[o+2]?=some v.cv
theorem wK{o:Nat}{v:dm}(c0:cs[o]?=some (.pointer (some ⟨v.b,0,none⟩)))(c1:cs[o+1]?=some (.pointer (some ⟨v.k,0,none⟩)))(c2:cs[o+2]?=some v.cv):oX cs o v=cs:=by
 unfold oX;apply iT;intro i;by_cases h2:i=o+2
 ·subst h2;rw[List.getElem?_set_self (by simp;exact(List.getElem?_eq_some_iff.1 c2).1),c2]
 rw[List.getElem?_set_ne (kH h2)];by_cases h1:i=o+1
 ·subst h1;rw[List.getElem?_set_self (by simp;exact(List.getElem?_eq_some_iff.1 c1).1),c1]
 rw[List.getElem?_set_ne (kH h1)];by_cases h0:i=o
 ·subst h0;rw[List.getElem?_set_self (List.getElem?_eq_some_iff.1 c0).1,c0]
 rw[List.getElem?_set_ne (kH h0)]
section
variable {w w' : World} {B o : Nat} {cs : List Value} {v : dm}
theorem gJ.cell0(h:gJ w B cs o v):w.cell? ⟨B,o,none⟩=some (.pointer (some ⟨v.b,0,none⟩)):=by simp[World.cell?,h.eG,h.c0]
theorem gJ.gV(h:gJ w B cs o v):w.cell? ⟨B,o+1,none⟩=some (.pointer (some ⟨v.k,0,none⟩)):=by simp[World.cell?,h.eG,h.c1]
theorem gJ.lU(h:gJ w B cs o v):w.cell? ⟨B,o+2,none⟩=some v.cv:=by simp[World.cell?,h.eG,h.c2]
theorem gJ.free(h:gJ w B cs o v)(k:Nat):w.frozen? ⟨B,k,none⟩=false:=by simp[World.frozen?,h.eG]
theorem gJ.fr(h:gJ w B cs o v)(hf:Fr S w w')(hn:¬S B):gJ w' B cs o v:=⟨hf.keep h.eG hn,h.c0,h.c1,h.c2⟩
theorem gJ.dt(h:gJ w B cs o v)(hf:Fr aW w w'):gJ w' B cs o v:=h.fr hf id
end
def zr(B:Nat)(v:dm):dz:=fun k=>k=B\/v.jM k
def cX(base:Nat)(w:World)(B:Nat)(cs:aX)(o:Nat)(v:dm)(p:eB)(w':World):Prop :=
 ∃v',eO base w' v' p/\Fr (zr B v) w w'/\(∀k,v'.jM k->v.jM k\/w.heap.size<=k)/\w'.heap[B]?=some (.cells (oX cs o v').toArray 97 (0,0))
theorem cX.same{base:Nat}{w w':World}{B o:Nat}{cs:aX}{v:dm}{p:eB}(h:eO base w v p)(ha:gJ w B cs o v)(hf:Fr aW w w'):cX base w B cs o v p w' :=
 ⟨v,h.dt hf,hf.mono (fun _ _ h=>absurd h id),fun _ hk=>Or.inl hk,by rw[wK ha.c0 ha.c1 ha.c2];exact hf.keep ha.eG id⟩
theorem cX.oW{base:Nat}{w w':World}{B o:Nat}{cs:aX}{v:dm}{p:eB}(h:eO base w v p)(ha:gJ w B cs o v)(hB:¬v.jM B){gs:List (aU bE)}{ws:List (bJ bE)}(hp:km base w v.b v.gv v.wv gs ws w') :
  cX base w B cs o v {p with bW:=gs,waits:=ws} w':=by
 obtain⟨gv',wv',h1,h2,h3⟩:=hp;refine⟨⟨v.b,gv',wv',v.k,v.kv,v.cv⟩,⟨h1,?_,?_⟩,h2.mono (fun k _ hk=>Or.inr (Or.inl hk)),?_,?_⟩
 ·exact h.book.fr h2 (fun k hk hb=>h.wH hb hk)
 ·exact h.eH.fr h2 (fun k hk hb=>h.wI hb hk)
 ·rintro k(hk|hk|hk)
  ·rcases h3 k hk with hk|hk
   ·exact Or.inl (Or.inl hk)
   ·exact Or.inr hk
  ·exact Or.inl (Or.inr (Or.inl hk))
  ·exact Or.inl (Or.inr (Or.inr hk))
 ·show w'.heap[B]?=some (.cells (oX cs o v).toArray _ _);rw[wK ha.c0 ha.c1 ha.c2];exact h2.keep ha.eG (fun hb=>hB (Or.inl hb))
theorem cX.book{base:Nat}{w w':World}{B o:Nat}{cs:aX}{v:dm}{p:eB}(h:eO base w v p)(ha:gJ w B cs o v)(hB:¬v.jM B){ps:List en}(hp:Dp base w v.k v.kv ps w') :
  cX base w B cs o v {p with book:=ps} w':=by
 obtain⟨kv',h1,h2,h3⟩:=hp;have mK:rL base w (ig v.k v.kv):=fun k hk hl=>h.off k (Or.inr (Or.inl hk)) hl;refine⟨⟨v.b,v.gv,v.wv,v.k,kv',v.cv⟩,⟨?_,h1,?_⟩,h2.mono (fun k _ hk=>Or.inr (Or.inr (Or.inl hk))),?_,?_⟩
 ·exact h.oW.fr h2 mK (fun hb=>h.wH (Or.inl rfl) hb) (fun k hk hb=>h.wH (Or.inr (Or.inl hk)) hb) (fun k hk hb=>h.wH (Or.inr (Or.inr hk)) hb)
 ·exact h.eH.fr h2 (fun k hk hb=>h.FH hb hk)
 ·rintro k(hk|hk|hk)
  ·exact Or.inl (Or.inl hk)
  ·rcases h3 k hk with hk|hk
   ·exact Or.inl (Or.inr (Or.inl hk))
   ·exact Or.inr hk
  ·exact Or.inl (Or.inr (Or.inr hk))
 ·show w'.heap[B]?=some (.cells (oX cs o v).toArray _ _);rw[wK ha.c0 ha.c1 ha.c2];exact h2.keep ha.eG (fun hb=>hB (Or.inr (Or.inl hb)))
theorem cX.after{base:Nat}{a w w':World}{B o:Nat}{cs:aX}{v:dm}{p:eB}(hf:Fr aW a w)(h:cX base w B cs o v p w'):cX base a B cs o v p w':=by
 obtain⟨v',h1,h2,h3,h4⟩:=h;refine⟨v',h1,fL (S:=zr B v) (hf.mono (fun _ _ h=>absurd h id)) h2 (fun _ _ h=>h),fun k hk=>?_,h4⟩;rcases h3 k hk with h|h
 ·exact Or.inl h
 ·exact Or.inr (aE hf.size h)
theorem cX.then{o:Nat}{v:dm}{p:eB}(h:cX base a B cs o v p w)(hf:Fr aW w w'):cX base a B cs o v p w':=by
 obtain⟨v',h1,h2,h3,h4⟩:=h;exact⟨v',h1.dt hf,h2.step (T:=aW) hf (fun _ _ h=>absurd h id),h3,hf.keep h4 id⟩
theorem df.step{base:Nat}{w w':World}{B:Nat}{pv:Nat->dm}{x:d_}{i:Nat}{p:eB}(h:df base w B pv x)(hi:i<4)(hp:cX base w B (iz pv x.now) (i*3) (pv i) p w') :
  dy base w B pv (x.set i p) w':=by
 obtain⟨v',h1,h2,h3,h4⟩:=hp;have kP:∀j k,j<4->(ya pv i v' j).jM k->(pv j).jM k\/w.heap.size<=k:=by
  intro j k hj hk;by_cases Ib:j=i
  ·subst Ib;rw[sr]at hk;exact h3 k hk
  ·rw[mq pv v' Ib]at hk;exact Or.inl hk
 refine⟨ya pv i v',⟨h.low,?_,fun j hj=>?_,fun a b ha hb rN k hka Lv=>?_⟩,h2.mono ?_,?_⟩
 ·rw[h4,yb pv x.now hi];rfl
 ·by_cases Ib:j=i
  ·subst Ib;rw[sr,d_.MM];exact h1
  ·rw[mq pv v' Ib,d_.G5 _ _ Ib];refine(h.part j hj).fr h2 ?_ ?_
   ·rintro k(rfl|hk)hl
    ·exact h.Qw _ rfl hl
    ·exact(h.part i hi).off k hk hl
   ·rintro k hk(rfl|XO)
    ·exact h.zq hj hk
    ·exact h.apart j i hj hi Ib k hk XO
 ·rcases kP a k ha hka with h5|h5
  ·rcases kP b k hb Lv with h6|h6
   ·exact h.apart a b ha hb rN k h5 h6
   ·have:=(h.part a ha).ja h5;omega
  ·rcases kP b k hb Lv with h6|h6
   ·have:=(h.part b hb).ja h6;omega
   ·by_cases hai:a=i
    ·by_cases hbi:b=i
     ·exact rN (hai.trans hbi.symm)
     ·rw[mq pv v' hbi]at Lv;have:=(h.part b hb).ja Lv;omega
    ·rw[mq pv v' hai]at hka;have:=(h.part a ha).ja hka;omega
 ·rintro k _(rfl|hk)
  ·exact Or.inl rfl
  ·exact Or.inr ⟨i,hi,hk⟩
 ·rintro k(rfl|⟨j,hj,hk⟩)
  ·exact Or.inl (Or.inl rfl)
  ·rcases kP j k hj hk with h5|h5
   ·exact Or.inl (Or.inr ⟨j,hj,h5⟩)
   ·exact Or.inr h5
theorem df.partAt{pv:Nat->dm}{x:d_}(h:df base w B pv x)(hi:i<4):gJ w B (iz pv x.now) (i*3) (pv i) :=
 ⟨h.eG,(wJ pv x.now hi).1,(wJ pv x.now hi).2.1,(wJ pv x.now hi).2.2⟩
def ky.val(r:ky):Value:=.agg #[.int .i64 r.what,.string r.head,.int .i64 r.cert]
structure jB where
 what:Int
 aI:fX Value
 proxy:Bool
 text:ai
 user:ai
 pass:ai
 bI:ai
 cert:Int
 all:Bool
 n:Int
def jB.cells(o:jB):aX:=.int .i64 o.what :: (o.aI.cells++[.bool o.proxy,.string o.text,.string o.user,.string o.pass,.string o.bI,.int .i64 o.cert,.bool o.all,.int .i64 o.n])
def jB.dP(o:jB)(hs:List gU):kn:=⟨o.what,o.aI.part,o.aI.cQ,o.aI.o,o.aI.path,o.aI.query,o.aI.method,hs,o.aI.fF,o.aI.body,o.proxy,o.text,o.user,o.pass,o.bI,o.cert,o.all,o.n⟩
structure gL (w:World) (o:jB) (hs:List gU):Prop where
 ef:ox w o.aI.ef hs
 aI:FC o.aI hs
 cQ:o.aI.cQ.host.size<100000
 ori:o.aI.o.host.size<100000
 path:o.aI.path.size<=2000
 query:o.aI.query.size<=2000
 method:o.aI.method.size<=5000
 body:o.aI.body.size<=5000
 text:o.text.size<100000
 user:o.user.size<=5000
 pass:o.pass.size<=5000
 bI:o.bI.size<=5000
 Up: -9223372036854775808<=o.aI.cQ.port/\o.aI.cQ.port<=9223372036854775807
 agX: -9223372036854775808<=o.aI.o.port/\o.aI.o.port<=9223372036854775807
 part: -9223372036854775808<=o.aI.part/\o.aI.part<=9223372036854775807
 what: -9223372036854775808<=o.what/\o.what<=9223372036854775807
 cert: -9223372036854775808<=o.cert/\o.cert<=9223372036854775807
 n: -9223372036854775808<=o.n/\o.n<=9223372036854775807
theorem gL.dt{o:jB}{hs:List gU}(h:gL w o hs)(hf:Fr aW w w'):gL w' o hs:={h with ef:=bG h.ef hf}
abbrev cW := @cX.after
abbrev eP := @cX.oW
abbrev fq := @dy.same
abbrev j9 := @df.step
abbrev lX := @cX.same
abbrev oJ := @cX.book
theorem KH(base:Nat)(w:World)(b:Nat)(v:Value)(ps:List en)(r:fX Value)(hs:List gU)(now:Int)(h:eM base w b v ps)(hlen:ps.length<1000000)(hr:ox w r.ef hs)(hz:FC r hs) :
  aC 45 #[.pointer (some ⟨b,0,none⟩),.agg r.cells.toArray,.int .i64 now] w fun e w'=>e=.returned (.bool (mj ps (r.dP hs) now))/\Fr aW w w':=by
 have gu:=O (show mj ps (r.dP hs) now=(!(r.dP hs).needs||(r.dP hs).mS (iL ps (r.dP hs) now))from rfl);generalize mj ps (r.dP hs) now=res at gu ⊢;obtain⟨w1,oT⟩:∃w1,w1=w.alloc (.cells r.cells.toArray 29):=⟨_,rfl⟩;have dn:Fr aW w w1:=by rw[oT];exact(ae _ _).alloc _
 have lI:w1.heap[w.heap.size]?=some (.cells r.cells.toArray 29 (0,0)):=by rw[oT];exact aB _ _
 have HN:=O (show∀U,Fr aW w1 U->aC 83 #[.agg r.cells.toArray] U fun e w'=>e=.returned (.bool (r.dP hs).needs)/\Fr aW U w' from fun U hU=>Qk r hs U (bG hr (dn.trans hU)) hz)
 have RT:=O (show∀U,Fr aW w1 U->aC 85 #[.pointer (some ⟨b,0,none⟩),.agg r.cells.toArray,.int .i64 now] U fun e w'=>∃v',e=.returned v'/\OwnRows U.heap.size 137 12 w' v' ((iL ps (r.dP hs) now).map en.cells)/\Fr aW U w' from fun U hU=>Y0 base U b v ps r hs now (h.dt (dn.trans hU)) hlen)
 have wT:=O (show∀U,Fr aW w1 U->∀lv,uG U lv (iL ps (r.dP hs) now)->aC 84 #[.agg r.cells.toArray,lv] U fun e w'=>e=.returned (.bool ((r.dP hs).mS (iL ps (r.dP hs) now)))/\Fr aW U w' from fun U hU lv hlv=>xZ r hs lv _ U (bG hr (dn.trans hU)) hlv hz);obtain⟨ah,ch,gq⟩:=dN hr;rw[aj]at gq
 have uj:r.cells=[.int .i64 r.part,.bool r.cQ.aG,.string r.cQ.host,.int .i64 r.cQ.port,.bool r.o.aG,.string r.o.host,.int .i64 r.o.port,.string r.path,.string r.query,.string r.method,.slice ah hs.length ch,.bool r.fF,.string r.body]:=by unfold fX.cells;rw[gq]
 have HC:=O (show∀U,Fr aW w1 U->(U.cell? ⟨w.heap.size,0,none⟩=some (.int .i64 r.part)/\U.cell? ⟨w.heap.size,1,none⟩=some (.bool r.cQ.aG)/\U.cell? ⟨w.heap.size,2,none⟩=some (.string r.cQ.host)/\U.cell? ⟨w.heap.size,3,none⟩=some (.int .i64 r.cQ.port)/\U.cell? ⟨w.heap.size,4,none⟩=some (.bool r.o.aG)/\U.cell? ⟨w.heap.size,5,none⟩=some (.string r.o.host)/\U.cell? ⟨w.heap.size,6,none⟩=some (.int .i64 r.o.port)/\U.cell? ⟨w.heap.size,7,none⟩=some (.string r.path)/\U.cell? ⟨w.heap.size,8,none⟩=some (.string r.query)/\U.cell? ⟨w.heap.size,9,none⟩=some (.string r.method)/\U.cell? ⟨w.heap.size,10,none⟩=some (.slice ah hs.length ch)/\U.cell? ⟨w.heap.size,11,none⟩=some (.bool r.fF)/\U.cell? ⟨w.heap.size,12,none⟩=some (.string r.body))from fun U hU=>by
  have j:=hU.keep lI id;rw[uj]at j;simp[World.cell?,j])
 rw[uj]at HN RT wT oT ⊢;have lB:=O dn;have hhw:=oT;clear h hr hz dn lI uj gq;cases hn:(r.dP hs).needs
 ·have HR:=O (show res=true by rw[gu.o,hn];rfl);rw[hn]at HN;clear hn gu RT wT hhw;go_enter func45,ntmps45;go_wp2_with fail
  rw[<-oT];clear oT
  refine wp_region_held_drew (S:=(fun U=>U.cell? ⟨w.heap.size,0,none⟩=some (.int .i64 r.part)/\U.cell? ⟨w.heap.size,1,none⟩=some (.bool r.cQ.aG)/\U.cell? ⟨w.heap.size,2,none⟩=some (.string r.cQ.host)/\U.cell? ⟨w.heap.size,3,none⟩=some (.int .i64 r.cQ.port)/\U.cell? ⟨w.heap.size,4,none⟩=some (.bool r.o.aG)/\U.cell? ⟨w.heap.size,5,none⟩=some (.string r.o.host)/\U.cell? ⟨w.heap.size,6,none⟩=some (.int .i64 r.o.port)/\U.cell? ⟨w.heap.size,7,none⟩=some (.string r.path)/\U.cell? ⟨w.heap.size,8,none⟩=some (.string r.query)/\U.cell? ⟨w.heap.size,9,none⟩=some (.string r.method)/\U.cell? ⟨w.heap.size,10,none⟩=some (.slice ah hs.length ch)/\U.cell? ⟨w.heap.size,11,none⟩=some (.bool r.fF)/\U.cell? ⟨w.heap.size,12,none⟩=some (.string r.body))) af (HC.o _ (ae aW w1).drew) ?_
  intro yl;refine aO 0 7 rfl ?_;refine eK 1 rfl fun K hK=>?_;go_simp;refine(HN.o _ (ae aW w1).drew).mono ?_;rintro e v1⟨rfl,H'⟩;have fS:=O (show Fr aW w1 v1 from((ae aW w1).drew).trans H');refine hK.out _ _ (HC.o _ fS.o) ?_;intro wU;clear hK yl H' K
  try simp only[Act.put,sA,sB,sC]
  refine aO 2 9 rfl ?_;refine aO 3 10 rfl ?_;refine AD 4 11 rfl ?_
  try simp only[Act.put,sA,sB,sC]
  refine AD 5 12 rfl ?_
  try simp only[Act.put,sA,sB,sC]
  refine AD 6 13 rfl ?_
  try simp only[Act.put,sA,sB,sC]
  refine AD 7 14 rfl ?_
  try simp only[Act.put,sA,sB,sC]
  refine AD 8 15 rfl ?_
  try simp only[Act.put,sA,sB,sC]
  refine AD 9 16 rfl ?_
  try simp only[Act.put,sA,sB,sC]
  refine aO 10 17 rfl ?_;refine aO 11 6 rfl ?_;refine wpAnyH_done af ?_ _;go_wp2;go_ret;exact⟨by rw[HR.o];rfl,lB.o.trans fS.o⟩
 ·have HR:=O (show res=(r.dP hs).mS (iL ps (r.dP hs) now)by rw[gu.o,hn];rfl);rw[hn]at HN;generalize (r.dP hs).mS (iL ps (r.dP hs) now)=cv at *
  generalize iL ps (r.dP hs) now=fs at *
  clear hn gu hhw;go_enter func45,ntmps45;go_wp2_with fail
  rw[<-oT];clear oT
  go_region_held3 (fun U=>Fr aW w1 U/\U.cell? ⟨w.heap.size,0,none⟩=some (.int .i64 r.part)/\U.cell? ⟨w.heap.size,1,none⟩=some (.bool r.cQ.aG)/\U.cell? ⟨w.heap.size,2,none⟩=some (.string r.cQ.host)/\U.cell? ⟨w.heap.size,3,none⟩=some (.int .i64 r.cQ.port)/\U.cell? ⟨w.heap.size,4,none⟩=some (.bool r.o.aG)/\U.cell? ⟨w.heap.size,5,none⟩=some (.string r.o.host)/\U.cell? ⟨w.heap.size,6,none⟩=some (.int .i64 r.o.port)/\U.cell? ⟨w.heap.size,7,none⟩=some (.string r.path)/\U.cell? ⟨w.heap.size,8,none⟩=some (.string r.query)/\U.cell? ⟨w.heap.size,9,none⟩=some (.string r.method)/\U.cell? ⟨w.heap.size,10,none⟩=some (.slice ah hs.length ch)/\U.cell? ⟨w.heap.size,11,none⟩=some (.bool r.fF)/\U.cell? ⟨w.heap.size,12,none⟩=some (.string r.body)) ((refine(fun hU=>⟨hU,HC.o _ hU⟩) ?_;repeat(first|exact ae _ _|assumption|apply bq|apply az|refine bC ?_ jL)))
   ((first
    |(go_at_call 83;refine(HN.o _ (by repeat(first|exact ae _ _|assumption|apply az|apply bq|refine bC ?_ jL))).mono ?_;rintro e u1 ⟨rfl,uY⟩)
    |(go_at_call 85;refine(RT.o _ (by repeat(first|exact ae _ _|assumption|apply az|apply bq|refine bC ?_ jL))).mono ?_;rintro e u2 ⟨fv,rfl,JX,lD⟩)
    |(go_at_call 84;refine(wT.o _ (by repeat(first|exact ae _ _|assumption|apply az|apply bq|refine bC ?_ jL)) _ (bG JX.at (by repeat(first|exact ae _ _|assumption|apply az|apply bq|refine bC ?_ jL)))).mono ?_;rintro e u3 ⟨rfl,B8⟩)))
  have fS:=O (show Fr aW w1 u3 from by repeat(first|exact ae _ _|assumption|apply az|apply bq|refine bC ?_ jL));clear uY lD B8;go_wp2;go_ret;exact⟨by rw[HR.o];rfl,lB.o.trans fS.o⟩
