/- Lemmas for the law's walk. -/
import Derived.Test.YtnckmcnffadjoaaGreatDoorPk13
import Derived.Test.YtnckmcnffadjoaaGreatDoorPk23
set_option maxRecDepth 100000
set_option maxHeartbeats 16000000
set_option linter.unusedSimpArgs false
namespace Go.Proofs.YtnckmcnffadjoaaGreatDoor
open Go.Proofs.Tryz
open Go.RowKit
variable {c:UInt8} {s:aj} {i k base b B:Nat} {o:iE} {w a w':World} {ps:List ez} {r:rm} {now:Int} {p:ez} {ws:List (bK bE)} {gs:List (aQ bE)} {gv wv bv:Value} {S:dF} {cs:aZ}
theorem afB(l:Bs):Lib.trimSuffix l [13]=ug l:=by
 unfold Lib.trimSuffix Lib.hasSuffix ug;rcases List.eq_nil_or_concat l with rfl|⟨a,b,rfl⟩
 ·rfl
 ·have h1:(List.isSuffixOf [13] (a.concat b)=true)↔b=13:=by
   rw[List.isSuffixOf_iff_suffix,List.concat_eq_append];constructor
   ·rintro⟨t,ht⟩;have:=(List.append_inj' ht rfl).2;simpa using this.symm
   ·rintro rfl;exact⟨a,rfl⟩
  have h2:(a.concat b).getLast?=some b:=by rw[List.concat_eq_append];simp
  rw[h2];by_cases hb:b=13
  ·rw[az (h1.2 hb),az (by rw[hb]),List.dropLast_eq_take];rfl
  ·rw[aq (fun h=>hb (h1.1 h)),aq (fun h=>hb (km h))]
theorem Hv(l:Bs):(ug l).length<=l.length:=by unfold ug;split<;>simp
theorem SY(h:¬0<=Lib.indexByte s.data.toList c):mL c s.data.toList=(s.data.toList,[],false) :=
 Gl c _ (fun hc=>(Iw _ _).1 h c hc rfl)
theorem Xc(h:Lib.indexByte s.data.toList c=(i:Int)):mL c s.data.toList=(s.data.toList.take i,s.data.toList.drop (i+1),true):=by
 obtain⟨he,hn⟩:=xx _ _ _ h;have:=KD c (s.data.toList.take i) (s.data.toList.drop (i+1)) hn;rw[<-he]at this;exact this
theorem BL(c:UInt8):∀d:Bs,(eh c d).length<=d.length+1/\∀p∈eh c d,p.length<=d.length
 |[]=>by simp[eh]
 |x :: d=>by
  have ih:=BL c d;by_cases hx:x=c
  ·subst hx;rw[rL];refine⟨bH,fun p hp=>?_⟩;rcases bC.1 hp with rfl|hp
   ·simp
   ·have:=ih.2 p hp;simp;omega
  ·cases e:eh c d with
   |nil=>exact absurd e (xr c d)
   |cons q qs =>
    rw[e]at ih;rw[ot hx e];refine⟨by simp at ih ⊢; omega,fun p hp=>?_⟩;rcases bC.1 hp with rfl|hp
    ·have:=ih.2 q (cM ..);simp;omega
    ·have:=ih.2 p (bN _ hp);simp;omega
def O'(s:aj)(w:World)(e:Ending)(w':World):Prop :=
 Fr aS w w'/\match mW s.data.toList with
 | .ok ps=>∃v,e=.returned (.tuple #[v,.nilIface])/\OwnRows w.heap.size 171 2 w' v (ps.map oG)
 | .error n=>∃er,e=.returned (.tuple #[.slice none 0 0,er])/\V5 n er w'
def akx(L:List Bs)(w:World)(out t:Value)(wr:World):Prop :=
 ∃(k:Nat) (acc:List jF),k<=L.length/\t=.int .i64 k/\OwnRows w.heap.size 171 2 wr out (acc.map oG)/\lf L []=lf (L.drop k) acc/\acc.length<=40/\Fr aS w wr
theorem Mv{L:List Bs}{x:Bs}{acc:List jF}(h:L[k]?=some x):lf (L.drop k) acc=match Dy x with
  |none=>.error 3
  |some none=>lf (L.drop (k+1)) acc
  |some (some p)=>if acc.length=40 then .error 4 else lf (L.drop (k+1)) (acc++[p]):=by
 have hk:=(List.getElem?_eq_some_iff.1 h).1;have hx:L.drop k=x :: L.drop (k+1):=by
  rw[cX hk];have:=(List.getElem?_eq_some_iff.1 h).2;rw[this]
 rw[hx,lf];rfl
theorem Pc(s:aj)(w:World)(hs:s.size<100000) :
  aB 64 #[.string s] w (O' s w):=by
 by_cases h3:3000<s.size
 ·have h3':(3000:Int)<(s.size:Int):=ab;have HE:=O (show mW s.data.toList=.error 4 by unfold mW;rw[az (show 3000<s.data.toList.length from h3)]);go_enter func64,ntmps64;go_wp2;go_ret2;refine⟨ae _ _,?_⟩;rw[HE.o];exact⟨_,rfl,Or.inl rfl⟩
 ·have h3':¬(3000:Int)<(s.size:Int):=ab;have HE:=O (show mW s.data.toList=lf (eh 10 s.data.toList) []by unfold mW;rw[aq (show¬3000<s.data.toList.length from h3)]);have hle:=BL 10 s.data.toList;have xn:=O (yK s 10 w ab);obtain⟨L,hL⟩:∃L,L=eh 10 s.data.toList:=⟨_,rfl⟩;obtain⟨B,hB⟩:∃B,B=ji 10 s:=⟨_,rfl⟩;have hBL:B=L.map fun l=>(⟨l.toArray⟩:aj):=by rw[hB,hL];rfl
  have hlen:B.length=L.length:=by rw[hBL,ai]
  rw[<-hL]at HE hle;rw[<-hB]at xn;have Y_:=O hle;have hL1:L.length<=3001:=by have h:=hle.1;have h2:s.data.toList.length=s.size:=rfl;omega
  have pn:=O hBL;have VM:=O (show∀p∈L,p.length<=3000 from fun p hp=>by have h:=hle.2 p hp;have h2:s.data.toList.length=s.size:=rfl;omega);clear hle hL hB hBL;go_enter func64,ntmps64;go_wp2_with fail
  refine xn.o.mono ?_;rintro e w0⟨rfl,hw0⟩;have pq:Fr aS w w0:=by rw[hw0];exact(ae _ _).alloc _
  have tH:w0.heap[w.heap.size]?=some (.cells (B.map Value.string).toArray 9 (0,0)):=by rw[hw0];exact aC _ _
  have HC:=O (show∀U,Fr aS w0 U->∀(k:Nat) x,L[k]?=some x->U.cell? ⟨w.heap.size,k,none⟩=some (.string ⟨x.toArray⟩)from fun U hU k x hx=>by
   have h:=hU.keep tH id;have e:(B.map Value.string)[k]?=some (.string ⟨x.toArray⟩):=by rw[List.getElem?_map,pn.o,List.getElem?_map,hx];rfl
   simp only[World.cell?,h];simpa using e)
  have YK:=O pq;rw[hlen];clear hw0 pq tH xn pn hlen;go_wp2;go_loopw[4,17] (akx L w0) (fun _ t _=>L.length-(intOf t).toNat)
  case atStart=>exact⟨0,[],aL _,rfl,dB _ _ _ _,by rw[eI],ag,ae _ _⟩
  case round =>
   obtain⟨k,acc,hk,rfl,ho,hn,ahy,cP⟩:=hrel;obtain⟨ao,co,Ng⟩:=ho.form;rw[ai]at Ng;subst Ng;by_cases fe:k<L.length
   ·have pE:(k:Int)<(L.length:Int):=ab;have dS:=O (List.getElem?_eq_getElem fe);have iJ:=O (bO fe);generalize L[k]=x at dS iJ;have hxz:=VM.o x iJ.o;have c0:=HC.o wr cP k x dS.o;obtain⟨lb,YS⟩:∃lb:aj,lb=⟨x.toArray⟩:=⟨_,rfl⟩;have Gr:lb.data.toList=x:=by rw[YS]
    rw[<-YS]at c0;obtain⟨y,hy⟩:∃y:aj,y=⟨(Lib.trimSuffix lb.data.toList [13]).toArray⟩:=⟨_,rfl⟩;have hyl:y.data.toList=ug x:=by rw[hy,Gr,afB]
    have hyz:y.size<=3000:=by
     have h:=Hv x;have h2:y.data.toList.length=y.size:=rfl;rw[hyl]at h2;omega
    have Nj:lb.size<=3000:=by have h2:lb.data.toList.length=lb.size:=rfl;rw[Gr]at h2;omega
    have HTS:=O (show aB 126 #[.string lb,.string ⟨#[13]⟩] wr fun e w'=>e=.returned (.string y)/\wr=w' from(strings_TrimSuffix lb ⟨#[13]⟩ wr ab).mono (by rintro e w' ⟨rfl,rfl⟩;exact⟨by rw[hy],rfl⟩));have lO:=O (Mv (acc:=acc) dS.o);have HN:=O hn;have HO:=O ho
    have HLR:=O (show Dy x=if y.data.toList.isEmpty then some none else if !(mL 58 y.data.toList).2.2||!Bc (mL 58 y.data.toList).1 then none else some (some ((mL 58 y.data.toList).1,trimB (mL 58 y.data.toList).2.1))by rw[hyl];rfl);clear YS Gr hy hyl hn ho;have TT:y.toList=y.data.toList:=aP _;by_cases hy0:y.size=0
    ·have Fs:=hZ.2 hy0;have afC:y.toList=[]:=by rw[TT];exact Fs
     have ap_:(y.toList== [])=true:=by rw[afC];rfl
     have HR:=O (show lf L []=lf (L.drop (k+1)) acc by rw[HN.o,lO.o,HLR.o,Fs];rfl);clear TT Fs;go_wp2_with fail
     refine HTS.o.mono ?_;rintro e u⟨rfl,rfl⟩;go_wp2;go_roundw
     case rel=>exact⟨k+1,acc,ab,bg,HO.o,HR.o,ahy,cP⟩
     case measure=>simp[intOf];omega
    ·have Fs:¬y.data.toList=[]:=fun h=>hy0 (hZ.1 h);have afC:¬y.toList=[]:=by rw[TT];exact Fs
     have ap_:(y.toList== [])=false:=by rw[aO];exact afC
     have Pd:=O (show Dy x=if !(mL 58 y.data.toList).2.2||!Bc (mL 58 y.data.toList).1 then none else some (some ((mL 58 y.data.toList).1,trimB (mL 58 y.data.toList).2.1))by
      rw[HLR.o,aq (by simpa using Fs)])
     clear TT Fs HLR;by_cases xu:0<=Lib.indexByte y.data.toList 58
     ·obtain⟨i,hi⟩:∃i:Nat,Lib.indexByte y.data.toList 58=(i:Int):=⟨(Lib.indexByte y.data.toList 58).toNat,ab⟩;have hil:i<y.size:=Vg hi;have hcut:=Xc hi;obtain⟨nm,Yr⟩:∃nm:aj,nm=y.extract 0 i:=⟨_,rfl⟩;obtain⟨vl,TJ⟩:∃vl:aj,vl=y.extract (i+1) y.size:=⟨_,rfl⟩;have se:nm.data.toList=y.data.toList.take i:=by rw[Yr,o8];simp
      have afD:vl.data.toList=y.data.toList.drop (i+1):=by
       rw[TJ,o8];exact aD (by rw[bM];exact ay _)
      have hnz:nm.size<=3000:=by
       have h2:nm.data.toList.length=nm.size:=rfl;rw[se,aJ]at h2;have h3:y.data.toList.length=y.size:=rfl;omega
      have hvz:vl.size<=3000:=by
       have h2:vl.data.toList.length=vl.size:=rfl;rw[afD,bM]at h2;have h3:y.data.toList.length=y.size:=rfl;omega
      have Iy:=O (KK y 58 i wr ab hi hil);rw[<-Yr, <-TJ]at Iy;rw[hcut]at Pd;simp only at Pd;rw[<-se, <-afD]at Pd;clear Yr TJ se afD hcut;cases Jv:Bc nm.data.toList
      ·have HR:=O (show mW s.data.toList=.error 3 by rw[HE.o,HN.o,lO.o,Pd.o,Jv];rfl);have HIS:=O (fun U=>Di nm U ab);rw[Jv]at HIS;clear Jv hi xu;go_wp2_with fail
       refine HTS.o.mono ?_;rintro e u⟨rfl,rfl⟩;go_wp2_with fail
       refine Iy.o.mono ?_;rintro e u⟨rfl,n,rfl⟩;go_wp2_with fail
       refine(HIS.o _).mono ?_;rintro e u⟨rfl,rfl⟩;have tH:=aC (wr.drewN n) (.cells #[.int .i64 3,.int .i64 k] 213);have HBK:=O tH;have Rt:=O ((cP.drewN n).alloc (.cells #[.int .i64 3,.int .i64 k] 213));clear tH;go_wp2;go_ret2;refine⟨YK.o.trans Rt.o,?_⟩;rw[HR.o];exact⟨_,rfl,Or.inr ⟨_,k,rfl,HBK.o⟩⟩
      ·by_cases Il:acc.length=40
       ·have HR:=O (show mW s.data.toList=.error 4 by rw[HE.o,HN.o,lO.o,Pd.o,Jv];simp[Il]);have HIS:=O (fun U=>Di nm U ab);rw[Jv]at HIS;have i40:(acc.length:Int)=40:=ab;clear Jv hi xu;go_wp2_with fail
        refine HTS.o.mono ?_;rintro e u⟨rfl,rfl⟩;go_wp2_with fail
        refine Iy.o.mono ?_;rintro e u⟨rfl,n,rfl⟩;go_wp2_with fail
        refine(HIS.o _).mono ?_;rintro e u⟨rfl,rfl⟩;have Rt:=O (cP.drewN n);go_wp2;go_ret2;refine⟨YK.o.trans Rt.o,?_⟩;rw[HR.o];exact⟨_,rfl,Or.inl rfl⟩
       ·have HIS:=O (fun U=>Di nm U ab);have HTR:=O (fun U=>sV vl ⟨#[32,9]⟩ U ab ag ag ag);obtain⟨tv,htv⟩:∃tv:aj,tv=⟨(Lib.trimS vl.data.toList [32,9]).toArray⟩:=⟨_,rfl⟩;have Rh:tv.data.toList=trimB vl.data.toList:=by rw[htv];rfl
        have aqa:=O (show∀U,aB 128 #[.string vl,.string ⟨#[32,9]⟩] U fun e w'=>e=.returned (.string tv)/\Fr aS U w' from fun U=>by rw[htv];exact HTR.o U);have HPC:=O (show oG (nm.data.toList,tv.data.toList)=[.string nm,.string tv]by unfold oG;simp only[Uy]);have HR:=O (show lf L []=lf (L.drop (k+1)) (acc++[(nm.data.toList,tv.data.toList)])by rw[HN.o,lO.o,Pd.o,Jv,Rh];simp[Il]);rw[Jv]at HIS
        have i40:¬(acc.length:Int)=40:=ab;clear Jv hi xu htv Rh HTR;go_wp2_with fail
        refine HTS.o.mono ?_;rintro e u⟨rfl,rfl⟩;go_wp2_with fail
        refine Iy.o.mono ?_;rintro e u⟨rfl,n,rfl⟩;go_wp2_with fail
        refine(HIS.o _).mono ?_;rintro e u⟨rfl,rfl⟩;go_wp2_with fail
        refine(aqa.o _).mono ?_;rintro e u⟨rfl,hu⟩;have Wf:=O ((cP.drewN n).trans hu);have HOU:=O (HO.o.drewN (n:=n) |>.fr hu (fun _ _ h=>h));have hsu:w0.heap.size<=u.heap.size:=Wf.o.size;clear hu
        go_wp2_with (at_builtin;refine nY rfl _ _ 35 171 rfl 2 32 (.agg #[.string ⟨#[]⟩,.string ⟨#[]⟩]) underlying35 La rfl ag ag w0.heap.size (.slice ao acc.length co) (acc.map oG) rfl (HOU.o.alloc _) u.heap.size 1 [.string nm,.string tv] rfl rfl cC (fun i u hi=>by rw[World.cell?_alloc_mark];simpa using hi) (by rw[ai];omega) bH ?_;intro v' w4 fg CC)
        have j6:=O ((Wf.o.alloc (.cells #[.string nm,.string tv] 171)).fW CC (fun j hj=>HOU.o.block j hj));go_roundw
        case rel=>exact⟨k+1,acc++[(nm.data.toList,tv.data.toList)],ab,bg,by rw[bI,cF,dv,HPC.o];exact fg,HR.o,bH,j6.o⟩
        case measure=>simp[intOf];omega
     ·have hcut:=SY xu;have HR:=O (show mW s.data.toList=.error 3 by rw[HE.o,HN.o,lO.o,Pd.o,hcut];rfl);have Iy:=O (Gn y 58 wr xu);clear xu hcut;go_wp2_with fail
      refine HTS.o.mono ?_;rintro e u⟨rfl,rfl⟩;go_wp2_with fail
      refine Iy.o.mono ?_;rintro e u⟨rfl,rfl⟩;have tH:=aC u (.cells #[.int .i64 3,.int .i64 k] 213);have HBK:=O tH;have Rt:=O (cP.alloc (.cells #[.int .i64 3,.int .i64 k] 213));clear tH;go_wp2;go_ret2;refine⟨YK.o.trans Rt.o,?_⟩;rw[HR.o];exact⟨_,rfl,Or.inr ⟨_,k,rfl,HBK.o⟩⟩
   ·have pE:¬(k:Int)<(L.length:Int):=ab;have KJ:L.drop k=[]:=List.drop_of_length_le ab;have HR:=O (show mW s.data.toList=.ok acc by rw[HE.o,hn,KJ];rfl);have HO:=O ho;clear ho hn;go_wp2;go_ret2;refine⟨YK.o.trans cP,?_⟩;rw[HR.o];exact⟨_,rfl,HO.o.up YK.o.size⟩
theorem dD.eq{v w:dD}(h:∀i,v.part i=w.part i)(hn:v.now=w.now):v=w:=by
 cases v;cases w;simp only[dD.mk.injEq];exact⟨funext h,hn⟩
theorem dD.VZ(w:dD)(k:Nat):w.set k (w.part k)=w:=by
 refine dD.eq (fun i=>?_) rfl;unfold dD.set;show(if i=k then w.part k else w.part i)=w.part i;split
 ·rename_i h;rw[h]
 ·rfl
theorem dD.aeE(w:dD)(k:Nat)(p:dR):(w.set k p).part k=p:=by unfold dD.set;simp
theorem dD.aag(w:dD){k i:Nat}(p:dR)(h:i≠k):(w.set k p).part i=w.part i:=by unfold dD.set;simp[h]
theorem tA{w:dD}(h:o.right=false):iK w o=(w,rep 7):=by unfold iK;rw[h];rfl
theorem qE{w:dD}(h:o.right=true)(hw:o.what≠10):iK w o=(w.set o.part.toNat (sJ (w.part o.part.toNat) w.now o).1,(sJ (w.part o.part.toNat) w.now o).2):=by
 unfold iK;rw[az h,aq hw]
theorem sg{w:dD}(h:o.right=true)(hw:o.what=10):iK w o=if o.n<0\/1099511627776-w.now<o.n then(w,rep 7)else({w with now:=w.now+o.n},rep 1):=by
 unfold iK;rw[az h,az hw]
theorem iX(h:o.right=true):0<=o.part/\o.part<4:=by
 unfold iE.right iE.VY at h;simp only[cy,du]at h;exact⟨h.2.2.1.1,h.2.2.1.2.1⟩
abbrev kZ := @dD.aeE
abbrev ni := @dD.aag
abbrev pg := @dD.VZ
theorem j9{P:Program}{ops:Array Oper}{a:Act}{w:World}{K:Act->World->Prop}{Q:Exit->Act->World->Prop}{E:Prop}{o:Oper}(zm:o.guard=none)(ty:TypeId)(x y:Operand)(ho:o.op=.store ty x y)
  (g:Nat)(cells:bT)(hx:a.eval x=.pointer (some ⟨g,0,none⟩))(hy:a.eval y=.agg cells)
  (t:TypeId)(old:bT)(hg:w.heap[g]?=some (.cells old t (0,0)))(hi:(P.info? ty).map (·.size)=some cells.size)
  (hold:old.size=cells.size)(h1:cells.all (·.oneCell')=true)(h:K (a.put o.dst undef) (w.setRow g cells)):if Region.wanted o (yielded ops a.tmps)=true then Oper.wp P o a w K Q else E:=by
 have hw:Region.wanted o (yielded ops a.tmps)=true:=by simp[Region.wanted,zm]
 rw[az hw];exact wp_store_row ty x y ho g cells hx hy t old hg hi hold h1 h
def Ww(xs:List nA)(w:World)(e:Ending)(w':World):Prop :=
 Fr aS w w'/\∃r:fQ Value,r.Reads (Strs w.heap.size w') (ju xs)/\e=.returned (.tuple #[.agg r.cells.toArray,.bool (decide (0<(ju xs).scheme))])
def ajX(w:World)(xs:List nA)(t:Value)(wr:World):Prop :=
 ∃(k:Nat) (r:fQ Value),k<=xs.length/\t=.int .i64 k/\wr.heap[w.heap.size]?=some (.cells gV 112 (0,0))/\fY wr (w.heap.size+1) r/\r.Reads (Strs w.heap.size wr) (ju (xs.take k))/\Fr aS w wr
theorem Reads.apA{r:fQ Value}{a:fQ bE}(h:r.Reads (Strs base w) a):r.dom.oneCell'=true:=by
 obtain⟨x,c,e⟩:=h.2.2.2.2.2.2.2.form;rw[e];rfl
theorem OM(base:Nat)(w:World):jA.Reads (Strs base w) P2:=⟨rfl,rfl,rfl,rfl,rfl,rfl,rfl,ld _ _⟩
theorem Strs.upS{b':Nat}{v:Value}{ss:List aj}(h:Strs b' w v ss)(hb:b<=b'):Strs b w v ss:=yt h hb
theorem Wx(v:Value)(xs:List nA)(w:World)(h:uZ w v xs)(_hl:xs.length<=1000000)(hz:∀x∈xs,x.Fit) :
  aB 55 #[v] w (Ww xs w):=by
 obtain⟨av,cv,hv⟩:=h.form;subst hv;obtain⟨w2,eG⟩:∃w2,w2=(w.alloc (.cells gV 112)).alloc (.cells gV 112):=⟨_,rfl⟩;have dk:Fr aS (w.alloc (.cells gV 112)) w2:=by rw[eG];exact(ae _ _).alloc _
 have oF:w2.heap[w.heap.size]?=some (.cells gV 112 (0,0)):=dk.keep (aC w _) id;have kJ:fY w2 (w.heap.size+1) jA:=by
  rw[eG];have:=aC (w.alloc (.cells gV 112)) (.cells gV 112);rw[show(w.alloc (.cells gV 112)).heap.size=w.heap.size+1 from aR]at this;exact this
 have dE:Fr aS w w2:=((ae aS w).alloc _).trans dk;have nP:=O eG;clear eG dk;go_enter func55,ntmps55;go_wp2_with fail
 rw[<-nP.o];go_loopw[11] (ajX w xs) (fun t _=>xs.length-(intOf t).toNat)
 case atStart=>exact⟨0,jA,aL _,rfl,oF,kJ,OM _ _,dE⟩
 case round =>
  obtain⟨k,r,hk,rfl,vL,yd,Hn,cP⟩:=hrel;by_cases fe:k<xs.length
  case pos =>
   have pE:(k:Int)<(xs.length:Int):=ab;have dS:=O (List.getElem?_eq_getElem fe);have HZ:=O (hz _ (bO fe));generalize xs[k]=x at dS HZ;obtain⟨bk,of,pv,rfl,h1,h2,c0,c1,c2,hp⟩:=(h.fN cP).cells dS.o;unfold maxLen at h2;have HBT:=O (show ju (xs.take (k+1))=pW (ju (xs.take k)) x by rw[cj,dS.o];exact Nz _ _);obtain⟨a1,c1',e1⟩:=hp.form;subst e1
   obtain⟨wb,kj⟩:∃wb,wb=wr.alloc (.cells #[.string (bA x.scheme),.string (bA x.token),.slice a1 x.params.length c1'] 198):=⟨_,rfl⟩;have kC:Fr aS wr wb:=by rw[kj];exact(ae aS wr).alloc _
   have Zp:kU wb wr.heap.size (bA x.scheme) (bA x.token) (.slice a1 x.params.length c1'):=by rw[kj];exact aC _ _
   have x0:=Zp.cell0;have x1:=Zp.ib;have x2:=Zp.mg;have KN:=O (SE x _ wb (bh hp kC) HZ.o);have ri:=O kj;have hsb:w.heap.size+1<wb.heap.size:=by have:=bq (kC.keep yd id);exact this
   clear kj hp;go_wp2_with fail
   rw[<-ri.o];refine KN.o.mono ?_;intro e w3 hkp;obtain⟨iz,ZI⟩:=hkp;have Wy:=(kC.trans iz).keep vL id;have afc:fY w3 (w.heap.size+1) r:=(kC.trans iz).keep yd id;have aaP:r.Reads (Strs w.heap.size w3) (ju (xs.take k)):=Hn.mono (fun u l hu=>hu.fr (kC.trans iz) (fun _ h=>h.elim));have il:=O ((cP.trans kC).trans iz);have Ut:w.heap.size+1<w3.heap.size:=cK hsb iz.size;clear x0 x1 x2 c0 c1 c2 Zp vL yd Hn
   cases RJ:nr x with
   |none =>
    rw[RJ]at ZI;subst ZI;have qj:=O (show ju (xs.take (k+1))=ju (xs.take k)by rw[HBT.o];unfold pW;rw[RJ]);have jx:=fun W=>run_storeCells_new (P:=prog) W 112 gV gV.toList rfl Sx;have kS:Fr aS w3 (w3.alloc (.cells gV 112)):=(ae _ _).alloc _;have QP:=kS.keep Wy id;have OO:fY (w3.alloc (.cells gV 112)) (w.heap.size+1) r:=kS.keep afc id
    have afd:r.Reads (Strs w.heap.size (w3.alloc (.cells gV 112))) (ju (xs.take k)):=aaP.mono (fun u l hu=>hu.fr kS (fun _ h=>h.elim));have j6:=O (il.o.trans kS);clear RJ;go_wp2;go_roundw
    case rel=>exact⟨k+1,r,ab,bg,QP,OO,by rw[qj.o];exact afd,j6.o⟩
    case measure=>simp[intOf];omega
   |some a =>
    rw[RJ]at ZI;obtain⟨r2,aaQ,rfl⟩:=ZI;have ef:=O (Jn r2 (Reads.apA aaQ));obtain⟨y,hy⟩:∃y,y=r2.cells.toArray:=⟨_,rfl⟩;have Du:y.size=8:=by rw[hy];rfl
    have HY:=O hy;have ZT:y.all (·.oneCell')=true:=by rw[hy];exact ef.o
    have zj:(prog.info? 112).map (·.size)=some y.size:=by rw[Du];kernel_rfl
    have hyz:gV.size=y.size:=by rw[Du];rfl
    have hrz:r.cells.toArray.size=y.size:=by rw[Du];rfl
    obtain⟨w4,qQ⟩:∃w4,w4=w3.alloc (.cells y 112):=⟨_,rfl⟩;have kS:Fr aS w3 w4:=by rw[qQ];exact(ae _ _).alloc _
    have ajZ:fY w4 w3.heap.size r2:=by rw[qQ,hy];exact aC _ _
    have QP:=kS.keep Wy id;have OO:fY w4 (w.heap.size+1) r:=kS.keep afc id;have afd:r.Reads (Strs w.heap.size w4) (ju (xs.take k)):=aaP.mono (fun u l hu=>hu.fr kS (fun _ h=>h.elim));have apD:r2.Reads (Strs w.heap.size w4) a:=aaQ.mono (fun u l hu=>(hu.upS ab).fr kS (fun _ h=>h.elim));have j6:=O (il.o.trans kS);have OG:=O qQ
    have n0:w4.cell? ⟨w3.heap.size,0,none⟩=some (.int .i64 a.scheme):=by rw[<-aaQ.1];exact ajZ.cell rfl
    have m0:w4.cell? ⟨w.heap.size+1,0,none⟩=some (.int .i64 (ju (xs.take k)).scheme):=by rw[<-aaP.1];exact OO.cell rfl
    have aj0:=O (show ju (xs.take (k+1))=if(ju (xs.take k)).scheme<a.scheme then a else ju (xs.take k)by rw[HBT.o];unfold pW;rw[RJ]);have hs4:w3.heap.size<w4.heap.size:=by rw[qQ];simp
    rw[<-hy];clear RJ hy qQ Wy afc aaP aaQ;by_cases sS:(ju (xs.take k)).scheme<a.scheme
    case pos =>
     have qj:=O (show ju (xs.take (k+1))=a by rw[aj0.o,az sS]);obtain⟨w5,hw5⟩:∃w5,w5=w4.setRow (w.heap.size+1) y:=⟨_,rfl⟩;have lN:Fr (one (w.heap.size+1)) w4 w5:=by rw[hw5];exact(ae (one (w.heap.size+1)) w4).setRow (fun _=>rfl) y
     have GL:=O hw5;have aj1:=lN.keep QP (fun h=>by have h':w.heap.size=w.heap.size+1:=h;omega);have apE:fY w5 (w.heap.size+1) r2:=by rw[hw5,HY.o];unfold fY;simp[World.setRow,Array.getElem?_modify,show w4.heap[w.heap.size+1]?=_ from OO]
     have apF:r2.Reads (Strs w.heap.size w5) a:=apD.mono (fun u l hu=>hu.aaJ lN OO ag);have v_:=O (j6.o.step lN (fun k hk h=>by have h':k=w.heap.size+1:=h;omega));clear hw5 lN
     go_wp2_with (first|((with_reducible refine kD ⟨none,.store 112 (.tmp 7) (.tmp 18),_,_,_,_⟩ ?_);refine pX rfl 112 (.tmp 7) (.tmp 18) rfl gV y rfl rfl zj hyz ZT ?_;rw[<-OG.o])|((with_reducible refine dr 28 ?_);refine aI rfl 112 (.tmp 7) rfl w3.heap.size rfl 112 y (0,0) _ (by rw[HY.o];exact ajZ) underlying112 rfl zj ?_)|((with_reducible refine kD ⟨none,.store 112 (.tmp 4) (.tmp 28),_,_,_,_⟩ ?_);refine aF rfl 112 (.tmp 4) (.tmp 28) rfl (w.heap.size+1) y rfl rfl 112 r.cells.toArray OO zj hrz ZT ?_;rw[<-GL.o])|fail)
     go_roundw
     case rel=>exact⟨k+1,r2,ab,bg,aj1,apE,by rw[qj.o];exact apF,v_.o⟩
     case measure=>simp[intOf];omega
    case neg =>
     have qj:=O (show ju (xs.take (k+1))=ju (xs.take k)by rw[aj0.o,aq sS]);go_wp2_with (first|((with_reducible refine kD ⟨none,.store 112 (.tmp 7) (.tmp 18),_,_,_,_⟩ ?_);refine pX rfl 112 (.tmp 7) (.tmp 18) rfl gV y rfl rfl zj hyz ZT ?_;rw[<-OG.o])|fail)
     go_roundw
     case rel=>exact⟨k+1,r,ab,bg,QP,OO,by rw[qj.o];exact afd,j6.o⟩
     case measure=>simp[intOf];omega
  case neg =>
   have pE:¬(k:Int)<(xs.length:Int):=ab;have iI:xs.take k=xs:=aD ab;rw[iI]at Hn;have b0:=yd.cell (i:=0) rfl;have b1:=yd.cell (i:=1) rfl;have b2:=yd.cell (i:=2) rfl;have b3:=yd.cell (i:=3) rfl;have b4:=yd.cell (i:=4) rfl;have b5:=yd.cell (i:=5) rfl;have b6:=yd.cell (i:=6) rfl;have b7:=yd.cell (i:=7) rfl;obtain⟨da,dc,hd⟩:=Hn.2.2.2.2.2.2.2.form;rw[hd]at b7;have Wb:=O Hn;have HD:=O hd;have qD:=O cP
   have z:∀i u,gV[i]?=some u->wr.cell? ⟨w.heap.size,i,none⟩=some u:=fun i u hu=>by simp only[World.cell?,vL];simpa using hu
   have zf:∀i,wr.frozen? ⟨w.heap.size,i,none⟩=false:=fun i=>by simp[World.frozen?,vL]
   have z0:=z 0 _ rfl;have f0:=zf 0;have z1:=z 1 _ rfl;have f1:=zf 1;have z2:=z 2 _ rfl;have f2:=zf 2;have z3:=z 3 _ rfl;have f3:=zf 3;have z4:=z 4 _ rfl;have f4:=zf 4;have z5:=z 5 _ rfl;have f5:=zf 5;have z6:=z 6 _ rfl;have f6:=zf 6;have z7:=z 7 _ rfl;have f7:=zf 7;clear z zf;have gO:=O vL;clear hd vL yd Hn cP;go_wp2_with fail
   go_region
   all_goals
    have pD:fY wr w.heap.size jA:=gO.o
    have Bq:=((((((((pD.set 0 (.int .i64 r.scheme) (r':={jA with scheme:=r.scheme}) rfl).set 1 (.string r.aM) (r':={jA with scheme:=r.scheme,aM:=r.aM}) rfl).set 2 (.string r.bu) (r':={jA with scheme:=r.scheme,aM:=r.aM,bu:=r.bu}) rfl).set 3 (.string r.cz) (r':={jA with scheme:=r.scheme,aM:=r.aM,bu:=r.bu,cz:=r.cz}) rfl).set 4 (.bool r.cD) (r':={jA with scheme:=r.scheme,aM:=r.aM,bu:=r.bu,cz:=r.cz,cD:=r.cD}) rfl).set 5 (.string r.eJ) (r':={jA with scheme:=r.scheme,aM:=r.aM,bu:=r.bu,cz:=r.cz,cD:=r.cD,eJ:=r.eJ}) rfl).set 6 (.bool r.cR) (r':={jA with scheme:=r.scheme,aM:=r.aM,bu:=r.bu,cz:=r.cz,cD:=r.cD,eJ:=r.eJ,cR:=r.cR}) rfl).set 7 (.slice da (ju xs).dom.length dc) (r':={jA with scheme:=r.scheme,aM:=r.aM,bu:=r.bu,cz:=r.cz,cD:=r.cD,eJ:=r.eJ,cR:=r.cR,dom:=.slice da (ju xs).dom.length dc}) rfl)
    have nL:=(((((((((ae (one w.heap.size) wr).setCell (p:=⟨w.heap.size,0,none⟩) (fun _=>rfl) (.int .i64 r.scheme)).setCell (p:=⟨w.heap.size,1,none⟩) (fun _=>rfl) (.string r.aM)).setCell (p:=⟨w.heap.size,2,none⟩) (fun _=>rfl) (.string r.bu)).setCell (p:=⟨w.heap.size,3,none⟩) (fun _=>rfl) (.string r.cz)).setCell (p:=⟨w.heap.size,4,none⟩) (fun _=>rfl) (.bool r.cD)).setCell (p:=⟨w.heap.size,5,none⟩) (fun _=>rfl) (.string r.eJ)).setCell (p:=⟨w.heap.size,6,none⟩) (fun _=>rfl) (.bool r.cR)).setCell (p:=⟨w.heap.size,7,none⟩) (fun _=>rfl) (.slice da (ju xs).dom.length dc))
    generalize ((((((((wr.setCell ⟨w.heap.size,0,none⟩ (.int .i64 r.scheme)).setCell ⟨w.heap.size,1,none⟩ (.string r.aM)).setCell ⟨w.heap.size,2,none⟩ (.string r.bu)).setCell ⟨w.heap.size,3,none⟩ (.string r.cz)).setCell ⟨w.heap.size,4,none⟩ (.bool r.cD)).setCell ⟨w.heap.size,5,none⟩ (.string r.eJ)).setCell ⟨w.heap.size,6,none⟩ (.bool r.cR)).setCell ⟨w.heap.size,7,none⟩ (.slice da (ju xs).dom.length dc))=w6 at Bq nL ⊢
    have CM:({jA with scheme:=r.scheme,aM:=r.aM,bu:=r.bu,cz:=r.cz,cD:=r.cD,eJ:=r.eJ,cR:=r.cR,dom:=.slice da (ju xs).dom.length dc}:fQ Value)=r:=by rw[<-HD.o]
    rw[CM]at Bq;have apG:r.Reads (Strs w.heap.size w6.drew) (ju xs):=Wb.o.mono (fun u l hu=>(hu.aaJ nL gO.o ag).drew);have xo:=O (qD.o.step nL (fun k hk h=>by have h':k=w.heap.size:=h;omega));have EK:fY w6.drew w.heap.size r:=Bq;have d0:=EK.cell (i:=0) rfl;have d1:=EK.cell (i:=1) rfl;have d2:=EK.cell (i:=2) rfl;have d3:=EK.cell (i:=3) rfl;have d4:=EK.cell (i:=4) rfl;have d5:=EK.cell (i:=5) rfl
    have d6:=EK.cell (i:=6) rfl;have d7:=EK.cell (i:=7) rfl;have hsc:r.scheme=(ju xs).scheme:=Wb.o.1;clear Bq nL pD;go_wp2;refine aW (results_cell_tmp bD _ _ w.heap.size 112 r.cells.toArray (0,0) _ rfl EK underlying112 rfl af) rfl ?_;exact⟨xo.o.drewN 1,r,apG,by rw[<-hsc];rfl⟩
theorem Xd(c:UInt8)(l:Bs):(mL c l).1.length<=l.length/\(mL c l).2.1.length<=l.length:=by
 rcases(P3 c l).2 with ⟨_,e⟩|⟨_,e,e2⟩
 ·have h:=ar List.length e;rw[aK,List.length_cons]at h;exact⟨ab,ab⟩
 ·exact⟨by have h:=ar List.length e;omega,by rw[e2];exact aL _⟩
theorem Mw{l:Bs}{p:jF}(h:Dy l=some (some p)):p.1.length<=l.length/\p.2.length<=l.length:=by
 unfold Dy at h;split at h
 ·cases h
 ·split at h
  ·cases h
  ·cases h;have h1:=Xd 58 (ug l);have h2:=Hv l;have h3:=KL (mL 58 (ug l)).2.1 [32,9];refine⟨by show(mL 58 (ug l)).1.length<=_;omega,?_⟩;show(trimB _).length<=_;unfold trimB;omega
theorem tX(N:Nat):∀(ls:List Bs) (acc out:List jF),lf ls acc=.ok out->acc.length<=40->(∀l∈ls,l.length<=N)->(∀p∈acc,p.1.length<=N/\p.2.length<=N)->out.length<=40/\∀p∈out,p.1.length<=N/\p.2.length<=N
 |[],acc,out,h,ha,_,hp=>by rw[lf]at h;cases h;exact⟨ha,hp⟩
 |l :: ls,acc,out,h,ha,hl,hp=>by
  rw[lf]at h;cases hr:Dy l with
  |none=>rw[hr]at h;cases h
  |some q =>
   rw[hr]at h;cases q with
   |none=>exact tX N ls acc out h ha (fun m hm=>hl m (bN _ hm)) hp
   |some p =>
    simp only at h;split at h
    ·cases h
    ·rename_i hn;refine tX N ls (acc++[p]) out h (by rw[aK];simp only[List.length_cons,List.length_nil];omega) (fun m hm=>hl m (bN _ hm)) (fun x hx=>?_);rcases bL.1 hx with hx|hx
     ·exact hp x hx
     ·rw[cH.1 hx];have h1:=Mw hr;have h2:=hl l (cM ..);exact⟨ab,ab⟩
theorem Jw{s:Bs}{x:List jF}(h:mW s=.ok x):lK x:=by
 unfold mW at h;split at h
 ·cases h
 ·have h1:=tX 3000 _ _ _ h (aL _) (fun l hl=>by have:=(BL 10 s).2 l hl;omega) (fun _ hp=>by cases hp);exact⟨ab,fun p hp=>by have:=h1.2 p hp;omega⟩
def akz(ps:List ez)(r:rm)(now:Int)(w1:World)(out t:Value)(wr:World):Prop :=
 ∃k:Nat,k<=ps.length/\t=.int .i64 k/\OwnRows w1.heap.size 155 12 wr out ((jm (ps.take k) r now).map ez.cells)/\Fr aS w1 wr
theorem aa7(h:ps[k]?=some p)(hm:r.UJ now p=true):jm (ps.take (k+1)) r now=jm (ps.take k) r now++[p]:=by
 unfold jm;rw[d_ h,cG];simp[hm]
theorem Xe(h:ps[k]?=some p)(hm:r.UJ now p=false):jm (ps.take (k+1)) r now=jm (ps.take k) r now:=by
 unfold jm;rw[d_ h,cG];simp[hm]
theorem aa8(base:Nat)(w:World)(b:Nat)(v:Value)(ps:List ez)(r:gC Value)(hs:List ig)(now:Int)(h:eU base w b v ps)(hlen:ps.length<1000000) :
  aB 63 #[.pointer (some ⟨b,0,none⟩),.agg r.cells.toArray,.int .i64 now] w fun e w'=>∃v',e=.returned v'/\OwnRows w.heap.size 155 12 w' v' ((jm ps (r.dW hs) now).map ez.cells)/\Fr aS w w':=by
 obtain⟨rc,uX⟩:∃rc,rc=r.cells.toArray:=⟨_,rfl⟩;obtain⟨w1,oJ⟩:∃w1,w1=w.alloc (.cells rc 37):=⟨_,rfl⟩;have dk:Fr aS w w1:=by rw[oJ];exact(ae _ _).alloc _
 have lZ:w1.heap[w.heap.size]?=some (.cells rc 37 (0,0)):=by rw[oJ];exact aC _ _
 have h1:=h.dm dk;obtain⟨ak,ck,T6⟩:=h.form;subst T6;have mE:dZ 12 w1 (.slice ak ps.length ck) (ps.map ez.cells):=h1.rows.at
 have HC:=O (show∀U,Fr aS w1 U->U.cell? ⟨w.heap.size,1,none⟩=some (.bool r.dt.aG)/\U.cell? ⟨w.heap.size,2,none⟩=some (.string r.dt.host)/\U.cell? ⟨w.heap.size,3,none⟩=some (.int .i64 r.dt.port)/\U.cell? ⟨w.heap.size,4,none⟩=some (.bool r.o.aG)/\U.cell? ⟨w.heap.size,5,none⟩=some (.string r.o.host)/\U.cell? ⟨w.heap.size,6,none⟩=some (.int .i64 r.o.port)/\U.cell? ⟨w.heap.size,7,none⟩=some (.string r.path)/\U.cell? ⟨w.heap.size,8,none⟩=some (.string r.query)/\U.cell? ⟨w.heap.size,11,none⟩=some (.bool r.f_)from fun U hU=>by
  have j:=hU.keep lZ id;rw[uX]at j;have hc:∀i u,r.cells[i]?=some u->U.cell? ⟨w.heap.size,i,none⟩=some u:=fun i u hu=>by simp only[World.cell?,j];simpa using hu
  exact⟨hc 1 _ rfl,hc 2 _ rfl,hc 3 _ rfl,hc 4 _ rfl,hc 5 _ rfl,hc 6 _ rfl,hc 7 _ rfl,hc 8 _ rfl,hc 11 _ rfl⟩)
 have HM:=O (show∀p:ez,(r.dW hs).UJ now p=(p.alive now&&(p.dt.lz r.dt&&((p.o.lz r.o&&(p.path.toList==r.path.toList&&p.query.toList==r.query.toList))&&(p.f_||!r.f_))))from fun _=>rfl);generalize r.dW hs=rl at HM ⊢;have c0:=h1.c0;rw[oJ]at c0;have IV:=O oJ;have ln:=O dk;have Cy:w.heap.size<=w1.heap.size:=dk.size;rw[<-uX];clear oJ dk lZ h1 h uX;go_enter func63,ntmps63;go_wp2_with fail
 rw[<-IV.o];go_loopw[7,15] (akz ps rl now w1) (fun _ t _=>ps.length-(intOf t).toNat)
 case atStart=>exact⟨0,aL _,rfl,dB _ _ _ _,ae _ _⟩
 case round =>
  obtain⟨k,hk,rfl,ho,cP⟩:=hrel;obtain⟨ao,co,Ng⟩:=ho.form;rw[ai]at Ng;subst Ng;have TI:(jm (ps.take k) rl now).length<=1000000:=by
   have h1:=bW (rl.UJ now) (ps.take k);rw[aJ]at h1;unfold jm;omega
  by_cases fe:k<ps.length
  ·have pE:(k:Int)<(ps.length:Int):=ab;have dS:=O (List.getElem?_eq_getElem fe);generalize ps[k]=p at dS;have ml:dZ 12 wr (.slice ak ps.length ck) (ps.map ez.cells):=bh mE cP;rcases ml.2 with ⟨_,_,_,e,_⟩|⟨bk,of,c,hf,g1,g2,g3,g4⟩
   ·have:ps.length=0:=by have:=ar List.length e;simpa using this
    omega
   rw[ai]at hf g1;cases hf;unfold maxLen at g2;obtain⟨x,hx⟩:∃x,x=p.cells:=⟨_,rfl⟩;have lM:x.length=12:=by rw[hx];rfl
   have ef:∀u∈x,u.oneCell'=true:=by rw[hx];exact p.uu
   have hcell:=g4 k x (by rw[List.getElem?_map,dS.o,hx];rfl);have jx:=fun W=>run_storeCells_new (P:=prog) W 155 FV x (by rw[lM];rfl) ef;have Ed:(prog.info? 155).map (·.size)=some x.length:=Bv lM;have afE:=O (show(prog.info? 155).map (·.size)=some x.toArray.size by rw[aX];exact Ed);clear g4 ml;have HX:=O hx;have I9:=O Ed;have xJ:=O ef;have aqb:=O (aC wr (.cells x.toArray 155))
   have dE:Fr aS wr (wr.alloc (.cells x.toArray 155)):=(ae _ _).alloc _;have HP:=O (show∀U,Fr aS (wr.alloc (.cells x.toArray 155)) U->U.heap[wr.heap.size]?=some (.cells x.toArray 155 (0,0))from fun U hU=>hU.keep (aC _ _) id)
   have HPC:=O (show∀U,Fr aS (wr.alloc (.cells x.toArray 155)) U->U.cell? ⟨wr.heap.size,0,none⟩=some (.bool p.dt.aG)/\U.cell? ⟨wr.heap.size,1,none⟩=some (.string p.dt.host)/\U.cell? ⟨wr.heap.size,2,none⟩=some (.int .i64 p.dt.port)/\U.cell? ⟨wr.heap.size,3,none⟩=some (.bool p.o.aG)/\U.cell? ⟨wr.heap.size,4,none⟩=some (.string p.o.host)/\U.cell? ⟨wr.heap.size,5,none⟩=some (.int .i64 p.o.port)/\U.cell? ⟨wr.heap.size,6,none⟩=some (.string p.path)/\U.cell? ⟨wr.heap.size,7,none⟩=some (.string p.query)/\U.cell? ⟨wr.heap.size,8,none⟩=some (.bool p.f_)from fun U hU=>by
    have j:=HP.o U hU;rw[HX.o]at j;have hc:∀i u,p.cells[i]?=some u->U.cell? ⟨wr.heap.size,i,none⟩=some u:=fun i u hu=>by simp only[World.cell?,j];simpa using hu
    exact⟨hc 0 _ rfl,hc 1 _ rfl,hc 2 _ rfl,hc 3 _ rfl,hc 4 _ rfl,hc 5 _ rfl,hc 6 _ rfl,hc 7 _ rfl,hc 8 _ rfl⟩)
   have Bg:=O (show∀U,aB 124 #[.agg x.toArray,.int .i64 now] U fun e w'=>e=.returned (.bool (p.alive now))/\Fr aS U w' from fun U=>by rw[HX.o];exact Hb p now U);have hwr:w.heap.size<=wr.heap.size:=by have:=cP.size;omega
   have qD:=O (cP.trans dE);have HO:=O (show∀U,Fr aS (wr.alloc (.cells x.toArray 155)) U->OwnRows w1.heap.size 155 12 U (.slice ao (jm (ps.take k) rl now).length co) ((jm (ps.take k) rl now).map ez.cells)from fun U hU=>(ho.alloc _).fr hU (fun _ _ h=>h));have Ud:=O (HM.o p);have EY:=O (fun hm=>aa7 (r:=rl) (now:=now) dS.o hm);have xe:=O (fun hm=>Xe (r:=rl) (now:=now) dS.o hm)
   obtain⟨fs,kR⟩:∃fs,fs=jm (ps.take k) rl now:=⟨_,rfl⟩;rw[<-kR]at HO EY xe TI ⊢;clear hx Ed ef ho dE cP kR;go_wp2_with (first|((with_reducible refine dr 18 ?_);refine aY rfl 155 (.tmp 17) rfl bk (of+k*12) rfl x _ hcell underlying155 rfl I9.o ?_)|((with_reducible refine dr 19 ?_);refine aI rfl 155 (.tmp 9) rfl wr.heap.size rfl _ x.toArray (0,0) _ aqb.o underlying155 rfl afE.o ?_)|fail)
   have GV:=wJ x #[.bool false,.string ⟨#[]⟩,.int .i64 0,.bool false,.string ⟨#[]⟩,.int .i64 0,.string ⟨#[]⟩,.string ⟨#[]⟩,.bool false,.string ⟨#[]⟩,.string ⟨#[]⟩,.int .i64 0] (by rw[lM];rfl);clear jx hcell;generalize wr.alloc (.cells x.toArray 155)=W2 at *
   refine(Bg.o W2).mono ?_;rintro e w3⟨rfl,iz⟩;obtain⟨p0,p1,p2,p3,p4,p5,p6,p7,p8⟩:=HPC.o w3 iz;have il:=O (qD.o.trans iz);obtain⟨r1,r2,r3,r4,r5,r6,r7,r8,r11⟩:=HC.o w3 il.o;have OU:=O (HP.o w3 iz);have yz:=O (HO.o w3 iz);have h33:w1.heap.size<=w3.heap.size:=il.o.size;have heq:=jG p.dt r.dt;have heu:=Ao p.o p.path p.query r.o r.path r.query;clear Bg HP HPC iz;cases ea:p.alive now
   ·have HN:=O (xe.o (by rw[Ud.o,ea];rfl));clear Ud EY xe ea heq heu;go_wp2;go_roundw
    case rel=>exact⟨k+1,ab,bg,by rw[HN.o];exact yz.o,il.o⟩
    case measure=>simp[intOf];omega
   ·cases e1:p.dt.lz r.dt
    ·rw[e1]at heq;have HN:=O (xe.o (by rw[Ud.o,ea,e1];rfl));clear Ud EY xe ea e1 heu;go_wp2;go_roundw
     case rel=>exact⟨k+1,ab,bg,by rw[HN.o];exact yz.o,il.o⟩
     case measure=>simp[intOf];omega
    ·rw[e1]at heq;cases e2:(p.o.lz r.o&&(p.path.toList==r.path.toList&&p.query.toList==r.query.toList))
     ·rw[e2]at heu;have HN:=O (xe.o (by rw[Ud.o,ea,e1,e2];rfl));clear Ud EY xe ea e1 e2;go_wp2;go_roundw
      case rel=>exact⟨k+1,ab,bg,by rw[HN.o];exact yz.o,il.o⟩
      case measure=>simp[intOf];omega
     ·rw[e2]at heu;cases e3:p.f_
      ·rw[e3]at p8;cases e4:r.f_
       ·rw[e4]at r11;have HY:=O (EY.o (by rw[Ud.o,ea,e1,e2,e3,e4];rfl));clear Ud EY xe ea e1 e2 e3 e4
        go_wp2_with (first|((with_reducible refine dr 46 ?_);refine aI rfl 155 (.tmp 9) rfl wr.heap.size rfl _ x.toArray (0,0) _ OU.o underlying155 rfl afE.o ?_)|(at_builtin;refine nY rfl _ _ 90 155 rfl 12 144 (.agg FV) underlying90 Bw rfl ag ag w1.heap.size (.slice ao fs.length co) (fs.map ez.cells) rfl (yz.o.alloc _) w3.heap.size 1 x rfl lM xJ.o (fun i u hi=>by rw[World.cell?_alloc_mark];simpa using hi) (by rw[ai];omega) bH ?_;intro v' w4 fg CC))
        have j6:=O ((il.o.alloc (.cells x.toArray 155)).fW CC (fun j hj=>yz.o.block j hj));go_roundw
        case rel=>exact⟨k+1,ab,bg,by rw[HY.o,bI,cF,dv, <-HX.o];exact fg,j6.o⟩
        case measure=>simp[intOf];omega
       ·rw[e4]at r11;have HN:=O (xe.o (by rw[Ud.o,ea,e1,e2,e3,e4];rfl));clear Ud EY xe ea e1 e2 e3 e4;go_wp2;go_roundw
        case rel=>exact⟨k+1,ab,bg,by rw[HN.o];exact yz.o,il.o⟩
        case measure=>simp[intOf];omega
      ·rw[e3]at p8;have HY:=O (EY.o (by rw[Ud.o,ea,e1,e2,e3];rfl));clear Ud EY xe ea e1 e2 e3
       go_wp2_with (first|((with_reducible refine dr 46 ?_);refine aI rfl 155 (.tmp 9) rfl wr.heap.size rfl _ x.toArray (0,0) _ OU.o underlying155 rfl afE.o ?_)|(at_builtin;refine nY rfl _ _ 90 155 rfl 12 144 (.agg FV) underlying90 Bw rfl ag ag w1.heap.size (.slice ao fs.length co) (fs.map ez.cells) rfl (yz.o.alloc _) w3.heap.size 1 x rfl lM xJ.o (fun i u hi=>by rw[World.cell?_alloc_mark];simpa using hi) (by rw[ai];omega) bH ?_;intro v' w4 fg CC))
       have j6:=O ((il.o.alloc (.cells x.toArray 155)).fW CC (fun j hj=>yz.o.block j hj));go_roundw
       case rel=>exact⟨k+1,ab,bg,by rw[HY.o,bI,cF,dv, <-HX.o];exact fg,j6.o⟩
       case measure=>simp[intOf];omega
  ·have pE:¬(k:Int)<(ps.length:Int):=ab;have Rh:ps.take k=ps:=aD ab;rw[Rh]at ho TI ⊢;obtain⟨fs,kR⟩:∃fs,fs=jm ps rl now:=⟨_,rfl⟩;rw[<-kR]at ho TI ⊢;have HO:=O ho;have HEQ:=O kR;clear ho kR;go_wp2;go_ret;exact⟨.slice ao fs.length co,rfl,by rw[<-HEQ.o];exact HO.o.up Cy,ln.o.trans cP⟩
def yh(ws:List (bK bE)):Prop:=ws.Pairwise fun x y=>Bt x.o x.proxy y=false
theorem EA{o:gG}{proxy:Bool}{x:bK bE}:Bt o proxy x=true↔x.o=o/\x.proxy=proxy:=by
 unfold Bt;rw[cy,gG.xp,dX]
theorem rH(o:gG)(proxy:Bool):∀ws:List (bK bE),(mB o proxy ws).1.Sublist ws
 |[]=>List.Sublist.slnil
 |g :: l=>by
  rw[mB];split
  ·exact List.sublist_cons_self _ _
  ·exact(rH o proxy l).cons_cons _
theorem EB{o:gG}{proxy:Bool}:∀ {ws:List (bK bE)},yh ws->∀x∈(mB o proxy ws).1,Bt o proxy x=false
 |[],_,x,hx=>by cases hx
 |g :: l,hu,x,hx=>by
  have hu':=List.pairwise_cons.1 hu;rw[mB]at hx;cases hg:Bt o proxy g
  ·rw[hg]at hx;simp only[cL,fa]at hx;rcases bC.1 hx with rfl|hx
   ·exact hg
   ·exact EB hu'.2 x hx
  ·rw[hg,az rfl]at hx;have hx:x∈l:=hx;obtain⟨e1,e2⟩:=EA.1 hg;have:=hu'.1 x hx;rw[e1,e2]at this;exact this
theorem yh.sub{l:List (bK bE)}(h:yh ws)(hs:l.Sublist ws):yh l:=List.Pairwise.sublist hs h
theorem yh.ask(h:yh ws)(m:bK bE):yh (Aj ws m):=by
 unfold Aj;refine yh.sub (ws:=(mB m.o m.proxy ws).1++[m]) ?_ (List.drop_sublist _ _);unfold yh;rw[List.pairwise_append];refine⟨h.sub (rH _ _ _),List.pairwise_singleton _ _,fun x hx y hy=>?_⟩;rw[cH]at hy;subst hy;have:=EB h x hx;rw[Bool.eq_false_iff]at this ⊢;intro e;obtain⟨e1,e2⟩:=EA.1 e;exact this (EA.2 ⟨e1.symm,e2.symm⟩)
def FW(gs:List (aQ bE)):Prop:=∀g∈gs,0<=g.count
structure ny (p:dR):Prop where
 uniq:yh p.waits
 nat:FW p.bG
 sZ:p.bG.length<=8/\p.waits.length<=8/\p.book.length<=32/\p.dJ.length<=8
theorem ny.no:ny yV:=⟨List.Pairwise.nil,fun _ h=>(by cases h),ag⟩
theorem FW.filter(h:FW gs)(f:aQ bE->Bool):FW (gs.filter f):=fun g hg=>h g (fk.1 hg).1
theorem FW.put(h:FW gs){g:aQ bE}(hg:0<=g.count):FW (vU gs g):=by
 unfold vU;intro x hx;have hx:=eE hx;rcases bL.1 hx with hx|hx
 ·exact h x (fk.1 hx).1
 ·rw[cH]at hx;rw[hx];exact hg
theorem LY(gs:List (aQ bE))(g:aQ bE):(vU gs g).length<=8/\1<=(vU gs g).length:=by
 unfold vU;simp only[bM,aK,List.length_singleton];omega
theorem aah(h:FW gs)(o:gG)(proxy:Bool)(path:aj):FW (vV gs o proxy path).1/\(vV gs o proxy path).1.length<=gs.length:=by
 unfold vV;split
 ·split
  ·rename_i g hg;have hk:=(List.getElem?_eq_some_iff.1 hg).1;have hl:FW (gs.take (uo gs o proxy path).toNat++gs.drop ((uo gs o proxy path).toNat+1)):=fun x hx=>by
    rcases bL.1 hx with hx|hx
    ·exact h x (ed hx)
    ·exact h x (eE hx)
   simp only;split
   ·refine⟨hl,?_⟩;simp only[aK,aJ,bM];omega
   ·refine⟨fun x hx=>?_,?_⟩
    ·rcases bL.1 hx with hx|hx
     ·exact hl x hx
     ·rw[cH]at hx;rw[hx];have:=h g (bQ hg);show 0<=g.count+1;omega
    ·simp only[aK,aJ,bM,List.length_singleton];omega
  ·exact⟨h,ay _⟩
 ·exact⟨h,ay _⟩
theorem ny.sJ{p:dR}(h:ny p)(now:Int)(o:iE):ny (sJ p now o).1:=by
 obtain⟨hu,hn,f1,f2,f3,f4⟩:=h;unfold Go.Proofs.YtnckmcnffadjoaaGreatDoor.sJ;by_cases h1:o.what=1
 ·rw[az h1];have hU:=aah hn o.o o.proxy o.path;unfold iA;split
  ·rename_i gs e he;rw[he]at hU;exact⟨hu,hU.1,aE hU.2 f1,f2,f3,f4⟩
  ·rename_i gs g he;rw[he]at hU;split
   ·exact⟨hu,hU.1.filter _,aE (bW _ _) (aE hU.2 f1),f2,f3,f4⟩
   ·exact⟨hu,hU.1,aE hU.2 f1,f2,f3,f4⟩
 rw[aq h1];by_cases h2:o.what=2
 ·rw[az h2];unfold fP;split
  ·exact⟨hu,hn,f1,f2,f3,f4⟩
  ·rename_i l _;split
   ·split
    ·rename_i g hg;have hc:0<=g.count:=by
      unfold Ez at hg;split at hg
      ·split at hg
       ·cases hg;exact fM _
       ·cases hg
      ·cases hg
     exact⟨hu,hn.put hc,(LY _ _).1,f2,f3,f4⟩
    ·exact⟨hu.ask _,hn.filter _,aE (bW _ _) f1,VO _ _,f3,f4⟩
   ·exact⟨hu,hn,f1,f2,f3,f4⟩
 rw[aq h2];by_cases h3:o.what=3
 ·rw[az h3];have hs:=rH o.o o.proxy p.waits;unfold gi;split
  ·rename_i ws e;rw[e]at hs;exact⟨hu.sub hs,hn,f1,aE hs.length_le f2,f3,f4⟩
  ·rename_i ws x e;rw[e]at hs;exact⟨hu.sub hs,hn.put (fM _),(LY _ _).1,aE hs.length_le f2,f3,f4⟩
 rw[aq h3];by_cases h4:o.what=4
 ·rw[az h4];exact⟨hu,hn,f1,f2,f3,f4⟩
 rw[aq h4];by_cases h5:o.what=5
 ·rw[az h5];unfold gU;split
  ·exact⟨hu,hn,f1,f2,f3,f4⟩
  ·split
   ·exact⟨hu,hn,f1,f2,aE (bW _ _) f3,f4⟩
   ·exact⟨hu,hn,f1,f2,KS _ _ _,f4⟩
 rw[aq h5];by_cases h6:o.what=6
 ·rw[az h6];exact⟨hu,hn,f1,f2,f3,f4⟩
 rw[aq h6];by_cases h7:o.what=7
 ·rw[az h7];unfold jY;split
  ·exact⟨hu,hn,f1,f2,f3,f4⟩
  ·refine⟨hu,hn,f1,f2,f3,?_⟩;show(yg p.dJ o.o o.cert).length<=8;unfold yg;simp only[bM];omega
 rw[aq h7];unfold pG;split
 ·exact ny.no
 ·have UT:ny (uY p o.o):=⟨hu.sub List.filter_sublist,hn.filter _,aE (bW _ _) f1,aE (bW _ _) f2,f3,f4⟩;split
  ·exact⟨UT.uniq,UT.nat,UT.sZ.1,UT.sZ.2.1,aE (bW _ _) f3,aE (bW _ _) f4⟩
  ·exact UT
structure yi (w:dD):Prop where
 part:∀k,ny (w.part k)
 now:0<=w.now/\w.now<=1099511627776
theorem yi.new:yi yW:=⟨fun _=>ny.no,ag,ag⟩
theorem yi.iK{w:dD}(h:yi w)(o:iE):yi (iK w o).1:=by
 cases hr:o.right
 ·rw[tA hr];exact h
 ·by_cases hw:o.what=10
  ·rw[sg hr hw];split
   ·exact h
   ·rename_i hn;refine⟨h.part,?_⟩;show 0<=w.now+o.n/\w.now+o.n<=1099511627776;have:=h.now;omega
  ·rw[qE hr hw];refine⟨fun k=>?_,h.now⟩;by_cases hk:k=o.part.toNat
   ·subst hk;rw[kZ];exact(h.part _).sJ _ _
   ·rw[ni _ _ hk];exact h.part k
def lB(c:gG×Int):aZ:=[.bool c.1.aG,.string c.1.host,.int .i64 c.1.port,.int .i64 c.2]
structure cY where
 b:Nat
 gv:Value
 wv:Value
 k:Nat
 kv:Value
 cv:Value
def cY.cells(v:cY):aZ:=[.pointer (some ⟨v.b,0,none⟩),.pointer (some ⟨v.k,0,none⟩),v.cv]
structure eV (base:Nat) (w:World) (v:cY) (p:dR):Prop where
 oK:dH base w v.b v.gv v.wv p.bG p.waits
 book:eU base w v.k v.kv p.book
 dJ:OwnRows base 97 4 w v.cv (p.dJ.map lB)
def cY.kn(v:cY):dF:=fun i=>dy v.b v.gv v.wv i\/iH v.k v.kv i\/own v.cv i
section
variable {base : Nat} {w w' : World} {v : cY} {p : dR}
theorem dH.ix(h:dH base w b gv wv gs ws)(hi:dy b gv wv i) :
  ∃c t,w.heap[i]?=some (.cells c t (0,0))/\(t=89\/t=114\/t=133):=by
 rcases hi with rfl|hi|hi
 ·exact⟨_,_,h.eN,Or.inl rfl⟩
 ·obtain⟨c,e⟩:=h.ur hi;exact⟨_,_,e,Or.inr (Or.inl rfl)⟩
 ·obtain⟨c,e⟩:=h.wW hi;exact⟨_,_,e,Or.inr (Or.inr rfl)⟩
theorem eU.ix(h:eU base w b bv ps)(hi:iH b bv i) :
  ∃c t,w.heap[i]?=some (.cells c t (0,0))/\(t=92\/t=155):=by
 rcases hi with rfl|hi
 ·exact⟨_,_,h.eN,Or.inl rfl⟩
 ·obtain⟨c,e⟩:=h.rows.Ha hi;exact⟨_,_,e,Or.inr rfl⟩
theorem dH.nJ(h:dH base w b gv wv gs ws)(hi:dy b gv wv i):base<=i:=by
 rcases hi with rfl|hi|hi
 ·exact h.low
 ·exact h.aiE hi
 ·exact h.aiF hi
theorem eU.nJ(h:eU base w b bv ps)(hi:iH b bv i):base<=i:=by
 rcases hi with rfl|hi
 ·exact h.low
 ·exact h.rows.block _ hi
theorem eV.ix(h:eV base w v p)(hi:v.kn i) :
  ∃c t,w.heap[i]?=some (.cells c t (0,0))/\(t=89\/t=114\/t=133\/t=92\/t=155\/t=97):=by
 rcases hi with hi|hi|hi
 ·obtain⟨c,t,e,ht⟩:=h.oK.ix hi;exact⟨c,t,e,by rcases ht with rfl|rfl|rfl<;>simp⟩
 ·obtain⟨c,t,e,ht⟩:=h.book.ix hi;exact⟨c,t,e,by rcases ht with rfl|rfl<;>simp⟩
 ·obtain⟨c,e⟩:=h.dJ.Ha hi;exact⟨c,_,e,aR⟩
theorem eV.nJ(h:eV base w v p)(hi:v.kn i):base<=i:=by
 rcases hi with hi|hi|hi
 ·exact h.oK.nJ hi
 ·exact h.book.nJ hi
 ·exact h.dJ.block _ hi
theorem eV.jq(h:eV base w v p)(hi:v.kn i):i<w.heap.size:=by
 obtain⟨c,t,e,_⟩:=h.ix hi;exact bq e
theorem eV.off(h:eV base w v p):sG base w v.kn:=fun i hi _=>by
 refine⟨h.nJ hi,fun c f e=>?_⟩;obtain⟨c',t,e',ht⟩:=h.ix hi;rw[e]at e';cases e';revert ht;decide
theorem eV.fr(h:eV base w v p)(hf:Fr S w w')(ho:sG base w S)(hn:∀i,v.kn i->¬S i):eV base w' v p :=
 ⟨h.oK.fr hf ho (hn _ (Or.inl (Or.inl rfl))) (fun _ hk=>hn _ (Or.inl (Or.inr (Or.inl hk)))) (fun _ hk=>hn _ (Or.inl (Or.inr (Or.inr hk)))),
  h.book.fr hf (fun _ hk=>hn _ (Or.inr (Or.inl hk))),h.dJ.fr hf (fun _ hk=>hn _ (Or.inr (Or.inr hk)))⟩
theorem eV.dm(h:eV base w v p)(hf:Fr aS w w'):eV base w' v p:=h.fr hf (fJ _ _) (fun _ _ h=>h)
theorem eV.xB(h:eV base w v p)(hi:dy v.b v.gv v.wv i):¬iH v.k v.kv i:=fun hj=>by
 obtain⟨c,t,e,ht⟩:=h.oK.ix hi;obtain⟨c',t',e',ht'⟩:=h.book.ix hj;rw[e]at e';cases e';rcases ht with rfl|rfl|rfl<;>revert ht'<;>decide
theorem eV.xC(h:eV base w v p)(hi:dy v.b v.gv v.wv i):¬own v.cv i:=fun hj=>by
 obtain⟨c,t,e,ht⟩:=h.oK.ix hi;obtain⟨c',e'⟩:=h.dJ.Ha hj;rw[e]at e';cases e';revert ht;decide
theorem eV.Hf(h:eV base w v p)(hi:iH v.k v.kv i):¬own v.cv i:=fun hj=>by
 obtain⟨c,t,e,ht⟩:=h.book.ix hi;obtain⟨c',e'⟩:=h.dJ.Ha hj;rw[e]at e';cases e';revert ht;decide
end
def iY(pv:Nat->cY)(now:Int):aZ:=(pv 0).cells++((pv 1).cells++((pv 2).cells++((pv 3).cells++[.int .i64 now])))
def yX(pv:Nat->cY)(i:Nat)(v:cY):Nat->cY:=fun j=>if j=i then v else pv j
def pB(cs:aZ)(o:Nat)(v:cY):aZ:=((cs.set o (.pointer (some ⟨v.b,0,none⟩))).set (o+1) (.pointer (some ⟨v.k,0,none⟩))).set (o+2) v.cv
theorem tC(pv:Nat->cY)(i:Nat)(v:cY):yX pv i v i=v:=by unfold yX;simp
theorem mP(pv:Nat->cY){j:Nat}(v:cY)(h:j≠i):yX pv i v j=pv j:=by unfold yX;simp[h]
theorem yY(pv:Nat->cY)(now:Int)(hi:i<4)(v:cY):pB (iY pv now) (i*3) v=iY (yX pv i v) now:=by
 unfold pB iY yX cY.cells
 match i,hi with
 |0,_=>rfl
 |1,_=>rfl
 |2,_=>rfl
 |3,_=>rfl
theorem xD(pv:Nat->cY)(now:Int)(hi:i<4):(iY pv now)[i*3]?=some (.pointer (some ⟨(pv i).b,0,none⟩))/\(iY pv now)[i*3+1]?=some (.pointer (some ⟨(pv i).k,0,none⟩))/\(iY pv now)[i*3+2]?=some (pv i).cv:=by
 unfold iY cY.cells
 match i,hi with
 |0,_=>exact⟨rfl,rfl,rfl⟩
 |1,_=>exact⟨rfl,rfl,rfl⟩
 |2,_=>exact⟨rfl,rfl,rfl⟩
 |3,_=>exact⟨rfl,rfl,rfl⟩
theorem Oz(pv:Nat->cY)(now:Int):(iY pv now)[12]?=some (.int .i64 now):=rfl
theorem yk(pv:Nat->cY)(now n:Int):(iY pv now).set 12 (.int .i64 n)=iY pv n:=rfl
structure cE (base:Nat) (w:World) (B:Nat) (pv:Nat->cY) (x:dD):Prop where
 low:base<=B
 eN:w.heap[B]?=some (.cells (iY pv x.now).toArray 86 (0,0))
 part:∀i,i<4->eV base w (pv i) (x.part i)
 apart:∀i j,i<4->j<4->i≠j->∀k,(pv i).kn k->¬(pv j).kn k
def lI(B:Nat)(pv:Nat->cY):dF:=fun k=>k=B\/∃i,i<4/\(pv i).kn k
def dp(base:Nat)(w:World)(B:Nat)(pv:Nat->cY)(x:dD)(w':World):Prop :=
 ∃zh,cE base w' B zh x/\Fr (lI B pv) w w'/\∀k,lI B zh k->lI B pv k\/w.heap.size<=k
section
variable {base : Nat} {w w' : World} {B : Nat} {pv : Nat → cY} {x : dD}
theorem cE.lt(h:cE base w B pv x):B<w.heap.size:=bq h.eN
theorem cE.jq(h:cE base w B pv x)(hk:lI B pv k):k<w.heap.size:=by
 rcases hk with rfl|⟨i,hi,hk⟩
 ·exact h.lt
 ·exact(h.part i hi).jq hk
theorem cE.nJ(h:cE base w B pv x)(hk:lI B pv k):base<=k:=by
 rcases hk with rfl|⟨i,hi,hk⟩
 ·exact h.low
 ·exact(h.part i hi).nJ hk
theorem cE.Ar(h:cE base w B pv x)(hi:i<4):¬(pv i).kn B:=fun hk=>by
 obtain⟨c,t,e,ht⟩:=(h.part i hi).ix hk;rw[h.eN]at e;cases e;revert ht;decide
theorem cE.Sl(h:cE base w B pv x):sG base w (one B):=by
 rintro k rfl _;exact⟨h.low,fun c f e=>by rw[h.eN]at e;cases e⟩
theorem cE.off(h:cE base w B pv x):sG base w (lI B pv):=by
 rintro k(rfl|⟨i,hi,hk⟩)hl
 ·exact h.Sl _ rfl hl
 ·exact(h.part i hi).off k hk hl
theorem cE.fr(h:cE base w B pv x)(hf:Fr S w w')(ho:sG base w S)(hn:∀k,lI B pv k->¬S k):cE base w' B pv x :=
 ⟨h.low,hf.keep h.eN (hn B (Or.inl rfl)),fun i hi=>(h.part i hi).fr hf ho (fun k hk=>hn k (Or.inr ⟨i,hi,hk⟩)),h.apart⟩
theorem cE.dm(h:cE base w B pv x)(hf:Fr aS w w'):cE base w' B pv x:=h.fr hf (fJ _ _) (fun _ _ h=>h)
theorem dp.same(h:cE base w B pv x)(hf:Fr aS w w'):dp base w B pv x w' :=
 ⟨pv,h.dm hf,hf.mono (fun _ _ h=>absurd h id),fun _ hk=>Or.inl hk⟩
end
theorem dp.frame{pv:Nat->cY}{x x':dD}(h:dp base w B pv x' w')(h0:cE base w B pv x)(hf:Fr aS a w)(hb:a.heap.size<=base):Fr aS a w':=by
 obtain⟨_,_,h2,_⟩:=h;refine hf.step h2 (fun k hk hw=>?_);have:=h0.nJ hw;omega
structure gY (w:World) (B:Nat) (cs:aZ) (o:Nat) (v:cY):Prop where
 eN:w.heap[B]?=some (.cells cs.toArray 86 (0,0))
 c0:cs[o]?=some (.pointer (some ⟨v.b,0,none⟩))
 c1:cs[o+1]?=some (.pointer (some ⟨v.k,0,none⟩))
 c2:cs[o+2]?=some v.cv
theorem xE{o:Nat}{v:cY}(c0:cs[o]?=some (.pointer (some ⟨v.b,0,none⟩)))(c1:cs[o+1]?=some (.pointer (some ⟨v.k,0,none⟩)))(c2:cs[o+2]?=some v.cv):pB cs o v=cs:=by
 unfold pB;apply js;intro i;by_cases h2:i=o+2
 ·subst h2;rw[List.getElem?_set_self (by simp;exact(List.getElem?_eq_some_iff.1 c2).1),c2]
 rw[List.getElem?_set_ne (lj h2)];by_cases h1:i=o+1
 ·subst h1;rw[List.getElem?_set_self (by simp;exact(List.getElem?_eq_some_iff.1 c1).1),c1]
 rw[List.getElem?_set_ne (lj h1)];by_cases h0:i=o
 ·subst h0;rw[List.getElem?_set_self (List.getElem?_eq_some_iff.1 c0).1,c0]
 rw[List.getElem?_set_ne (lj h0)]
section
variable {w w' : World} {B o : Nat} {cs : List Value} {v : cY}
theorem gY.cell0(h:gY w B cs o v):w.cell? ⟨B,o,none⟩=some (.pointer (some ⟨v.b,0,none⟩)):=by simp[World.cell?,h.eN,h.c0]
theorem gY.ib(h:gY w B cs o v):w.cell? ⟨B,o+1,none⟩=some (.pointer (some ⟨v.k,0,none⟩)):=by simp[World.cell?,h.eN,h.c1]
theorem gY.mg(h:gY w B cs o v):w.cell? ⟨B,o+2,none⟩=some v.cv:=by simp[World.cell?,h.eN,h.c2]
theorem gY.free(h:gY w B cs o v)(k:Nat):w.frozen? ⟨B,k,none⟩=false:=by simp[World.frozen?,h.eN]
theorem gY.fr(h:gY w B cs o v)(hf:Fr S w w')(hn:¬S B):gY w' B cs o v:=⟨hf.keep h.eN hn,h.c0,h.c1,h.c2⟩
theorem gY.dm(h:gY w B cs o v)(hf:Fr aS w w'):gY w' B cs o v:=h.fr hf id
end
def Au(B:Nat)(v:cY):dF:=fun k=>k=B\/v.kn k
def dn(base:Nat)(w:World)(B:Nat)(cs:aZ)(o:Nat)(v:cY)(p:dR)(w':World):Prop :=
 ∃v',eV base w' v' p/\Fr (Au B v) w w'/\(∀k,v'.kn k->v.kn k\/w.heap.size<=k)/\w'.heap[B]?=some (.cells (pB cs o v').toArray 86 (0,0))
theorem dn.same{base:Nat}{w w':World}{B o:Nat}{cs:aZ}{v:cY}{p:dR}(h:eV base w v p)(ha:gY w B cs o v)(hf:Fr aS w w'):dn base w B cs o v p w' :=
 ⟨v,h.dm hf,hf.mono (fun _ _ h=>absurd h id),fun _ hk=>Or.inl hk,by rw[xE ha.c0 ha.c1 ha.c2];exact hf.keep ha.eN id⟩
theorem dn.oK{base:Nat}{w w':World}{B o:Nat}{cs:aZ}{v:cY}{p:dR}(h:eV base w v p)(ha:gY w B cs o v)(hB:¬v.kn B){gs:List (aQ bE)}{ws:List (bK bE)}(hp:kM base w v.b v.gv v.wv gs ws w') :
  dn base w B cs o v {p with bG:=gs,waits:=ws} w':=by
 obtain⟨gv',wv',h1,h2,h3⟩:=hp;refine⟨⟨v.b,gv',wv',v.k,v.kv,v.cv⟩,⟨h1,?_,?_⟩,h2.mono (fun k _ hk=>Or.inr (Or.inl hk)),?_,?_⟩
 ·exact h.book.fr h2 (fun k hk hb=>h.xB hb hk)
 ·exact h.dJ.fr h2 (fun k hk hb=>h.xC hb hk)
 ·rintro k(hk|hk|hk)
  ·rcases h3 k hk with hk|hk
   ·exact Or.inl (Or.inl hk)
   ·exact Or.inr hk
  ·exact Or.inl (Or.inr (Or.inl hk))
  ·exact Or.inl (Or.inr (Or.inr hk))
 ·show w'.heap[B]?=some (.cells (pB cs o v).toArray _ _);rw[xE ha.c0 ha.c1 ha.c2];exact h2.keep ha.eN (fun hb=>hB (Or.inl hb))
theorem dn.book{base:Nat}{w w':World}{B o:Nat}{cs:aZ}{v:cY}{p:dR}(h:eV base w v p)(ha:gY w B cs o v)(hB:¬v.kn B){ps:List ez}(hp:Ew base w v.k v.kv ps w') :
  dn base w B cs o v {p with book:=ps} w':=by
 obtain⟨kv',h1,h2,h3⟩:=hp;have nd:sG base w (iH v.k v.kv):=fun k hk hl=>h.off k (Or.inr (Or.inl hk)) hl;refine⟨⟨v.b,v.gv,v.wv,v.k,kv',v.cv⟩,⟨?_,h1,?_⟩,h2.mono (fun k _ hk=>Or.inr (Or.inr (Or.inl hk))),?_,?_⟩
 ·exact h.oK.fr h2 nd (fun hb=>h.xB (Or.inl rfl) hb) (fun k hk hb=>h.xB (Or.inr (Or.inl hk)) hb) (fun k hk hb=>h.xB (Or.inr (Or.inr hk)) hb)
 ·exact h.dJ.fr h2 (fun k hk hb=>h.Hf hb hk)
 ·rintro k(hk|hk|hk)
  ·exact Or.inl (Or.inl hk)
  ·rcases h3 k hk with hk|hk
   ·exact Or.inl (Or.inr (Or.inl hk))
   ·exact Or.inr hk
  ·exact Or.inl (Or.inr (Or.inr hk))
 ·show w'.heap[B]?=some (.cells (pB cs o v).toArray _ _);rw[xE ha.c0 ha.c1 ha.c2];exact h2.keep ha.eN (fun hb=>hB (Or.inr (Or.inl hb)))
theorem dn.after{base:Nat}{a w w':World}{B o:Nat}{cs:aZ}{v:cY}{p:dR}(hf:Fr aS a w)(h:dn base w B cs o v p w'):dn base a B cs o v p w':=by
 obtain⟨v',h1,h2,h3,h4⟩:=h;refine⟨v',h1,gl (S:=Au B v) (hf.mono (fun _ _ h=>absurd h id)) h2 (fun _ _ h=>h),fun k hk=>?_,h4⟩;rcases h3 k hk with h|h
 ·exact Or.inl h
 ·exact Or.inr (aE hf.size h)
theorem dn.then{o:Nat}{v:cY}{p:dR}(h:dn base a B cs o v p w)(hf:Fr aS w w'):dn base a B cs o v p w':=by
 obtain⟨v',h1,h2,h3,h4⟩:=h;exact⟨v',h1.dm hf,h2.step (T:=aS) hf (fun _ _ h=>absurd h id),h3,hf.keep h4 id⟩
theorem cE.step{base:Nat}{w w':World}{B:Nat}{pv:Nat->cY}{x:dD}{i:Nat}{p:dR}(h:cE base w B pv x)(hi:i<4)(hp:dn base w B (iY pv x.now) (i*3) (pv i) p w') :
  dp base w B pv (x.set i p) w':=by
 obtain⟨v',h1,h2,h3,h4⟩:=hp;have lA:∀j k,j<4->(yX pv i v' j).kn k->(pv j).kn k\/w.heap.size<=k:=by
  intro j k hj hk;by_cases Gs:j=i
  ·subst Gs;rw[tC]at hk;exact h3 k hk
  ·rw[mP pv v' Gs]at hk;exact Or.inl hk
 refine⟨yX pv i v',⟨h.low,?_,fun j hj=>?_,fun a b ha hb sK k hka N7=>?_⟩,h2.mono ?_,?_⟩
 ·rw[h4,yY pv x.now hi];rfl
 ·by_cases Gs:j=i
  ·subst Gs;rw[tC,kZ];exact h1
  ·rw[mP pv v' Gs,ni _ _ Gs];refine(h.part j hj).fr h2 ?_ ?_
   ·rintro k(rfl|hk)hl
    ·exact h.Sl _ rfl hl
    ·exact(h.part i hi).off k hk hl
   ·rintro k hk(rfl|IX)
    ·exact h.Ar hj hk
    ·exact h.apart j i hj hi Gs k hk IX
 ·rcases lA a k ha hka with h5|h5
  ·rcases lA b k hb N7 with h6|h6
   ·exact h.apart a b ha hb sK k h5 h6
   ·have:=(h.part a ha).jq h5;omega
  ·rcases lA b k hb N7 with h6|h6
   ·have:=(h.part b hb).jq h6;omega
   ·by_cases hai:a=i
    ·by_cases hbi:b=i
     ·exact sK (hai.trans hbi.symm)
     ·rw[mP pv v' hbi]at N7;have:=(h.part b hb).jq N7;omega
    ·rw[mP pv v' hai]at hka;have:=(h.part a ha).jq hka;omega
 ·rintro k _(rfl|hk)
  ·exact Or.inl rfl
  ·exact Or.inr ⟨i,hi,hk⟩
 ·rintro k(rfl|⟨j,hj,hk⟩)
  ·exact Or.inl (Or.inl rfl)
  ·rcases lA j k hj hk with h5|h5
   ·exact Or.inl (Or.inr ⟨j,hj,h5⟩)
   ·exact Or.inr h5
theorem cE.partAt{pv:Nat->cY}{x:dD}(h:cE base w B pv x)(hi:i<4):gY w B (iY pv x.now) (i*3) (pv i) :=
 ⟨h.eN,(xD pv x.now hi).1,(xD pv x.now hi).2.1,(xD pv x.now hi).2.2⟩
def kt.val(r:kt):Value:=.agg #[.int .i64 r.what,.string r.head,.int .i64 r.cert]
structure jO where
 what:Int
 aN:gC Value
 proxy:Bool
 text:aj
 user:aj
 pass:aj
 bS:aj
 cert:Int
 all:Bool
 n:Int
def jO.cells(o:jO):aZ:=.int .i64 o.what :: (o.aN.cells++[.bool o.proxy,.string o.text,.string o.user,.string o.pass,.string o.bS,.int .i64 o.cert,.bool o.all,.int .i64 o.n])
def jO.dW(o:jO)(hs:List ig):iE:=⟨o.what,o.aN.part,o.aN.dt,o.aN.o,o.aN.path,o.aN.query,o.aN.method,hs,o.aN.f_,o.aN.body,o.proxy,o.text,o.user,o.pass,o.bS,o.cert,o.all,o.n⟩
structure gM (w:World) (o:jO) (hs:List ig):Prop where
 eB:oX w o.aN.eB hs
 aN:G_ o.aN hs
 dt:o.aN.dt.host.size<100000
 ori:o.aN.o.host.size<100000
 path:o.aN.path.size<=2000
 query:o.aN.query.size<=2000
 method:o.aN.method.size<=5000
 body:o.aN.body.size<=5000
 text:o.text.size<100000
 user:o.user.size<=5000
 pass:o.pass.size<=5000
 bS:o.bS.size<=5000
 Wa: -9223372036854775808<=o.aN.dt.port/\o.aN.dt.port<=9223372036854775807
 ajn: -9223372036854775808<=o.aN.o.port/\o.aN.o.port<=9223372036854775807
 part: -9223372036854775808<=o.aN.part/\o.aN.part<=9223372036854775807
 what: -9223372036854775808<=o.what/\o.what<=9223372036854775807
 cert: -9223372036854775808<=o.cert/\o.cert<=9223372036854775807
 n: -9223372036854775808<=o.n/\o.n<=9223372036854775807
theorem gM.dm{o:jO}{hs:List ig}(h:gM w o hs)(hf:Fr aS w w'):gM w' o hs:={h with eB:=bh h.eB hf}
abbrev di := @dn.after
abbrev eW := @dn.oK
abbrev fE := @dp.same
abbrev kF := @cE.step
abbrev mC := @dn.same
abbrev ph := @dn.book
theorem Mx(base:Nat)(w:World)(b:Nat)(v:Value)(ps:List ez)(r:gC Value)(hs:List ig)(now:Int)(h:eU base w b v ps)(hlen:ps.length<1000000)(hr:oX w r.eB hs)(hz:G_ r hs) :
  aB 33 #[.pointer (some ⟨b,0,none⟩),.agg r.cells.toArray,.int .i64 now] w fun e w'=>e=.returned (.bool (mM ps (r.dW hs) now))/\Fr aS w w':=by
 have gO:=O (show mM ps (r.dW hs) now=(!(r.dW hs).needs||(r.dW hs).nt (jm ps (r.dW hs) now))from rfl);generalize mM ps (r.dW hs) now=res at gO ⊢;obtain⟨w1,oJ⟩:∃w1,w1=w.alloc (.cells r.cells.toArray 37):=⟨_,rfl⟩;have dk:Fr aS w w1:=by rw[oJ];exact(ae _ _).alloc _
 have lZ:w1.heap[w.heap.size]?=some (.cells r.cells.toArray 37 (0,0)):=by rw[oJ];exact aC _ _
 have HN:=O (show∀U,Fr aS w1 U->aB 61 #[.agg r.cells.toArray] U fun e w'=>e=.returned (.bool (r.dW hs).needs)/\Fr aS U w' from fun U hU=>R9 r hs U (bh hr (dk.trans hU)) hz)
 have T7:=O (show∀U,Fr aS w1 U->aB 63 #[.pointer (some ⟨b,0,none⟩),.agg r.cells.toArray,.int .i64 now] U fun e w'=>∃v',e=.returned v'/\OwnRows U.heap.size 155 12 w' v' ((jm ps (r.dW hs) now).map ez.cells)/\Fr aS U w' from fun U hU=>aa8 base U b v ps r hs now (h.dm (dk.trans hU)) hlen)
 have xO:=O (show∀U,Fr aS w1 U->∀lv,q_ U lv (jm ps (r.dW hs) now)->aB 62 #[.agg r.cells.toArray,lv] U fun e w'=>e=.returned (.bool ((r.dW hs).nt (jm ps (r.dW hs) now)))/\Fr aS U w' from fun U hU lv hlv=>yU r hs lv _ U (bh hr (dk.trans hU)) hlv hz);obtain⟨ah,ch,g_⟩:=dU hr;rw[ai]at g_
 have uX:r.cells=[.int .i64 r.part,.bool r.dt.aG,.string r.dt.host,.int .i64 r.dt.port,.bool r.o.aG,.string r.o.host,.int .i64 r.o.port,.string r.path,.string r.query,.string r.method,.slice ah hs.length ch,.bool r.f_,.string r.body]:=by unfold gC.cells;rw[g_]
 have HC:=O (show∀U,Fr aS w1 U->(U.cell? ⟨w.heap.size,0,none⟩=some (.int .i64 r.part)/\U.cell? ⟨w.heap.size,1,none⟩=some (.bool r.dt.aG)/\U.cell? ⟨w.heap.size,2,none⟩=some (.string r.dt.host)/\U.cell? ⟨w.heap.size,3,none⟩=some (.int .i64 r.dt.port)/\U.cell? ⟨w.heap.size,4,none⟩=some (.bool r.o.aG)/\U.cell? ⟨w.heap.size,5,none⟩=some (.string r.o.host)/\U.cell? ⟨w.heap.size,6,none⟩=some (.int .i64 r.o.port)/\U.cell? ⟨w.heap.size,7,none⟩=some (.string r.path)/\U.cell? ⟨w.heap.size,8,none⟩=some (.string r.query)/\U.cell? ⟨w.heap.size,9,none⟩=some (.string r.method)/\U.cell? ⟨w.heap.size,10,none⟩=some (.slice ah hs.length ch)/\U.cell? ⟨w.heap.size,11,none⟩=some (.bool r.f_)/\U.cell? ⟨w.heap.size,12,none⟩=some (.string r.body))from fun U hU=>by
  have j:=hU.keep lZ id;rw[uX]at j;simp[World.cell?,j])
 rw[uX]at HN T7 xO oJ ⊢;have ln:=O dk;have hhw:=oJ;clear h hr hz dk lZ uX g_;cases hn:(r.dW hs).needs
 ·have HR:=O (show res=true by rw[gO.o,hn];rfl);rw[hn]at HN;clear hn gO T7 xO hhw;go_enter func33,ntmps33;go_wp2_with fail
  rw[<-oJ];clear oJ
  refine wp_region_held_drew (S:=(fun U=>U.cell? ⟨w.heap.size,0,none⟩=some (.int .i64 r.part)/\U.cell? ⟨w.heap.size,1,none⟩=some (.bool r.dt.aG)/\U.cell? ⟨w.heap.size,2,none⟩=some (.string r.dt.host)/\U.cell? ⟨w.heap.size,3,none⟩=some (.int .i64 r.dt.port)/\U.cell? ⟨w.heap.size,4,none⟩=some (.bool r.o.aG)/\U.cell? ⟨w.heap.size,5,none⟩=some (.string r.o.host)/\U.cell? ⟨w.heap.size,6,none⟩=some (.int .i64 r.o.port)/\U.cell? ⟨w.heap.size,7,none⟩=some (.string r.path)/\U.cell? ⟨w.heap.size,8,none⟩=some (.string r.query)/\U.cell? ⟨w.heap.size,9,none⟩=some (.string r.method)/\U.cell? ⟨w.heap.size,10,none⟩=some (.slice ah hs.length ch)/\U.cell? ⟨w.heap.size,11,none⟩=some (.bool r.f_)/\U.cell? ⟨w.heap.size,12,none⟩=some (.string r.body))) af (HC.o _ (ae aS w1).drew) ?_
  intro zl;refine aU 0 7 rfl ?_;refine eR 1 rfl fun K hK=>?_;go_simp;refine(HN.o _ (ae aS w1).drew).mono ?_;rintro e v1⟨rfl,FC⟩;have fU:=O (show Fr aS w1 v1 from((ae aS w1).drew).trans FC);refine hK.out _ _ (HC.o _ fU.o) ?_;intro xF;clear hK zl FC K
  try simp only[Act.put,sA,sB,sC]
  refine aU 2 9 rfl ?_;refine aU 3 10 rfl ?_;refine BM 4 11 rfl ?_
  try simp only[Act.put,sA,sB,sC]
  refine BM 5 12 rfl ?_
  try simp only[Act.put,sA,sB,sC]
  refine BM 6 13 rfl ?_
  try simp only[Act.put,sA,sB,sC]
  refine BM 7 14 rfl ?_
  try simp only[Act.put,sA,sB,sC]
  refine BM 8 15 rfl ?_
  try simp only[Act.put,sA,sB,sC]
  refine BM 9 16 rfl ?_
  try simp only[Act.put,sA,sB,sC]
  refine aU 10 17 rfl ?_;refine aU 11 6 rfl ?_;refine wpAnyH_done af ?_ _;go_wp2;go_ret;exact⟨by rw[HR.o];rfl,ln.o.trans fU.o⟩
 ·have HR:=O (show res=(r.dW hs).nt (jm ps (r.dW hs) now)by rw[gO.o,hn];rfl);rw[hn]at HN;generalize (r.dW hs).nt (jm ps (r.dW hs) now)=cv at *
  generalize jm ps (r.dW hs) now=fs at *
  clear hn gO hhw;go_enter func33,ntmps33;go_wp2_with fail
  rw[<-oJ];clear oJ
  go_region_held3 (fun U=>Fr aS w1 U/\U.cell? ⟨w.heap.size,0,none⟩=some (.int .i64 r.part)/\U.cell? ⟨w.heap.size,1,none⟩=some (.bool r.dt.aG)/\U.cell? ⟨w.heap.size,2,none⟩=some (.string r.dt.host)/\U.cell? ⟨w.heap.size,3,none⟩=some (.int .i64 r.dt.port)/\U.cell? ⟨w.heap.size,4,none⟩=some (.bool r.o.aG)/\U.cell? ⟨w.heap.size,5,none⟩=some (.string r.o.host)/\U.cell? ⟨w.heap.size,6,none⟩=some (.int .i64 r.o.port)/\U.cell? ⟨w.heap.size,7,none⟩=some (.string r.path)/\U.cell? ⟨w.heap.size,8,none⟩=some (.string r.query)/\U.cell? ⟨w.heap.size,9,none⟩=some (.string r.method)/\U.cell? ⟨w.heap.size,10,none⟩=some (.slice ah hs.length ch)/\U.cell? ⟨w.heap.size,11,none⟩=some (.bool r.f_)/\U.cell? ⟨w.heap.size,12,none⟩=some (.string r.body)) ((refine(fun hU=>⟨hU,HC.o _ hU⟩) ?_;repeat(first|exact ae _ _|assumption|apply bB|apply aA|refine bF ?_ jH)))
   ((first
    |(go_at_call 61;refine(HN.o _ (by repeat(first|exact ae _ _|assumption|apply aA|apply bB|refine bF ?_ jH))).mono ?_;rintro e u1 ⟨rfl,uF⟩)
    |(go_at_call 63;refine(T7.o _ (by repeat(first|exact ae _ _|assumption|apply aA|apply bB|refine bF ?_ jH))).mono ?_;rintro e u2 ⟨fv,rfl,LG,nC⟩)
    |(go_at_call 62;refine(xO.o _ (by repeat(first|exact ae _ _|assumption|apply aA|apply bB|refine bF ?_ jH)) _ (bh LG.at (by repeat(first|exact ae _ _|assumption|apply aA|apply bB|refine bF ?_ jH)))).mono ?_;rintro e u3 ⟨rfl,Ab⟩)))
  have fU:=O (show Fr aS w1 u3 from by repeat(first|exact ae _ _|assumption|apply aA|apply bB|refine bF ?_ jH));clear uF nC Ab;go_wp2;go_ret;exact⟨by rw[HR.o];rfl,ln.o.trans fU.o⟩
