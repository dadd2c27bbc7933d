/- Lemmas for the law's walk. -/
import Derived.Test.YtnckmcnffadjoaaGreatDoorPm13
import Derived.Test.YtnckmcnffadjoaaGreatDoorPm23
set_option maxRecDepth 100000
set_option maxHeartbeats 16000000
set_option linter.unusedSimpArgs false
namespace Go.Proofs.YtnckmcnffadjoaaGreatDoor
open Go.Proofs.Tryz
open Go.RowKit
variable {c:UInt8} {s:aj} {i k base b B:Nat} {o:iY} {w a w':World} {ps:List eo} {r:qY} {now:Int} {p:eo} {ws:List (bJ bE)} {gs:List (aP bE)} {gv wv bv:Value} {S:dC} {cs:aX}
theorem afd(l:Bs):Lib.trimSuffix l [13]=tO l:=by
 unfold Lib.trimSuffix Lib.hasSuffix tO;rcases List.eq_nil_or_concat l with rfl|⟨a,b,rfl⟩
 ·rfl
 ·have h1:(List.isSuffixOf [13] (a.concat b)=true)↔b=13:=by
   rw[List.isSuffixOf_iff_suffix,List.concat_eq_append];constructor
   ·rintro⟨t,ht⟩;have:=(List.append_inj' ht rfl).2;simpa using this.symm
   ·rintro rfl;exact⟨a,rfl⟩
  have h2:(a.concat b).getLast?=some b:=by rw[List.concat_eq_append];simp
  rw[h2];by_cases hb:b=13
  ·rw[az (h1.2 hb),az (by rw[hb]),List.dropLast_eq_take];rfl
  ·rw[aq (fun h=>hb (h1.1 h)),aq (fun h=>hb (j8 h))]
theorem G2(l:Bs):(tO l).length<=l.length:=by unfold tO;split<;>simp
theorem Sn(h:¬0<=Lib.indexByte s.data.toList c):mE c s.data.toList=(s.data.toList,[],false) :=
 FN c _ (fun hc=>(Hq _ _).1 h c hc rfl)
theorem WJ(h:Lib.indexByte s.data.toList c=(i:Int)):mE c s.data.toList=(s.data.toList.take i,s.data.toList.drop (i+1),true):=by
 obtain⟨he,hn⟩:=wT _ _ _ h;have:=J9 c (s.data.toList.take i) (s.data.toList.drop (i+1)) hn;rw[<-he]at this;exact this
theorem Bo(c:UInt8):∀d:Bs,(ec c d).length<=d.length+1/\∀p∈ec c d,p.length<=d.length
 |[]=>by simp[ec]
 |x :: d=>by
  have ih:=Bo c d;by_cases hx:x=c
  ·subst hx;rw[rB];refine⟨bI,fun p hp=>?_⟩;rcases bB.1 hp with rfl|hp
   ·simp
   ·have:=ih.2 p hp;simp;omega
  ·cases e:ec c d with
   |nil=>exact absurd e (wP c d)
   |cons q qs =>
    rw[e]at ih;rw[oa hx e];refine⟨by simp at ih ⊢; omega,fun p hp=>?_⟩;rcases bB.1 hp with rfl|hp
    ·have:=ih.2 q (cY ..);simp;omega
    ·have:=ih.2 p (bQ _ hp);simp;omega
def Oz(s:aj)(w:World)(e:Ending)(w':World):Prop :=
 Fr aS w w'/\match mO s.data.toList with
 | .ok ps=>∃v,e=.returned (.tuple #[v,.nilIface])/\OwnRows w.heap.size 171 2 w' v (ps.map ou)
 | .error n=>∃er,e=.returned (.tuple #[.slice none 0 0,er])/\VH n er w'
def aj4(L:List Bs)(w:World)(out t:Value)(wr:World):Prop :=
 ∃(k:Nat) (acc:List jz),k<=L.length/\t=.int .i64 k/\OwnRows w.heap.size 171 2 wr out (acc.map ou)/\kV L []=kV (L.drop k) acc/\acc.length<=40/\Fr aS w wr
theorem LX{L:List Bs}{x:Bs}{acc:List jz}(h:L[k]?=some x):kV (L.drop k) acc=match C' x with
  |none=>.error 3
  |some none=>kV (L.drop (k+1)) acc
  |some (some p)=>if acc.length=40 then .error 4 else kV (L.drop (k+1)) (acc++[p]):=by
 have hk:=(List.getElem?_eq_some_iff.1 h).1;have hx:L.drop k=x :: L.drop (k+1):=by
  rw[cU hk];have:=(List.getElem?_eq_some_iff.1 h).2;rw[this]
 rw[hx,kV];rfl
theorem OA(s:aj)(w:World)(hs:s.size<100000) :
  aB 64 #[.string s] w (Oz s w):=by
 by_cases h3:3000<s.size
 ·have h3':(3000:Int)<(s.size:Int):=ab;have HE:=O (show mO s.data.toList=.error 4 by unfold mO;rw[az (show 3000<s.data.toList.length from h3)]);go_enter func64,ntmps64;go_wp2;go_ret2;refine⟨ae _ _,?_⟩;rw[HE.o];exact⟨_,rfl,Or.inl rfl⟩
 ·have h3':¬(3000:Int)<(s.size:Int):=ab;have HE:=O (show mO s.data.toList=kV (ec 10 s.data.toList) []by unfold mO;rw[aq (show¬3000<s.data.toList.length from h3)]);have hle:=Bo 10 s.data.toList;have xN:=O (yf s 10 w ab);obtain⟨L,hL⟩:∃L,L=ec 10 s.data.toList:=⟨_,rfl⟩;obtain⟨B,hB⟩:∃B,B=ja 10 s:=⟨_,rfl⟩;have hBL:B=L.map fun l=>(⟨l.toArray⟩:aj):=by rw[hB,hL];rfl
  have hlen:B.length=L.length:=by rw[hBL,ai]
  rw[<-hL]at HE hle;rw[<-hB]at xN;have YL:=O hle;have hL1:L.length<=3001:=by have h:=hle.1;have h2:s.data.toList.length=s.size:=rfl;omega
  have o7:=O hBL;have Vo:=O (show∀p∈L,p.length<=3000 from fun p hp=>by have h:=hle.2 p hp;have h2:s.data.toList.length=s.size:=rfl;omega);clear hle hL hB hBL;go_enter func64,ntmps64;go_wp2_with fail
  refine xN.o.mono ?_;rintro e w0⟨rfl,V8⟩;have pd:Fr aS w w0:=by rw[V8];exact(ae _ _).alloc _
  have sX:w0.heap[w.heap.size]?=some (.cells (B.map Value.string).toArray 9 (0,0)):=by rw[V8];exact aC _ _
  have HC:=O (show∀U,Fr aS w0 U->∀(k:Nat) x,L[k]?=some x->U.cell? ⟨w.heap.size,k,none⟩=some (.string ⟨x.toArray⟩)from fun U hU k x hx=>by
   have h:=hU.keep sX id;have e:(B.map Value.string)[k]?=some (.string ⟨x.toArray⟩):=by rw[List.getElem?_map,o7.o,List.getElem?_map,hx];rfl
   simp only[World.cell?,h];simpa using e)
  have Ca:=O pd;rw[hlen];clear V8 pd sX xN o7 hlen;go_wp2;go_loopw[4,17] (aj4 L w0) (fun _ t _=>L.length-(intOf t).toNat)
  case atStart=>exact⟨0,[],aQ _,rfl,dy _ _ _ _,by rw[eG],ag,ae _ _⟩
  case round =>
   obtain⟨k,acc,hk,rfl,ho,hn,ag4,cL⟩:=hrel;obtain⟨ao,co,MM⟩:=ho.form;rw[ai]at MM;subst MM;by_cases fo:k<L.length
   ·have pq:(k:Int)<(L.length:Int):=ab;have dT:=O (List.getElem?_eq_getElem fo);have iD:=O (bN fo);generalize L[k]=x at dT iD;have hxz:=Vo.o x iD.o;have c0:=HC.o wr cL k x dT.o;obtain⟨lb,Yt⟩:∃lb:aj,lb=⟨x.toArray⟩:=⟨_,rfl⟩;have FT:lb.data.toList=x:=by rw[Yt]
    rw[<-Yt]at c0;obtain⟨y,hy⟩:∃y:aj,y=⟨(Lib.trimSuffix lb.data.toList [13]).toArray⟩:=⟨_,rfl⟩;have hyl:y.data.toList=tO x:=by rw[hy,FT,afd]
    have hyz:y.size<=3000:=by
     have h:=G2 x;have h2:y.data.toList.length=y.size:=rfl;rw[hyl]at h2;omega
    have MP:lb.size<=3000:=by have h2:lb.data.toList.length=lb.size:=rfl;rw[FT]at h2;omega
    have HTS:=O (show aB 126 #[.string lb,.string ⟨#[13]⟩] wr fun e w'=>e=.returned (.string y)/\wr=w' from(strings_TrimSuffix lb ⟨#[13]⟩ wr ab).mono (by rintro e w' ⟨rfl,rfl⟩;exact⟨by rw[hy],rfl⟩));have mj:=O (LX (acc:=acc) dT.o);have HN:=O hn;have HO:=O ho
    have HLR:=O (show C' x=if y.data.toList.isEmpty then some none else if !(mE 58 y.data.toList).2.2||!AH (mE 58 y.data.toList).1 then none else some (some ((mE 58 y.data.toList).1,trimB (mE 58 y.data.toList).2.1))by rw[hyl];rfl);clear Yt FT hy hyl hn ho;have Tq:y.toList=y.data.toList:=aO _;by_cases hy0:y.size=0
    ·have EP:=gX.2 hy0;have afe:y.toList=[]:=by rw[Tq];exact EP
     have apS:(y.toList== [])=true:=by rw[afe];rfl
     have HR:=O (show kV L []=kV (L.drop (k+1)) acc by rw[HN.o,mj.o,HLR.o,EP];rfl);clear Tq EP;go_wp2_with fail
     refine HTS.o.mono ?_;rintro e u⟨rfl,rfl⟩;go_wp2;go_roundw
     case rel=>exact⟨k+1,acc,ab,bg,HO.o,HR.o,ag4,cL⟩
     case measure=>simp[intOf];omega
    ·have EP:¬y.data.toList=[]:=fun h=>hy0 (gX.1 h);have afe:¬y.toList=[]:=by rw[Tq];exact EP
     have apS:(y.toList== [])=false:=by rw[aL];exact afe
     have OB:=O (show C' x=if !(mE 58 y.data.toList).2.2||!AH (mE 58 y.data.toList).1 then none else some (some ((mE 58 y.data.toList).1,trimB (mE 58 y.data.toList).2.1))by
      rw[HLR.o,aq (by simpa using EP)])
     clear Tq EP HLR;by_cases wR:0<=Lib.indexByte y.data.toList 58
     ·obtain⟨i,hi⟩:∃i:Nat,Lib.indexByte y.data.toList 58=(i:Int):=⟨(Lib.indexByte y.data.toList 58).toNat,ab⟩;have hil:i<y.size:=US hi;have hcut:=WJ hi;obtain⟨nm,X1⟩:∃nm:aj,nm=y.extract 0 i:=⟨_,rfl⟩;obtain⟨vl,Ti⟩:∃vl:aj,vl=y.extract (i+1) y.size:=⟨_,rfl⟩;have rR:nm.data.toList=y.data.toList.take i:=by rw[X1,oQ];simp
      have aff:vl.data.toList=y.data.toList.drop (i+1):=by
       rw[Ti,oQ];exact aD (by rw[bK];exact ay _)
      have hnz:nm.size<=3000:=by
       have h2:nm.data.toList.length=nm.size:=rfl;rw[rR,aM]at h2;have h3:y.data.toList.length=y.size:=rfl;omega
      have hvz:vl.size<=3000:=by
       have h2:vl.data.toList.length=vl.size:=rfl;rw[aff,bK]at h2;have h3:y.data.toList.length=y.size:=rfl;omega
      have Hr:=O (Ke y 58 i wr ab hi hil);rw[<-X1, <-Ti]at Hr;rw[hcut]at OB;simp only at OB;rw[<-rR, <-aff]at OB;clear X1 Ti rR aff hcut;cases IV:AH nm.data.toList
      ·have HR:=O (show mO s.data.toList=.error 3 by rw[HE.o,HN.o,mj.o,OB.o,IV];rfl);have HIS:=O (fun U=>CT nm U ab);rw[IV]at HIS;clear IV hi wR;go_wp2_with fail
       refine HTS.o.mono ?_;rintro e u⟨rfl,rfl⟩;go_wp2_with fail
       refine Hr.o.mono ?_;rintro e u⟨rfl,n,rfl⟩;go_wp2_with fail
       refine(HIS.o _).mono ?_;rintro e u⟨rfl,rfl⟩;have sX:=aC (wr.drewN n) (.cells #[.int .i64 3,.int .i64 k] 213);have HBK:=O sX;have Q2:=O ((cL.drewN n).alloc (.cells #[.int .i64 3,.int .i64 k] 213));clear sX;go_wp2;go_ret2;refine⟨Ca.o.trans Q2.o,?_⟩;rw[HR.o];exact⟨_,rfl,Or.inr ⟨_,k,rfl,HBK.o⟩⟩
      ·by_cases Hi:acc.length=40
       ·have HR:=O (show mO s.data.toList=.error 4 by rw[HE.o,HN.o,mj.o,OB.o,IV];simp[Hi]);have HIS:=O (fun U=>CT nm U ab);rw[IV]at HIS;have i40:(acc.length:Int)=40:=ab;clear IV hi wR;go_wp2_with fail
        refine HTS.o.mono ?_;rintro e u⟨rfl,rfl⟩;go_wp2_with fail
        refine Hr.o.mono ?_;rintro e u⟨rfl,n,rfl⟩;go_wp2_with fail
        refine(HIS.o _).mono ?_;rintro e u⟨rfl,rfl⟩;have Q2:=O (cL.drewN n);go_wp2;go_ret2;refine⟨Ca.o.trans Q2.o,?_⟩;rw[HR.o];exact⟨_,rfl,Or.inl rfl⟩
       ·have HIS:=O (fun U=>CT nm U ab);have HTR:=O (fun U=>sy vl ⟨#[32,9]⟩ U ab ag ag ag);obtain⟨tv,htv⟩:∃tv:aj,tv=⟨(Lib.trimS vl.data.toList [32,9]).toArray⟩:=⟨_,rfl⟩;have QN:tv.data.toList=trimB vl.data.toList:=by rw[htv];rfl
        have apU:=O (show∀U,aB 128 #[.string vl,.string ⟨#[32,9]⟩] U fun e w'=>e=.returned (.string tv)/\Fr aS U w' from fun U=>by rw[htv];exact HTR.o U);have HPC:=O (show ou (nm.data.toList,tv.data.toList)=[.string nm,.string tv]by unfold ou;simp only[Ua]);have HR:=O (show kV L []=kV (L.drop (k+1)) (acc++[(nm.data.toList,tv.data.toList)])by rw[HN.o,mj.o,OB.o,IV,QN];simp[Hi]);rw[IV]at HIS
        have i40:¬(acc.length:Int)=40:=ab;clear IV hi wR htv QN HTR;go_wp2_with fail
        refine HTS.o.mono ?_;rintro e u⟨rfl,rfl⟩;go_wp2_with fail
        refine Hr.o.mono ?_;rintro e u⟨rfl,n,rfl⟩;go_wp2_with fail
        refine(HIS.o _).mono ?_;rintro e u⟨rfl,rfl⟩;go_wp2_with fail
        refine(apU.o _).mono ?_;rintro e u⟨rfl,hu⟩;have VS:=O ((cL.drewN n).trans hu);have HOU:=O (HO.o.drewN (n:=n) |>.fr hu (fun _ _ h=>h));have hsu:w0.heap.size<=u.heap.size:=VS.o.size;clear hu
        go_wp2_with (at_builtin;refine nQ rfl _ _ 35 171 rfl 2 32 (.agg #[.string ⟨#[]⟩,.string ⟨#[]⟩]) underlying35 Ks rfl ag ag w0.heap.size (.slice ao acc.length co) (acc.map ou) rfl (HOU.o.alloc _) u.heap.size 1 [.string nm,.string tv] rfl rfl bW (fun i u hi=>by rw[World.cell?_alloc_mark];simpa using hi) (by rw[ai];omega) bI ?_;intro v' w4 fa Ci)
        have jZ:=O ((VS.o.alloc (.cells #[.string nm,.string tv] 171)).fR Ci (fun j hj=>HOU.o.block j hj));go_roundw
        case rel=>exact⟨k+1,acc++[(nm.data.toList,tv.data.toList)],ab,bg,by rw[bG,cE,dt,HPC.o];exact fa,HR.o,bI,jZ.o⟩
        case measure=>simp[intOf];omega
     ·have hcut:=Sn wR;have HR:=O (show mO s.data.toList=.error 3 by rw[HE.o,HN.o,mj.o,OB.o,hcut];rfl);have Hr:=O (FP y 58 wr wR);clear wR hcut;go_wp2_with fail
      refine HTS.o.mono ?_;rintro e u⟨rfl,rfl⟩;go_wp2_with fail
      refine Hr.o.mono ?_;rintro e u⟨rfl,rfl⟩;have sX:=aC u (.cells #[.int .i64 3,.int .i64 k] 213);have HBK:=O sX;have Q2:=O (cL.alloc (.cells #[.int .i64 3,.int .i64 k] 213));clear sX;go_wp2;go_ret2;refine⟨Ca.o.trans Q2.o,?_⟩;rw[HR.o];exact⟨_,rfl,Or.inr ⟨_,k,rfl,HBK.o⟩⟩
   ·have pq:¬(k:Int)<(L.length:Int):=ab;have Kd:L.drop k=[]:=List.drop_of_length_le ab;have HR:=O (show mO s.data.toList=.ok acc by rw[HE.o,hn,Kd];rfl);have HO:=O ho;clear ho hn;go_wp2;go_ret2;refine⟨Ca.o.trans cL,?_⟩;rw[HR.o];exact⟨_,rfl,HO.o.up Ca.o.size⟩
theorem dI.eq{v w:dI}(h:∀i,v.part i=w.part i)(hn:v.now=w.now):v=w:=by
 cases v;cases w;simp only[dI.mk.injEq];exact⟨funext h,hn⟩
theorem dI.VB(w:dI)(k:Nat):w.set k (w.part k)=w:=by
 refine dI.eq (fun i=>?_) rfl;unfold dI.set;show(if i=k then w.part k else w.part i)=w.part i;split
 ·rename_i h;rw[h]
 ·rfl
theorem dI.aeh(w:dI)(k:Nat)(p:dS):(w.set k p).part k=p:=by unfold dI.set;simp
theorem dI.ZS(w:dI){k i:Nat}(p:dS)(h:i≠k):(w.set k p).part i=w.part i:=by unfold dI.set;simp[h]
theorem zQ{w:dI}(h:o.right=false):ku w o=(w,rep 7):=by unfold ku;rw[h];rfl
theorem wh{w:dI}(h:o.right=true)(hw:o.what≠10):ku w o=(w.set o.part.toNat (sP (w.part o.part.toNat) w.now o).1,(sP (w.part o.part.toNat) w.now o).2):=by
 unfold ku;rw[az h,aq hw]
theorem zR{w:dI}(h:o.right=true)(hw:o.what=10):ku w o=if o.n<0\/1099511627776-w.now<o.n then(w,rep 7)else({w with now:=w.now+o.n},rep 1):=by
 unfold ku;rw[az h,az hw]
theorem jT(h:o.right=true):0<=o.part/\o.part<4:=by
 unfold iY.right iY.VA at h;simp only[cF,dG]at h;exact⟨h.2.2.1.1,h.2.2.1.2.1⟩
abbrev nL := @dI.aeh
abbrev mU := @dI.ZS
abbrev oW := @dI.VB
theorem jU{P:Program}{ops:Array Oper}{a:Act}{w:World}{K:Act->World->Prop}{Q:Exit->Act->World->Prop}{E:Prop}{o:Oper}(yN:o.guard=none)(ty:TypeId)(x y:Operand)(ho:o.op=.store ty x y)
  (g:Nat)(cells:bS)(hx:a.eval x=.pointer (some ⟨g,0,none⟩))(hy:a.eval y=.agg cells)
  (t:TypeId)(old:bS)(hg:w.heap[g]?=some (.cells old t (0,0)))(hi:(P.info? ty).map (·.size)=some cells.size)
  (hold:old.size=cells.size)(h1:cells.all (·.oneCell')=true)(h:K (a.put o.dst undef) (w.setRow g cells)):if Region.wanted o (yielded ops a.tmps)=true then Oper.wp P o a w K Q else E:=by
 have hw:Region.wanted o (yielded ops a.tmps)=true:=by simp[Region.wanted,yN]
 rw[az hw];exact wp_store_row ty x y ho g cells hx hy t old hg hi hold h1 h
def Wa(xs:List nt)(w:World)(e:Ending)(w':World):Prop :=
 Fr aS w w'/\∃r:fK Value,r.Reads (Strs w.heap.size w') (ji xs)/\e=.returned (.tuple #[.agg r.cells.toArray,.bool (decide (0<(ji xs).scheme))])
def ajs(w:World)(xs:List nt)(t:Value)(wr:World):Prop :=
 ∃(k:Nat) (r:fK Value),k<=xs.length/\t=.int .i64 k/\wr.heap[w.heap.size]?=some (.cells gQ 112 (0,0))/\fT wr (w.heap.size+1) r/\r.Reads (Strs w.heap.size wr) (ji (xs.take k))/\Fr aS w wr
theorem Reads.aph{r:fK Value}{a:fK bE}(h:r.Reads (Strs base w) a):r.dom.oneCell'=true:=by
 obtain⟨x,c,e⟩:=h.2.2.2.2.2.2.2.form;rw[e];rfl
theorem Of(base:Nat)(w:World):js.Reads (Strs base w) Ps:=⟨rfl,rfl,rfl,rfl,rfl,rfl,rfl,kU _ _⟩
theorem Strs.upS{b':Nat}{v:Value}{ss:List aj}(h:Strs b' w v ss)(hb:b<=b'):Strs b w v ss:=xP h hb
theorem Wb(v:Value)(xs:List nt)(w:World)(h:uJ w v xs)(_hl:xs.length<=1000000)(hz:∀x∈xs,x.Fit) :
  aB 55 #[v] w (Wa xs w):=by
 obtain⟨av,cv,hv⟩:=h.form;subst hv;obtain⟨w2,eE⟩:∃w2,w2=(w.alloc (.cells gQ 112)).alloc (.cells gQ 112):=⟨_,rfl⟩;have dr:Fr aS (w.alloc (.cells gQ 112)) w2:=by rw[eE];exact(ae _ _).alloc _
 have ot:w2.heap[w.heap.size]?=some (.cells gQ 112 (0,0)):=dr.keep (aC w _) id;have kB:fT w2 (w.heap.size+1) js:=by
  rw[eE];have:=aC (w.alloc (.cells gQ 112)) (.cells gQ 112);rw[show(w.alloc (.cells gQ 112)).heap.size=w.heap.size+1 from aR]at this;exact this
 have dB:Fr aS w w2:=((ae aS w).alloc _).trans dr;have nI:=O eE;clear eE dr;go_enter func55,ntmps55;go_wp2_with fail
 rw[<-nI.o];go_loopw[11] (ajs w xs) (fun t _=>xs.length-(intOf t).toNat)
 case atStart=>exact⟨0,js,aQ _,rfl,ot,kB,Of _ _,dB⟩
 case round =>
  obtain⟨k,r,hk,rfl,u_,xy,GN,cL⟩:=hrel;by_cases fo:k<xs.length
  case pos =>
   have pq:(k:Int)<(xs.length:Int):=ab;have dT:=O (List.getElem?_eq_getElem fo);have HZ:=O (hz _ (bN fo));generalize xs[k]=x at dT HZ;obtain⟨bk,of,pv,rfl,h1,h2,c0,c1,c2,hp⟩:=(h.fI cL).cells dT.o;unfold maxLen at h2;have HBT:=O (show ji (xs.take (k+1))=pL (ji (xs.take k)) x by rw[cC,dT.o];exact M7 _ _);obtain⟨a1,c1',e1⟩:=hp.form;subst e1
   obtain⟨wb,j6⟩:∃wb,wb=wr.alloc (.cells #[.string (bA x.scheme),.string (bA x.token),.slice a1 x.params.length c1'] 198):=⟨_,rfl⟩;have ks:Fr aS wr wb:=by rw[j6];exact(ae aS wr).alloc _
   have Y0:kK wb wr.heap.size (bA x.scheme) (bA x.token) (.slice a1 x.params.length c1'):=by rw[j6];exact aC _ _
   have x0:=Y0.cell0;have x1:=Y0.h_;have x2:=Y0.lT;have KN:=O (R8 x _ wb (bh hp ks) HZ.o);have qV:=O j6;have hsb:w.heap.size+1<wb.heap.size:=by have:=bj (ks.keep xy id);exact this
   clear j6 hp;go_wp2_with fail
   rw[<-qV.o];refine KN.o.mono ?_;intro e w3 hkp;obtain⟨iz,Zi⟩:=hkp;have Wc:=(ks.trans iz).keep u_ id;have aeR:fT w3 (w.heap.size+1) r:=(ks.trans iz).keep xy id;have aap:r.Reads (Strs w.heap.size w3) (ji (xs.take k)):=GN.mono (fun u l hu=>hu.fr (ks.trans iz) (fun _ h=>h.elim));have iA:=O ((cL.trans ks).trans iz);have T7:w.heap.size+1<w3.heap.size:=cP hsb iz.size;clear x0 x1 x2 c0 c1 c2 Y0 u_ xy GN
   cases ES:nd x with
   |none =>
    rw[ES]at Zi;subst Zi;have pV:=O (show ji (xs.take (k+1))=ji (xs.take k)by rw[HBT.o];unfold pL;rw[ES]);have ir:=fun W=>run_storeCells_new (P:=prog) W 112 gQ gQ.toList rfl RX;have kQ:Fr aS w3 (w3.alloc (.cells gQ 112)):=(ae _ _).alloc _;have Qk:=kQ.keep Wc id;have Og:fT (w3.alloc (.cells gQ 112)) (w.heap.size+1) r:=kQ.keep aeR id
    have aeS:r.Reads (Strs w.heap.size (w3.alloc (.cells gQ 112))) (ji (xs.take k)):=aap.mono (fun u l hu=>hu.fr kQ (fun _ h=>h.elim));have jZ:=O (iA.o.trans kQ);clear ES;go_wp2;go_roundw
    case rel=>exact⟨k+1,r,ab,bg,Qk,Og,by rw[pV.o];exact aeS,jZ.o⟩
    case measure=>simp[intOf];omega
   |some a =>
    rw[ES]at Zi;obtain⟨r2,aaq,rfl⟩:=Zi;have eb:=O (IL r2 (Reads.aph aaq));obtain⟨y,hy⟩:∃y,y=r2.cells.toArray:=⟨_,rfl⟩;have C7:y.size=8:=by rw[hy];rfl
    have HY:=O hy;have Zs:y.all (·.oneCell')=true:=by rw[hy];exact eb.o
    have yL:(prog.info? 112).map (·.size)=some y.size:=by rw[C7];kernel_rfl
    have hyz:gQ.size=y.size:=by rw[C7];rfl
    have hrz:r.cells.toArray.size=y.size:=by rw[C7];rfl
    obtain⟨w4,qC⟩:∃w4,w4=w3.alloc (.cells y 112):=⟨_,rfl⟩;have kQ:Fr aS w3 w4:=by rw[qC];exact(ae _ _).alloc _
    have aju:fT w4 w3.heap.size r2:=by rw[qC,hy];exact aC _ _
    have Qk:=kQ.keep Wc id;have Og:fT w4 (w.heap.size+1) r:=kQ.keep aeR id;have aeS:r.Reads (Strs w.heap.size w4) (ji (xs.take k)):=aap.mono (fun u l hu=>hu.fr kQ (fun _ h=>h.elim));have apk:r2.Reads (Strs w.heap.size w4) a:=aaq.mono (fun u l hu=>(hu.upS ab).fr kQ (fun _ h=>h.elim));have jZ:=O (iA.o.trans kQ);have N_:=O qC
    have n0:w4.cell? ⟨w3.heap.size,0,none⟩=some (.int .i64 a.scheme):=by rw[<-aaq.1];exact aju.cell rfl
    have m0:w4.cell? ⟨w.heap.size+1,0,none⟩=some (.int .i64 (ji (xs.take k)).scheme):=by rw[<-aap.1];exact Og.cell rfl
    have ajv:=O (show ji (xs.take (k+1))=if(ji (xs.take k)).scheme<a.scheme then a else ji (xs.take k)by rw[HBT.o];unfold pL;rw[ES]);have hs4:w3.heap.size<w4.heap.size:=by rw[qC];simp
    rw[<-hy];clear ES hy qC Wc aeR aap aaq;by_cases uf:(ji (xs.take k)).scheme<a.scheme
    case pos =>
     have pV:=O (show ji (xs.take (k+1))=a by rw[ajv.o,az uf]);obtain⟨w5,hw5⟩:∃w5,w5=w4.setRow (w.heap.size+1) y:=⟨_,rfl⟩;have lQ:Fr (one (w.heap.size+1)) w4 w5:=by rw[hw5];exact(ae (one (w.heap.size+1)) w4).setRow (fun _=>rfl) y
     have Ge:=O hw5;have ajw:=lQ.keep Qk (fun h=>by have h':w.heap.size=w.heap.size+1:=h;omega);have apl:fT w5 (w.heap.size+1) r2:=by rw[hw5,HY.o];unfold fT;simp[World.setRow,Array.getElem?_modify,show w4.heap[w.heap.size+1]?=_ from Og]
     have apm:r2.Reads (Strs w.heap.size w5) a:=apk.mono (fun u l hu=>hu.aaj lQ Og ag);have xn:=O (jZ.o.step lQ (fun k hk h=>by have h':k=w.heap.size+1:=h;omega));clear hw5 lQ
     go_wp2_with (first|((with_reducible refine jn ⟨none,.store 112 (.tmp 7) (.tmp 18),_,_,_,_⟩ ?_);refine pM rfl 112 (.tmp 7) (.tmp 18) rfl gQ y rfl rfl yL hyz Zs ?_;rw[<-N_.o])|((with_reducible refine di 28 ?_);refine aH rfl 112 (.tmp 7) rfl w3.heap.size rfl 112 y (0,0) _ (by rw[HY.o];exact aju) underlying112 rfl yL ?_)|((with_reducible refine jn ⟨none,.store 112 (.tmp 4) (.tmp 28),_,_,_,_⟩ ?_);refine aF rfl 112 (.tmp 4) (.tmp 28) rfl (w.heap.size+1) y rfl rfl 112 r.cells.toArray Og yL hrz Zs ?_;rw[<-Ge.o])|fail)
     go_roundw
     case rel=>exact⟨k+1,r2,ab,bg,ajw,apl,by rw[pV.o];exact apm,xn.o⟩
     case measure=>simp[intOf];omega
    case neg =>
     have pV:=O (show ji (xs.take (k+1))=ji (xs.take k)by rw[ajv.o,aq uf]);go_wp2_with (first|((with_reducible refine jn ⟨none,.store 112 (.tmp 7) (.tmp 18),_,_,_,_⟩ ?_);refine pM rfl 112 (.tmp 7) (.tmp 18) rfl gQ y rfl rfl yL hyz Zs ?_;rw[<-N_.o])|fail)
     go_roundw
     case rel=>exact⟨k+1,r,ab,bg,Qk,Og,by rw[pV.o];exact aeS,jZ.o⟩
     case measure=>simp[intOf];omega
  case neg =>
   have pq:¬(k:Int)<(xs.length:Int):=ab;have iX:xs.take k=xs:=aD ab;rw[iX]at GN;have b0:=xy.cell (i:=0) rfl;have b1:=xy.cell (i:=1) rfl;have b2:=xy.cell (i:=2) rfl;have b3:=xy.cell (i:=3) rfl;have b4:=xy.cell (i:=4) rfl;have b5:=xy.cell (i:=5) rfl;have b6:=xy.cell (i:=6) rfl;have b7:=xy.cell (i:=7) rfl;obtain⟨da,dc,hd⟩:=GN.2.2.2.2.2.2.2.form;rw[hd]at b7;have VO:=O GN;have HD:=O hd;have tA:=O cL
   have z:∀i u,gQ[i]?=some u->wr.cell? ⟨w.heap.size,i,none⟩=some u:=fun i u hu=>by simp only[World.cell?,u_];simpa using hu
   have zf:∀i,wr.frozen? ⟨w.heap.size,i,none⟩=false:=fun i=>by simp[World.frozen?,u_]
   have z0:=z 0 _ rfl;have f0:=zf 0;have z1:=z 1 _ rfl;have f1:=zf 1;have z2:=z 2 _ rfl;have f2:=zf 2;have z3:=z 3 _ rfl;have f3:=zf 3;have z4:=z 4 _ rfl;have f4:=zf 4;have z5:=z 5 _ rfl;have f5:=zf 5;have z6:=z 6 _ rfl;have f6:=zf 6;have z7:=z 7 _ rfl;have f7:=zf 7;clear z zf;have gK:=O u_;clear hd u_ xy GN cL;go_wp2_with fail
   go_region
   all_goals
    have po:fT wr w.heap.size js:=gK.o
    have AZ:=((((((((po.set 0 (.int .i64 r.scheme) (r':={js with scheme:=r.scheme}) rfl).set 1 (.string r.aK) (r':={js with scheme:=r.scheme,aK:=r.aK}) rfl).set 2 (.string r.bq) (r':={js with scheme:=r.scheme,aK:=r.aK,bq:=r.bq}) rfl).set 3 (.string r.cy) (r':={js with scheme:=r.scheme,aK:=r.aK,bq:=r.bq,cy:=r.cy}) rfl).set 4 (.bool r.cA) (r':={js with scheme:=r.scheme,aK:=r.aK,bq:=r.bq,cy:=r.cy,cA:=r.cA}) rfl).set 5 (.string r.eH) (r':={js with scheme:=r.scheme,aK:=r.aK,bq:=r.bq,cy:=r.cy,cA:=r.cA,eH:=r.eH}) rfl).set 6 (.bool r.cN) (r':={js with scheme:=r.scheme,aK:=r.aK,bq:=r.bq,cy:=r.cy,cA:=r.cA,eH:=r.eH,cN:=r.cN}) rfl).set 7 (.slice da (ji xs).dom.length dc) (r':={js with scheme:=r.scheme,aK:=r.aK,bq:=r.bq,cy:=r.cy,cA:=r.cA,eH:=r.eH,cN:=r.cN,dom:=.slice da (ji xs).dom.length dc}) rfl)
    have nF:=(((((((((ae (one w.heap.size) wr).setCell (p:=⟨w.heap.size,0,none⟩) (fun _=>rfl) (.int .i64 r.scheme)).setCell (p:=⟨w.heap.size,1,none⟩) (fun _=>rfl) (.string r.aK)).setCell (p:=⟨w.heap.size,2,none⟩) (fun _=>rfl) (.string r.bq)).setCell (p:=⟨w.heap.size,3,none⟩) (fun _=>rfl) (.string r.cy)).setCell (p:=⟨w.heap.size,4,none⟩) (fun _=>rfl) (.bool r.cA)).setCell (p:=⟨w.heap.size,5,none⟩) (fun _=>rfl) (.string r.eH)).setCell (p:=⟨w.heap.size,6,none⟩) (fun _=>rfl) (.bool r.cN)).setCell (p:=⟨w.heap.size,7,none⟩) (fun _=>rfl) (.slice da (ji xs).dom.length dc))
    generalize ((((((((wr.setCell ⟨w.heap.size,0,none⟩ (.int .i64 r.scheme)).setCell ⟨w.heap.size,1,none⟩ (.string r.aK)).setCell ⟨w.heap.size,2,none⟩ (.string r.bq)).setCell ⟨w.heap.size,3,none⟩ (.string r.cy)).setCell ⟨w.heap.size,4,none⟩ (.bool r.cA)).setCell ⟨w.heap.size,5,none⟩ (.string r.eH)).setCell ⟨w.heap.size,6,none⟩ (.bool r.cN)).setCell ⟨w.heap.size,7,none⟩ (.slice da (ji xs).dom.length dc))=w6 at AZ nF ⊢
    have B_:({js with scheme:=r.scheme,aK:=r.aK,bq:=r.bq,cy:=r.cy,cA:=r.cA,eH:=r.eH,cN:=r.cN,dom:=.slice da (ji xs).dom.length dc}:fK Value)=r:=by rw[<-HD.o]
    rw[B_]at AZ;have apn:r.Reads (Strs w.heap.size w6.drew) (ji xs):=VO.o.mono (fun u l hu=>(hu.aaj nF gK.o ag).drew);have yH:=O (tA.o.step nF (fun k hk h=>by have h':k=w.heap.size:=h;omega));have Eh:fT w6.drew w.heap.size r:=AZ;have d0:=Eh.cell (i:=0) rfl;have d1:=Eh.cell (i:=1) rfl;have d2:=Eh.cell (i:=2) rfl;have d3:=Eh.cell (i:=3) rfl;have d4:=Eh.cell (i:=4) rfl;have d5:=Eh.cell (i:=5) rfl
    have d6:=Eh.cell (i:=6) rfl;have d7:=Eh.cell (i:=7) rfl;have hsc:r.scheme=(ji xs).scheme:=VO.o.1;clear AZ nF po;go_wp2;refine aU (results_cell_tmp bC _ _ w.heap.size 112 r.cells.toArray (0,0) _ rfl Eh underlying112 rfl af) rfl ?_;exact⟨yH.o.drewN 1,r,apn,by rw[<-hsc];rfl⟩
theorem WK(c:UInt8)(l:Bs):(mE c l).1.length<=l.length/\(mE c l).2.1.length<=l.length:=by
 rcases(Pt c l).2 with ⟨_,e⟩|⟨_,e,e2⟩
 ·have h:=ar List.length e;rw[aN,List.length_cons]at h;exact⟨ab,ab⟩
 ·exact⟨by have h:=ar List.length e;omega,by rw[e2];exact aQ _⟩
theorem LY{l:Bs}{p:jz}(h:C' l=some (some p)):p.1.length<=l.length/\p.2.length<=l.length:=by
 unfold C' at h;split at h
 ·cases h
 ·split at h
  ·cases h
  ·cases h;have h1:=WK 58 (tO l);have h2:=G2 l;have h3:=Kf (mE 58 (tO l)).2.1 [32,9];refine⟨by show(mE 58 (tO l)).1.length<=_;omega,?_⟩;show(trimB _).length<=_;unfold trimB;omega
theorem tH(N:Nat):∀(ls:List Bs) (acc out:List jz),kV ls acc=.ok out->acc.length<=40->(∀l∈ls,l.length<=N)->(∀p∈acc,p.1.length<=N/\p.2.length<=N)->out.length<=40/\∀p∈out,p.1.length<=N/\p.2.length<=N
 |[],acc,out,h,ha,_,hp=>by rw[kV]at h;cases h;exact⟨ha,hp⟩
 |l :: ls,acc,out,h,ha,hl,hp=>by
  rw[kV]at h;cases hr:C' l with
  |none=>rw[hr]at h;cases h
  |some q =>
   rw[hr]at h;cases q with
   |none=>exact tH N ls acc out h ha (fun m hm=>hl m (bQ _ hm)) hp
   |some p =>
    simp only at h;split at h
    ·cases h
    ·rename_i hn;refine tH N ls (acc++[p]) out h (by rw[aN];simp only[List.length_cons,List.length_nil];omega) (fun m hm=>hl m (bQ _ hm)) (fun x hx=>?_);rcases bR.1 hx with hx|hx
     ·exact hp x hx
     ·rw[df.1 hx];have h1:=LY hr;have h2:=hl l (cY ..);exact⟨ab,ab⟩
theorem IW{s:Bs}{x:List jz}(h:mO s=.ok x):lz x:=by
 unfold mO at h;split at h
 ·cases h
 ·have h1:=tH 3000 _ _ _ h (aQ _) (fun l hl=>by have:=(Bo 10 s).2 l hl;omega) (fun _ hp=>by cases hp);exact⟨ab,fun p hp=>by have:=h1.2 p hp;omega⟩
def aj6(ps:List eo)(r:qY)(now:Int)(w1:World)(out t:Value)(wr:World):Prop :=
 ∃k:Nat,k<=ps.length/\t=.int .i64 k/\OwnRows w1.heap.size 155 12 wr out ((jc (ps.take k) r now).map eo.cells)/\Fr aS w1 wr
theorem aaF(h:ps[k]?=some p)(hm:r.Ul now p=true):jc (ps.take (k+1)) r now=jc (ps.take k) r now++[p]:=by
 unfold jc;rw[dZ h,cG];simp[hm]
theorem WL(h:ps[k]?=some p)(hm:r.Ul now p=false):jc (ps.take (k+1)) r now=jc (ps.take k) r now:=by
 unfold jc;rw[dZ h,cG];simp[hm]
theorem aaG(base:Nat)(w:World)(b:Nat)(v:Value)(ps:List eo)(r:gu Value)(hs:List ig)(now:Int)(h:eP base w b v ps)(hlen:ps.length<1000000) :
  aB 63 #[.pointer (some ⟨b,0,none⟩),.agg r.cells.toArray,.int .i64 now] w fun e w'=>∃v',e=.returned v'/\OwnRows w.heap.size 155 12 w' v' ((jc ps (r.dR hs) now).map eo.cells)/\Fr aS w w':=by
 obtain⟨rc,uH⟩:∃rc,rc=r.cells.toArray:=⟨_,rfl⟩;obtain⟨w1,oy⟩:∃w1,w1=w.alloc (.cells rc 37):=⟨_,rfl⟩;have dr:Fr aS w w1:=by rw[oy];exact(ae _ _).alloc _
 have mf:w1.heap[w.heap.size]?=some (.cells rc 37 (0,0)):=by rw[oy];exact aC _ _
 have h1:=h.dm dr;obtain⟨ak,ck,TC⟩:=h.form;subst TC;have mq:dY 12 w1 (.slice ak ps.length ck) (ps.map eo.cells):=h1.rows.at
 have HC:=O (show∀U,Fr aS w1 U->U.cell? ⟨w.heap.size,1,none⟩=some (.bool r.cX.aE)/\U.cell? ⟨w.heap.size,2,none⟩=some (.string r.cX.host)/\U.cell? ⟨w.heap.size,3,none⟩=some (.int .i64 r.cX.port)/\U.cell? ⟨w.heap.size,4,none⟩=some (.bool r.o.aE)/\U.cell? ⟨w.heap.size,5,none⟩=some (.string r.o.host)/\U.cell? ⟨w.heap.size,6,none⟩=some (.int .i64 r.o.port)/\U.cell? ⟨w.heap.size,7,none⟩=some (.string r.path)/\U.cell? ⟨w.heap.size,8,none⟩=some (.string r.query)/\U.cell? ⟨w.heap.size,11,none⟩=some (.bool r.fN)from fun U hU=>by
  have j:=hU.keep mf id;rw[uH]at j;have hc:∀i u,r.cells[i]?=some u->U.cell? ⟨w.heap.size,i,none⟩=some u:=fun i u hu=>by simp only[World.cell?,j];simpa using hu
  exact⟨hc 1 _ rfl,hc 2 _ rfl,hc 3 _ rfl,hc 4 _ rfl,hc 5 _ rfl,hc 6 _ rfl,hc 7 _ rfl,hc 8 _ rfl,hc 11 _ rfl⟩)
 have HM:=O (show∀p:eo,(r.dR hs).Ul now p=(p.alive now&&(p.cX.lj r.cX&&((p.o.lj r.o&&(p.path.toList==r.path.toList&&p.query.toList==r.query.toList))&&(p.fN||!r.fN))))from fun _=>rfl);generalize r.dR hs=rl at HM ⊢;have c0:=h1.c0;rw[oy]at c0;have Ii:=O oy;have lC:=O dr;have Cf:w.heap.size<=w1.heap.size:=dr.size;rw[<-uH];clear oy dr mf h1 h uH;go_enter func63,ntmps63;go_wp2_with fail
 rw[<-Ii.o];go_loopw[7,15] (aj6 ps rl now w1) (fun _ t _=>ps.length-(intOf t).toNat)
 case atStart=>exact⟨0,aQ _,rfl,dy _ _ _ _,ae _ _⟩
 case round =>
  obtain⟨k,hk,rfl,ho,cL⟩:=hrel;obtain⟨ao,co,MM⟩:=ho.form;rw[ai]at MM;subst MM;have Th:(jc (ps.take k) rl now).length<=1000000:=by
   have h1:=bU (rl.Ul now) (ps.take k);rw[aM]at h1;unfold jc;omega
  by_cases fo:k<ps.length
  ·have pq:(k:Int)<(ps.length:Int):=ab;have dT:=O (List.getElem?_eq_getElem fo);generalize ps[k]=p at dT;have lY:dY 12 wr (.slice ak ps.length ck) (ps.map eo.cells):=bh mq cL;rcases lY.2 with ⟨_,_,_,e,_⟩|⟨bk,of,c,hf,g1,g2,g3,g4⟩
   ·have:ps.length=0:=by have:=ar List.length e;simpa using this
    omega
   rw[ai]at hf g1;cases hf;unfold maxLen at g2;obtain⟨x,hx⟩:∃x,x=p.cells:=⟨_,rfl⟩;have lB:x.length=12:=by rw[hx];rfl
   have eb:∀u∈x,u.oneCell'=true:=by rw[hx];exact p.tZ
   have hcell:=g4 k x (by rw[List.getElem?_map,dT.o,hx];rfl);have ir:=fun W=>run_storeCells_new (P:=prog) W 155 Fm x (by rw[lB];rfl) eb;have DN:(prog.info? 155).map (·.size)=some x.length:=Ba lB;have afg:=O (show(prog.info? 155).map (·.size)=some x.toArray.size by rw[aZ];exact DN);clear g4 lY;have HX:=O hx;have Iq:=O DN;have xc:=O eb;have apV:=O (aC wr (.cells x.toArray 155))
   have dB:Fr aS wr (wr.alloc (.cells x.toArray 155)):=(ae _ _).alloc _;have HP:=O (show∀U,Fr aS (wr.alloc (.cells x.toArray 155)) U->U.heap[wr.heap.size]?=some (.cells x.toArray 155 (0,0))from fun U hU=>hU.keep (aC _ _) id)
   have HPC:=O (show∀U,Fr aS (wr.alloc (.cells x.toArray 155)) U->U.cell? ⟨wr.heap.size,0,none⟩=some (.bool p.cX.aE)/\U.cell? ⟨wr.heap.size,1,none⟩=some (.string p.cX.host)/\U.cell? ⟨wr.heap.size,2,none⟩=some (.int .i64 p.cX.port)/\U.cell? ⟨wr.heap.size,3,none⟩=some (.bool p.o.aE)/\U.cell? ⟨wr.heap.size,4,none⟩=some (.string p.o.host)/\U.cell? ⟨wr.heap.size,5,none⟩=some (.int .i64 p.o.port)/\U.cell? ⟨wr.heap.size,6,none⟩=some (.string p.path)/\U.cell? ⟨wr.heap.size,7,none⟩=some (.string p.query)/\U.cell? ⟨wr.heap.size,8,none⟩=some (.bool p.fN)from fun U hU=>by
    have j:=HP.o U hU;rw[HX.o]at j;have hc:∀i u,p.cells[i]?=some u->U.cell? ⟨wr.heap.size,i,none⟩=some u:=fun i u hu=>by simp only[World.cell?,j];simpa using hu
    exact⟨hc 0 _ rfl,hc 1 _ rfl,hc 2 _ rfl,hc 3 _ rfl,hc 4 _ rfl,hc 5 _ rfl,hc 6 _ rfl,hc 7 _ rfl,hc 8 _ rfl⟩)
   have AL:=O (show∀U,aB 124 #[.agg x.toArray,.int .i64 now] U fun e w'=>e=.returned (.bool (p.alive now))/\Fr aS U w' from fun U=>by rw[HX.o];exact GC p now U);have hwr:w.heap.size<=wr.heap.size:=by have:=cL.size;omega
   have tA:=O (cL.trans dB);have HO:=O (show∀U,Fr aS (wr.alloc (.cells x.toArray 155)) U->OwnRows w1.heap.size 155 12 U (.slice ao (jc (ps.take k) rl now).length co) ((jc (ps.take k) rl now).map eo.cells)from fun U hU=>(ho.alloc _).fr hU (fun _ _ h=>h));have TL:=O (HM.o p);have Eu:=O (fun hm=>aaF (r:=rl) (now:=now) dT.o hm);have wE:=O (fun hm=>WL (r:=rl) (now:=now) dT.o hm)
   obtain⟨fs,kH⟩:∃fs,fs=jc (ps.take k) rl now:=⟨_,rfl⟩;rw[<-kH]at HO Eu wE Th ⊢;clear hx DN eb ho dB cL kH;go_wp2_with (first|((with_reducible refine di 18 ?_);refine a_ rfl 155 (.tmp 17) rfl bk (of+k*12) rfl x _ hcell underlying155 rfl Iq.o ?_)|((with_reducible refine di 19 ?_);refine aH rfl 155 (.tmp 9) rfl wr.heap.size rfl _ x.toArray (0,0) _ apV.o underlying155 rfl afg.o ?_)|fail)
   have Gl:=vN x #[.bool false,.string ⟨#[]⟩,.int .i64 0,.bool false,.string ⟨#[]⟩,.int .i64 0,.string ⟨#[]⟩,.string ⟨#[]⟩,.bool false,.string ⟨#[]⟩,.string ⟨#[]⟩,.int .i64 0] (by rw[lB];rfl);clear ir hcell;generalize wr.alloc (.cells x.toArray 155)=W2 at *
   refine(AL.o W2).mono ?_;rintro e w3⟨rfl,iz⟩;obtain⟨p0,p1,p2,p3,p4,p5,p6,p7,p8⟩:=HPC.o w3 iz;have iA:=O (tA.o.trans iz);obtain⟨r1,r2,r3,r4,r5,r6,r7,r8,r11⟩:=HC.o w3 iA.o;have JD:=O (HP.o w3 iz);have xV:=O (HO.o w3 iz);have h33:w1.heap.size<=w3.heap.size:=iA.o.size;have heq:=jA p.cX r.cX;have heu:=zP p.o p.path p.query r.o r.path r.query;clear AL HP HPC iz;cases ea:p.alive now
   ·have HN:=O (wE.o (by rw[TL.o,ea];rfl));clear TL Eu wE ea heq heu;go_wp2;go_roundw
    case rel=>exact⟨k+1,ab,bg,by rw[HN.o];exact xV.o,iA.o⟩
    case measure=>simp[intOf];omega
   ·cases e1:p.cX.lj r.cX
    ·rw[e1]at heq;have HN:=O (wE.o (by rw[TL.o,ea,e1];rfl));clear TL Eu wE ea e1 heu;go_wp2;go_roundw
     case rel=>exact⟨k+1,ab,bg,by rw[HN.o];exact xV.o,iA.o⟩
     case measure=>simp[intOf];omega
    ·rw[e1]at heq;cases e2:(p.o.lj r.o&&(p.path.toList==r.path.toList&&p.query.toList==r.query.toList))
     ·rw[e2]at heu;have HN:=O (wE.o (by rw[TL.o,ea,e1,e2];rfl));clear TL Eu wE ea e1 e2;go_wp2;go_roundw
      case rel=>exact⟨k+1,ab,bg,by rw[HN.o];exact xV.o,iA.o⟩
      case measure=>simp[intOf];omega
     ·rw[e2]at heu;cases e3:p.fN
      ·rw[e3]at p8;cases e4:r.fN
       ·rw[e4]at r11;have HY:=O (Eu.o (by rw[TL.o,ea,e1,e2,e3,e4];rfl));clear TL Eu wE ea e1 e2 e3 e4
        go_wp2_with (first|((with_reducible refine di 46 ?_);refine aH rfl 155 (.tmp 9) rfl wr.heap.size rfl _ x.toArray (0,0) _ JD.o underlying155 rfl afg.o ?_)|(at_builtin;refine nQ rfl _ _ 90 155 rfl 12 144 (.agg Fm) underlying90 Bb rfl ag ag w1.heap.size (.slice ao fs.length co) (fs.map eo.cells) rfl (xV.o.alloc _) w3.heap.size 1 x rfl lB xc.o (fun i u hi=>by rw[World.cell?_alloc_mark];simpa using hi) (by rw[ai];omega) bI ?_;intro v' w4 fa Ci))
        have jZ:=O ((iA.o.alloc (.cells x.toArray 155)).fR Ci (fun j hj=>xV.o.block j hj));go_roundw
        case rel=>exact⟨k+1,ab,bg,by rw[HY.o,bG,cE,dt, <-HX.o];exact fa,jZ.o⟩
        case measure=>simp[intOf];omega
       ·rw[e4]at r11;have HN:=O (wE.o (by rw[TL.o,ea,e1,e2,e3,e4];rfl));clear TL Eu wE ea e1 e2 e3 e4;go_wp2;go_roundw
        case rel=>exact⟨k+1,ab,bg,by rw[HN.o];exact xV.o,iA.o⟩
        case measure=>simp[intOf];omega
      ·rw[e3]at p8;have HY:=O (Eu.o (by rw[TL.o,ea,e1,e2,e3];rfl));clear TL Eu wE ea e1 e2 e3
       go_wp2_with (first|((with_reducible refine di 46 ?_);refine aH rfl 155 (.tmp 9) rfl wr.heap.size rfl _ x.toArray (0,0) _ JD.o underlying155 rfl afg.o ?_)|(at_builtin;refine nQ rfl _ _ 90 155 rfl 12 144 (.agg Fm) underlying90 Bb rfl ag ag w1.heap.size (.slice ao fs.length co) (fs.map eo.cells) rfl (xV.o.alloc _) w3.heap.size 1 x rfl lB xc.o (fun i u hi=>by rw[World.cell?_alloc_mark];simpa using hi) (by rw[ai];omega) bI ?_;intro v' w4 fa Ci))
       have jZ:=O ((iA.o.alloc (.cells x.toArray 155)).fR Ci (fun j hj=>xV.o.block j hj));go_roundw
       case rel=>exact⟨k+1,ab,bg,by rw[HY.o,bG,cE,dt, <-HX.o];exact fa,jZ.o⟩
       case measure=>simp[intOf];omega
  ·have pq:¬(k:Int)<(ps.length:Int):=ab;have QN:ps.take k=ps:=aD ab;rw[QN]at ho Th ⊢;obtain⟨fs,kH⟩:∃fs,fs=jc ps rl now:=⟨_,rfl⟩;rw[<-kH]at ho Th ⊢;have HO:=O ho;have HEQ:=O kH;clear ho kH;go_wp2;go_ret;exact⟨.slice ao fs.length co,rfl,by rw[<-HEQ.o];exact HO.o.up Cf,lC.o.trans cL⟩
def xD(ws:List (bJ bE)):Prop:=ws.Pairwise fun x y=>A_ x.o x.proxy y=false
theorem D9{o:gA}{proxy:Bool}{x:bJ bE}:A_ o proxy x=true↔x.o=o/\x.proxy=proxy:=by
 unfold A_;rw[cF,gA.wO,dW]
theorem ru(o:gA)(proxy:Bool):∀ws:List (bJ bE),(ml o proxy ws).1.Sublist ws
 |[]=>List.Sublist.slnil
 |g :: l=>by
  rw[ml];split
  ·exact List.sublist_cons_self _ _
  ·exact(ru o proxy l).cons_cons _
theorem D_{o:gA}{proxy:Bool}:∀ {ws:List (bJ bE)},xD ws->∀x∈(ml o proxy ws).1,A_ o proxy x=false
 |[],_,x,hx=>by cases hx
 |g :: l,hu,x,hx=>by
  have hu':=List.pairwise_cons.1 hu;rw[ml]at hx;cases hg:A_ o proxy g
  ·rw[hg]at hx;simp only[cJ,eW]at hx;rcases bB.1 hx with rfl|hx
   ·exact hg
   ·exact D_ hu'.2 x hx
  ·rw[hg,az rfl]at hx;have hx:x∈l:=hx;obtain⟨e1,e2⟩:=D9.1 hg;have:=hu'.1 x hx;rw[e1,e2]at this;exact this
theorem xD.sub{l:List (bJ bE)}(h:xD ws)(hs:l.Sublist ws):xD l:=List.Pairwise.sublist hs h
theorem xD.ask(h:xD ws)(m:bJ bE):xD (zL ws m):=by
 unfold zL;refine xD.sub (ws:=(ml m.o m.proxy ws).1++[m]) ?_ (List.drop_sublist _ _);unfold xD;rw[List.pairwise_append];refine⟨h.sub (ru _ _ _),List.pairwise_singleton _ _,fun x hx y hy=>?_⟩;rw[df]at hy;subst hy;have:=D_ h x hx;rw[Bool.eq_false_iff]at this ⊢;intro e;obtain⟨e1,e2⟩:=D9.1 e;exact this (D9.2 ⟨e1.symm,e2.symm⟩)
def Fo(gs:List (aP bE)):Prop:=∀g∈gs,0<=g.count
structure nr (p:dS):Prop where
 uniq:xD p.waits
 nat:Fo p.bH
 tP:p.bH.length<=8/\p.waits.length<=8/\p.book.length<=32/\p.dL.length<=8
theorem nr.no:nr yq:=⟨List.Pairwise.nil,fun _ h=>(by cases h),ag⟩
theorem Fo.filter(h:Fo gs)(f:aP bE->Bool):Fo (gs.filter f):=fun g hg=>h g (fe.1 hg).1
theorem Fo.put(h:Fo gs){g:aP bE}(hg:0<=g.count):Fo (vq gs g):=by
 unfold vq;intro x hx;have hx:=eD hx;rcases bR.1 hx with hx|hx
 ·exact h x (fe.1 hx).1
 ·rw[df]at hx;rw[hx];exact hg
theorem Lt(gs:List (aP bE))(g:aP bE):(vq gs g).length<=8/\1<=(vq gs g).length:=by
 unfold vq;simp only[bK,aN,List.length_singleton];omega
theorem ZT(h:Fo gs)(o:gA)(proxy:Bool)(path:aj):Fo (vr gs o proxy path).1/\(vr gs o proxy path).1.length<=gs.length:=by
 unfold vr;split
 ·split
  ·rename_i g hg;have hk:=(List.getElem?_eq_some_iff.1 hg).1;have hl:Fo (gs.take (tW gs o proxy path).toNat++gs.drop ((tW gs o proxy path).toNat+1)):=fun x hx=>by
    rcases bR.1 hx with hx|hx
    ·exact h x (eC hx)
    ·exact h x (eD hx)
   simp only;split
   ·refine⟨hl,?_⟩;simp only[aN,aM,bK];omega
   ·refine⟨fun x hx=>?_,?_⟩
    ·rcases bR.1 hx with hx|hx
     ·exact hl x hx
     ·rw[df]at hx;rw[hx];have:=h g (cq hg);show 0<=g.count+1;omega
    ·simp only[aN,aM,bK,List.length_singleton];omega
  ·exact⟨h,ay _⟩
 ·exact⟨h,ay _⟩
theorem nr.sP{p:dS}(h:nr p)(now:Int)(o:iY):nr (sP p now o).1:=by
 obtain⟨hu,hn,f1,f2,f3,f4⟩:=h;unfold Go.Proofs.YtnckmcnffadjoaaGreatDoor.sP;by_cases h1:o.what=1
 ·rw[az h1];have hU:=ZT hn o.o o.proxy o.path;unfold iP;split
  ·rename_i gs e he;rw[he]at hU;exact⟨hu,hU.1,aG hU.2 f1,f2,f3,f4⟩
  ·rename_i gs g he;rw[he]at hU;split
   ·exact⟨hu,hU.1.filter _,aG (bU _ _) (aG hU.2 f1),f2,f3,f4⟩
   ·exact⟨hu,hU.1,aG hU.2 f1,f2,f3,f4⟩
 rw[aq h1];by_cases h2:o.what=2
 ·rw[az h2];unfold fM;split
  ·exact⟨hu,hn,f1,f2,f3,f4⟩
  ·rename_i l _;split
   ·split
    ·rename_i g hg;have hc:0<=g.count:=by
      unfold D8 at hg;split at hg
      ·split at hg
       ·cases hg;exact hZ _
       ·cases hg
      ·cases hg
     exact⟨hu,hn.put hc,(Lt _ _).1,f2,f3,f4⟩
    ·exact⟨hu.ask _,hn.filter _,aG (bU _ _) f1,Vq _ _,f3,f4⟩
   ·exact⟨hu,hn,f1,f2,f3,f4⟩
 rw[aq h2];by_cases h3:o.what=3
 ·rw[az h3];have hs:=ru o.o o.proxy p.waits;unfold gy;split
  ·rename_i ws e;rw[e]at hs;exact⟨hu.sub hs,hn,f1,aG hs.length_le f2,f3,f4⟩
  ·rename_i ws x e;rw[e]at hs;exact⟨hu.sub hs,hn.put (hZ _),(Lt _ _).1,aG hs.length_le f2,f3,f4⟩
 rw[aq h3];by_cases h4:o.what=4
 ·rw[az h4];exact⟨hu,hn,f1,f2,f3,f4⟩
 rw[aq h4];by_cases h5:o.what=5
 ·rw[az h5];unfold gY;split
  ·exact⟨hu,hn,f1,f2,f3,f4⟩
  ·split
   ·exact⟨hu,hn,f1,f2,aG (bU _ _) f3,f4⟩
   ·exact⟨hu,hn,f1,f2,Kj _ _ _,f4⟩
 rw[aq h5];by_cases h6:o.what=6
 ·rw[az h6];exact⟨hu,hn,f1,f2,f3,f4⟩
 rw[aq h6];by_cases h7:o.what=7
 ·rw[az h7];unfold kj;split
  ·exact⟨hu,hn,f1,f2,f3,f4⟩
  ·refine⟨hu,hn,f1,f2,f3,?_⟩;show(xC p.dL o.o o.cert).length<=8;unfold xC;simp only[bK];omega
 rw[aq h7];unfold qm;split
 ·exact nr.no
 ·have Uu:nr (uI p o.o):=⟨hu.sub List.filter_sublist,hn.filter _,aG (bU _ _) f1,aG (bU _ _) f2,f3,f4⟩;split
  ·exact⟨Uu.uniq,Uu.nat,Uu.tP.1,Uu.tP.2.1,aG (bU _ _) f3,aG (bU _ _) f4⟩
  ·exact Uu
structure xE (w:dI):Prop where
 part:∀k,nr (w.part k)
 now:0<=w.now/\w.now<=1099511627776
theorem xE.new:xE Bc:=⟨fun _=>nr.no,ag,ag⟩
theorem xE.ku{w:dI}(h:xE w)(o:iY):xE (ku w o).1:=by
 cases hr:o.right
 ·rw[zQ hr];exact h
 ·by_cases hw:o.what=10
  ·rw[zR hr hw];split
   ·exact h
   ·rename_i hn;refine⟨h.part,?_⟩;show 0<=w.now+o.n/\w.now+o.n<=1099511627776;have:=h.now;omega
  ·rw[wh hr hw];refine⟨fun k=>?_,h.now⟩;by_cases hk:k=o.part.toNat
   ·subst hk;rw[nL];exact(h.part _).sP _ _
   ·rw[mU _ _ hk];exact h.part k
def ln(c:gA×Int):aX:=[.bool c.1.aE,.string c.1.host,.int .i64 c.1.port,.int .i64 c.2]
structure cV where
 b:Nat
 gv:Value
 wv:Value
 k:Nat
 kv:Value
 cv:Value
def cV.cells(v:cV):aX:=[.pointer (some ⟨v.b,0,none⟩),.pointer (some ⟨v.k,0,none⟩),v.cv]
structure eQ (base:Nat) (w:World) (v:cV) (p:dS):Prop where
 oz:dE base w v.b v.gv v.wv p.bH p.waits
 book:eP base w v.k v.kv p.book
 dL:OwnRows base 97 4 w v.cv (p.dL.map ln)
def cV.j_(v:cV):dC:=fun i=>dw v.b v.gv v.wv i\/iC v.k v.kv i\/own v.cv i
section
variable {base : Nat} {w w' : World} {v : cV} {p : dS}
theorem dE.iw(h:dE base w b gv wv gs ws)(hi:dw b gv wv i) :
  ∃c t,w.heap[i]?=some (.cells c t (0,0))/\(t=89\/t=114\/t=133):=by
 rcases hi with rfl|hi|hi
 ·exact⟨_,_,h.eL,Or.inl rfl⟩
 ·obtain⟨c,e⟩:=h.tY hi;exact⟨_,_,e,Or.inr (Or.inl rfl)⟩
 ·obtain⟨c,e⟩:=h.vZ hi;exact⟨_,_,e,Or.inr (Or.inr rfl)⟩
theorem eP.iw(h:eP base w b bv ps)(hi:iC b bv i) :
  ∃c t,w.heap[i]?=some (.cells c t (0,0))/\(t=92\/t=155):=by
 rcases hi with rfl|hi
 ·exact⟨_,_,h.eL,Or.inl rfl⟩
 ·obtain⟨c,e⟩:=h.rows.GB hi;exact⟨_,_,e,Or.inr rfl⟩
theorem dE.nC(h:dE base w b gv wv gs ws)(hi:dw b gv wv i):base<=i:=by
 rcases hi with rfl|hi|hi
 ·exact h.low
 ·exact h.ah_ hi
 ·exact h.aia hi
theorem eP.nC(h:eP base w b bv ps)(hi:iC b bv i):base<=i:=by
 rcases hi with rfl|hi
 ·exact h.low
 ·exact h.rows.block _ hi
theorem eQ.iw(h:eQ base w v p)(hi:v.j_ i) :
  ∃c t,w.heap[i]?=some (.cells c t (0,0))/\(t=89\/t=114\/t=133\/t=92\/t=155\/t=97):=by
 rcases hi with hi|hi|hi
 ·obtain⟨c,t,e,ht⟩:=h.oz.iw hi;exact⟨c,t,e,by rcases ht with rfl|rfl|rfl<;>simp⟩
 ·obtain⟨c,t,e,ht⟩:=h.book.iw hi;exact⟨c,t,e,by rcases ht with rfl|rfl<;>simp⟩
 ·obtain⟨c,e⟩:=h.dL.GB hi;exact⟨c,_,e,aR⟩
theorem eQ.nC(h:eQ base w v p)(hi:v.j_ i):base<=i:=by
 rcases hi with hi|hi|hi
 ·exact h.oz.nC hi
 ·exact h.book.nC hi
 ·exact h.dL.block _ hi
theorem eQ.jr(h:eQ base w v p)(hi:v.j_ i):i<w.heap.size:=by
 obtain⟨c,t,e,_⟩:=h.iw hi;exact bj e
theorem eQ.off(h:eQ base w v p):rY base w v.j_:=fun i hi _=>by
 refine⟨h.nC hi,fun c f e=>?_⟩;obtain⟨c',t,e',ht⟩:=h.iw hi;rw[e]at e';cases e';revert ht;decide
theorem eQ.fr(h:eQ base w v p)(hf:Fr S w w')(ho:rY base w S)(hn:∀i,v.j_ i->¬S i):eQ base w' v p :=
 ⟨h.oz.fr hf ho (hn _ (Or.inl (Or.inl rfl))) (fun _ hk=>hn _ (Or.inl (Or.inr (Or.inl hk)))) (fun _ hk=>hn _ (Or.inl (Or.inr (Or.inr hk)))),
  h.book.fr hf (fun _ hk=>hn _ (Or.inr (Or.inl hk))),h.dL.fr hf (fun _ hk=>hn _ (Or.inr (Or.inr hk)))⟩
theorem eQ.dm(h:eQ base w v p)(hf:Fr aS w w'):eQ base w' v p:=h.fr hf (fE _ _) (fun _ _ h=>h)
theorem eQ.wX(h:eQ base w v p)(hi:dw v.b v.gv v.wv i):¬iC v.k v.kv i:=fun hj=>by
 obtain⟨c,t,e,ht⟩:=h.oz.iw hi;obtain⟨c',t',e',ht'⟩:=h.book.iw hj;rw[e]at e';cases e';rcases ht with rfl|rfl|rfl<;>revert ht'<;>decide
theorem eQ.wY(h:eQ base w v p)(hi:dw v.b v.gv v.wv i):¬own v.cv i:=fun hj=>by
 obtain⟨c,t,e,ht⟩:=h.oz.iw hi;obtain⟨c',e'⟩:=h.dL.GB hj;rw[e]at e';cases e';revert ht;decide
theorem eQ.GG(h:eQ base w v p)(hi:iC v.k v.kv i):¬own v.cv i:=fun hj=>by
 obtain⟨c,t,e,ht⟩:=h.book.iw hi;obtain⟨c',e'⟩:=h.dL.GB hj;rw[e]at e';cases e';revert ht;decide
end
def iQ(pv:Nat->cV)(now:Int):aX:=(pv 0).cells++((pv 1).cells++((pv 2).cells++((pv 3).cells++[.int .i64 now])))
def yr(pv:Nat->cV)(i:Nat)(v:cV):Nat->cV:=fun j=>if j=i then v else pv j
def pn(cs:aX)(o:Nat)(v:cV):aX:=((cs.set o (.pointer (some ⟨v.b,0,none⟩))).set (o+1) (.pointer (some ⟨v.k,0,none⟩))).set (o+2) v.cv
theorem sR(pv:Nat->cV)(i:Nat)(v:cV):yr pv i v i=v:=by unfold yr;simp
theorem mI(pv:Nat->cV){j:Nat}(v:cV)(h:j≠i):yr pv i v j=pv j:=by unfold yr;simp[h]
theorem yt(pv:Nat->cV)(now:Int)(hi:i<4)(v:cV):pn (iQ pv now) (i*3) v=iQ (yr pv i v) now:=by
 unfold pn iQ yr cV.cells
 match i,hi with
 |0,_=>rfl
 |1,_=>rfl
 |2,_=>rfl
 |3,_=>rfl
theorem wZ(pv:Nat->cV)(now:Int)(hi:i<4):(iQ pv now)[i*3]?=some (.pointer (some ⟨(pv i).b,0,none⟩))/\(iQ pv now)[i*3+1]?=some (.pointer (some ⟨(pv i).k,0,none⟩))/\(iQ pv now)[i*3+2]?=some (pv i).cv:=by
 unfold iQ cV.cells
 match i,hi with
 |0,_=>exact⟨rfl,rfl,rfl⟩
 |1,_=>exact⟨rfl,rfl,rfl⟩
 |2,_=>exact⟨rfl,rfl,rfl⟩
 |3,_=>exact⟨rfl,rfl,rfl⟩
theorem N4(pv:Nat->cV)(now:Int):(iQ pv now)[12]?=some (.int .i64 now):=rfl
theorem xG(pv:Nat->cV)(now n:Int):(iQ pv now).set 12 (.int .i64 n)=iQ pv n:=rfl
structure cD (base:Nat) (w:World) (B:Nat) (pv:Nat->cV) (x:dI):Prop where
 low:base<=B
 eL:w.heap[B]?=some (.cells (iQ pv x.now).toArray 86 (0,0))
 part:∀i,i<4->eQ base w (pv i) (x.part i)
 apart:∀i j,i<4->j<4->i≠j->∀k,(pv i).j_ k->¬(pv j).j_ k
def lN(B:Nat)(pv:Nat->cV):dC:=fun k=>k=B\/∃i,i<4/\(pv i).j_ k
def dn(base:Nat)(w:World)(B:Nat)(pv:Nat->cV)(x:dI)(w':World):Prop :=
 ∃yJ,cD base w' B yJ x/\Fr (lN B pv) w w'/\∀k,lN B yJ k->lN B pv k\/w.heap.size<=k
section
variable {base : Nat} {w w' : World} {B : Nat} {pv : Nat → cV} {x : dI}
theorem cD.lt(h:cD base w B pv x):B<w.heap.size:=bj h.eL
theorem cD.jr(h:cD base w B pv x)(hk:lN B pv k):k<w.heap.size:=by
 rcases hk with rfl|⟨i,hi,hk⟩
 ·exact h.lt
 ·exact(h.part i hi).jr hk
theorem cD.nC(h:cD base w B pv x)(hk:lN B pv k):base<=k:=by
 rcases hk with rfl|⟨i,hi,hk⟩
 ·exact h.low
 ·exact(h.part i hi).nC hk
theorem cD.zU(h:cD base w B pv x)(hi:i<4):¬(pv i).j_ B:=fun hk=>by
 obtain⟨c,t,e,ht⟩:=(h.part i hi).iw hk;rw[h.eL]at e;cases e;revert ht;decide
theorem cD.RN(h:cD base w B pv x):rY base w (one B):=by
 rintro k rfl _;exact⟨h.low,fun c f e=>by rw[h.eL]at e;cases e⟩
theorem cD.off(h:cD base w B pv x):rY base w (lN B pv):=by
 rintro k(rfl|⟨i,hi,hk⟩)hl
 ·exact h.RN _ rfl hl
 ·exact(h.part i hi).off k hk hl
theorem cD.fr(h:cD base w B pv x)(hf:Fr S w w')(ho:rY base w S)(hn:∀k,lN B pv k->¬S k):cD base w' B pv x :=
 ⟨h.low,hf.keep h.eL (hn B (Or.inl rfl)),fun i hi=>(h.part i hi).fr hf ho (fun k hk=>hn k (Or.inr ⟨i,hi,hk⟩)),h.apart⟩
theorem cD.dm(h:cD base w B pv x)(hf:Fr aS w w'):cD base w' B pv x:=h.fr hf (fE _ _) (fun _ _ h=>h)
theorem dn.same(h:cD base w B pv x)(hf:Fr aS w w'):dn base w B pv x w' :=
 ⟨pv,h.dm hf,hf.mono (fun _ _ h=>absurd h id),fun _ hk=>Or.inl hk⟩
end
theorem dn.frame{pv:Nat->cV}{x x':dI}(h:dn base w B pv x' w')(h0:cD base w B pv x)(hf:Fr aS a w)(hb:a.heap.size<=base):Fr aS a w':=by
 obtain⟨_,_,h2,_⟩:=h;refine hf.step h2 (fun k hk hw=>?_);have:=h0.nC hw;omega
structure gT (w:World) (B:Nat) (cs:aX) (o:Nat) (v:cV):Prop where
 eL:w.heap[B]?=some (.cells cs.toArray 86 (0,0))
 c0:cs[o]?=some (.pointer (some ⟨v.b,0,none⟩))
 c1:cs[o+1]?=some (.pointer (some ⟨v.k,0,none⟩))
 c2:cs[o+2]?=some v.cv
theorem w_{o:Nat}{v:cV}(c0:cs[o]?=some (.pointer (some ⟨v.b,0,none⟩)))(c1:cs[o+1]?=some (.pointer (some ⟨v.k,0,none⟩)))(c2:cs[o+2]?=some v.cv):pn cs o v=cs:=by
 unfold pn;apply jg;intro i;by_cases h2:i=o+2
 ·subst h2;rw[List.getElem?_set_self (by simp;exact(List.getElem?_eq_some_iff.1 c2).1),c2]
 rw[List.getElem?_set_ne (kZ h2)];by_cases h1:i=o+1
 ·subst h1;rw[List.getElem?_set_self (by simp;exact(List.getElem?_eq_some_iff.1 c1).1),c1]
 rw[List.getElem?_set_ne (kZ h1)];by_cases h0:i=o
 ·subst h0;rw[List.getElem?_set_self (List.getElem?_eq_some_iff.1 c0).1,c0]
 rw[List.getElem?_set_ne (kZ h0)]
section
variable {w w' : World} {B o : Nat} {cs : List Value} {v : cV}
theorem gT.cell0(h:gT w B cs o v):w.cell? ⟨B,o,none⟩=some (.pointer (some ⟨v.b,0,none⟩)):=by simp[World.cell?,h.eL,h.c0]
theorem gT.h_(h:gT w B cs o v):w.cell? ⟨B,o+1,none⟩=some (.pointer (some ⟨v.k,0,none⟩)):=by simp[World.cell?,h.eL,h.c1]
theorem gT.lT(h:gT w B cs o v):w.cell? ⟨B,o+2,none⟩=some v.cv:=by simp[World.cell?,h.eL,h.c2]
theorem gT.free(h:gT w B cs o v)(k:Nat):w.frozen? ⟨B,k,none⟩=false:=by simp[World.frozen?,h.eL]
theorem gT.fr(h:gT w B cs o v)(hf:Fr S w w')(hn:¬S B):gT w' B cs o v:=⟨hf.keep h.eL hn,h.c0,h.c1,h.c2⟩
theorem gT.dm(h:gT w B cs o v)(hf:Fr aS w w'):gT w' B cs o v:=h.fr hf id
end
def zV(B:Nat)(v:cV):dC:=fun k=>k=B\/v.j_ k
def dk(base:Nat)(w:World)(B:Nat)(cs:aX)(o:Nat)(v:cV)(p:dS)(w':World):Prop :=
 ∃v',eQ base w' v' p/\Fr (zV B v) w w'/\(∀k,v'.j_ k->v.j_ k\/w.heap.size<=k)/\w'.heap[B]?=some (.cells (pn cs o v').toArray 86 (0,0))
theorem dk.same{base:Nat}{w w':World}{B o:Nat}{cs:aX}{v:cV}{p:dS}(h:eQ base w v p)(ha:gT w B cs o v)(hf:Fr aS w w'):dk base w B cs o v p w' :=
 ⟨v,h.dm hf,hf.mono (fun _ _ h=>absurd h id),fun _ hk=>Or.inl hk,by rw[w_ ha.c0 ha.c1 ha.c2];exact hf.keep ha.eL id⟩
theorem dk.oz{base:Nat}{w w':World}{B o:Nat}{cs:aX}{v:cV}{p:dS}(h:eQ base w v p)(ha:gT w B cs o v)(hB:¬v.j_ B){gs:List (aP bE)}{ws:List (bJ bE)}(hp:kE base w v.b v.gv v.wv gs ws w') :
  dk base w B cs o v {p with bH:=gs,waits:=ws} w':=by
 obtain⟨gv',wv',h1,h2,h3⟩:=hp;refine⟨⟨v.b,gv',wv',v.k,v.kv,v.cv⟩,⟨h1,?_,?_⟩,h2.mono (fun k _ hk=>Or.inr (Or.inl hk)),?_,?_⟩
 ·exact h.book.fr h2 (fun k hk hb=>h.wX hb hk)
 ·exact h.dL.fr h2 (fun k hk hb=>h.wY hb hk)
 ·rintro k(hk|hk|hk)
  ·rcases h3 k hk with hk|hk
   ·exact Or.inl (Or.inl hk)
   ·exact Or.inr hk
  ·exact Or.inl (Or.inr (Or.inl hk))
  ·exact Or.inl (Or.inr (Or.inr hk))
 ·show w'.heap[B]?=some (.cells (pn cs o v).toArray _ _);rw[w_ ha.c0 ha.c1 ha.c2];exact h2.keep ha.eL (fun hb=>hB (Or.inl hb))
theorem dk.book{base:Nat}{w w':World}{B o:Nat}{cs:aX}{v:cV}{p:dS}(h:eQ base w v p)(ha:gT w B cs o v)(hB:¬v.j_ B){ps:List eo}(hp:D6 base w v.k v.kv ps w') :
  dk base w B cs o v {p with book:=ps} w':=by
 obtain⟨kv',h1,h2,h3⟩:=hp;have mS:rY base w (iC v.k v.kv):=fun k hk hl=>h.off k (Or.inr (Or.inl hk)) hl;refine⟨⟨v.b,v.gv,v.wv,v.k,kv',v.cv⟩,⟨?_,h1,?_⟩,h2.mono (fun k _ hk=>Or.inr (Or.inr (Or.inl hk))),?_,?_⟩
 ·exact h.oz.fr h2 mS (fun hb=>h.wX (Or.inl rfl) hb) (fun k hk hb=>h.wX (Or.inr (Or.inl hk)) hb) (fun k hk hb=>h.wX (Or.inr (Or.inr hk)) hb)
 ·exact h.dL.fr h2 (fun k hk hb=>h.GG hb hk)
 ·rintro k(hk|hk|hk)
  ·exact Or.inl (Or.inl hk)
  ·rcases h3 k hk with hk|hk
   ·exact Or.inl (Or.inr (Or.inl hk))
   ·exact Or.inr hk
  ·exact Or.inl (Or.inr (Or.inr hk))
 ·show w'.heap[B]?=some (.cells (pn cs o v).toArray _ _);rw[w_ ha.c0 ha.c1 ha.c2];exact h2.keep ha.eL (fun hb=>hB (Or.inr (Or.inl hb)))
theorem dk.after{base:Nat}{a w w':World}{B o:Nat}{cs:aX}{v:cV}{p:dS}(hf:Fr aS a w)(h:dk base w B cs o v p w'):dk base a B cs o v p w':=by
 obtain⟨v',h1,h2,h3,h4⟩:=h;refine⟨v',h1,fV (S:=zV B v) (hf.mono (fun _ _ h=>absurd h id)) h2 (fun _ _ h=>h),fun k hk=>?_,h4⟩;rcases h3 k hk with h|h
 ·exact Or.inl h
 ·exact Or.inr (aG hf.size h)
theorem dk.then{o:Nat}{v:cV}{p:dS}(h:dk base a B cs o v p w)(hf:Fr aS w w'):dk base a B cs o v p w':=by
 obtain⟨v',h1,h2,h3,h4⟩:=h;exact⟨v',h1.dm hf,h2.step (T:=aS) hf (fun _ _ h=>absurd h id),h3,hf.keep h4 id⟩
theorem cD.step{base:Nat}{w w':World}{B:Nat}{pv:Nat->cV}{x:dI}{i:Nat}{p:dS}(h:cD base w B pv x)(hi:i<4)(hp:dk base w B (iQ pv x.now) (i*3) (pv i) p w') :
  dn base w B pv (x.set i p) w':=by
 obtain⟨v',h1,h2,h3,h4⟩:=hp;have ll:∀j k,j<4->(yr pv i v' j).j_ k->(pv j).j_ k\/w.heap.size<=k:=by
  intro j k hj hk;by_cases FU:j=i
  ·subst FU;rw[sR]at hk;exact h3 k hk
  ·rw[mI pv v' FU]at hk;exact Or.inl hk
 refine⟨yr pv i v',⟨h.low,?_,fun j hj=>?_,fun a b ha hb sa k hka ND=>?_⟩,h2.mono ?_,?_⟩
 ·rw[h4,yt pv x.now hi];rfl
 ·by_cases FU:j=i
  ·subst FU;rw[sR,nL];exact h1
  ·rw[mI pv v' FU,mU _ _ FU];refine(h.part j hj).fr h2 ?_ ?_
   ·rintro k(rfl|hk)hl
    ·exact h.RN _ rfl hl
    ·exact(h.part i hi).off k hk hl
   ·rintro k hk(rfl|Zr)
    ·exact h.zU hj hk
    ·exact h.apart j i hj hi FU k hk Zr
 ·rcases ll a k ha hka with h5|h5
  ·rcases ll b k hb ND with h6|h6
   ·exact h.apart a b ha hb sa k h5 h6
   ·have:=(h.part a ha).jr h5;omega
  ·rcases ll b k hb ND with h6|h6
   ·have:=(h.part b hb).jr h6;omega
   ·by_cases hai:a=i
    ·by_cases hbi:b=i
     ·exact sa (hai.trans hbi.symm)
     ·rw[mI pv v' hbi]at ND;have:=(h.part b hb).jr ND;omega
    ·rw[mI pv v' hai]at hka;have:=(h.part a ha).jr hka;omega
 ·rintro k _(rfl|hk)
  ·exact Or.inl rfl
  ·exact Or.inr ⟨i,hi,hk⟩
 ·rintro k(rfl|⟨j,hj,hk⟩)
  ·exact Or.inl (Or.inl rfl)
  ·rcases ll j k hj hk with h5|h5
   ·exact Or.inl (Or.inr ⟨j,hj,h5⟩)
   ·exact Or.inr h5
theorem cD.partAt{pv:Nat->cV}{x:dI}(h:cD base w B pv x)(hi:i<4):gT w B (iQ pv x.now) (i*3) (pv i) :=
 ⟨h.eL,(wZ pv x.now hi).1,(wZ pv x.now hi).2.1,(wZ pv x.now hi).2.2⟩
def kI.val(r:kI):Value:=.agg #[.int .i64 r.what,.string r.head,.int .i64 r.cert]
structure jQ where
 what:Int
 aJ:gu Value
 proxy:Bool
 text:aj
 user:aj
 pass:aj
 bL:aj
 cert:Int
 all:Bool
 n:Int
def jQ.cells(o:jQ):aX:=.int .i64 o.what :: (o.aJ.cells++[.bool o.proxy,.string o.text,.string o.user,.string o.pass,.string o.bL,.int .i64 o.cert,.bool o.all,.int .i64 o.n])
def jQ.dR(o:jQ)(hs:List ig):iY:=⟨o.what,o.aJ.part,o.aJ.cX,o.aJ.o,o.aJ.path,o.aJ.query,o.aJ.method,hs,o.aJ.fN,o.aJ.body,o.proxy,o.text,o.user,o.pass,o.bL,o.cert,o.all,o.n⟩
structure gI (w:World) (o:jQ) (hs:List ig):Prop where
 ey:oL w o.aJ.ey hs
 aJ:Gz o.aJ hs
 cX:o.aJ.cX.host.size<100000
 ori:o.aJ.o.host.size<100000
 path:o.aJ.path.size<=2000
 query:o.aJ.query.size<=2000
 method:o.aJ.method.size<=5000
 body:o.aJ.body.size<=5000
 text:o.text.size<100000
 user:o.user.size<=5000
 pass:o.pass.size<=5000
 bL:o.bL.size<=5000
 VN: -9223372036854775808<=o.aJ.cX.port/\o.aJ.cX.port<=9223372036854775807
 aiV: -9223372036854775808<=o.aJ.o.port/\o.aJ.o.port<=9223372036854775807
 part: -9223372036854775808<=o.aJ.part/\o.aJ.part<=9223372036854775807
 what: -9223372036854775808<=o.what/\o.what<=9223372036854775807
 cert: -9223372036854775808<=o.cert/\o.cert<=9223372036854775807
 n: -9223372036854775808<=o.n/\o.n<=9223372036854775807
theorem gI.dm{o:jQ}{hs:List ig}(h:gI w o hs)(hf:Fr aS w w'):gI w' o hs:={h with ey:=bh h.ey hf}
abbrev dh := @dk.after
abbrev eR := @dk.oz
abbrev fA := @dn.same
abbrev kx := @cD.step
abbrev mo := @dk.same
abbrev oX := @dk.book
theorem LZ(base:Nat)(w:World)(b:Nat)(v:Value)(ps:List eo)(r:gu Value)(hs:List ig)(now:Int)(h:eP base w b v ps)(hlen:ps.length<1000000)(hr:oL w r.ey hs)(hz:Gz r hs) :
  aB 33 #[.pointer (some ⟨b,0,none⟩),.agg r.cells.toArray,.int .i64 now] w fun e w'=>e=.returned (.bool (mF ps (r.dR hs) now))/\Fr aS w w':=by
 have gK:=O (show mF ps (r.dR hs) now=(!(r.dR hs).needs||(r.dR hs).ng (jc ps (r.dR hs) now))from rfl);generalize mF ps (r.dR hs) now=res at gK ⊢;obtain⟨w1,oy⟩:∃w1,w1=w.alloc (.cells r.cells.toArray 37):=⟨_,rfl⟩;have dr:Fr aS w w1:=by rw[oy];exact(ae _ _).alloc _
 have mf:w1.heap[w.heap.size]?=some (.cells r.cells.toArray 37 (0,0)):=by rw[oy];exact aC _ _
 have HN:=O (show∀U,Fr aS w1 U->aB 61 #[.agg r.cells.toArray] U fun e w'=>e=.returned (.bool (r.dR hs).needs)/\Fr aS U w' from fun U hU=>RA r hs U (bh hr (dr.trans hU)) hz)
 have TD:=O (show∀U,Fr aS w1 U->aB 63 #[.pointer (some ⟨b,0,none⟩),.agg r.cells.toArray,.int .i64 now] U fun e w'=>∃v',e=.returned v'/\OwnRows U.heap.size 155 12 w' v' ((jc ps (r.dR hs) now).map eo.cells)/\Fr aS U w' from fun U hU=>aaG base U b v ps r hs now (h.dm (dr.trans hU)) hlen)
 have xg:=O (show∀U,Fr aS w1 U->∀lv,qN U lv (jc ps (r.dR hs) now)->aB 62 #[.agg r.cells.toArray,lv] U fun e w'=>e=.returned (.bool ((r.dR hs).ng (jc ps (r.dR hs) now)))/\Fr aS U w' from fun U hU lv hlv=>yp r hs lv _ U (bh hr (dr.trans hU)) hlv hz);obtain⟨ah,ch,gH⟩:=dK hr;rw[ai]at gH
 have uH:r.cells=[.int .i64 r.part,.bool r.cX.aE,.string r.cX.host,.int .i64 r.cX.port,.bool r.o.aE,.string r.o.host,.int .i64 r.o.port,.string r.path,.string r.query,.string r.method,.slice ah hs.length ch,.bool r.fN,.string r.body]:=by unfold gu.cells;rw[gH]
 have HC:=O (show∀U,Fr aS w1 U->(U.cell? ⟨w.heap.size,0,none⟩=some (.int .i64 r.part)/\U.cell? ⟨w.heap.size,1,none⟩=some (.bool r.cX.aE)/\U.cell? ⟨w.heap.size,2,none⟩=some (.string r.cX.host)/\U.cell? ⟨w.heap.size,3,none⟩=some (.int .i64 r.cX.port)/\U.cell? ⟨w.heap.size,4,none⟩=some (.bool r.o.aE)/\U.cell? ⟨w.heap.size,5,none⟩=some (.string r.o.host)/\U.cell? ⟨w.heap.size,6,none⟩=some (.int .i64 r.o.port)/\U.cell? ⟨w.heap.size,7,none⟩=some (.string r.path)/\U.cell? ⟨w.heap.size,8,none⟩=some (.string r.query)/\U.cell? ⟨w.heap.size,9,none⟩=some (.string r.method)/\U.cell? ⟨w.heap.size,10,none⟩=some (.slice ah hs.length ch)/\U.cell? ⟨w.heap.size,11,none⟩=some (.bool r.fN)/\U.cell? ⟨w.heap.size,12,none⟩=some (.string r.body))from fun U hU=>by
  have j:=hU.keep mf id;rw[uH]at j;simp[World.cell?,j])
 rw[uH]at HN TD xg oy ⊢;have lC:=O dr;have hhw:=oy;clear h hr hz dr mf uH gH;cases hn:(r.dR hs).needs
 ·have HR:=O (show res=true by rw[gK.o,hn];rfl);rw[hn]at HN;clear hn gK TD xg hhw;go_enter func33,ntmps33;go_wp2_with fail
  rw[<-oy];clear oy
  refine wp_region_held_drew (S:=(fun U=>U.cell? ⟨w.heap.size,0,none⟩=some (.int .i64 r.part)/\U.cell? ⟨w.heap.size,1,none⟩=some (.bool r.cX.aE)/\U.cell? ⟨w.heap.size,2,none⟩=some (.string r.cX.host)/\U.cell? ⟨w.heap.size,3,none⟩=some (.int .i64 r.cX.port)/\U.cell? ⟨w.heap.size,4,none⟩=some (.bool r.o.aE)/\U.cell? ⟨w.heap.size,5,none⟩=some (.string r.o.host)/\U.cell? ⟨w.heap.size,6,none⟩=some (.int .i64 r.o.port)/\U.cell? ⟨w.heap.size,7,none⟩=some (.string r.path)/\U.cell? ⟨w.heap.size,8,none⟩=some (.string r.query)/\U.cell? ⟨w.heap.size,9,none⟩=some (.string r.method)/\U.cell? ⟨w.heap.size,10,none⟩=some (.slice ah hs.length ch)/\U.cell? ⟨w.heap.size,11,none⟩=some (.bool r.fN)/\U.cell? ⟨w.heap.size,12,none⟩=some (.string r.body))) af (HC.o _ (ae aS w1).drew) ?_
  intro Az;refine aW 0 7 rfl ?_;refine eT 1 rfl fun K hK=>?_;go_simp;refine(HN.o _ (ae aS w1).drew).mono ?_;rintro e v1⟨rfl,EZ⟩;have f_:=O (show Fr aS w1 v1 from((ae aS w1).drew).trans EZ);refine hK.out _ _ (HC.o _ f_.o) ?_;intro yu;clear hK Az EZ K
  try simp only[Act.put,sA,sB,sC]
  refine aW 2 9 rfl ?_;refine aW 3 10 rfl ?_;refine Bp 4 11 rfl ?_
  try simp only[Act.put,sA,sB,sC]
  refine Bp 5 12 rfl ?_
  try simp only[Act.put,sA,sB,sC]
  refine Bp 6 13 rfl ?_
  try simp only[Act.put,sA,sB,sC]
  refine Bp 7 14 rfl ?_
  try simp only[Act.put,sA,sB,sC]
  refine Bp 8 15 rfl ?_
  try simp only[Act.put,sA,sB,sC]
  refine Bp 9 16 rfl ?_
  try simp only[Act.put,sA,sB,sC]
  refine aW 10 17 rfl ?_;refine aW 11 6 rfl ?_;refine wpAnyH_done af ?_ _;go_wp2;go_ret;exact⟨by rw[HR.o];rfl,lC.o.trans f_.o⟩
 ·have HR:=O (show res=(r.dR hs).ng (jc ps (r.dR hs) now)by rw[gK.o,hn];rfl);rw[hn]at HN;generalize (r.dR hs).ng (jc ps (r.dR hs) now)=cv at *
  generalize jc ps (r.dR hs) now=fs at *
  clear hn gK hhw;go_enter func33,ntmps33;go_wp2_with fail
  rw[<-oy];clear oy
  go_region_held3 (fun U=>Fr aS w1 U/\U.cell? ⟨w.heap.size,0,none⟩=some (.int .i64 r.part)/\U.cell? ⟨w.heap.size,1,none⟩=some (.bool r.cX.aE)/\U.cell? ⟨w.heap.size,2,none⟩=some (.string r.cX.host)/\U.cell? ⟨w.heap.size,3,none⟩=some (.int .i64 r.cX.port)/\U.cell? ⟨w.heap.size,4,none⟩=some (.bool r.o.aE)/\U.cell? ⟨w.heap.size,5,none⟩=some (.string r.o.host)/\U.cell? ⟨w.heap.size,6,none⟩=some (.int .i64 r.o.port)/\U.cell? ⟨w.heap.size,7,none⟩=some (.string r.path)/\U.cell? ⟨w.heap.size,8,none⟩=some (.string r.query)/\U.cell? ⟨w.heap.size,9,none⟩=some (.string r.method)/\U.cell? ⟨w.heap.size,10,none⟩=some (.slice ah hs.length ch)/\U.cell? ⟨w.heap.size,11,none⟩=some (.bool r.fN)/\U.cell? ⟨w.heap.size,12,none⟩=some (.string r.body)) ((refine(fun hU=>⟨hU,HC.o _ hU⟩) ?_;repeat(first|exact ae _ _|assumption|apply bz|apply aA|refine bF ?_ j9)))
   ((first
    |(go_at_call 61;refine(HN.o _ (by repeat(first|exact ae _ _|assumption|apply aA|apply bz|refine bF ?_ j9))).mono ?_;rintro e u1 ⟨rfl,ui⟩)
    |(go_at_call 63;refine(TD.o _ (by repeat(first|exact ae _ _|assumption|apply aA|apply bz|refine bF ?_ j9))).mono ?_;rintro e u2 ⟨fv,rfl,La,nu⟩)
    |(go_at_call 62;refine(xg.o _ (by repeat(first|exact ae _ _|assumption|apply aA|apply bz|refine bF ?_ j9)) _ (bh La.at (by repeat(first|exact ae _ _|assumption|apply aA|apply bz|refine bF ?_ j9)))).mono ?_;rintro e u3 ⟨rfl,zD⟩)))
  have f_:=O (show Fr aS w1 u3 from by repeat(first|exact ae _ _|assumption|apply aA|apply bz|refine bF ?_ j9));clear ui nu zD;go_wp2;go_ret;exact⟨by rw[HR.o];rfl,lC.o.trans f_.o⟩
