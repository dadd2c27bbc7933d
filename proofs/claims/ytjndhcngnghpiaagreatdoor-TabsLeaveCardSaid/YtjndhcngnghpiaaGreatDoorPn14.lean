/- Lemmas for the law's walk. -/
import Derived.Test.YtjndhcngnghpiaaGreatDoorPn13
import Derived.Test.YtjndhcngnghpiaaGreatDoorPn22
set_option maxRecDepth 100000
set_option maxHeartbeats 16000000
set_option linter.unusedSimpArgs false
namespace Go.Proofs.YtjndhcngnghpiaaGreatDoor
open Go.Proofs.Tryz
open Go.RowKit
variable {c:UInt8} {s:aj} {i k base b B:Nat} {o:kl} {w a w':World} {ps:List ef} {r:qO} {now:Int} {p:ef} {ws:List (bI bE)} {gs:List (aP bE)} {gv wv bv:Value} {S:dB} {cs:aX}
theorem aeE(l:Bs):Lib.trimSuffix l [13]=tE l:=by
 unfold Lib.trimSuffix Lib.hasSuffix tE;rcases List.eq_nil_or_concat l with rfl|⟨a,b,rfl⟩
 ·rfl
 ·have h1:(List.isSuffixOf [13] (a.concat b)=true)↔b=13:=by
   rw[List.isSuffixOf_iff_suffix,List.concat_eq_append];constructor
   ·rintro⟨t,ht⟩;have:=(List.append_inj' ht rfl).2;simpa using this.symm
   ·rintro rfl;exact⟨a,rfl⟩
  have h2:(a.concat b).getLast?=some b:=by rw[List.concat_eq_append];simp
  rw[h2];by_cases hb:b=13
  ·rw[aA (h1.2 hb),aA (by rw[hb]),List.dropLast_eq_take];rfl
  ·rw[ar (fun h=>hb (h1.1 h)),ar (fun h=>hb (jR h))]
theorem GA(l:Bs):(tE l).length<=l.length:=by unfold tE;split<;>simp
theorem R7(h:¬0<=Lib.indexByte s.data.toList c):mz c s.data.toList=(s.data.toList,[],false) :=
 Fp c _ (fun hc=>(G5 _ _).1 h c hc rfl)
theorem Wb(h:Lib.indexByte s.data.toList c=(i:Int)):mz c s.data.toList=(s.data.toList.take i,s.data.toList.drop (i+1),true):=by
 obtain⟨he,hn⟩:=wH _ _ _ h;have:=JR c (s.data.toList.take i) (s.data.toList.drop (i+1)) hn;rw[<-he]at this;exact this
theorem A'(c:UInt8):∀d:Bs,(dY c d).length<=d.length+1/\∀p∈dY c d,p.length<=d.length
 |[]=>by simp[dY]
 |x :: d=>by
  have ih:=A' c d;by_cases hx:x=c
  ·subst hx;rw[rj];refine⟨bH,fun p hp=>?_⟩;rcases bB.1 hp with rfl|hp
   ·simp
   ·have:=ih.2 p hp;simp;omega
  ·cases e:dY c d with
   |nil=>exact absurd e (wD c d)
   |cons q qs =>
    rw[e]at ih;rw[nW hx e];refine⟨by simp at ih ⊢; omega,fun p hp=>?_⟩;rcases bB.1 hp with rfl|hp
    ·have:=ih.2 q (cX ..);simp;omega
    ·have:=ih.2 p (bP _ hp);simp;omega
def Od(s:aj)(w:World)(e:Ending)(w':World):Prop :=
 Fr aS w w'/\match mK s.data.toList with
 | .ok ps=>∃v,e=.returned (.tuple #[v,.nilIface])/\OwnRows w.heap.size 142 2 w' v (ps.map od)
 | .error n=>∃er,e=.returned (.tuple #[.slice none 0 0,er])/\Vl n er w'
def ajs(L:List Bs)(w:World)(out t:Value)(wr:World):Prop :=
 ∃(k:Nat) (acc:List jn),k<=L.length/\t=.int .i64 k/\OwnRows w.heap.size 142 2 wr out (acc.map od)/\kJ L []=kJ (L.drop k) acc/\acc.length<=40/\Fr aS w wr
theorem Lz{L:List Bs}{x:Bs}{acc:List jn}(h:L[k]?=some x):kJ (L.drop k) acc=match CT x with
  |none=>.error 3
  |some none=>kJ (L.drop (k+1)) acc
  |some (some p)=>if acc.length=40 then .error 4 else kJ (L.drop (k+1)) (acc++[p]):=by
 have hk:=(List.getElem?_eq_some_iff.1 h).1;have hx:L.drop k=x :: L.drop (k+1):=by
  rw[cR hk];have:=(List.getElem?_eq_some_iff.1 h).2;rw[this]
 rw[hx,kJ];rfl
theorem Oe(s:aj)(w:World)(hs:s.size<100000) :
  aB 86 #[.string s] w (Od s w):=by
 by_cases h3:3000<s.size
 ·have h3':(3000:Int)<(s.size:Int):=ab;have HE:=O (show mK s.data.toList=.error 4 by unfold mK;rw[aA (show 3000<s.data.toList.length from h3)]);go_enter func86,ntmps86;go_wp2;go_ret2;refine⟨ae _ _,?_⟩;rw[HE.o];exact⟨_,rfl,Or.inl rfl⟩
 ·have h3':¬(3000:Int)<(s.size:Int):=ab;have HE:=O (show mK s.data.toList=kJ (dY 10 s.data.toList) []by unfold mK;rw[ar (show¬3000<s.data.toList.length from h3)]);have hle:=A' 10 s.data.toList;have xF:=O (xY s 10 w ab);obtain⟨L,hL⟩:∃L,L=dY 10 s.data.toList:=⟨_,rfl⟩;obtain⟨B,hB⟩:∃B,B=iQ 10 s:=⟨_,rfl⟩;have hBL:B=L.map fun l=>(⟨l.toArray⟩:aj):=by rw[hB,hL];rfl
  have hlen:B.length=L.length:=by rw[hBL,ai]
  rw[<-hL]at HE hle;rw[<-hB]at xF;have Yf:=O hle;have hL1:L.length<=3001:=by have h:=hle.1;have h2:s.data.toList.length=s.size:=rfl;omega
  have oT:=O hBL;have U4:=O (show∀p∈L,p.length<=3000 from fun p hp=>by have h:=hle.2 p hp;have h2:s.data.toList.length=s.size:=rfl;omega);clear hle hL hB hBL;go_enter func86,ntmps86;go_wp2_with fail
  refine xF.o.mono ?_;rintro e w0⟨rfl,VL⟩;have oW:Fr aS w w0:=by rw[VL];exact(ae _ _).alloc _
  have sO:w0.heap[w.heap.size]?=some (.cells (B.map Value.string).toArray 9 (0,0)):=by rw[VL];exact aC _ _
  have HC:=O (show∀U,Fr aS w0 U->∀(k:Nat) x,L[k]?=some x->U.cell? ⟨w.heap.size,k,none⟩=some (.string ⟨x.toArray⟩)from fun U hU k x hx=>by
   have h:=hU.keep sO id;have e:(B.map Value.string)[k]?=some (.string ⟨x.toArray⟩):=by rw[List.getElem?_map,oT.o,List.getElem?_map,hx];rfl
   simp only[World.cell?,h];simpa using e)
  have EC:=O oW;rw[hlen];clear VL oW sO xF oT hlen;go_wp2;go_loopw[4,17] (ajs L w0) (fun _ t _=>L.length-(intOf t).toNat)
  case atStart=>exact⟨0,[],aQ _,rfl,dx _ _ _ _,by rw[eE],ag,ae _ _⟩
  case round =>
   obtain⟨k,acc,hk,rfl,ho,hn,agu,cL⟩:=hrel;obtain⟨ao,co,Mp⟩:=ho.form;rw[ai]at Mp;subst Mp;by_cases fk:k<L.length
   ·have o_:(k:Int)<(L.length:Int):=ab;have dP:=O (List.getElem?_eq_getElem fk);have iw:=O (bM fk);generalize L[k]=x at dP iw;have hxz:=U4.o x iw.o;have c0:=HC.o wr cL k x dP.o;obtain⟨lb,XY⟩:∃lb:aj,lb=⟨x.toArray⟩:=⟨_,rfl⟩;have Fv:lb.data.toList=x:=by rw[XY]
    rw[<-XY]at c0;obtain⟨y,hy⟩:∃y:aj,y=⟨(Lib.trimSuffix lb.data.toList [13]).toArray⟩:=⟨_,rfl⟩;have hyl:y.data.toList=tE x:=by rw[hy,Fv,aeE]
    have hyz:y.size<=3000:=by
     have h:=GA x;have h2:y.data.toList.length=y.size:=rfl;rw[hyl]at h2;omega
    have Ms:lb.size<=3000:=by have h2:lb.data.toList.length=lb.size:=rfl;rw[Fv]at h2;omega
    have HTS:=O (show aB 132 #[.string lb,.string ⟨#[13]⟩] wr fun e w'=>e=.returned (.string y)/\wr=w' from(strings_TrimSuffix lb ⟨#[13]⟩ wr ab).mono (by rintro e w' ⟨rfl,rfl⟩;exact⟨by rw[hy],rfl⟩));have l_:=O (Lz (acc:=acc) dP.o);have HN:=O hn;have HO:=O ho
    have HLR:=O (show CT x=if y.data.toList.isEmpty then some none else if !(mz 58 y.data.toList).2.2||!Ar (mz 58 y.data.toList).1 then none else some (some ((mz 58 y.data.toList).1,trimB (mz 58 y.data.toList).2.1))by rw[hyl];rfl);clear XY Fv hy hyl hn ho;have SX:y.toList=y.data.toList:=aO _;by_cases hy0:y.size=0
    ·have Ex:=gS.2 hy0;have aeF:y.toList=[]:=by rw[SX];exact Ex
     have api:(y.toList== [])=true:=by rw[aeF];rfl
     have HR:=O (show kJ L []=kJ (L.drop (k+1)) acc by rw[HN.o,l_.o,HLR.o,Ex];rfl);clear SX Ex;go_wp2_with fail
     refine HTS.o.mono ?_;rintro e u⟨rfl,rfl⟩;go_wp2;go_roundw
     case rel=>exact⟨k+1,acc,ab,bg,HO.o,HR.o,agu,cL⟩
     case measure=>simp[intOf];omega
    ·have Ex:¬y.data.toList=[]:=fun h=>hy0 (gS.1 h);have aeF:¬y.toList=[]:=by rw[SX];exact Ex
     have api:(y.toList== [])=false:=by rw[aL];exact aeF
     have Of:=O (show CT x=if !(mz 58 y.data.toList).2.2||!Ar (mz 58 y.data.toList).1 then none else some (some ((mz 58 y.data.toList).1,trimB (mz 58 y.data.toList).2.1))by
      rw[HLR.o,ar (by simpa using Ex)])
     clear SX Ex HLR;by_cases wF:0<=Lib.indexByte y.data.toList 58
     ·obtain⟨i,hi⟩:∃i:Nat,Lib.indexByte y.data.toList 58=(i:Int):=⟨(Lib.indexByte y.data.toList 58).toNat,ab⟩;have hil:i<y.size:=Ux hi;have hcut:=Wb hi;obtain⟨nm,Xw⟩:∃nm:aj,nm=y.extract 0 i:=⟨_,rfl⟩;obtain⟨vl,SN⟩:∃vl:aj,vl=y.extract (i+1) y.size:=⟨_,rfl⟩;have rJ:nm.data.toList=y.data.toList.take i:=by rw[Xw,oJ];simp
      have aeG:vl.data.toList=y.data.toList.drop (i+1):=by
       rw[SN,oJ];exact aD (by rw[bJ];exact ay _)
      have hnz:nm.size<=3000:=by
       have h2:nm.data.toList.length=nm.size:=rfl;rw[rJ,aM]at h2;have h3:y.data.toList.length=y.size:=rfl;omega
      have hvz:vl.size<=3000:=by
       have h2:vl.data.toList.length=vl.size:=rfl;rw[aeG,bJ]at h2;have h3:y.data.toList.length=y.size:=rfl;omega
      have G7:=O (JY y 58 i wr ab hi hil);rw[<-Xw, <-SN]at G7;rw[hcut]at Of;simp only at Of;rw[<-rJ, <-aeG]at Of;clear Xw SN rJ aeG hcut;cases Iy:Ar nm.data.toList
      ·have HR:=O (show mK s.data.toList=.error 3 by rw[HE.o,HN.o,l_.o,Of.o,Iy];rfl);have HIS:=O (fun U=>CB nm U ab);rw[Iy]at HIS;clear Iy hi wF;go_wp2_with fail
       refine HTS.o.mono ?_;rintro e u⟨rfl,rfl⟩;go_wp2_with fail
       refine G7.o.mono ?_;rintro e u⟨rfl,n,rfl⟩;go_wp2_with fail
       refine(HIS.o _).mono ?_;rintro e u⟨rfl,rfl⟩;have sO:=aC (wr.drewN n) (.cells #[.int .i64 3,.int .i64 k] 222);have HBK:=O sO;have Ub:=O ((cL.drewN n).alloc (.cells #[.int .i64 3,.int .i64 k] 222));clear sO;go_wp2;go_ret2;refine⟨EC.o.trans Ub.o,?_⟩;rw[HR.o];exact⟨_,rfl,Or.inr ⟨_,k,rfl,HBK.o⟩⟩
      ·by_cases GW:acc.length=40
       ·have HR:=O (show mK s.data.toList=.error 4 by rw[HE.o,HN.o,l_.o,Of.o,Iy];simp[GW]);have HIS:=O (fun U=>CB nm U ab);rw[Iy]at HIS;have i40:(acc.length:Int)=40:=ab;clear Iy hi wF;go_wp2_with fail
        refine HTS.o.mono ?_;rintro e u⟨rfl,rfl⟩;go_wp2_with fail
        refine G7.o.mono ?_;rintro e u⟨rfl,n,rfl⟩;go_wp2_with fail
        refine(HIS.o _).mono ?_;rintro e u⟨rfl,rfl⟩;have Ub:=O (cL.drewN n);go_wp2;go_ret2;refine⟨EC.o.trans Ub.o,?_⟩;rw[HR.o];exact⟨_,rfl,Or.inl rfl⟩
       ·have HIS:=O (fun U=>CB nm U ab);have HTR:=O (fun U=>sj vl ⟨#[32,9]⟩ U ab ag ag ag);obtain⟨tv,htv⟩:∃tv:aj,tv=⟨(Lib.trimS vl.data.toList [32,9]).toArray⟩:=⟨_,rfl⟩;have Qv:tv.data.toList=trimB vl.data.toList:=by rw[htv];rfl
        have apk:=O (show∀U,aB 134 #[.string vl,.string ⟨#[32,9]⟩] U fun e w'=>e=.returned (.string tv)/\Fr aS U w' from fun U=>by rw[htv];exact HTR.o U);have HPC:=O (show od (nm.data.toList,tv.data.toList)=[.string nm,.string tv]by unfold od;simp only[TK]);have HR:=O (show kJ L []=kJ (L.drop (k+1)) (acc++[(nm.data.toList,tv.data.toList)])by rw[HN.o,l_.o,Of.o,Iy,Qv];simp[GW]);rw[Iy]at HIS
        have i40:¬(acc.length:Int)=40:=ab;clear Iy hi wF htv Qv HTR;go_wp2_with fail
        refine HTS.o.mono ?_;rintro e u⟨rfl,rfl⟩;go_wp2_with fail
        refine G7.o.mono ?_;rintro e u⟨rfl,n,rfl⟩;go_wp2_with fail
        refine(HIS.o _).mono ?_;rintro e u⟨rfl,rfl⟩;go_wp2_with fail
        refine(apk.o _).mono ?_;rintro e u⟨rfl,hu⟩;have Vw:=O ((cL.drewN n).trans hu);have HOU:=O (HO.o.drewN (n:=n) |>.fr hu (fun _ _ h=>h));have hsu:w0.heap.size<=u.heap.size:=Vw.o.size;clear hu
        go_wp2_with (at_builtin;refine nJ rfl _ _ 27 142 rfl 2 32 (.agg #[.string ⟨#[]⟩,.string ⟨#[]⟩]) underlying27 Ka rfl ag ag w0.heap.size (.slice ao acc.length co) (acc.map od) rfl (HOU.o.alloc _) u.heap.size 1 [.string nm,.string tv] rfl rfl ct (fun i u hi=>by rw[World.cell?_alloc_mark];simpa using hi) (by rw[ai];omega) bH ?_;intro v' w4 eZ BU)
        have jO:=O ((Vw.o.alloc (.cells #[.string nm,.string tv] 142)).fP BU (fun j hj=>HOU.o.block j hj));go_roundw
        case rel=>exact⟨k+1,acc++[(nm.data.toList,tv.data.toList)],ab,bg,by rw[bG,cD,dp,HPC.o];exact eZ,HR.o,bH,jO.o⟩
        case measure=>simp[intOf];omega
     ·have hcut:=R7 wF;have HR:=O (show mK s.data.toList=.error 3 by rw[HE.o,HN.o,l_.o,Of.o,hcut];rfl);have G7:=O (Fs y 58 wr wF);clear wF hcut;go_wp2_with fail
      refine HTS.o.mono ?_;rintro e u⟨rfl,rfl⟩;go_wp2_with fail
      refine G7.o.mono ?_;rintro e u⟨rfl,rfl⟩;have sO:=aC u (.cells #[.int .i64 3,.int .i64 k] 222);have HBK:=O sO;have Ub:=O (cL.alloc (.cells #[.int .i64 3,.int .i64 k] 222));clear sO;go_wp2;go_ret2;refine⟨EC.o.trans Ub.o,?_⟩;rw[HR.o];exact⟨_,rfl,Or.inr ⟨_,k,rfl,HBK.o⟩⟩
   ·have o_:¬(k:Int)<(L.length:Int):=ab;have JX:L.drop k=[]:=List.drop_of_length_le ab;have HR:=O (show mK s.data.toList=.ok acc by rw[HE.o,hn,JX];rfl);have HO:=O ho;clear ho hn;go_wp2;go_ret2;refine⟨EC.o.trans cL,?_⟩;rw[HR.o];exact⟨_,rfl,HO.o.up EC.o.size⟩
theorem dN.eq{v w:dN}(h:∀i,v.part i=w.part i)(hn:v.now=w.now):v=w:=by
 cases v;cases w;simp only[dN.mk.injEq];exact⟨funext h,hn⟩
theorem dN.KY(w:dN)(k:Nat):w.set k (w.part k)=w:=by
 refine dN.eq (fun i=>?_) rfl;unfold dN.set;show(if i=k then w.part k else w.part i)=w.part i;split
 ·rename_i h;rw[h]
 ·rfl
theorem dN.NG(w:dN)(k:Nat)(p:eD):(w.set k p).part k=p:=by unfold dN.set;simp
theorem dN.Ib(w:dN)(p:eD)(h:i≠k):(w.set k p).part i=w.part i:=by unfold dN.set;simp[h]
theorem Ic{w:dN}(h:o.right=false):mi w o=(w,rep 7):=by unfold mi;rw[h];rfl
theorem DT{w:dN}(h:o.right=true)(hw:o.what≠10):mi w o=(w.set o.part.toNat (wK (w.part o.part.toNat) w.now o).1,(wK (w.part o.part.toNat) w.now o).2):=by
 unfold mi;rw[aA h,ar hw]
theorem DU{w:dN}(h:o.right=true)(hw:o.what=10):mi w o=if o.n<0\/1099511627776-w.now<o.n then(w,rep 7)else({w with now:=w.now+o.n},rep 1):=by
 unfold mi;rw[aA h,aA hw]
theorem ks(h:o.right=true):0<=o.part/\o.part<4:=by
 unfold kl.right kl.Vf at h;simp only[cF,dF]at h;exact⟨h.2.2.1.1,h.2.2.1.2.1⟩
theorem jJ{P:Program}{ops:Array Oper}{a:Act}{w:World}{K:Act->World->Prop}{Q:Exit->Act->World->Prop}{E:Prop}{o:Oper}(yE:o.guard=none)(ty:TypeId)(x y:Operand)(ho:o.op=.store ty x y)
  (g:Nat)(cells:bS)(hx:a.eval x=.pointer (some ⟨g,0,none⟩))(hy:a.eval y=.agg cells)
  (t:TypeId)(old:bS)(hg:w.heap[g]?=some (.cells old t (0,0)))(hi:(P.info? ty).map (·.size)=some cells.size)
  (hold:old.size=cells.size)(h1:cells.all (·.oneCell')=true)(h:K (a.put o.dst undef) (w.setRow g cells)):if Region.wanted o (yielded ops a.tmps)=true then Oper.wp P o a w K Q else E:=by
 have hw:Region.wanted o (yielded ops a.tmps)=true:=by simp[Region.wanted,yE]
 rw[aA hw];exact wp_store_row ty x y ho g cells hx hy t old hg hi hold h1 h
def VO(xs:List ni)(w:World)(e:Ending)(w':World):Prop :=
 Fr aS w w'/\∃r:fI Value,r.Reads (Strs w.heap.size w') (i_ xs)/\e=.returned (.tuple #[.agg r.cells.toArray,.bool (decide (0<(i_ xs).scheme))])
def aiU(w:World)(xs:List ni)(t:Value)(wr:World):Prop :=
 ∃(k:Nat) (r:fI Value),k<=xs.length/\t=.int .i64 k/\wr.heap[w.heap.size]?=some (.cells gM 127 (0,0))/\fR wr (w.heap.size+1) r/\r.Reads (Strs w.heap.size wr) (i_ (xs.take k))/\Fr aS w wr
theorem Reads.aoD{r:fI Value}{a:fI bE}(h:r.Reads (Strs base w) a):r.dom.oneCell'=true:=by
 obtain⟨x,c,e⟩:=h.2.2.2.2.2.2.2.form;rw[e];rfl
theorem NY(base:Nat)(w:World):jg.Reads (Strs base w) O8:=⟨rfl,rfl,rfl,rfl,rfl,rfl,rfl,kI _ _⟩
theorem Strs.upS{b':Nat}{v:Value}{ss:List aj}(h:Strs b' w v ss)(hb:b<=b'):Strs b w v ss:=xH h hb
theorem VP(v:Value)(xs:List ni)(w:World)(h:uy w v xs)(_hl:xs.length<=1000000)(hz:∀x∈xs,x.Fit) :
  aB 77 #[v] w (VO xs w):=by
 obtain⟨av,cv,hv⟩:=h.form;subst hv;obtain⟨w2,eA⟩:∃w2,w2=(w.alloc (.cells gM 127)).alloc (.cells gM 127):=⟨_,rfl⟩;have dn:Fr aS (w.alloc (.cells gM 127)) w2:=by rw[eA];exact(ae _ _).alloc _
 have ob:w2.heap[w.heap.size]?=some (.cells gM 127 (0,0)):=dn.keep (aC w _) id;have ko:fR w2 (w.heap.size+1) jg:=by
  rw[eA];have:=aC (w.alloc (.cells gM 127)) (.cells gM 127);rw[show(w.alloc (.cells gM 127)).heap.size=w.heap.size+1 from aR]at this;exact this
 have dz:Fr aS w w2:=((ae aS w).alloc _).trans dn;have nD:=O eA;clear eA dn;go_enter func77,ntmps77;go_wp2_with fail
 rw[<-nD.o];go_loopw[11] (aiU w xs) (fun t _=>xs.length-(intOf t).toNat)
 case atStart=>exact⟨0,jg,aQ _,rfl,ob,ko,NY _ _,dz⟩
 case round =>
  obtain⟨k,r,hk,rfl,uR,xm,Gq,cL⟩:=hrel;by_cases fk:k<xs.length
  case pos =>
   have o_:(k:Int)<(xs.length:Int):=ab;have dP:=O (List.getElem?_eq_getElem fk);have HZ:=O (hz _ (bM fk));generalize xs[k]=x at dP HZ;obtain⟨bk,of,pv,rfl,h1,h2,c0,c1,c2,hp⟩:=(h.fG cL).cells dP.o;unfold maxLen at h2;have HBT:=O (show i_ (xs.take (k+1))=pE (i_ (xs.take k)) x by rw[cC,dP.o];exact MJ _ _);obtain⟨a1,c1',e1⟩:=hp.form;subst e1
   obtain⟨wb,jQ⟩:∃wb,wb=wr.alloc (.cells #[.string (bA x.scheme),.string (bA x.token),.slice a1 x.params.length c1'] 208):=⟨_,rfl⟩;have kf:Fr aS wr wb:=by rw[jQ];exact(ae aS wr).alloc _
   have Yv:kz wb wr.heap.size (bA x.scheme) (bA x.token) (.slice a1 x.params.length c1'):=by rw[jQ];exact aC _ _
   have x0:=Yv.cell0;have x1:=Yv.gW;have x2:=Yv.lO;have KN:=O (RM x _ wb (bh hp kf) HZ.o);have qL:=O jQ;have hsb:w.heap.size+1<wb.heap.size:=by have:=bj (kf.keep xm id);exact this
   clear jQ hp;go_wp2_with fail
   rw[<-qL.o];refine KN.o.mono ?_;intro e w3 hkp;obtain⟨il,YP⟩:=hkp;have VQ:=(kf.trans il).keep uR id;have aen:fR w3 (w.heap.size+1) r:=(kf.trans il).keep xm id;have ZW:r.Reads (Strs w.heap.size w3) (i_ (xs.take k)):=Gq.mono (fun u l hu=>hu.fr (kf.trans il) (fun _ h=>h.elim));have iq:=O ((cL.trans kf).trans il);have TF:w.heap.size+1<w3.heap.size:=cO hsb il.size;clear x0 x1 x2 c0 c1 c2 Yv uR xm Gq
   cases QX:mU x with
   |none =>
    rw[QX]at YP;subst YP;have pN:=O (show i_ (xs.take (k+1))=i_ (xs.take k)by rw[HBT.o];unfold pE;rw[QX]);have jq:=fun W=>run_storeCells_new (P:=prog) W 127 gM gM.toList rfl RF;have kD:Fr aS w3 (w3.alloc (.cells gM 127)):=(ae _ _).alloc _;have P4:=kD.keep VQ id;have NZ:fR (w3.alloc (.cells gM 127)) (w.heap.size+1) r:=kD.keep aen id
    have aeo:r.Reads (Strs w.heap.size (w3.alloc (.cells gM 127))) (i_ (xs.take k)):=ZW.mono (fun u l hu=>hu.fr kD (fun _ h=>h.elim));have jO:=O (iq.o.trans kD);clear QX;go_wp2;go_roundw
    case rel=>exact⟨k+1,r,ab,bg,P4,NZ,by rw[pN.o];exact aeo,jO.o⟩
    case measure=>simp[intOf];omega
   |some a =>
    rw[QX]at YP;obtain⟨r2,ZX,rfl⟩:=YP;have dX:=O (Ip r2 (Reads.aoD ZX));obtain⟨y,hy⟩:∃y,y=r2.cells.toArray:=⟨_,rfl⟩;have CP:y.size=8:=by rw[hy];rfl
    have HY:=O hy;have YZ:y.all (·.oneCell')=true:=by rw[hy];exact dX.o
    have yC:(prog.info? 127).map (·.size)=some y.size:=by rw[CP];kernel_rfl
    have hyz:gM.size=y.size:=by rw[CP];rfl
    have hrz:r.cells.toArray.size=y.size:=by rw[CP];rfl
    obtain⟨w4,qt⟩:∃w4,w4=w3.alloc (.cells y 127):=⟨_,rfl⟩;have kD:Fr aS w3 w4:=by rw[qt];exact(ae _ _).alloc _
    have aiV:fR w4 w3.heap.size r2:=by rw[qt,hy];exact aC _ _
    have P4:=kD.keep VQ id;have NZ:fR w4 (w.heap.size+1) r:=kD.keep aen id;have aeo:r.Reads (Strs w.heap.size w4) (i_ (xs.take k)):=ZW.mono (fun u l hu=>hu.fr kD (fun _ h=>h.elim));have aoG:r2.Reads (Strs w.heap.size w4) a:=ZX.mono (fun u l hu=>(hu.upS ab).fr kD (fun _ h=>h.elim));have jO:=O (iq.o.trans kD);have NS:=O qt
    have n0:w4.cell? ⟨w3.heap.size,0,none⟩=some (.int .i64 a.scheme):=by rw[<-ZX.1];exact aiV.cell rfl
    have m0:w4.cell? ⟨w.heap.size+1,0,none⟩=some (.int .i64 (i_ (xs.take k)).scheme):=by rw[<-ZW.1];exact NZ.cell rfl
    have aiW:=O (show i_ (xs.take (k+1))=if(i_ (xs.take k)).scheme<a.scheme then a else i_ (xs.take k)by rw[HBT.o];unfold pE;rw[QX]);have hs4:w3.heap.size<w4.heap.size:=by rw[qt];simp
    rw[<-hy];clear QX hy qt VQ aen ZW ZX;by_cases tV:(i_ (xs.take k)).scheme<a.scheme
    case pos =>
     have pN:=O (show i_ (xs.take (k+1))=a by rw[aiW.o,aA tV]);obtain⟨w5,hw5⟩:∃w5,w5=w4.setRow (w.heap.size+1) y:=⟨_,rfl⟩;have lL:Fr (one (w.heap.size+1)) w4 w5:=by rw[hw5];exact(ae (one (w.heap.size+1)) w4).setRow (fun _=>rfl) y
     have FO:=O hw5;have aiX:=lL.keep P4 (fun h=>by have h':w.heap.size=w.heap.size+1:=h;omega);have aoH:fR w5 (w.heap.size+1) r2:=by rw[hw5,HY.o];unfold fR;simp[World.setRow,Array.getElem?_modify,show w4.heap[w.heap.size+1]?=_ from NZ]
     have aoI:r2.Reads (Strs w.heap.size w5) a:=aoG.mono (fun u l hu=>hu.ZO lL NZ ag);have xe:=O (jO.o.step lL (fun k hk h=>by have h':k=w.heap.size+1:=h;omega));clear hw5 lL
     go_wp2_with (first|((with_reducible refine kE ⟨none,.store 127 (.tmp 7) (.tmp 18),_,_,_,_⟩ ?_);refine pF rfl 127 (.tmp 7) (.tmp 18) rfl gM y rfl rfl yC hyz YZ ?_;rw[<-NS.o])|((with_reducible refine dk 28 ?_);refine aI rfl 127 (.tmp 7) rfl w3.heap.size rfl 127 y (0,0) _ (by rw[HY.o];exact aiV) underlying127 rfl yC ?_)|((with_reducible refine kE ⟨none,.store 127 (.tmp 4) (.tmp 28),_,_,_,_⟩ ?_);refine aG rfl 127 (.tmp 4) (.tmp 28) rfl (w.heap.size+1) y rfl rfl 127 r.cells.toArray NZ yC hrz YZ ?_;rw[<-FO.o])|fail)
     go_roundw
     case rel=>exact⟨k+1,r2,ab,bg,aiX,aoH,by rw[pN.o];exact aoI,xe.o⟩
     case measure=>simp[intOf];omega
    case neg =>
     have pN:=O (show i_ (xs.take (k+1))=i_ (xs.take k)by rw[aiW.o,ar tV]);go_wp2_with (first|((with_reducible refine kE ⟨none,.store 127 (.tmp 7) (.tmp 18),_,_,_,_⟩ ?_);refine pF rfl 127 (.tmp 7) (.tmp 18) rfl gM y rfl rfl yC hyz YZ ?_;rw[<-NS.o])|fail)
     go_roundw
     case rel=>exact⟨k+1,r,ab,bg,P4,NZ,by rw[pN.o];exact aeo,jO.o⟩
     case measure=>simp[intOf];omega
  case neg =>
   have o_:¬(k:Int)<(xs.length:Int):=ab;have iL:xs.take k=xs:=aD ab;rw[iL]at Gq;have b0:=xm.cell (i:=0) rfl;have b1:=xm.cell (i:=1) rfl;have b2:=xm.cell (i:=2) rfl;have b3:=xm.cell (i:=3) rfl;have b4:=xm.cell (i:=4) rfl;have b5:=xm.cell (i:=5) rfl;have b6:=xm.cell (i:=6) rfl;have b7:=xm.cell (i:=7) rfl;obtain⟨da,dc,hd⟩:=Gq.2.2.2.2.2.2.2.form;rw[hd]at b7;have Vs:=O Gq;have HD:=O hd;have sX:=O cL
   have z:∀i u,gM[i]?=some u->wr.cell? ⟨w.heap.size,i,none⟩=some u:=fun i u hu=>by simp only[World.cell?,uR];simpa using hu
   have zf:∀i,wr.frozen? ⟨w.heap.size,i,none⟩=false:=fun i=>by simp[World.frozen?,uR]
   have z0:=z 0 _ rfl;have f0:=zf 0;have z1:=z 1 _ rfl;have f1:=zf 1;have z2:=z 2 _ rfl;have f2:=zf 2;have z3:=z 3 _ rfl;have f3:=zf 3;have z4:=z 4 _ rfl;have f4:=zf 4;have z5:=z 5 _ rfl;have f5:=zf 5;have z6:=z 6 _ rfl;have f6:=zf 6;have z7:=z 7 _ rfl;have f7:=zf 7;clear z zf;have gG:=O uR;clear hd uR xm Gq cL;go_wp2_with fail
   go_region
   all_goals
    have o9:fR wr w.heap.size jg:=gG.o
    have AJ:=((((((((o9.set 0 (.int .i64 r.scheme) (r':={jg with scheme:=r.scheme}) rfl).set 1 (.string r.aK) (r':={jg with scheme:=r.scheme,aK:=r.aK}) rfl).set 2 (.string r.bq) (r':={jg with scheme:=r.scheme,aK:=r.aK,bq:=r.bq}) rfl).set 3 (.string r.cy) (r':={jg with scheme:=r.scheme,aK:=r.aK,bq:=r.bq,cy:=r.cy}) rfl).set 4 (.bool r.cA) (r':={jg with scheme:=r.scheme,aK:=r.aK,bq:=r.bq,cy:=r.cy,cA:=r.cA}) rfl).set 5 (.string r.eF) (r':={jg with scheme:=r.scheme,aK:=r.aK,bq:=r.bq,cy:=r.cy,cA:=r.cA,eF:=r.eF}) rfl).set 6 (.bool r.cN) (r':={jg with scheme:=r.scheme,aK:=r.aK,bq:=r.bq,cy:=r.cy,cA:=r.cA,eF:=r.eF,cN:=r.cN}) rfl).set 7 (.slice da (i_ xs).dom.length dc) (r':={jg with scheme:=r.scheme,aK:=r.aK,bq:=r.bq,cy:=r.cy,cA:=r.cA,eF:=r.eF,cN:=r.cN,dom:=.slice da (i_ xs).dom.length dc}) rfl)
    have nz:=(((((((((ae (one w.heap.size) wr).setCell (p:=⟨w.heap.size,0,none⟩) (fun _=>rfl) (.int .i64 r.scheme)).setCell (p:=⟨w.heap.size,1,none⟩) (fun _=>rfl) (.string r.aK)).setCell (p:=⟨w.heap.size,2,none⟩) (fun _=>rfl) (.string r.bq)).setCell (p:=⟨w.heap.size,3,none⟩) (fun _=>rfl) (.string r.cy)).setCell (p:=⟨w.heap.size,4,none⟩) (fun _=>rfl) (.bool r.cA)).setCell (p:=⟨w.heap.size,5,none⟩) (fun _=>rfl) (.string r.eF)).setCell (p:=⟨w.heap.size,6,none⟩) (fun _=>rfl) (.bool r.cN)).setCell (p:=⟨w.heap.size,7,none⟩) (fun _=>rfl) (.slice da (i_ xs).dom.length dc))
    generalize ((((((((wr.setCell ⟨w.heap.size,0,none⟩ (.int .i64 r.scheme)).setCell ⟨w.heap.size,1,none⟩ (.string r.aK)).setCell ⟨w.heap.size,2,none⟩ (.string r.bq)).setCell ⟨w.heap.size,3,none⟩ (.string r.cy)).setCell ⟨w.heap.size,4,none⟩ (.bool r.cA)).setCell ⟨w.heap.size,5,none⟩ (.string r.eF)).setCell ⟨w.heap.size,6,none⟩ (.bool r.cN)).setCell ⟨w.heap.size,7,none⟩ (.slice da (i_ xs).dom.length dc))=w6 at AJ nz ⊢
    have B9:({jg with scheme:=r.scheme,aK:=r.aK,bq:=r.bq,cy:=r.cy,cA:=r.cA,eF:=r.eF,cN:=r.cN,dom:=.slice da (i_ xs).dom.length dc}:fI Value)=r:=by rw[<-HD.o]
    rw[B9]at AJ;have aoJ:r.Reads (Strs w.heap.size w6.drew) (i_ xs):=Vs.o.mono (fun u l hu=>(hu.ZO nz gG.o ag).drew);have yy:=O (sX.o.step nz (fun k hk h=>by have h':k=w.heap.size:=h;omega));have D5:fR w6.drew w.heap.size r:=AJ;have d0:=D5.cell (i:=0) rfl;have d1:=D5.cell (i:=1) rfl;have d2:=D5.cell (i:=2) rfl;have d3:=D5.cell (i:=3) rfl;have d4:=D5.cell (i:=4) rfl;have d5:=D5.cell (i:=5) rfl
    have d6:=D5.cell (i:=6) rfl;have d7:=D5.cell (i:=7) rfl;have hsc:r.scheme=(i_ xs).scheme:=Vs.o.1;clear AJ nz o9;go_wp2;refine aU (results_cell_tmp bC _ _ w.heap.size 127 r.cells.toArray (0,0) _ rfl D5 underlying127 rfl af) rfl ?_;exact⟨yy.o.drewN 1,r,aoJ,by rw[<-hsc];rfl⟩
theorem Wc(c:UInt8)(l:Bs):(mz c l).1.length<=l.length/\(mz c l).2.1.length<=l.length:=by
 rcases(O9 c l).2 with ⟨_,e⟩|⟨_,e,e2⟩
 ·have h:=aq List.length e;rw[aN,List.length_cons]at h;exact⟨ab,ab⟩
 ·exact⟨by have h:=aq List.length e;omega,by rw[e2];exact aQ _⟩
theorem LA{l:Bs}{p:jn}(h:CT l=some (some p)):p.1.length<=l.length/\p.2.length<=l.length:=by
 unfold CT at h;split at h
 ·cases h
 ·split at h
  ·cases h
  ·cases h;have h1:=Wc 58 (tE l);have h2:=GA l;have h3:=JZ (mz 58 (tE l)).2.1 [32,9];refine⟨by show(mz 58 (tE l)).1.length<=_;omega,?_⟩;show(trimB _).length<=_;unfold trimB;omega
theorem tq(N:Nat):∀(ls:List Bs) (acc out:List jn),kJ ls acc=.ok out->acc.length<=40->(∀l∈ls,l.length<=N)->(∀p∈acc,p.1.length<=N/\p.2.length<=N)->out.length<=40/\∀p∈out,p.1.length<=N/\p.2.length<=N
 |[],acc,out,h,ha,_,hp=>by rw[kJ]at h;cases h;exact⟨ha,hp⟩
 |l :: ls,acc,out,h,ha,hl,hp=>by
  rw[kJ]at h;cases hr:CT l with
  |none=>rw[hr]at h;cases h
  |some q =>
   rw[hr]at h;cases q with
   |none=>exact tq N ls acc out h ha (fun m hm=>hl m (bP _ hm)) hp
   |some p =>
    simp only at h;split at h
    ·cases h
    ·rename_i hn;refine tq N ls (acc++[p]) out h (by rw[aN];simp only[List.length_cons,List.length_nil];omega) (fun m hm=>hl m (bP _ hm)) (fun x hx=>?_);rcases bQ.1 hx with hx|hx
     ·exact hp x hx
     ·rw[cZ.1 hx];have h1:=LA hr;have h2:=hl l (cX ..);exact⟨ab,ab⟩
theorem Iz{s:Bs}{x:List jn}(h:mK s=.ok x):ln x:=by
 unfold mK at h;split at h
 ·cases h
 ·have h1:=tq 3000 _ _ _ h (aQ _) (fun l hl=>by have:=(A' 10 s).2 l hl;omega) (fun _ hp=>by cases hp);exact⟨ab,fun p hp=>by have:=h1.2 p hp;omega⟩
def aju(ps:List ef)(r:qO)(now:Int)(w1:World)(out t:Value)(wr:World):Prop :=
 ∃k:Nat,k<=ps.length/\t=.int .i64 k/\OwnRows w1.heap.size 137 12 wr out ((iT (ps.take k) r now).map ef.cells)/\Fr aS w1 wr
theorem Z_(h:ps[k]?=some p)(hm:r.TY now p=true):iT (ps.take (k+1)) r now=iT (ps.take k) r now++[p]:=by
 unfold iT;rw[dW h,cG];simp[hm]
theorem Wd(h:ps[k]?=some p)(hm:r.TY now p=false):iT (ps.take (k+1)) r now=iT (ps.take k) r now:=by
 unfold iT;rw[dW h,cG];simp[hm]
theorem Z'(base:Nat)(w:World)(b:Nat)(v:Value)(ps:List ef)(r:gl Value)(hs:List gY)(now:Int)(h:eN base w b v ps)(hlen:ps.length<1000000) :
  aB 85 #[.pointer (some ⟨b,0,none⟩),.agg r.cells.toArray,.int .i64 now] w fun e w'=>∃v',e=.returned v'/\OwnRows w.heap.size 137 12 w' v' ((iT ps (r.dS hs) now).map ef.cells)/\Fr aS w w':=by
 obtain⟨rc,ux⟩:∃rc,rc=r.cells.toArray:=⟨_,rfl⟩;obtain⟨w1,oq⟩:∃w1,w1=w.alloc (.cells rc 29):=⟨_,rfl⟩;have dn:Fr aS w w1:=by rw[oq];exact(ae _ _).alloc _
 have lW:w1.heap[w.heap.size]?=some (.cells rc 29 (0,0)):=by rw[oq];exact aC _ _
 have h1:=h.di dn;obtain⟨ak,ck,Th⟩:=h.form;subst Th;have mg:dV 12 w1 (.slice ak ps.length ck) (ps.map ef.cells):=h1.rows.at
 have HC:=O (show∀U,Fr aS w1 U->U.cell? ⟨w.heap.size,1,none⟩=some (.bool r.cW.aE)/\U.cell? ⟨w.heap.size,2,none⟩=some (.string r.cW.host)/\U.cell? ⟨w.heap.size,3,none⟩=some (.int .i64 r.cW.port)/\U.cell? ⟨w.heap.size,4,none⟩=some (.bool r.o.aE)/\U.cell? ⟨w.heap.size,5,none⟩=some (.string r.o.host)/\U.cell? ⟨w.heap.size,6,none⟩=some (.int .i64 r.o.port)/\U.cell? ⟨w.heap.size,7,none⟩=some (.string r.path)/\U.cell? ⟨w.heap.size,8,none⟩=some (.string r.query)/\U.cell? ⟨w.heap.size,11,none⟩=some (.bool r.fN)from fun U hU=>by
  have j:=hU.keep lW id;rw[ux]at j;have hc:∀i u,r.cells[i]?=some u->U.cell? ⟨w.heap.size,i,none⟩=some u:=fun i u hu=>by simp only[World.cell?,j];simpa using hu
  exact⟨hc 1 _ rfl,hc 2 _ rfl,hc 3 _ rfl,hc 4 _ rfl,hc 5 _ rfl,hc 6 _ rfl,hc 7 _ rfl,hc 8 _ rfl,hc 11 _ rfl⟩)
 have HM:=O (show∀p:ef,(r.dS hs).TY now p=(p.alive now&&(p.cW.kV r.cW&&((p.o.kV r.o&&(p.path.toList==r.path.toList&&p.query.toList==r.query.toList))&&(p.fN||!r.fN))))from fun _=>rfl);generalize r.dS hs=rl at HM ⊢;have c0:=h1.c0;rw[oq]at c0;have Ho:=O oq;have lq:=O dn;have BQ:w.heap.size<=w1.heap.size:=dn.size;rw[<-ux];clear oq dn lW h1 h ux;go_enter func85,ntmps85;go_wp2_with fail
 rw[<-Ho.o];go_loopw[7,15] (aju ps rl now w1) (fun _ t _=>ps.length-(intOf t).toNat)
 case atStart=>exact⟨0,aQ _,rfl,dx _ _ _ _,ae _ _⟩
 case round =>
  obtain⟨k,hk,rfl,ho,cL⟩:=hrel;obtain⟨ao,co,Mp⟩:=ho.form;rw[ai]at Mp;subst Mp;have SM:(iT (ps.take k) rl now).length<=1000000:=by
   have h1:=bT (rl.TY now) (ps.take k);rw[aM]at h1;unfold iT;omega
  by_cases fk:k<ps.length
  ·have o_:(k:Int)<(ps.length:Int):=ab;have dP:=O (List.getElem?_eq_getElem fk);generalize ps[k]=p at dP;have lT:dV 12 wr (.slice ak ps.length ck) (ps.map ef.cells):=bh mg cL;rcases lT.2 with ⟨_,_,_,e,_⟩|⟨bk,of,c,hf,g1,g2,g3,g4⟩
   ·have:ps.length=0:=by have:=aq List.length e;simpa using this
    omega
   rw[ai]at hf g1;cases hf;unfold maxLen at g2;obtain⟨x,hx⟩:∃x,x=p.cells:=⟨_,rfl⟩;have lp:x.length=12:=by rw[hx];rfl
   have dX:∀u∈x,u.oneCell'=true:=by rw[hx];exact p.tO
   have hcell:=g4 k x (by rw[List.getElem?_map,dP.o,hx];rfl);have jq:=fun W=>run_storeCells_new (P:=prog) W 137 EX x (by rw[lp];rfl) dX;have Dx:(prog.info? 137).map (·.size)=some x.length:=AO lp;have aeH:=O (show(prog.info? 137).map (·.size)=some x.toArray.size by rw[aZ];exact Dx);clear g4 lT;have HX:=O hx;have Hu:=O Dx;have wU:=O dX;have apl:=O (aC wr (.cells x.toArray 137))
   have dz:Fr aS wr (wr.alloc (.cells x.toArray 137)):=(ae _ _).alloc _;have HP:=O (show∀U,Fr aS (wr.alloc (.cells x.toArray 137)) U->U.heap[wr.heap.size]?=some (.cells x.toArray 137 (0,0))from fun U hU=>hU.keep (aC _ _) id)
   have HPC:=O (show∀U,Fr aS (wr.alloc (.cells x.toArray 137)) U->U.cell? ⟨wr.heap.size,0,none⟩=some (.bool p.cW.aE)/\U.cell? ⟨wr.heap.size,1,none⟩=some (.string p.cW.host)/\U.cell? ⟨wr.heap.size,2,none⟩=some (.int .i64 p.cW.port)/\U.cell? ⟨wr.heap.size,3,none⟩=some (.bool p.o.aE)/\U.cell? ⟨wr.heap.size,4,none⟩=some (.string p.o.host)/\U.cell? ⟨wr.heap.size,5,none⟩=some (.int .i64 p.o.port)/\U.cell? ⟨wr.heap.size,6,none⟩=some (.string p.path)/\U.cell? ⟨wr.heap.size,7,none⟩=some (.string p.query)/\U.cell? ⟨wr.heap.size,8,none⟩=some (.bool p.fN)from fun U hU=>by
    have j:=HP.o U hU;rw[HX.o]at j;have hc:∀i u,p.cells[i]?=some u->U.cell? ⟨wr.heap.size,i,none⟩=some u:=fun i u hu=>by simp only[World.cell?,j];simpa using hu
    exact⟨hc 0 _ rfl,hc 1 _ rfl,hc 2 _ rfl,hc 3 _ rfl,hc 4 _ rfl,hc 5 _ rfl,hc 6 _ rfl,hc 7 _ rfl,hc 8 _ rfl⟩)
   have Ax:=O (show∀U,aB 130 #[.agg x.toArray,.int .i64 now] U fun e w'=>e=.returned (.bool (p.alive now))/\Fr aS U w' from fun U=>by rw[HX.o];exact Gf p now U);have hwr:w.heap.size<=wr.heap.size:=by have:=cL.size;omega
   have sX:=O (cL.trans dz);have HO:=O (show∀U,Fr aS (wr.alloc (.cells x.toArray 137)) U->OwnRows w1.heap.size 137 12 U (.slice ao (iT (ps.take k) rl now).length co) ((iT (ps.take k) rl now).map ef.cells)from fun U hU=>(ho.alloc _).fr hU (fun _ _ h=>h));have Tq:=O (HM.o p);have Eb:=O (fun hm=>Z_ (r:=rl) (now:=now) dP.o hm);have vZ:=O (fun hm=>Wd (r:=rl) (now:=now) dP.o hm)
   obtain⟨fs,kx⟩:∃fs,fs=iT (ps.take k) rl now:=⟨_,rfl⟩;rw[<-kx]at HO Eb vZ SM ⊢;clear hx Dx dX ho dz cL kx;go_wp2_with (first|((with_reducible refine dk 18 ?_);refine a_ rfl 137 (.tmp 17) rfl bk (of+k*12) rfl x _ hcell underlying137 rfl Hu.o ?_)|((with_reducible refine dk 19 ?_);refine aI rfl 137 (.tmp 9) rfl wr.heap.size rfl _ x.toArray (0,0) _ apl.o underlying137 rfl aeH.o ?_)|fail)
   have FW:=vD x #[.bool false,.string ⟨#[]⟩,.int .i64 0,.bool false,.string ⟨#[]⟩,.int .i64 0,.string ⟨#[]⟩,.string ⟨#[]⟩,.bool false,.string ⟨#[]⟩,.string ⟨#[]⟩,.int .i64 0] (by rw[lp];rfl);clear jq hcell;generalize wr.alloc (.cells x.toArray 137)=W2 at *
   refine(Ax.o W2).mono ?_;rintro e w3⟨rfl,il⟩;obtain⟨p0,p1,p2,p3,p4,p5,p6,p7,p8⟩:=HPC.o w3 il;have iq:=O (sX.o.trans il);obtain⟨r1,r2,r3,r4,r5,r6,r7,r8,r11⟩:=HC.o w3 iq.o;have Jl:=O (HP.o w3 il);have xN:=O (HO.o w3 il);have h33:w1.heap.size<=w3.heap.size:=iq.o.size;have heq:=jo p.cW r.cW;have heu:=zG p.o p.path p.query r.o r.path r.query;clear Ax HP HPC il;cases ea:p.alive now
   ·have HN:=O (vZ.o (by rw[Tq.o,ea];rfl));clear Tq Eb vZ ea heq heu;go_wp2;go_roundw
    case rel=>exact⟨k+1,ab,bg,by rw[HN.o];exact xN.o,iq.o⟩
    case measure=>simp[intOf];omega
   ·cases e1:p.cW.kV r.cW
    ·rw[e1]at heq;have HN:=O (vZ.o (by rw[Tq.o,ea,e1];rfl));clear Tq Eb vZ ea e1 heu;go_wp2;go_roundw
     case rel=>exact⟨k+1,ab,bg,by rw[HN.o];exact xN.o,iq.o⟩
     case measure=>simp[intOf];omega
    ·rw[e1]at heq;cases e2:(p.o.kV r.o&&(p.path.toList==r.path.toList&&p.query.toList==r.query.toList))
     ·rw[e2]at heu;have HN:=O (vZ.o (by rw[Tq.o,ea,e1,e2];rfl));clear Tq Eb vZ ea e1 e2;go_wp2;go_roundw
      case rel=>exact⟨k+1,ab,bg,by rw[HN.o];exact xN.o,iq.o⟩
      case measure=>simp[intOf];omega
     ·rw[e2]at heu;cases e3:p.fN
      ·rw[e3]at p8;cases e4:r.fN
       ·rw[e4]at r11;have HY:=O (Eb.o (by rw[Tq.o,ea,e1,e2,e3,e4];rfl));clear Tq Eb vZ ea e1 e2 e3 e4
        go_wp2_with (first|((with_reducible refine dk 46 ?_);refine aI rfl 137 (.tmp 9) rfl wr.heap.size rfl _ x.toArray (0,0) _ Jl.o underlying137 rfl aeH.o ?_)|(at_builtin;refine nJ rfl _ _ 119 137 rfl 12 144 (.agg EX) underlying119 AP rfl ag ag w1.heap.size (.slice ao fs.length co) (fs.map ef.cells) rfl (xN.o.alloc _) w3.heap.size 1 x rfl lp wU.o (fun i u hi=>by rw[World.cell?_alloc_mark];simpa using hi) (by rw[ai];omega) bH ?_;intro v' w4 eZ BU))
        have jO:=O ((iq.o.alloc (.cells x.toArray 137)).fP BU (fun j hj=>xN.o.block j hj));go_roundw
        case rel=>exact⟨k+1,ab,bg,by rw[HY.o,bG,cD,dp, <-HX.o];exact eZ,jO.o⟩
        case measure=>simp[intOf];omega
       ·rw[e4]at r11;have HN:=O (vZ.o (by rw[Tq.o,ea,e1,e2,e3,e4];rfl));clear Tq Eb vZ ea e1 e2 e3 e4;go_wp2;go_roundw
        case rel=>exact⟨k+1,ab,bg,by rw[HN.o];exact xN.o,iq.o⟩
        case measure=>simp[intOf];omega
      ·rw[e3]at p8;have HY:=O (Eb.o (by rw[Tq.o,ea,e1,e2,e3];rfl));clear Tq Eb vZ ea e1 e2 e3
       go_wp2_with (first|((with_reducible refine dk 46 ?_);refine aI rfl 137 (.tmp 9) rfl wr.heap.size rfl _ x.toArray (0,0) _ Jl.o underlying137 rfl aeH.o ?_)|(at_builtin;refine nJ rfl _ _ 119 137 rfl 12 144 (.agg EX) underlying119 AP rfl ag ag w1.heap.size (.slice ao fs.length co) (fs.map ef.cells) rfl (xN.o.alloc _) w3.heap.size 1 x rfl lp wU.o (fun i u hi=>by rw[World.cell?_alloc_mark];simpa using hi) (by rw[ai];omega) bH ?_;intro v' w4 eZ BU))
       have jO:=O ((iq.o.alloc (.cells x.toArray 137)).fP BU (fun j hj=>xN.o.block j hj));go_roundw
       case rel=>exact⟨k+1,ab,bg,by rw[HY.o,bG,cD,dp, <-HX.o];exact eZ,jO.o⟩
       case measure=>simp[intOf];omega
  ·have o_:¬(k:Int)<(ps.length:Int):=ab;have Qv:ps.take k=ps:=aD ab;rw[Qv]at ho SM ⊢;obtain⟨fs,kx⟩:∃fs,fs=iT ps rl now:=⟨_,rfl⟩;rw[<-kx]at ho SM ⊢;have HO:=O ho;have HEQ:=O kx;clear ho kx;go_wp2;go_ret;exact⟨.slice ao fs.length co,rfl,by rw[<-HEQ.o];exact HO.o.up BQ,lq.o.trans cL⟩
def xt(ws:List (bI bE)):Prop:=ws.Pairwise fun x y=>AL x.o x.proxy y=false
theorem DV{o:gq}{proxy:Bool}{x:bI bE}:AL o proxy x=true↔x.o=o/\x.proxy=proxy:=by
 unfold AL;rw[cF,gq.wC,dT]
theorem re(o:gq)(proxy:Bool):∀ws:List (bI bE),(ma o proxy ws).1.Sublist ws
 |[]=>List.Sublist.slnil
 |g :: l=>by
  rw[ma];split
  ·exact List.sublist_cons_self _ _
  ·exact(re o proxy l).cons_cons _
theorem DW{o:gq}{proxy:Bool}:∀ {ws:List (bI bE)},xt ws->∀x∈(ma o proxy ws).1,AL o proxy x=false
 |[],_,x,hx=>by cases hx
 |g :: l,hu,x,hx=>by
  have hu':=List.pairwise_cons.1 hu;rw[ma]at hx;cases hg:AL o proxy g
  ·rw[hg]at hx;simp only[cJ,eV]at hx;rcases bB.1 hx with rfl|hx
   ·exact hg
   ·exact DW hu'.2 x hx
  ·rw[hg,aA rfl]at hx;have hx:x∈l:=hx;obtain⟨e1,e2⟩:=DV.1 hg;have:=hu'.1 x hx;rw[e1,e2]at this;exact this
theorem xt.sub{l:List (bI bE)}(h:xt ws)(hs:l.Sublist ws):xt l:=List.Pairwise.sublist hs h
theorem xt.ask(h:xt ws)(m:bI bE):xt (zC ws m):=by
 unfold zC;refine xt.sub (ws:=(ma m.o m.proxy ws).1++[m]) ?_ (List.drop_sublist _ _);unfold xt;rw[List.pairwise_append];refine⟨h.sub (re _ _ _),List.pairwise_singleton _ _,fun x hx y hy=>?_⟩;rw[cZ]at hy;subst hy;have:=DW h x hx;rw[Bool.eq_false_iff]at this ⊢;intro e;obtain⟨e1,e2⟩:=DV.1 e;exact this (DV.2 ⟨e1.symm,e2.symm⟩)
def EY(gs:List (aP bE)):Prop:=∀g∈gs,0<=g.count
structure nd (p:eD):Prop where
 uniq:xt p.waits
 nat:EY p.bU
 qZ:p.bU.length<=8/\p.waits.length<=8/\p.book.length<=32/\p.eB.length<=8
theorem nd.no:nd yi:=⟨List.Pairwise.nil,fun _ h=>(by cases h),ag⟩
theorem EY.filter(h:EY gs)(f:aP bE->Bool):EY (gs.filter f):=fun g hg=>h g (fc.1 hg).1
theorem EY.put(h:EY gs){g:aP bE}(hg:0<=g.count):EY (uZ gs g):=by
 unfold uZ;intro x hx;have hx:=ez hx;rcases bQ.1 hx with hx|hx
 ·exact h x (fc.1 hx).1
 ·rw[cZ]at hx;rw[hx];exact hg
theorem KZ(gs:List (aP bE))(g:aP bE):(uZ gs g).length<=8/\1<=(uZ gs g).length:=by
 unfold uZ;simp only[bJ,aN,List.length_singleton];omega
theorem Zl(h:EY gs)(o:gq)(proxy:Bool)(path:aj):EY (u0 gs o proxy path).1/\(u0 gs o proxy path).1.length<=gs.length:=by
 unfold u0;split
 ·split
  ·rename_i g hg;have hk:=(List.getElem?_eq_some_iff.1 hg).1;have hl:EY (gs.take (tL gs o proxy path).toNat++gs.drop ((tL gs o proxy path).toNat+1)):=fun x hx=>by
    rcases bQ.1 hx with hx|hx
    ·exact h x (ey hx)
    ·exact h x (ez hx)
   simp only;split
   ·refine⟨hl,?_⟩;simp only[aN,aM,bJ];omega
   ·refine⟨fun x hx=>?_,?_⟩
    ·rcases bQ.1 hx with hx|hx
     ·exact hl x hx
     ·rw[cZ]at hx;rw[hx];have:=h g (cj hg);show 0<=g.count+1;omega
    ·simp only[aN,aM,bJ,List.length_singleton];omega
  ·exact⟨h,ay _⟩
 ·exact⟨h,ay _⟩
theorem nd.wK{p:eD}(h:nd p)(now:Int)(o:kl):nd (wK p now o).1:=by
 obtain⟨hu,hn,f1,f2,f3,f4⟩:=h;unfold Go.Proofs.YtjndhcngnghpiaaGreatDoor.wK;by_cases h1:o.what=1
 ·rw[aA h1];have hU:=Zl hn o.o o.proxy o.path;unfold lG;split
  ·rename_i gs e he;rw[he]at hU;exact⟨hu,hU.1,aF hU.2 f1,f2,f3,f4⟩
  ·rename_i gs g he;rw[he]at hU;split
   ·exact⟨hu,hU.1.filter _,aF (bT _ _) (aF hU.2 f1),f2,f3,f4⟩
   ·exact⟨hu,hU.1,aF hU.2 f1,f2,f3,f4⟩
 rw[ar h1];by_cases h2:o.what=2
 ·rw[aA h2];unfold jw;split
  ·exact⟨hu,hn,f1,f2,f3,f4⟩
  ·rename_i l _;split
   ·split
    ·rename_i g hg;have hc:0<=g.count:=by
      unfold DS at hg;split at hg
      ·split at hg
       ·cases hg;exact gV _
       ·cases hg
      ·cases hg
     exact⟨hu,hn.put hc,(KZ _ _).1,f2,f3,f4⟩
    ·exact⟨hu.ask _,hn.filter _,aF (bT _ _) f1,U6 _ _,f3,f4⟩
   ·exact⟨hu,hn,f1,f2,f3,f4⟩
 rw[ar h2];by_cases h3:o.what=3
 ·rw[aA h3];have hs:=re o.o o.proxy p.waits;unfold lh;split
  ·rename_i ws e;rw[e]at hs;exact⟨hu.sub hs,hn,f1,aF hs.length_le f2,f3,f4⟩
  ·rename_i ws x e;rw[e]at hs;exact⟨hu.sub hs,hn.put (gV _),(KZ _ _).1,aF hs.length_le f2,f3,f4⟩
 rw[ar h3];by_cases h4:o.what=4
 ·rw[aA h4];exact⟨hu,hn,f1,f2,f3,f4⟩
 rw[ar h4];by_cases h5:o.what=5
 ·rw[aA h5];unfold lj;split
  ·exact⟨hu,hn,f1,f2,f3,f4⟩
  ·split
   ·exact⟨hu,hn,f1,f2,aF (bT _ _) f3,f4⟩
   ·exact⟨hu,hn,f1,f2,J3 _ _ _,f4⟩
 rw[ar h5];by_cases h6:o.what=6
 ·rw[aA h6];exact⟨hu,hn,f1,f2,f3,f4⟩
 rw[ar h6];by_cases h7:o.what=7
 ·rw[aA h7];unfold oN;split
  ·exact⟨hu,hn,f1,f2,f3,f4⟩
  ·refine⟨hu,hn,f1,f2,f3,?_⟩;show(xr p.eB o.o o.cert).length<=8;unfold xr;simp only[bJ];omega
 rw[ar h7];unfold rK;split
 ·exact nd.no
 ·have T_:nd (vT p o.o):=⟨hu.sub List.filter_sublist,hn.filter _,aF (bT _ _) f1,aF (bT _ _) f2,f3,f4⟩;split
  ·exact⟨T_.uniq,T_.nat,T_.qZ.1,T_.qZ.2.1,aF (bT _ _) f3,aF (bT _ _) f4⟩
  ·exact T_
structure xu (w:dN):Prop where
 part:∀k,nd (w.part k)
 now:0<=w.now/\w.now<=1099511627776
theorem xu.new:xu AQ:=⟨fun _=>nd.no,ag,ag⟩
theorem xu.mi{w:dN}(h:xu w)(o:kl):xu (mi w o).1:=by
 cases hr:o.right
 ·rw[Ic hr];exact h
 ·by_cases hw:o.what=10
  ·rw[DU hr hw];split
   ·exact h
   ·rename_i hn;refine⟨h.part,?_⟩;show 0<=w.now+o.n/\w.now+o.n<=1099511627776;have:=h.now;omega
  ·rw[DT hr hw];refine⟨fun k=>?_,h.now⟩;by_cases hk:k=o.part.toNat
   ·subst hk;rw[dN.NG];exact(h.part _).wK _ _
   ·rw[dN.Ib _ _ hk];exact h.part k
def kY(c:gq×Int):aX:=[.bool c.1.aE,.string c.1.host,.int .i64 c.1.port,.int .i64 c.2]
structure cU where
 b:Nat
 gv:Value
 wv:Value
 k:Nat
 kv:Value
 cv:Value
def cU.cells(v:cU):aX:=[.pointer (some ⟨v.b,0,none⟩),.pointer (some ⟨v.k,0,none⟩),v.cv]
structure eP (base:Nat) (w:World) (v:cU) (p:eD):Prop where
 ot:dD base w v.b v.gv v.wv p.bU p.waits
 book:eN base w v.k v.kv p.book
 eB:OwnRows base 105 4 w v.cv (p.eB.map kY)
def cU.jT(v:cU):dB:=fun i=>dv v.b v.gv v.wv i\/iu v.k v.kv i\/own v.cv i
section
variable {base : Nat} {w w' : World} {v : cU} {p : eD}
theorem dD.ij(h:dD base w b gv wv gs ws)(hi:dv b gv wv i) :
  ∃c t,w.heap[i]?=some (.cells c t (0,0))/\(t=118\/t=133\/t=129):=by
 rcases hi with rfl|hi|hi
 ·exact⟨_,_,h.eJ,Or.inl rfl⟩
 ·obtain⟨c,e⟩:=h.tN hi;exact⟨_,_,e,Or.inr (Or.inl rfl)⟩
 ·obtain⟨c,e⟩:=h.vP hi;exact⟨_,_,e,Or.inr (Or.inr rfl)⟩
theorem eN.ij(h:eN base w b bv ps)(hi:iu b bv i) :
  ∃c t,w.heap[i]?=some (.cells c t (0,0))/\(t=121\/t=137):=by
 rcases hi with rfl|hi
 ·exact⟨_,_,h.eJ,Or.inl rfl⟩
 ·obtain⟨c,e⟩:=h.rows.Ge hi;exact⟨_,_,e,Or.inr rfl⟩
theorem dD.nw(h:dD base w b gv wv gs ws)(hi:dv b gv wv i):base<=i:=by
 rcases hi with rfl|hi|hi
 ·exact h.low
 ·exact h.ahA hi
 ·exact h.ahB hi
theorem eN.nw(h:eN base w b bv ps)(hi:iu b bv i):base<=i:=by
 rcases hi with rfl|hi
 ·exact h.low
 ·exact h.rows.block _ hi
theorem eP.ij(h:eP base w v p)(hi:v.jT i) :
  ∃c t,w.heap[i]?=some (.cells c t (0,0))/\(t=118\/t=133\/t=129\/t=121\/t=137\/t=105):=by
 rcases hi with hi|hi|hi
 ·obtain⟨c,t,e,ht⟩:=h.ot.ij hi;exact⟨c,t,e,by rcases ht with rfl|rfl|rfl<;>simp⟩
 ·obtain⟨c,t,e,ht⟩:=h.book.ij hi;exact⟨c,t,e,by rcases ht with rfl|rfl<;>simp⟩
 ·obtain⟨c,e⟩:=h.eB.Ge hi;exact⟨c,_,e,aR⟩
theorem eP.nw(h:eP base w v p)(hi:v.jT i):base<=i:=by
 rcases hi with hi|hi|hi
 ·exact h.ot.nw hi
 ·exact h.book.nw hi
 ·exact h.eB.block _ hi
theorem eP.jf(h:eP base w v p)(hi:v.jT i):i<w.heap.size:=by
 obtain⟨c,t,e,_⟩:=h.ij hi;exact bj e
theorem eP.off(h:eP base w v p):rR base w v.jT:=fun i hi _=>by
 refine⟨h.nw hi,fun c f e=>?_⟩;obtain⟨c',t,e',ht⟩:=h.ij hi;rw[e]at e';cases e';revert ht;decide
theorem eP.fr(h:eP base w v p)(hf:Fr S w w')(ho:rR base w S)(hn:∀i,v.jT i->¬S i):eP base w' v p :=
 ⟨h.ot.fr hf ho (hn _ (Or.inl (Or.inl rfl))) (fun _ hk=>hn _ (Or.inl (Or.inr (Or.inl hk)))) (fun _ hk=>hn _ (Or.inl (Or.inr (Or.inr hk)))),
  h.book.fr hf (fun _ hk=>hn _ (Or.inr (Or.inl hk))),h.eB.fr hf (fun _ hk=>hn _ (Or.inr (Or.inr hk)))⟩
theorem eP.di(h:eP base w v p)(hf:Fr aS w w'):eP base w' v p:=h.fr hf (fC _ _) (fun _ _ h=>h)
theorem eP.wM(h:eP base w v p)(hi:dv v.b v.gv v.wv i):¬iu v.k v.kv i:=fun hj=>by
 obtain⟨c,t,e,ht⟩:=h.ot.ij hi;obtain⟨c',t',e',ht'⟩:=h.book.ij hj;rw[e]at e';cases e';rcases ht with rfl|rfl|rfl<;>revert ht'<;>decide
theorem eP.wN(h:eP base w v p)(hi:dv v.b v.gv v.wv i):¬own v.cv i:=fun hj=>by
 obtain⟨c,t,e,ht⟩:=h.ot.ij hi;obtain⟨c',e'⟩:=h.eB.Ge hj;rw[e]at e';cases e';revert ht;decide
theorem eP.Gi(h:eP base w v p)(hi:iu v.k v.kv i):¬own v.cv i:=fun hj=>by
 obtain⟨c,t,e,ht⟩:=h.book.ij hi;obtain⟨c',e'⟩:=h.eB.Ge hj;rw[e]at e';cases e';revert ht;decide
end
def iG(pv:Nat->cU)(now:Int):aX:=(pv 0).cells++((pv 1).cells++((pv 2).cells++((pv 3).cells++[.int .i64 now])))
def yj(pv:Nat->cU)(i:Nat)(v:cU):Nat->cU:=fun j=>if j=i then v else pv j
def o8(cs:aX)(o:Nat)(v:cU):aX:=((cs.set o (.pointer (some ⟨v.b,0,none⟩))).set (o+1) (.pointer (some ⟨v.k,0,none⟩))).set (o+2) v.cv
theorem sJ(pv:Nat->cU)(i:Nat)(v:cU):yj pv i v i=v:=by unfold yj;simp
theorem mD(pv:Nat->cU){j:Nat}(v:cU)(h:j≠i):yj pv i v j=pv j:=by unfold yj;simp[h]
theorem yk(pv:Nat->cU)(now:Int)(hi:i<4)(v:cU):o8 (iG pv now) (i*3) v=iG (yj pv i v) now:=by
 unfold o8 iG yj cU.cells
 match i,hi with
 |0,_=>rfl
 |1,_=>rfl
 |2,_=>rfl
 |3,_=>rfl
theorem wO(pv:Nat->cU)(now:Int)(hi:i<4):(iG pv now)[i*3]?=some (.pointer (some ⟨(pv i).b,0,none⟩))/\(iG pv now)[i*3+1]?=some (.pointer (some ⟨(pv i).k,0,none⟩))/\(iG pv now)[i*3+2]?=some (pv i).cv:=by
 unfold iG cU.cells
 match i,hi with
 |0,_=>exact⟨rfl,rfl,rfl⟩
 |1,_=>exact⟨rfl,rfl,rfl⟩
 |2,_=>exact⟨rfl,rfl,rfl⟩
 |3,_=>exact⟨rfl,rfl,rfl⟩
theorem NL(pv:Nat->cU)(now:Int):(iG pv now)[12]?=some (.int .i64 now):=rfl
theorem xx(pv:Nat->cU)(now n:Int):(iG pv now).set 12 (.int .i64 n)=iG pv n:=rfl
structure cE (base:Nat) (w:World) (B:Nat) (pv:Nat->cU) (x:dN):Prop where
 low:base<=B
 eJ:w.heap[B]?=some (.cells (iG pv x.now).toArray 97 (0,0))
 part:∀i,i<4->eP base w (pv i) (x.part i)
 apart:∀i j,i<4->j<4->i≠j->∀k,(pv i).jT k->¬(pv j).jT k
def lJ(B:Nat)(pv:Nat->cU):dB:=fun k=>k=B\/∃i,i<4/\(pv i).jT k
def dr(base:Nat)(w:World)(B:Nat)(pv:Nat->cU)(x:dN)(w':World):Prop :=
 ∃yA,cE base w' B yA x/\Fr (lJ B pv) w w'/\∀k,lJ B yA k->lJ B pv k\/w.heap.size<=k
section
variable {base : Nat} {w w' : World} {B : Nat} {pv : Nat → cU} {x : dN}
theorem cE.lt(h:cE base w B pv x):B<w.heap.size:=bj h.eJ
theorem cE.jf(h:cE base w B pv x)(hk:lJ B pv k):k<w.heap.size:=by
 rcases hk with rfl|⟨i,hi,hk⟩
 ·exact h.lt
 ·exact(h.part i hi).jf hk
theorem cE.nw(h:cE base w B pv x)(hk:lJ B pv k):base<=k:=by
 rcases hk with rfl|⟨i,hi,hk⟩
 ·exact h.low
 ·exact(h.part i hi).nw hk
theorem cE.zJ(h:cE base w B pv x)(hi:i<4):¬(pv i).jT B:=fun hk=>by
 obtain⟨c,t,e,ht⟩:=(h.part i hi).ij hk;rw[h.eJ]at e;cases e;revert ht;decide
theorem cE.Rv(h:cE base w B pv x):rR base w (one B):=by
 rintro k rfl _;exact⟨h.low,fun c f e=>by rw[h.eJ]at e;cases e⟩
theorem cE.off(h:cE base w B pv x):rR base w (lJ B pv):=by
 rintro k(rfl|⟨i,hi,hk⟩)hl
 ·exact h.Rv _ rfl hl
 ·exact(h.part i hi).off k hk hl
theorem cE.fr(h:cE base w B pv x)(hf:Fr S w w')(ho:rR base w S)(hn:∀k,lJ B pv k->¬S k):cE base w' B pv x :=
 ⟨h.low,hf.keep h.eJ (hn B (Or.inl rfl)),fun i hi=>(h.part i hi).fr hf ho (fun k hk=>hn k (Or.inr ⟨i,hi,hk⟩)),h.apart⟩
theorem cE.di(h:cE base w B pv x)(hf:Fr aS w w'):cE base w' B pv x:=h.fr hf (fC _ _) (fun _ _ h=>h)
theorem dr.same(h:cE base w B pv x)(hf:Fr aS w w'):dr base w B pv x w' :=
 ⟨pv,h.di hf,hf.mono (fun _ _ h=>absurd h id),fun _ hk=>Or.inl hk⟩
end
theorem dr.frame{pv:Nat->cU}{x x':dN}(h:dr base w B pv x' w')(h0:cE base w B pv x)(hf:Fr aS a w)(hb:a.heap.size<=base):Fr aS a w':=by
 obtain⟨_,_,h2,_⟩:=h;refine hf.step h2 (fun k hk hw=>?_);have:=h0.nw hw;omega
structure gP (w:World) (B:Nat) (cs:aX) (o:Nat) (v:cU):Prop where
 eJ:w.heap[B]?=some (.cells cs.toArray 97 (0,0))
 c0:cs[o]?=some (.pointer (some ⟨v.b,0,none⟩))
 c1:cs[o+1]?=some (.pointer (some ⟨v.k,0,none⟩))
 c2:cs[o+2]?=some v.cv
theorem wP{o:Nat}{v:cU}(c0:cs[o]?=some (.pointer (some ⟨v.b,0,none⟩)))(c1:cs[o+1]?=some (.pointer (some ⟨v.k,0,none⟩)))(c2:cs[o+2]?=some v.cv):o8 cs o v=cs:=by
 unfold o8;apply iY;intro i;by_cases h2:i=o+2
 ·subst h2;rw[List.getElem?_set_self (by simp;exact(List.getElem?_eq_some_iff.1 c2).1),c2]
 rw[List.getElem?_set_ne (kO h2)];by_cases h1:i=o+1
 ·subst h1;rw[List.getElem?_set_self (by simp;exact(List.getElem?_eq_some_iff.1 c1).1),c1]
 rw[List.getElem?_set_ne (kO h1)];by_cases h0:i=o
 ·subst h0;rw[List.getElem?_set_self (List.getElem?_eq_some_iff.1 c0).1,c0]
 rw[List.getElem?_set_ne (kO h0)]
section
variable {w w' : World} {B o : Nat} {cs : List Value} {v : cU}
theorem gP.cell0(h:gP w B cs o v):w.cell? ⟨B,o,none⟩=some (.pointer (some ⟨v.b,0,none⟩)):=by simp[World.cell?,h.eJ,h.c0]
theorem gP.gW(h:gP w B cs o v):w.cell? ⟨B,o+1,none⟩=some (.pointer (some ⟨v.k,0,none⟩)):=by simp[World.cell?,h.eJ,h.c1]
theorem gP.lO(h:gP w B cs o v):w.cell? ⟨B,o+2,none⟩=some v.cv:=by simp[World.cell?,h.eJ,h.c2]
theorem gP.free(h:gP w B cs o v)(k:Nat):w.frozen? ⟨B,k,none⟩=false:=by simp[World.frozen?,h.eJ]
theorem gP.fr(h:gP w B cs o v)(hf:Fr S w w')(hn:¬S B):gP w' B cs o v:=⟨hf.keep h.eJ hn,h.c0,h.c1,h.c2⟩
theorem gP.di(h:gP w B cs o v)(hf:Fr aS w w'):gP w' B cs o v:=h.fr hf id
end
def zK(B:Nat)(v:cU):dB:=fun k=>k=B\/v.jT k
def dm(base:Nat)(w:World)(B:Nat)(cs:aX)(o:Nat)(v:cU)(p:eD)(w':World):Prop :=
 ∃v',eP base w' v' p/\Fr (zK B v) w w'/\(∀k,v'.jT k->v.jT k\/w.heap.size<=k)/\w'.heap[B]?=some (.cells (o8 cs o v').toArray 97 (0,0))
theorem dm.same{base:Nat}{w w':World}{B o:Nat}{cs:aX}{v:cU}{p:eD}(h:eP base w v p)(ha:gP w B cs o v)(hf:Fr aS w w'):dm base w B cs o v p w' :=
 ⟨v,h.di hf,hf.mono (fun _ _ h=>absurd h id),fun _ hk=>Or.inl hk,by rw[wP ha.c0 ha.c1 ha.c2];exact hf.keep ha.eJ id⟩
theorem dm.ot{base:Nat}{w w':World}{B o:Nat}{cs:aX}{v:cU}{p:eD}(h:eP base w v p)(ha:gP w B cs o v)(hB:¬v.jT B){gs:List (aP bE)}{ws:List (bI bE)}(hp:kr base w v.b v.gv v.wv gs ws w') :
  dm base w B cs o v {p with bU:=gs,waits:=ws} w':=by
 obtain⟨gv',wv',h1,h2,h3⟩:=hp;refine⟨⟨v.b,gv',wv',v.k,v.kv,v.cv⟩,⟨h1,?_,?_⟩,h2.mono (fun k _ hk=>Or.inr (Or.inl hk)),?_,?_⟩
 ·exact h.book.fr h2 (fun k hk hb=>h.wM hb hk)
 ·exact h.eB.fr h2 (fun k hk hb=>h.wN hb hk)
 ·rintro k(hk|hk|hk)
  ·rcases h3 k hk with hk|hk
   ·exact Or.inl (Or.inl hk)
   ·exact Or.inr hk
  ·exact Or.inl (Or.inr (Or.inl hk))
  ·exact Or.inl (Or.inr (Or.inr hk))
 ·show w'.heap[B]?=some (.cells (o8 cs o v).toArray _ _);rw[wP ha.c0 ha.c1 ha.c2];exact h2.keep ha.eJ (fun hb=>hB (Or.inl hb))
theorem dm.book{base:Nat}{w w':World}{B o:Nat}{cs:aX}{v:cU}{p:eD}(h:eP base w v p)(ha:gP w B cs o v)(hB:¬v.jT B){ps:List ef}(hp:DP base w v.k v.kv ps w') :
  dm base w B cs o v {p with book:=ps} w':=by
 obtain⟨kv',h1,h2,h3⟩:=hp;have mO:rR base w (iu v.k v.kv):=fun k hk hl=>h.off k (Or.inr (Or.inl hk)) hl;refine⟨⟨v.b,v.gv,v.wv,v.k,kv',v.cv⟩,⟨?_,h1,?_⟩,h2.mono (fun k _ hk=>Or.inr (Or.inr (Or.inl hk))),?_,?_⟩
 ·exact h.ot.fr h2 mO (fun hb=>h.wM (Or.inl rfl) hb) (fun k hk hb=>h.wM (Or.inr (Or.inl hk)) hb) (fun k hk hb=>h.wM (Or.inr (Or.inr hk)) hb)
 ·exact h.eB.fr h2 (fun k hk hb=>h.Gi hb hk)
 ·rintro k(hk|hk|hk)
  ·exact Or.inl (Or.inl hk)
  ·rcases h3 k hk with hk|hk
   ·exact Or.inl (Or.inr (Or.inl hk))
   ·exact Or.inr hk
  ·exact Or.inl (Or.inr (Or.inr hk))
 ·show w'.heap[B]?=some (.cells (o8 cs o v).toArray _ _);rw[wP ha.c0 ha.c1 ha.c2];exact h2.keep ha.eJ (fun hb=>hB (Or.inr (Or.inl hb)))
theorem dm.after{base:Nat}{a w w':World}{B o:Nat}{cs:aX}{v:cU}{p:eD}(hf:Fr aS a w)(h:dm base w B cs o v p w'):dm base a B cs o v p w':=by
 obtain⟨v',h1,h2,h3,h4⟩:=h;refine⟨v',h1,fU (S:=zK B v) (hf.mono (fun _ _ h=>absurd h id)) h2 (fun _ _ h=>h),fun k hk=>?_,h4⟩;rcases h3 k hk with h|h
 ·exact Or.inl h
 ·exact Or.inr (aF hf.size h)
theorem dm.then{o:Nat}{v:cU}{p:eD}(h:dm base a B cs o v p w)(hf:Fr aS w w'):dm base a B cs o v p w':=by
 obtain⟨v',h1,h2,h3,h4⟩:=h;exact⟨v',h1.di hf,h2.step (T:=aS) hf (fun _ _ h=>absurd h id),h3,hf.keep h4 id⟩
theorem cE.step{base:Nat}{w w':World}{B:Nat}{pv:Nat->cU}{x:dN}{i:Nat}{p:eD}(h:cE base w B pv x)(hi:i<4)(hp:dm base w B (iG pv x.now) (i*3) (pv i) p w') :
  dr base w B pv (x.set i p) w':=by
 obtain⟨v',h1,h2,h3,h4⟩:=hp;have kX:∀j k,j<4->(yj pv i v' j).jT k->(pv j).jT k\/w.heap.size<=k:=by
  intro j k hj hk;by_cases Fw:j=i
  ·subst Fw;rw[sJ]at hk;exact h3 k hk
  ·rw[mD pv v' Fw]at hk;exact Or.inl hk
 refine⟨yj pv i v',⟨h.low,?_,fun j hj=>?_,fun a b ha hb rU k hka Nh=>?_⟩,h2.mono ?_,?_⟩
 ·rw[h4,yk pv x.now hi];rfl
 ·by_cases Fw:j=i
  ·subst Fw;rw[sJ,dN.NG];exact h1
  ·rw[mD pv v' Fw,dN.Ib _ _ Fw];refine(h.part j hj).fr h2 ?_ ?_
   ·rintro k(rfl|hk)hl
    ·exact h.Rv _ rfl hl
    ·exact(h.part i hi).off k hk hl
   ·rintro k hk(rfl|YY)
    ·exact h.zJ hj hk
    ·exact h.apart j i hj hi Fw k hk YY
 ·rcases kX a k ha hka with h5|h5
  ·rcases kX b k hb Nh with h6|h6
   ·exact h.apart a b ha hb rU k h5 h6
   ·have:=(h.part a ha).jf h5;omega
  ·rcases kX b k hb Nh with h6|h6
   ·have:=(h.part b hb).jf h6;omega
   ·by_cases hai:a=i
    ·by_cases hbi:b=i
     ·exact rU (hai.trans hbi.symm)
     ·rw[mD pv v' hbi]at Nh;have:=(h.part b hb).jf Nh;omega
    ·rw[mD pv v' hai]at hka;have:=(h.part a ha).jf hka;omega
 ·rintro k _(rfl|hk)
  ·exact Or.inl rfl
  ·exact Or.inr ⟨i,hi,hk⟩
 ·rintro k(rfl|⟨j,hj,hk⟩)
  ·exact Or.inl (Or.inl rfl)
  ·rcases kX j k hj hk with h5|h5
   ·exact Or.inl (Or.inr ⟨j,hj,h5⟩)
   ·exact Or.inr h5
theorem cE.partAt{pv:Nat->cU}{x:dN}(h:cE base w B pv x)(hi:i<4):gP w B (iG pv x.now) (i*3) (pv i) :=
 ⟨h.eJ,(wO pv x.now hi).1,(wO pv x.now hi).2.1,(wO pv x.now hi).2.2⟩
def kM.val(r:kM):Value:=.agg #[.int .i64 r.what,.string r.head,.int .i64 r.cert]
structure jz where
 what:Int
 aJ:gl Value
 proxy:Bool
 text:aj
 user:aj
 pass:aj
 bK:aj
 cert:Int
 all:Bool
 n:Int
def jz.cells(o:jz):aX:=.int .i64 o.what :: (o.aJ.cells++[.bool o.proxy,.string o.text,.string o.user,.string o.pass,.string o.bK,.int .i64 o.cert,.bool o.all,.int .i64 o.n])
def jz.dS(o:jz)(hs:List gY):kl:=⟨o.what,o.aJ.part,o.aJ.cW,o.aJ.o,o.aJ.path,o.aJ.query,o.aJ.method,hs,o.aJ.fN,o.aJ.body,o.proxy,o.text,o.user,o.pass,o.bK,o.cert,o.all,o.n⟩
structure gB (w:World) (o:jz) (hs:List gY):Prop where
 en:oD w o.aJ.en hs
 aJ:Gc o.aJ hs
 cW:o.aJ.cW.host.size<100000
 ori:o.aJ.o.host.size<100000
 path:o.aJ.path.size<=2000
 query:o.aJ.query.size<=2000
 method:o.aJ.method.size<=5000
 body:o.aJ.body.size<=5000
 text:o.text.size<100000
 user:o.user.size<=5000
 pass:o.pass.size<=5000
 bK:o.bK.size<=5000
 Vr: -9223372036854775808<=o.aJ.cW.port/\o.aJ.cW.port<=9223372036854775807
 ail: -9223372036854775808<=o.aJ.o.port/\o.aJ.o.port<=9223372036854775807
 part: -9223372036854775808<=o.aJ.part/\o.aJ.part<=9223372036854775807
 what: -9223372036854775808<=o.what/\o.what<=9223372036854775807
 cert: -9223372036854775808<=o.cert/\o.cert<=9223372036854775807
 n: -9223372036854775808<=o.n/\o.n<=9223372036854775807
theorem gB.di{o:jz}{hs:List gY}(h:gB w o hs)(hf:Fr aS w w'):gB w' o hs:={h with en:=bh h.en hf}
abbrev dh := @dm.after
abbrev eR := @dm.ot
abbrev fx := @dr.same
abbrev ki := @cE.step
abbrev mf := @dm.same
abbrev oO := @dm.book
theorem LB(base:Nat)(w:World)(b:Nat)(v:Value)(ps:List ef)(r:gl Value)(hs:List gY)(now:Int)(h:eN base w b v ps)(hlen:ps.length<1000000)(hr:oD w r.en hs)(hz:Gc r hs) :
  aB 45 #[.pointer (some ⟨b,0,none⟩),.agg r.cells.toArray,.int .i64 now] w fun e w'=>e=.returned (.bool (mA ps (r.dS hs) now))/\Fr aS w w':=by
 have gG:=O (show mA ps (r.dS hs) now=(!(r.dS hs).needs||(r.dS hs).mV (iT ps (r.dS hs) now))from rfl);generalize mA ps (r.dS hs) now=res at gG ⊢;obtain⟨w1,oq⟩:∃w1,w1=w.alloc (.cells r.cells.toArray 29):=⟨_,rfl⟩;have dn:Fr aS w w1:=by rw[oq];exact(ae _ _).alloc _
 have lW:w1.heap[w.heap.size]?=some (.cells r.cells.toArray 29 (0,0)):=by rw[oq];exact aC _ _
 have HN:=O (show∀U,Fr aS w1 U->aB 83 #[.agg r.cells.toArray] U fun e w'=>e=.returned (.bool (r.dS hs).needs)/\Fr aS U w' from fun U hU=>Rj r hs U (bh hr (dn.trans hU)) hz)
 have Ti:=O (show∀U,Fr aS w1 U->aB 85 #[.pointer (some ⟨b,0,none⟩),.agg r.cells.toArray,.int .i64 now] U fun e w'=>∃v',e=.returned v'/\OwnRows U.heap.size 137 12 w' v' ((iT ps (r.dS hs) now).map ef.cells)/\Fr aS U w' from fun U hU=>Z' base U b v ps r hs now (h.di (dn.trans hU)) hlen)
 have wY:=O (show∀U,Fr aS w1 U->∀lv,qF U lv (iT ps (r.dS hs) now)->aB 84 #[.agg r.cells.toArray,lv] U fun e w'=>e=.returned (.bool ((r.dS hs).mV (iT ps (r.dS hs) now)))/\Fr aS U w' from fun U hU lv hlv=>yh r hs lv _ U (bh hr (dn.trans hU)) hlv hz);obtain⟨ah,ch,gD⟩:=dI hr;rw[ai]at gD
 have ux:r.cells=[.int .i64 r.part,.bool r.cW.aE,.string r.cW.host,.int .i64 r.cW.port,.bool r.o.aE,.string r.o.host,.int .i64 r.o.port,.string r.path,.string r.query,.string r.method,.slice ah hs.length ch,.bool r.fN,.string r.body]:=by unfold gl.cells;rw[gD]
 have HC:=O (show∀U,Fr aS w1 U->(U.cell? ⟨w.heap.size,0,none⟩=some (.int .i64 r.part)/\U.cell? ⟨w.heap.size,1,none⟩=some (.bool r.cW.aE)/\U.cell? ⟨w.heap.size,2,none⟩=some (.string r.cW.host)/\U.cell? ⟨w.heap.size,3,none⟩=some (.int .i64 r.cW.port)/\U.cell? ⟨w.heap.size,4,none⟩=some (.bool r.o.aE)/\U.cell? ⟨w.heap.size,5,none⟩=some (.string r.o.host)/\U.cell? ⟨w.heap.size,6,none⟩=some (.int .i64 r.o.port)/\U.cell? ⟨w.heap.size,7,none⟩=some (.string r.path)/\U.cell? ⟨w.heap.size,8,none⟩=some (.string r.query)/\U.cell? ⟨w.heap.size,9,none⟩=some (.string r.method)/\U.cell? ⟨w.heap.size,10,none⟩=some (.slice ah hs.length ch)/\U.cell? ⟨w.heap.size,11,none⟩=some (.bool r.fN)/\U.cell? ⟨w.heap.size,12,none⟩=some (.string r.body))from fun U hU=>by
  have j:=hU.keep lW id;rw[ux]at j;simp[World.cell?,j])
 rw[ux]at HN Ti wY oq ⊢;have lq:=O dn;have hhw:=oq;clear h hr hz dn lW ux gD;cases hn:(r.dS hs).needs
 ·have HR:=O (show res=true by rw[gG.o,hn];rfl);rw[hn]at HN;clear hn gG Ti wY hhw;go_enter func45,ntmps45;go_wp2_with fail
  rw[<-oq];clear oq
  refine wp_region_held_drew (S:=(fun U=>U.cell? ⟨w.heap.size,0,none⟩=some (.int .i64 r.part)/\U.cell? ⟨w.heap.size,1,none⟩=some (.bool r.cW.aE)/\U.cell? ⟨w.heap.size,2,none⟩=some (.string r.cW.host)/\U.cell? ⟨w.heap.size,3,none⟩=some (.int .i64 r.cW.port)/\U.cell? ⟨w.heap.size,4,none⟩=some (.bool r.o.aE)/\U.cell? ⟨w.heap.size,5,none⟩=some (.string r.o.host)/\U.cell? ⟨w.heap.size,6,none⟩=some (.int .i64 r.o.port)/\U.cell? ⟨w.heap.size,7,none⟩=some (.string r.path)/\U.cell? ⟨w.heap.size,8,none⟩=some (.string r.query)/\U.cell? ⟨w.heap.size,9,none⟩=some (.string r.method)/\U.cell? ⟨w.heap.size,10,none⟩=some (.slice ah hs.length ch)/\U.cell? ⟨w.heap.size,11,none⟩=some (.bool r.fN)/\U.cell? ⟨w.heap.size,12,none⟩=some (.string r.body))) af (HC.o _ (ae aS w1).drew) ?_
  intro Aj;refine aW 0 7 rfl ?_;refine eT 1 rfl fun K hK=>?_;go_simp;refine(HN.o _ (ae aS w1).drew).mono ?_;rintro e v1⟨rfl,EE⟩;have fY:=O (show Fr aS w1 v1 from((ae aS w1).drew).trans EE);refine hK.out _ _ (HC.o _ fY.o) ?_;intro yl;clear hK Aj EE K
  try simp only[Act.put,sA,sB,sC]
  refine aW 2 9 rfl ?_;refine aW 3 10 rfl ?_;refine Ba 4 11 rfl ?_
  try simp only[Act.put,sA,sB,sC]
  refine Ba 5 12 rfl ?_
  try simp only[Act.put,sA,sB,sC]
  refine Ba 6 13 rfl ?_
  try simp only[Act.put,sA,sB,sC]
  refine Ba 7 14 rfl ?_
  try simp only[Act.put,sA,sB,sC]
  refine Ba 8 15 rfl ?_
  try simp only[Act.put,sA,sB,sC]
  refine Ba 9 16 rfl ?_
  try simp only[Act.put,sA,sB,sC]
  refine aW 10 17 rfl ?_;refine aW 11 6 rfl ?_;refine wpAnyH_done af ?_ _;go_wp2;go_ret;exact⟨by rw[HR.o];rfl,lq.o.trans fY.o⟩
 ·have HR:=O (show res=(r.dS hs).mV (iT ps (r.dS hs) now)by rw[gG.o,hn];rfl);rw[hn]at HN;generalize (r.dS hs).mV (iT ps (r.dS hs) now)=cv at *
  generalize iT ps (r.dS hs) now=fs at *
  clear hn gG hhw;go_enter func45,ntmps45;go_wp2_with fail
  rw[<-oq];clear oq
  go_region_held3 (fun U=>Fr aS w1 U/\U.cell? ⟨w.heap.size,0,none⟩=some (.int .i64 r.part)/\U.cell? ⟨w.heap.size,1,none⟩=some (.bool r.cW.aE)/\U.cell? ⟨w.heap.size,2,none⟩=some (.string r.cW.host)/\U.cell? ⟨w.heap.size,3,none⟩=some (.int .i64 r.cW.port)/\U.cell? ⟨w.heap.size,4,none⟩=some (.bool r.o.aE)/\U.cell? ⟨w.heap.size,5,none⟩=some (.string r.o.host)/\U.cell? ⟨w.heap.size,6,none⟩=some (.int .i64 r.o.port)/\U.cell? ⟨w.heap.size,7,none⟩=some (.string r.path)/\U.cell? ⟨w.heap.size,8,none⟩=some (.string r.query)/\U.cell? ⟨w.heap.size,9,none⟩=some (.string r.method)/\U.cell? ⟨w.heap.size,10,none⟩=some (.slice ah hs.length ch)/\U.cell? ⟨w.heap.size,11,none⟩=some (.bool r.fN)/\U.cell? ⟨w.heap.size,12,none⟩=some (.string r.body)) ((refine(fun hU=>⟨hU,HC.o _ hU⟩) ?_;repeat(first|exact ae _ _|assumption|apply bz|apply az|refine bF ?_ jS)))
   ((first
    |(go_at_call 83;refine(HN.o _ (by repeat(first|exact ae _ _|assumption|apply az|apply bz|refine bF ?_ jS))).mono ?_;rintro e u1 ⟨rfl,tY⟩)
    |(go_at_call 85;refine(Ti.o _ (by repeat(first|exact ae _ _|assumption|apply az|apply bz|refine bF ?_ jS))).mono ?_;rintro e u2 ⟨fv,rfl,KF,nj⟩)
    |(go_at_call 84;refine(wY.o _ (by repeat(first|exact ae _ _|assumption|apply az|apply bz|refine bF ?_ jS)) _ (bh KF.at (by repeat(first|exact ae _ _|assumption|apply az|apply bz|refine bF ?_ jS)))).mono ?_;rintro e u3 ⟨rfl,zu⟩)))
  have fY:=O (show Fr aS w1 u3 from by repeat(first|exact ae _ _|assumption|apply az|apply bz|refine bF ?_ jS));clear tY nj zu;go_wp2;go_ret;exact⟨by rw[HR.o];rfl,lq.o.trans fY.o⟩
