/- Lemmas for the law's walk. -/
import Derived.Test.YtnckmcnffadjoaaGreatDoorPk9
import Derived.Test.YtnckmcnffadjoaaGreatDoorPk10
import Derived.Lib.ItoaLen
set_option maxRecDepth 100000
set_option maxHeartbeats 16000000
set_option linter.unusedSimpArgs false
namespace Go.Proofs.YtnckmcnffadjoaaGreatDoor
open Go.Proofs.Tryz
open Go.RowKit
variable {r z:Bs} {ps:List jy} {p:jy} {k n i g j c:Nat} {S:Nat->Prop} {l:aG} {s:aj} {w w':World}
def PR(t:Bs):Prop:=∃n m:Bs,t=n++m/\n≠ []/\n.all Fv=true/\m.all ll=true
def PS(p:jy):Prop:=AX p.1=true/\Ib p.2=true
structure nu.Ok (x:nu):Prop where
 scheme:AX x.scheme=true
 token:x.token=[]\/(x.params=[]/\PR x.token)
 tG:x.params.length<=16
 zz:∀p∈x.params,PS p
 apart:∀(i j:Nat) p q,i<j->x.params[i]?=some p->x.params[j]?=some q->dG p.1 q.1=false
theorem taken(p:UInt8->Bool):∀l:Bs,(l.takeWhile p).all p=true
 |[]=>rfl
 |c :: l=>by
  cases h:p c
  ·rw[List.takeWhile_cons_of_neg (by simp[h])];rfl
  ·rw[List.takeWhile_cons_of_pos h,List.all_cons,h,taken p l];rfl
theorem Dt(h:(h_ r).isEmpty=false):AX (h_ r)=true:=by
 unfold AX;rw[h];have:(h_ r).all fY=true:=taken fY r;rw[this];rfl
theorem Du:∀(f:Nat) (r a z:Bs),r.length<=f->vV r=some (a,z)->a.all nx=true
 |0,r,a,z,hf,h=>by
  have:r=[]:=cg ab;subst this;rw[vV.eq_def]at h;simp at h
 |f+1,[],a,z,hf,h=>by rw[vV.eq_def]at h;simp at h
 |f+1,x :: r,a,z,hf,h=>by
  rw[vV.eq_def]at h;simp only at h;by_cases h1:(x==34)=true
  ·rw[az h1]at h;cases h;rfl
  ·rw[aq h1]at h;by_cases h2:(x==92)=true
   ·rw[az h2]at h;cases r with
    |nil=>simp at h
    |cons y r' =>
     simp only at h;by_cases h3:nx y=true
     ·rw[az h3]at h;cases hq:vV r' with
      |none=>rw[hq]at h;simp at h
      |some p =>
       rw[hq]at h;simp at h;obtain⟨rfl,rfl⟩:=h;have:=Du f r' p.1 p.2 (by simp at hf;omega) hq;rw[List.all_cons,h3,this];rfl
     ·rw[aq h3]at h;simp at h
   ·rw[aq h2]at h;by_cases h3:nx x=true
    ·rw[az h3]at h;cases hq:vV r with
     |none=>rw[hq]at h;simp at h
     |some p =>
      rw[hq]at h;simp at h;obtain⟨rfl,rfl⟩:=h;have:=Du f r p.1 p.2 (by simp at hf;omega) hq;rw[List.all_cons,h3,this];rfl
    ·rw[aq h3]at h;simp at h
theorem Q7{a:Bs}(h:pL r=some (a,z)):Ib a=true:=by
 unfold pL at h;unfold Ib;split at h
 ·cases r with
  |nil=>cases h
  |cons c t =>
   have h':(if c==34 then vV t else none)=some (a,z):=h;by_cases hc:(c==34)=true
   ·rw[az hc]at h';have:=Du _ t a z (ay _) h';rw[show n_ a=true from this,kq]
   ·rw[aq hc]at h';cases h'
 ·rename_i hw;cases h;rw[Dt (by simpa using hw)];rfl
theorem Gp(h:ld ps r=.ok (p,z)):PS p/\uC ps p.1=false/\ps.length≠16:=by
 unfold ld at h;by_cases hn:lL r=true
 ·rw[aq (by simp[hn])]at h;cases hv:pL (nH r)with
  |none=>rw[hv]at h;cases h
  |some q =>
   rw[hv]at h;simp only at h;split at h
   ·cases h
   rename_i ht;split at h
   ·cases h
   rename_i hk;cases h;exact⟨⟨Dt (BP hn),Q7 (a:=q.1) (z:=q.2) hv⟩,by simpa using ht,hk⟩
 ·rw[az (by simpa using hn)]at h;cases h
structure wC (ps:List jy):Prop where
 tG:ps.length<=16
 zz:∀p∈ps,PS p
 apart:∀(i j:Nat) p q,i<j->ps[i]?=some p->ps[j]?=some q->dG p.1 q.1=false
theorem wC.nil:wC []:=⟨aQ,aQ,aQ⟩
theorem wC.snoc(h:wC ps)(hp:PS p)(ht:uC ps p.1=false)(hl:ps.length≠16):wC (ps++[p]):=by
 refine⟨?_,?_,?_⟩
 ·have:=h.tG;simp;omega
 ·intro q hq;rcases bK.1 hq with g|g
  ·exact h.zz q g
  ·simp at g;subst g;exact hp
 ·intro i j q q' Q8 hi hj;have hj':=(List.getElem?_eq_some_iff.1 hj).1;simp at hj';by_cases Y9:j<ps.length
  ·rw[List.getElem?_append_left Y9]at hj;rw[List.getElem?_append_left ab]at hi;exact h.apart i j q q' Q8 hi hj
  ·have e:j=ps.length:=ab;subst e;rw[List.getElem?_append_left ab]at hi;simp at hj;subst hj;unfold uC at ht;rw[eW]at ht;simpa using ht q (bT hi)
theorem Dv:∀(f:Nat) (ps:List jy) (r:Bs) (q:List jy×Bs),wC ps->gU f ps r=.ok q->wC q.1
 |0,ps,r,q,ho,h=>by rw[gU]at h;cases h;exact ho
 |f+1,ps,r,q,ho,h=>by
  rw[gU]at h;cases hp:ld ps r with
  |error e=>rw[hp]at h;cases h
  |ok p =>
   rw[hp]at h;obtain⟨p,r1⟩:=p;obtain⟨h1,h2,h3⟩:=Gp hp;have Fj:=ho.snoc h1 h2 h3;simp only at h;split at h
   ·split at h
    ·exact Dv f _ _ q Fj h
    ·cases h;exact Fj
   ·cases h
theorem Nt{t:Bs}(h:singleR r=some (t,z)):PR t:=by
 unfold singleR at h;split at h
 ·rename_i hc;cases h;simp only[cD,Bool.not_eq_true']at hc;refine⟨_,_,rfl,fun e=>?_,?_,?_⟩
  ·rw[e]at hc;cases hc.1
  ·exact taken Fv r
  ·exact taken ll _
 ·cases h
theorem PT{x:nu}(h:pn k r=.ok (x,z)):x.Ok/\k≠8:=by
 unfold pn at h;split at h
 ·cases h
 rename_i hw;have hw':=Dt (show(h_ r).isEmpty=false by simpa using hw);split at h
 ·cases h
 rename_i hk;refine⟨?_,hk⟩;split at h
 ·cases h;exact⟨hw',Or.inl rfl,aQ,aQ,aQ⟩
 split at h
 ·cases h
 split at h
 ·rename_i q hq;cases h;exact⟨hw',Or.inr ⟨rfl,Nt (t:=q.1) (z:=q.2) hq⟩,aQ,aQ,aQ⟩
 ·split at h
  ·cases h
  ·rename_i q hq;cases h;have:=Dv _ _ _ _ wC.nil hq;exact⟨hw',Or.inl rfl,this.tG,this.zz,this.apart⟩
theorem Gq:∀(f:Nat) (acc:List nu) (r:Bs) (l:List nu),(∀x∈acc,x.Ok)->acc.length<=8->ki f acc r=.ok l->(∀x∈l,x.Ok)/\l.length<=8
 |0,acc,r,l,ha,hl,h=>by rw[ki]at h;cases h;exact⟨ha,hl⟩
 |f+1,acc,r,l,ha,hl,h=>by
  rw[ki]at h;split at h
  ·cases h;exact⟨ha,hl⟩
  ·cases ho:pn acc.length (iG r)with
   |error e=>rw[ho]at h;cases h
   |ok q =>
    obtain⟨x,r1⟩:=q;rw[ho]at h;obtain⟨h1,h2⟩:=PT ho;simp only at h;refine Gq f _ r1 l ?_ ?_ h
    ·intro y hy;rcases bK.1 hy with g|g
     ·exact ha y g
     ·simp at g;subst g;exact h1
    ·simp;omega
theorem KF{l:List nu}(h:mC r=.ok l):(∀x∈l,x.Ok)/\l.length<=8:=by
 unfold mC at h;split at h
 ·cases h
 ·exact Gq _ _ _ _ aQ aQ h
def Q9(p:jy)(x:Bs):Bs:=p.1++61 :: x
def xQ:List (jy×Bs)->Bs
 |[]=>[]
 |[p]=>Q9 p.1 p.2
 |p :: q :: l=>Q9 p.1 p.2++44 :: 32 :: xQ (q :: l)
def iI(w:World)(b c:Nat)(s:aj)(v:Value):Prop:=w.heap[b]?=some (.cells #[.pointer (some ⟨c,0,none⟩),.string s,v] 195 (0,0))
section
variable {w w' : World} {b c i : Nat} {s t : ByteArray} {v : Value}
theorem iI.cell0(h:iI w b c s v):w.cell? ⟨b,0,none⟩=some (.pointer (some ⟨c,0,none⟩)):=by simp[World.cell?,show w.heap[b]?=_ from h]
theorem iI.hZ(h:iI w b c s v):w.cell? ⟨b,1,none⟩=some (.string s):=by simp[World.cell?,show w.heap[b]?=_ from h]
theorem iI.lV(h:iI w b c s v):w.cell? ⟨b,2,none⟩=some v:=by simp[World.cell?,show w.heap[b]?=_ from h]
theorem iI.free(h:iI w b c s v)(k:Nat):w.frozen? ⟨b,k,none⟩=false:=by simp[World.frozen?,show w.heap[b]?=_ from h]
theorem iI.ne(h:iI w b c s v)(g:du w c t i):b≠c:=by
 intro e;subst e;have h':w.heap[b]?=_:=h;have g':w.heap[b]?=_:=g;rw[h']at g';simp at g'
theorem iI.fr(h:iI w b c s v)(hf:Fr S w w')(hn:¬S b):iI w' b c s v:=hf.keep h hn
theorem iI.one(h:iI w b c s v)(g:du w c t i)(hf:Fr (one c) w w'):iI w' b c s v:=h.fr hf (fun e=>h.ne g e)
theorem iI.lt(h:iI w b c s v):b<w.heap.size:=bj h
theorem iI.drewN(h:iI w b c s v):iI (w.drewN n) b c s v:=h
end
theorem Uz(l:Bs)(k:Nat)(hk:k<=l.length):cL ow l (cL dJ l k)=cL ow l k:=by
 have e1:l.drop (cL ow l (cL dJ l k))=l.drop (cL ow l k):=by
  rw[kh,kh,kh];exact uE _
 have h1:cL ow l (cL dJ l k)<=l.length:=ia (ia hk);have h2:cL ow l k<=l.length:=ia hk;have:=ar List.length e1;simp at this;omega
theorem Nu{l:Bs}(h:l[k]?=some 44):cL ow l (k+1)=cL ow l k:=(oJ h ag).symm
theorem Q'{l:Bs}(h:cL dJ l k=k)(h2:l[k]?≠some 44):cL ow l k=k:=by
 refine lJ (fun c hc=>?_);unfold ow;cases hb:dJ c
 ·have:c≠44:=fun e=>h2 (by rw[hc,e]);simpa using this
 ·have:=oJ (p:=dJ) hc hb;have h3:=lK (p:=dJ) (l:=l) (i:=k+1);omega
theorem xn(s:aj)(k:Nat)(c:UInt8):kn s k c=true↔s.data.toList[k]?=some c:=by unfold kn;simp
theorem Dx(b c i:Nat)(s:aj)(v:Value)(w:World)(hr:iI w b c s v)(h:du w c s i)(hs:s.size<=maxLen)(hi:i<=s.size) :
  Calls prog 111 #[.pointer (some ⟨b,0,none⟩)] w fun e w'=>e=.returned (.tuple #[])/\du w' c s (cL ow s.data.toList i)/\Fr (one c) w w':=by
 go_enter func111,ntmps111;go_wp2;go_loopw[] (fun wr=>∃k,k<=s.size/\du wr c s k/\cL ow s.data.toList k=cL ow s.data.toList i/\Fr (one c) w wr) (fun wr=>s.size-pG wr c)
 case atStart=>exact⟨i,hi,h,rfl,ae _ _⟩
 case round =>
  obtain⟨k,hk,hc,qz,cK⟩:=hrel;have xi:=O qz;clear qz;have yY:=hr.one h cK;have q0:=yY.cell0;have qh:=O hc.pos;have UA:k<=s.data.toList.length:=by simpa using hk
  have HG:=O (Uz s.data.toList k UA);have mf:cL dJ s.data.toList k<=s.size:=by simpa using ia (p:=dJ) UA
  have Nv:k<=cL dJ s.data.toList k:=lK;go_wp2_with fail
  refine(mB c s k wr hc hs hk).mono ?_;rintro e w1⟨rfl,px,df⟩;have k_:=O (cK.trans df);have ox:=yY.one hc df;have q1:=ox.cell0;generalize hK:cL dJ s.data.toList k=K at *
  have HK:=O hK;clear hK q0;by_cases sO:k<K
  ·have hd:decide (k<K)=true:=bf sO;rw[hd];go_wp2;go_roundw
   case rel=>exact⟨K,mf,px,HG.o.trans xi.o,k_.o⟩
   case measure=>rw[qh.o,px.pos];omega
  ·have hd:decide (k<K)=false:=bh sO;have hKk:K=k:=ab;subst hKk;rw[hd];go_wp2_with fail
   refine(qg c s K 44 w1 px hs).mono ?_;rintro e w2⟨rfl,sN,dy⟩;have fO:=O (k_.o.trans dy);cases hm:kn s K 44
   ·have jq:=O (Q' HK.o (fun e=>by rw[(xn s K 44).2 e]at hm;cases hm));rw[pF hm]at sN;go_wp2;go_end0;rw[<-xi.o,jq.o];exact⟨rfl,sN,fO.o⟩
   ·have jq:=O (Nu ((xn s K 44).1 hm));rw[pE hm]at sN;have anb:K<s.size:=by
     have:=(List.getElem?_eq_some_iff.1 ((xn s K 44).1 hm)).1;simpa using this
    go_wp2;go_roundw
    case rel=>exact⟨K+1,anb,sN,jq.o.trans xi.o,fO.o⟩
    case measure=>rw[qh.o,sN.pos];omega
def eI(s:aj)(i:Nat):Nat:=cL dJ s.data.toList i
theorem yt(h:i<=s.size):eI s i<=s.size:=by
 unfold eI;simpa using ia (p:=dJ) (l:=s.data.toList) (i:=i) (by simpa using h)
theorem oP(s:aj)(i:Nat):s.data.toList.drop (eI s i)=eV (s.data.toList.drop i):=kh _ _ _
theorem Y'(s:aj)(i:Nat):oa (s.data.toList.drop i)=(decide (s.size<=eI s i)||kn s (eI s i) 44):=by
 unfold oa;rw[<-oP];by_cases h:s.size<=eI s i
 ·rw[cO (by simpa using h)];simp[h,Uj]
 ·have sO:eI s i<s.data.toList.length:=by simpa using h
  rw[cR sO,bh h,jN];unfold Uj kn;rw[List.getElem?_eq_getElem sO,fa];simp
theorem uJ(h:k<=n):Uh (k:Int) n=k:=by unfold Uh;omega
theorem Dy(b c i:Nat)(s:aj)(v:Value)(w:World)(hr:iI w b c s v)(h:du w c s i)(hs:s.size<=maxLen)(hi:i<=s.size) :
  Calls prog 168 #[.pointer (some ⟨b,0,none⟩)] w fun e w'=>e=.returned (.bool (oa (s.data.toList.drop i)))/\du w' c s (eI s i)/\Fr (one c) w w':=by
 have q0:=hr.cell0;have hb:=yt hi;have HO:=O (Y' s i);generalize hK:eI s i=K at *
 have HK:=O hK;clear hK;go_enter func168,ntmps168;go_wp2_with fail
 refine(mB c s i w h hs hi).mono ?_;rintro e w1⟨rfl,px,df⟩;replace px:du w1 c s (eI s i):=px;rw[HK.o]at px;have yY:=hr.one h df;have q1:=yY.cell0;clear q0;go_wp2_with fail
 refine(AW c s K w1 px).mono ?_;rintro e w2⟨rfl,rfl⟩;go_wp2_with fail
 refine(xh c s K w1 px).mono ?_;rintro e w3⟨rfl,n3,rfl⟩;have uB:du (w1.drewN n3) c s K:=px.drewN n3;have iv:Fr (one c) w (w1.drewN n3):=df.drewN n3;have q3:=(yY.drewN (n:=n3)).cell0;clear q1;by_cases he:s.size<=K
 ·have hd:decide (s.size<=K)=true:=bf he;have HO2:=O (show oa (s.data.toList.drop i)=true by rw[HO.o,hd];rfl);rw[hd];clear HO;go_wp2_with fail
  refine(yk c s K K (w1.drewN n3) uB hs).mono ?_;rintro e w4⟨rfl,uy,kK⟩;rw[uJ hb]at uy;go_wp2;go_ret;rw[HO2.o];exact⟨rfl,uy,iv.trans kK⟩
 ·have hd:decide (s.size<=K)=false:=bh he;have HO2:=O (show oa (s.data.toList.drop i)=kn s K 44 by rw[HO.o,hd];rfl);rw[hd];clear HO;go_wp2_with fail
  refine(qg c s K 44 (w1.drewN n3) uB hs).mono ?_;rintro e w4⟨rfl,uy,kK⟩;have q4:=((yY.drewN (n:=n3)).one uB kK).cell0;clear q3;go_wp2_with fail
  refine(yk c s _ K w4 uy hs).mono ?_;rintro e w5⟨rfl,uz,lG⟩;rw[uJ hb]at uz;go_wp2;go_ret;rw[HO2.o];exact⟨rfl,uz,(iv.trans kK).trans lG⟩
def JN(s:aj)(i:Nat):Nat:=cL fY s.data.toList i
theorem Iv(h:i<=s.size):JN s i<=s.size:=by
 unfold JN;simpa using ia (p:=fY) (l:=s.data.toList) (i:=i) (by simpa using h)
theorem wE(s:aj)(i:Nat):s.data.toList.drop (JN s i)=iy (s.data.toList.drop i):=kh _ _ _
theorem zC(s:aj)(i:Nat):s.extract i (JN s i)=⟨(h_ (s.data.toList.drop i)).toArray⟩:=zm _ _ _
theorem Za(s:aj)(k:Nat)(c:UInt8):Nf c (s.data.toList.drop k)=kn s k c:=by
 unfold kn;rcases eM k s.data.toList.length with h|h
 ·rw[cR h,List.getElem?_eq_getElem h,fa];simp[Nf]
 ·rw[cO h,List.getElem?_eq_none h];simp[Nf]
theorem KJ(s:aj)(i:Nat):lL (s.data.toList.drop i)=(!(h_ (s.data.toList.drop i)).isEmpty&&kn s (eI s (JN s i)) 61):=by
 unfold lL;rw[<-wE, <-oP,Za]
theorem toList_mk(l:Bs):(⟨l.toArray⟩:aj).toList=l:=by rw[Go.ByteArray.toList_eq]
theorem Nw(b c i:Nat)(s:aj)(v:Value)(w:World)(hr:iI w b c s v)(h:du w c s i)(hs:s.size<=maxLen)(hi:i<=s.size) :
  Calls prog 171 #[.pointer (some ⟨b,0,none⟩)] w fun e w'=>e=.returned (.bool (lL (s.data.toList.drop i)))/\du w' c s i/\Fr (one c) w w':=by
 have q0:=hr.cell0;have HN:=O (KJ s i);have hw:=Iv hi;go_enter func171,ntmps171;go_wp2_with fail
 refine(AW c s i w h).mono ?_;rintro e w0⟨rfl,rfl⟩;go_wp2_with fail
 refine(vY c s i w h hs hi).mono ?_;rintro e w1⟨rfl,px,df⟩;replace px:du w1 c s (JN s i):=px;rw[show s.extract i (cL fY s.data.toList i)=⟨(h_ (s.data.toList.drop i)).toArray⟩from zC s i];generalize JN s i=K at *
 generalize h_ (s.data.toList.drop i)=W at *
 have yY:=hr.one h df;have q1:=yY.cell0;clear q0;go_wp2_with fail
 refine(mB c s K w1 px hs hw).mono ?_;rintro e w2⟨rfl,sN,dy⟩;replace sN:du w2 c s (eI s K):=sN;have hb:=yt hw;generalize eI s K=M at *
 have ox:=yY.one px dy;have q2:=ox.cell0;have fO:=O (df.trans dy);clear q1 df dy;cases W with
 |nil =>
  have HN2:=O (show lL (s.data.toList.drop i)=false by rw[HN.o];rfl);clear HN;go_wp2_with fail
  refine(yk c s M i w2 sN hs).mono ?_;rintro e w4⟨rfl,uy,kK⟩;rw[uJ hi]at uy;go_wp2;go_ret;rw[HN2.o];exact⟨rfl,uy,fO.o.trans kK⟩
 |cons x W =>
  have HN2:=O (show lL (s.data.toList.drop i)=kn s M 61 by rw[HN.o];rfl);clear HN;go_wp2_with fail
  refine(qg c s M 61 w2 sN hs).mono ?_;rintro e w3⟨rfl,uB,iv⟩;have q3:=(ox.one sN iv).cell0;clear q2;go_wp2_with fail
  refine(yk c s _ i w3 uB hs).mono ?_;rintro e w4⟨rfl,uy,kK⟩;rw[uJ hi]at uy;go_wp2;go_ret;rw[HN2.o];exact⟨rfl,uy,(fO.o.trans iv).trans kK⟩
def Rl:List Int:=[0,1,56,2,57,49,28,3,61,58,42,50,38,29,17,4,62,47,59,36,45,43,51,22,53,39,33,30,24,18,12,5,63,55,48,27,60,41,37,16,46,35,44,21,52,32,23,11,54,26,40,15,34,20,31,10,25,14,19,9,13,8,7,6]
theorem DU{W:World}{laid:List (String×DataW Unit)}(h:laidMet prog laid W)(hm:("math/bits.deBruijn64tab",Lib.tabData .u8 Rl)∈laid/\True):om W 9 .u8 Rl :=
 wL (rM h hm.1 (g:=9) af af underlying340 underlying5 af af) af ag
theorem adG(w:World)(h:om w 9 .u8 Rl) :
  Calls prog 273 #[.int .u64 16] w fun e w'=>e=.returned (.int .i64 4)/\w'=w:=by
 have hc:w.cell? ⟨9,15,none⟩=some (.int .u8 4):=h.2 15 4 rfl;have hb:bits .and .u64 16 18446744073709551600=16:=dp;have hw:IntKind.u64.wrap (-16)=18446744073709551600:=dp;have eB:IntKind.u64.wrap (16*285870213051353865)=4573923408821661840:=dp;have UX:IntKind.u64.wrap 4573923408821661840=4573923408821661840:=dp;go_enter func273,ntmps273;go_wp2;go_ret;exact⟨rfl,rfl⟩
theorem UY(w:World) :
  Calls prog 272 #[.int .i64 16] w fun e w'=>e=.returned (.bool true)/\w'=w:=by
 have hb:bits .and .i64 16 15=0:=dp;go_enter func272,ntmps272;go_wp2;go_ret;exact⟨rfl,rfl⟩
theorem Qc:∀n (h:n<16),(⟨#[48,49,50,51,52,53,54,55,56,57,97,98,99,100,101,102,103,104,105,106,107,108,109,110,111,112,113,114,115,116,117,118,119,120,121,122]⟩:aj)[n]'(Nat.lt_trans h ag)=DD n.toUInt8:=ag
def Qd(w:World)(g:Nat)(l:aG):Prop:=w.heap[g]?=some (.cells (ux l).toArray 323 (0,0))
theorem Qd.cell(h:Qd w g l){c:UInt8}(hj:l[j]?=some c):w.cell? ⟨g,j,none⟩=some (.int .u8 (c.toNat:Int)):=by
 obtain⟨hl,he⟩:=List.getElem?_eq_some_iff.1 hj;unfold Qd at h;simp only[World.cell?,h];simp[ux,hl,he]
theorem Qd.free(h:Qd w g l)(j:Nat):w.frozen? ⟨g,j,none⟩=false:=by
 unfold Qd at h;simp[World.frozen?,h]
theorem Qd.set(h:Qd w g l)(j:Nat)(c:UInt8):Qd (w.setCell ⟨g,j,none⟩ (.int .u8 (c.toNat:Int))) g (l.set j c):=by
 unfold Qd at h ⊢;simp only[World.setCell,Array.getElem?_modify,h];simp[ux,List.map_set]
theorem Qd.text{m:aG}(h:Qd w g (m++l))(hk:m.length=k) :
  (convert 177 9 (.slice (some ⟨g,k,none⟩) l.length c)).run prog w=.ok (.string ⟨l.toArray⟩) w:=by
 refine run_convert_bytes_back (P:=prog) w 177 9 5 ⟨g,k,none⟩ c l underlying177 underlying5 underlying9 ?_;intro j hj;have ea:(Addr.add ⟨g,k,none⟩ j)=⟨g,k+j,none⟩:=by unfold Addr.add;split<;>simp_all
 rw[ea];refine h.cell ?_;rw[List.getElem?_append_right ab,show k+j-m.length=j from ab];exact List.getElem?_eq_getElem hj
def FB(n j:Nat):aG:=List.replicate (65-j) 0++kO j n
theorem UZ(n j:Nat)(h:j<=65):(FB n j).length=65:=by unfold FB;rw[aM,fi,nS];omega
theorem Rm(n j:Nat)(h:j<65):FB n (j+1)=(FB n j).set (64-j) (DD (n/16^j%16).toUInt8):=by
 unfold FB;rw[<-B4 j n,show 65-j=(65-(j+1))+1 from ab,List.replicate_succ'];rw[cH,List.set_append,aq (by rw[fi];omega)];rw[fi,show 64-j-(65-(j+1))=0 from ab];rfl
theorem adH(q:Nat)(hq:q<18446744073709551616):bits .and .u64 (q:Int) 15=((q%16:Nat):Int):=by
 have h:=bits_and_u64_nat q 15 hq ag;rw[show((15:Nat):Int)=15 from rfl]at h;rw[h]
 congr 1
 exact Nat.and_two_pow_sub_one_eq_mod q 4
def ahS(n g:Nat)(w:World)(u i:Value)(wr:World):Prop:=∃j m:Nat,j<=7/\m+1+j=65/\u=.int .u64 ((n/16^j:Nat):Int)/\i=.int .i64 ((m:Int)+1)/\Qd wr g (FB n j)/\Fr aR w wr
theorem Rn(n:Nat)(w:World)(hn:n<4294967296)(h:om w 9 .u8 Rl) :
  Calls prog 245 #[.slice none 0 0,.int .u64 (n:Int),.int .i64 16,.bool false,.bool false] w fun e w' =>
   (∃j,j<8/\n<16^(j+1)/\e=.returned (.tuple #[.slice none 0 0,.string ⟨(kO (j+1) n).toArray⟩]))/\Fr aR w w':=by
 have gS:Fr aR w (w.alloc (.cells (ux (List.replicate 65 0)).toArray 323)):=(ae aR w).alloc _;have HTZ:=O (adG _ (h.fr gS));have ZB:=O (show Qd (w.alloc (.cells (ux (List.replicate 65 0)).toArray 323)) w.heap.size (FB n 0)from aB _ _);clear h;go_enter func245,ntmps245;go_wp2_with fail
 refine(UY _).mono ?_;rintro e w1⟨rfl,rfl⟩;go_wp2_with fail
 refine HTZ.o.mono ?_;rintro e w2⟨rfl,rfl⟩;go_wp2;go_loopw[1,13] (ahS n w.heap.size w) (fun u _ _=>(intOf u).toNat)
 case atStart=>exact⟨0,64,ab,ab,aQ,rfl,ZB.o,gS⟩
 case round =>
  obtain⟨j,m,hj,hm,rfl,rfl,hb,cK⟩:=hrel;have hq0:n/16^j<=n:=Nat.div_le_self _ _;have hsu:=O (Rm n j ab);have xV:=O (show n/16^(j+1)=n/16^j/16 by rw[Nat.pow_succ,Nat.div_div_eq_div_mul]);have h7:=O (show 16<=n/16^j->j<7 from fun h=>by
   rcases eM j 7 with h1|h1
   ·exact h1
   ·obtain rfl:j=7:=ab;simp at h;omega)
  have ahT:=O (show n/16^j<16->n<16^(j+1)from fun h=>by rw[Nat.pow_succ,Nat.mul_comm];exact(Nat.div_lt_iff_lt_mul (Nat.pow_pos ag)).1 h);have qV:=O (hb.set m (DD (n/16^j%16).toUInt8));have hbl:=UZ n j ab;have hcell:=hb.cell (List.getElem?_eq_getElem (show m<(FB n j).length from ab));have art:=hb.free m;generalize hq:n/16^j=q at *
  have h15:=adH q ab;have hr:q%16<16:=Nat.mod_lt _ ag;by_cases h16:16<=q
  ·have anB:(16:Int)<=(q:Int):=ab;go_wp2;rw[Qc _ hr];exact⟨⟨j+1,m-1,by have:=h7.o h16;omega,by have:=h7.o h16;omega,by rw[xV.o];rfl,by congr 1;omega,by rw[hsu.o,show 64-j=m from ab];exact qV.o,cK.gI (p:=⟨w.heap.size,m,none⟩) (ay _) _⟩,by simp[intOf];omega⟩
  ·have anB:¬(16:Int)<=(q:Int):=ab;have auS:(m:Int)<=65:=ab;have aru:m<=65:=ab;have ahU:q<16:=ab;have e65:65-m=j+1:=ab;have hx:=qV.o;rw[show q%16=q from ab,show(FB n j).set m (DD q.toUInt8)=List.replicate m 0++kO (j+1) n from by
    have h:=hsu.o;rw[show q%16=q from ab,show 64-j=m from ab]at h;rw[<-h];unfold FB;rw[show 65-(j+1)=m from ab]]at hx
   have BJ:=hx.text (k:=m) (c:=j+1) aQ;rw[nS]at BJ;clear hx hb qV;go_wp2;rw[Qc _ ahU,BJ];go_wp2;go_ret2;exact⟨⟨j,ab,ahT.o ahU,rfl⟩,cK.gI (p:=⟨w.heap.size,m,none⟩) (ay _) _⟩
theorem U0(n:Nat)(w:World)(hn:n<4294967296)(h:om w 9 .u8 Rl) :
  Calls prog 160 #[.int .i64 (n:Int),.int .i64 16] w fun e w' =>
   (∃j,j<8/\n<16^(j+1)/\e=.returned (.string ⟨(kO (j+1) n).toArray⟩))/\Fr aR w w':=by
 have HF:=O (Rn n w hn h);clear h
 have h1:IntKind.u64.wrap (n:Int)=(n:Int):=by have e:IntKind.u64.wrap (n:Int)=(n:Int)%18446744073709551616:=by simp[IntKind.wrap,IntKind.signed,IntKind.bits]
                                              rw[e];omega
 have X6:Calls prog 210 #[.int .i64 (n:Int),.int .i64 16] w fun e w' =>
   (∃j,j<8/\n<16^(j+1)/\e=.returned (.string ⟨(kO (j+1) n).toArray⟩))/\Fr aR w w':=by
  go_enter func210,ntmps210;go_wp2_with fail
  refine HF.o.mono ?_;rintro e w1⟨⟨j,hj,CX,rfl⟩,hf⟩;have HN:=O CX;clear CX;go_wp2;go_ret;exact⟨⟨j,hj,HN.o,rfl⟩,hf⟩
 go_enter func160,ntmps160;go_wp2_with fail
 refine X6.mono ?_;rintro e w1⟨⟨j,hj,CX,rfl⟩,hf⟩;have HN:=O CX;clear CX X6;go_wp2;go_ret;exact⟨⟨j,hj,HN.o,rfl⟩,hf⟩
theorem La(k:Nat):Lib.repeatL [48] k=List.replicate k 48:=by
 induction k with
 |zero=>rfl
 |succ k ih=>show([48]:aG)++Lib.repeatL [48] k=_;rw[ih,List.replicate_succ];rfl
theorem rz(n:Nat)(w:World)(hn:n<4294967296)(h:om w 9 .u8 Rl) :
  Calls prog 104 #[.int .i64 (n:Int)] w fun e w'=>e=.returned (.string ⟨(jD n).toArray⟩)/\Fr aR w w':=by
 have HF:=O (U0 n w hn h);clear h;go_enter func104,ntmps104;go_wp2_with fail
 refine HF.o.mono ?_;rintro e w1⟨⟨j,hj,CX,rfl⟩,hf⟩;have HC:=O (show jD n=Lib.repeatL [48] (7-j)++kO (j+1) n by unfold jD;rw[La,DF _ _ _ CX,show j+1+(7-j)=8 from ab]);have hl:=nS (j+1) n;generalize kO (j+1) n=x at *
 clear CX;have hmx:max (0:Int) (8-((j:Int)+1))=((7-j:Nat):Int):=ab;go_wp2_with fail
 refine(strings_Repeat ⟨#[48]⟩ (7-j) w1 ab (by show 1*(7-j)<=_;omega)).mono ?_;rintro e w2⟨rfl,hb⟩;have dy:=fj hb;have vI:(Lib.repeatL [48] (7-j)).length=7-j:=by rw[La];simp
 have HS:=O (show(⟨(Lib.repeatL [48] (7-j)).toArray⟩++⟨x.toArray⟩:aj)=⟨(jD n).toArray⟩from by
  apply Go.WideShapes.bytes_inj;rw[HC.o];simp[gN])
 generalize Lib.repeatL [48] (7-j)=z at *
 have Zs:¬9223372036854775807<z.length+x.length:=ab;go_wp2;go_ret;exact⟨by rw[<-HS.o];rfl,hf.trans dy⟩
theorem zQ(b:Bool)(w:World):Calls prog 231 #[.bool b] w fun e w'=>e=.returned (.int .i64 (Dk b))/\w=w':=by
 cases b
 ·go_enter func231,ntmps231;go_wp2;go_ret;exact⟨rfl,rfl⟩
 ·go_enter func231,ntmps231;go_wp2;go_ret;exact⟨rfl,rfl⟩
def gz.dS(o:gz):ac_:=⟨o.aF,o.host.data.toList,o.port⟩
def xH(o:gz):aj:=⟨(Ge o.dS).toArray⟩
def Qk(s:Bool):aj:=⟨(abB s).toArray⟩
theorem NV(sec:Bool)(host:aj)(port:Int)(h:port=Dk sec):xH ⟨sec,host,port⟩=Qk sec++host:=by
 apply Go.WideShapes.bytes_inj;unfold xH Ge gz.dS Qk;simp[h]
theorem RE(sec:Bool)(host:aj)(port:Int)(h:¬port=Dk sec):xH ⟨sec,host,port⟩=(Qk sec++host)++(⟨#[58]⟩++⟨(Lib.itoa port).toArray⟩):=by
 apply Go.WideShapes.bytes_inj;unfold xH Ge gz.dS Qk;simp[h]
theorem Fr.grow(w:World)(k:Nat)(os:Array Obj):Fr aR w (Sort.grow (w.drewN k) os):=fj (Lib.below_grow w.heap.size w (ay _) k os)
theorem Vg(o:gz)(w:World)(ht:wO w)(h0: -9223372036854775808<=o.port)(h1:o.port<=9223372036854775807)(hs:o.host.size<100000) :
  Calls prog 195 #[.agg o.cells.toArray] w fun e w'=>e=.returned (.string (xH o))/\Fr aR w w':=by
 obtain⟨sec,host,port⟩:=o;have h0: -9223372036854775808<=port:=h0;have h1:port<=9223372036854775807:=h1;have hs:host.size<100000:=hs;have an5:=Lib.itoa_length_le port h0 h1;have hiz:(⟨(Lib.itoa port).toArray⟩:aj).size<=21:=by show(Lib.itoa port).toArray.size<=21;simpa using an5
 unfold gz.cells;obtain⟨wb,j_⟩:∃wb,wb=w.alloc (.cells #[.bool sec,.string host,.int .i64 port] 32):=⟨_,rfl⟩;have ks:Fr aR w wb:=by rw[j_];exact(ae aR w).alloc _
 have mf:wb.heap[w.heap.size]?=some (.cells #[.bool sec,.string host,.int .i64 port] 32 (0,0)):=by rw[j_];exact aB _ _
 have c0:wb.cell? ⟨w.heap.size,0,none⟩=some (.bool sec):=by simp[World.cell?,mf]
 have c1:wb.cell? ⟨w.heap.size,1,none⟩=some (.string host):=by simp[World.cell?,mf]
 have c2:wb.cell? ⟨w.heap.size,2,none⟩=some (.int .i64 port):=by simp[World.cell?,mf]
 have Cc:=O (show∀m,Calls prog 232 #[.int .i64 port] (wb.drewN m) fun e w'=>e=.returned (.string ⟨(Lib.itoa port).toArray⟩)/\Fr aR w w' from fun m =>
  (strconv_Itoa port h0 h1 _ ((ht.fr ks).fr ((ae aR wb).drewN m))).mono fun e w' h=>by
   obtain⟨he,k,os,rfl⟩:=h;exact⟨he,(ks.drewN m).trans (Fr.grow _ k os)⟩)
 have qY:=O j_;clear j_ mf;by_cases hp:port=Dk sec
 ·have HT:=O (NV sec host port hp);have GH:(port !=Dk sec)=false:=by simpa using hp
  have mr:=O ks;cases sec
  ·clear hp;go_enter func195,ntmps195;go_wp2;rw[<-qY.o];go_quiet ((go_at_call 231;exact tX (zQ false _)));go_wp2;go_ret;exact⟨by rw[HT.o];rfl,mr.o.drewN _⟩
  ·clear hp;go_enter func195,ntmps195;go_wp2;rw[<-qY.o];go_quiet ((go_at_call 231;exact tX (zQ true _)));go_wp2;go_ret;exact⟨by rw[HT.o];rfl,mr.o.drewN _⟩
 ·have HT:=O (RE sec host port hp);have GH:(port !=Dk sec)=true:=by simpa using hp
  have mr:=O ks;cases sec
  ·clear hp;go_enter func195,ntmps195;go_wp2;rw[<-qY.o];go_quiet ((go_at_call 231;exact tX (zQ false _)));go_wp2_with fail
   refine(Cc.o _).mono ?_;rintro e u⟨rfl,yC⟩;go_wp2;go_ret;exact⟨by rw[HT.o];rfl,yC⟩
  ·clear hp;go_enter func195,ntmps195;go_wp2;rw[<-qY.o];go_quiet ((go_at_call 231;exact tX (zQ true _)));go_wp2_with fail
   refine(Cc.o _).mono ?_;rintro e u⟨rfl,yC⟩;go_wp2;go_ret;exact⟨by rw[HT.o];rfl,yC⟩
theorem yD:(prog.info? 114).map (fun i=>(i.zero,i.size,i.bytes))=some (some (.agg eS),16,216):=af
theorem yE:eS.all (·.oneCell')=true:=dp
def RG(base:Nat)(w:World)(gs:List (aP bD))(v:Value)(w':World):Prop:=f_ base w' v gs/\∀k,v.ownBlock=some k->w.heap.size<=k
def D9(base:Nat)(w:World)(gs:List (aP bD))(e:Ending)(w':World):Prop :=
 ∃v,e=.returned v/\RG base w gs v w'/\Fr aR w w'
def aij(base:Nat)(w:World)(gs:List (aP bD))(v i:Value)(wr:World):Prop :=
 ∃(k:Nat) (rs:List (aP Value)),k<=gs.length/\i=.int .i64 k/\OwnRows w.heap.size 114 16 wr v (rs.map aP.cells)/\lg (aP.Reads (dr base wr)) rs (gs.take k)/\Fr aR w wr
theorem D_(base:Nat)(w:World)(b:Nat)(gv wv:Value)(gs:List (aP bD))(ws:List (bI bD))(h:dB base w b gv wv gs ws)(NY:gs.length<68719476736) :
  Calls prog 47 #[.pointer (some ⟨b,0,none⟩)] w (D9 base w gs):=by
 have h0:=h.c0;obtain⟨av,cv,hv⟩:=h.bF.form;subst hv;have sO:=h.lt;have iD:base<=w.heap.size:=by have:=h.low;omega
 go_enter func47,ntmps47;go_wp2;clear h0;go_loopw[3,11] (aij base w gs) (fun _ i _=>gs.length-(intOf i).toNat)
 case atStart=>exact⟨0,[],aI _,rfl,dv _ _ _ _,.nil,ae _ _⟩
 case round =>
  obtain⟨k,rs,hk,rfl,cP,wP,cK⟩:=hrel;by_cases eX:k<gs.length
  ·obtain⟨bk,c,df,sZ,r,dY,hr,hcell⟩:=(h.dh cK).bF.at eX;cases df;unfold maxLen at sZ;obtain⟨x,hx⟩:∃x,x=r.cells:=⟨_,rfl⟩;have lF:x.length=16:=by rw[hx];rfl
   have jq:=fun W=>run_storeCells_new (P:=prog) W 114 #[.bool false,.string ⟨#[]⟩,.int .i64 0,.bool false,.string ⟨#[]⟩,.string ⟨#[]⟩,.int .i64 0,.string ⟨#[]⟩,.string ⟨#[]⟩,.string ⟨#[]⟩,.bool false,.string ⟨#[]⟩,.bool false,.slice none 0 0,.int .i64 0,.slice none 0 0] x (by rw[lF];rfl) (by rw[hx];exact dY);rw[<-hx]at hcell;have HX:=O hx
   have D8:(prog.info? 114).map (·.size)=some x.toArray.size:=by rw[aW,lF];kernel_rfl
   have IP:=O D8;clear hx D8;obtain⟨av,cv,Vl⟩:=cP.form;subst Vl;rw[ai,wP.len,aJ,dK hk]at cP ⊢
   go_wp2_with (first|((with_reducible refine cY 14 ?_);refine aU rfl 114 (.tmp 13) rfl bk (k*16) rfl x _ hcell underlying114 rfl (by have h:=IP.o;rw[aW]at h;exact h) ?_)|((with_reducible refine cY 16 ?_);refine aH rfl 114 (.tmp 5) rfl wr.heap.size rfl _ x.toArray (0,0) _ (aB wr _) underlying114 rfl IP.o ?_)|fail)
   have gS:Fr aR wr (wr.alloc (.cells x.toArray 114)):=(ae aR wr).alloc _;have ox:=hr.mono (fun _ _ h=>h.dh gS);have fy:=cP.alloc (.cells x.toArray 114);have D':=wP.mono (fun _ _ h=>h.mono (fun _ _ h=>h.dh gS));have sx:=cK.trans gS;have j_:w.heap.size<=wr.heap.size:=cK.size;have fA:=O (uP base r gs[k] _ bG ox);rw[<-HX.o]at fA;clear hr ox gS dY jq hcell cP wP cK
   generalize wr.alloc (.cells x.toArray 114)=W2 at *
   refine fA.o.mono ?_;rintro e w3 NZ;obtain⟨r3,rfl,rJ,qO,iv⟩:=NZ;have fo:=fy.fr iv (fun _ _ h=>h);have Ea:=D'.mono (fun _ _ h=>h.mono (fun _ _ h=>h.dh iv));have ic:=sx.trans iv;clear fA fy D' sx iv;obtain⟨y,hy⟩:∃y,y=r3.cells:=⟨_,rfl⟩;have Dm:y.length=16:=by rw[hy];rfl
   rw[<-hy]at qO ⊢;have HY:=O hy;clear hy;have Eb:=O fo;clear fo;have GJ:=wD y #[.bool false,.string ⟨#[]⟩,.int .i64 0,.bool false,.string ⟨#[]⟩,.string ⟨#[]⟩,.int .i64 0,.string ⟨#[]⟩,.string ⟨#[]⟩,.string ⟨#[]⟩,.bool false,.string ⟨#[]⟩,.bool false,.slice none 0 0,.int .i64 0,.slice none 0 0] (by rw[Dm];rfl);have hbw:w.heap.size<=w3.heap.size:=ic.size;have vI:=Ea.len;rw[aJ,dK hk]at vI
   have HRL:=O vI;have NU:(rs.map aP.cells).length<68719476736:=by rw[ai,vI];omega
   clear vI;go_wp2_with (at_builtin;refine nQ rfl _ _ 77 114 rfl 16 216 (.agg eS) underlying77 yD rfl ag ag w.heap.size (.slice av k cv) (rs.map aP.cells) rfl (Eb.o.alloc _) w3.heap.size 1 y rfl Dm qO (fun i u hi=>by rw[World.cell?_alloc_mark];simpa using hi) NU bG ?_;intro v' w4 eY Ct)
   have Fl:=Fr.PW _ Ct;have mU:=Eb.o.off (base:=base) iD ag;rw[HY.o]at eY;refine⟨⟨k+1,rs++[r3],ab,a_,by rw[bH];exact eY,?_,ic.step Fl (fun j hj hS=>by have h2:=Eb.o.block j hS;omega)⟩,by simp[intOf];omega⟩;rw[dW (List.getElem?_eq_getElem eX)];exact(Ea.mono (fun _ _ h=>h.mono (fun _ _ h=>h.fr Fl mU))).app (.cons (rJ.mono (fun _ _ h=>h.fr Fl mU)) .nil)
  ·rw[aC ab]at wP;obtain⟨av,cv,Vl⟩:=cP.form;subst Vl;go_wp2;go_ret;exact⟨_,rfl,⟨⟨rs,cP.up iD,wP⟩,cP.block⟩,cK⟩
theorem Lm{α:Type}(f:α->Int):∀(l:List α) (i:Nat) (acc:Int×Int),(∃k,k<l.length/\(oW f l i acc).2=((i+k:Nat):Int))\/(oW f l i acc).2=acc.2
 |[],_,_=>Or.inr rfl
 |g :: l,i,acc=>by
  rw[oW];rcases Lm f l (i+1) (if 0<=f g/\acc.1<=f g then(f g,(i:Int))else acc)with ⟨k,hk,h⟩|h
  ·exact Or.inl ⟨k+1,bG,by rw[h];congr 1;omega⟩
  ·rw[h];by_cases hc:0<=f g/\acc.1<=f g
   ·rw[az hc];exact Or.inl ⟨0,aQ,aQ⟩
   ·rw[aq hc];exact Or.inr rfl
theorem Vm(gs:List (aP bD))(o:gz)(proxy:Bool)(path:aj):(∃k,k<gs.length/\uh gs o proxy path=(k:Int))\/uh gs o proxy path= -1:=by
 rcases Lm (pS o proxy path) gs 0 (-1, -1)with ⟨k,hk,h⟩|h
 ·exact Or.inl ⟨k,hk,by unfold uh;rw[h,bw]⟩
 ·exact Or.inr h
def ui(base:Nat)(w:World)(m:Option (aP bD))(e:Ending)(w':World):Prop :=
 Fr aR w w'/\match m with
 |none=>e=.returned (.tuple #[.agg eS,.bool false])
 |some g=>∃r:aP Value,e=.returned (.tuple #[.agg r.cells.toArray,.bool true])/\r.Reads (dr base w') g/\∀u∈r.cells,u.oneCell'=true
theorem Wd(w:World)(hs:tL w):tM 3 w:=by
 intro v ss W hW hv hn hlen;have hT:=O (hs.fr hW);clear hs;have HJ:=O (K_ v ss W hv hn hlen);clear hv;have hz:(⟨(kP ss).toArray⟩:aj).size<4398046511104:=by show(kP ss).toArray.size<_;simp;omega
 have HB:=O (show kE (decide ((3:Int)=3)) ss=⟨(KZ (kP ss)).toArray⟩from rfl);generalize kP ss=tx at *
 clear hW;go_enter func159,ntmps159;go_wp2_with fail
 refine HJ.o.mono ?_;rintro e u1⟨rfl,df⟩;go_wp2_with fail
 refine(Ot ⟨tx.toArray⟩ u1 hz (hT.o.fr df)).mono ?_;rintro e u2⟨rfl,dy⟩;go_wp2;go_ret;exact⟨(ar (fun b=>Ending.returned (.string b)) HB.o).symm,df.trans dy⟩
theorem We(fP:Int)(w:World)(ht:tI w)(hs:tL w):tM fP w:=by
 by_cases h:fP=3
 ·subst h;exact Wd w hs
 ·exact Zz fP h w ht
theorem XL(name value:aj)(w:World)(hn:name.size<=140737488351232)(hv:value.size<=140737488351232) :
  Calls prog 151 #[.agg #[.string name,.string value]] w fun e w'=>e=.returned (.bool (decide ((300:Int)<(name.size:Int)+(value.size:Int))))/\Fr aR w w':=by
 have ks:Fr aR w (w.alloc (.cells #[.string name,.string value] 171)):=(ae aR w).alloc _;go_enter func151,ntmps151;go_wp2;go_ret;exact⟨rfl,ks⟩
structure ef where
 dm:gz
 o:gz
 path:aj
 query:aj
 fU:Bool
 method:aj
 head:aj
 pX:Int
def ef.cells(p:ef):List Value:=[.bool p.dm.aF,.string p.dm.host,.int .i64 p.dm.port,.bool p.o.aF,.string p.o.host,.int .i64 p.o.port,.string p.path,.string p.query,.bool p.fU,.string p.method,.string p.head,.int .i64 p.pX]
def ef.ll(p q:ef):Bool:=p.dm.ll q.dm&&(p.o.ll q.o&&(p.path.toList==q.path.toList&&(p.query.toList==q.query.toList&&(p.fU==q.fU&&(p.method.toList==q.method.toList&&(p.head.toList==q.head.toList&&p.pX==q.pX))))))
theorem ef.xj(p q:ef):p.ll q=true↔p=q:=by
 obtain⟨a,d,g,i,j,k,l,m⟩:=p;obtain⟨a',d',g',i',j',k',l',m'⟩:=q;simp only[ef.ll,cD,dT,ef.mk.injEq,toList_inj,gz.xj]
def star:aG:=[42]
def abJ:aG:=[97,117,116,104,111,114,105,122,97,116,105,111,110]
def ef.lets(m:aj)(fU:Bool)(p:ef):Bool:=p.method.toList==m.toList||(p.method.toList==star&&!fU)
def ef.mY(h:aj)(fU:Bool)(p:ef):Bool:=p.head.toList==h.toList||(p.head.toList==star&&(!fU&&h.toList !=abJ))
def Y4(m:aj)(fU:Bool)(eo:List aj)(ps:List ef):Bool :=
 (qX m||ps.any (ef.lets m fU))&&eo.all fun h=>ps.any (ef.mY h fU)
structure ra where
 dm:gz
 o:gz
 path:aj
 query:aj
 method:aj
 eo:List gZ
 fU:Bool
def ra.ng(r:ra)(ps:List ef):Bool:=Y4 (jM r.method) r.fU (yo r.eo) ps
def ra.needs(r:ra):Bool:=!r.dm.ll r.o&&!r.ng []
def ef.like(p q:ef):Bool:=({p with pX:=q.pX}:ef).ll q
def ef.alive(now:Int)(p:ef):Bool:=decide (now<p.pX)
def Fy(b:List ef)(p:ef):List ef:=(b.filter fun q=>!p.like q)++[p]
def uH(b l:List ef)(now:Int):List ef :=
 let c:=(l.foldl Fy b).filter (ef.alive now)
 c.drop (c.length-32)
def ra.Uw(r:ra)(now:Int)(p:ef):Bool:=p.alive now&&(p.dm.ll r.dm&&((p.o.ll r.o&&(p.path.toList==r.path.toList&&p.query.toList==r.query.toList))&&(p.fU||!r.fU)))
def je(b:List ef)(r:ra)(now:Int):List ef:=b.filter (r.Uw now)
def mF(b:List ef)(r:ra)(now:Int):Bool:=!r.needs||r.ng (je b r now)
theorem KB(b l:List ef)(now:Int):(uH b l now).length<=32:=by
 unfold uH;simp only[bJ];omega
theorem Ux(b:List ef)(p:ef):(Fy b p).length<=b.length+1:=by
 unfold Fy;have:=bQ (fun q=>!p.like q) b;simp;omega
theorem KC:∀(l:List ef) (b:List ef),(l.foldl Fy b).length<=b.length+l.length
 |[],b=>aQ
 |p :: l,b=>by
  have h1:=KC l (Fy b p);have h2:=Ux b p;simp only[List.foldl_cons,List.length_cons];omega
def PU:Bs:=[117,115,101,114,110,97,109,101]
def Y_:Bs:=[117,114,105]
def PV:Bs:=[114,101,115,112,111,110,115,101]
def nNc:Bs:=[110,99]
def CR:Bs:=[99,110,111,110,99,101]
def adn:Bs:=[68,105,103,101,115,116]
def pz(scheme:Int)(cy:Bool):Bs:=(if scheme=3 then Ig else yl)++(if cy then zq else [])
structure i_ where
 scheme:Int
 aK:Bs
 bq:Bs
 cj:Bs
 cy:Bool
 eE:Bs
 user:Bs
 uri:Bs
 Q_:Bs
 bP:Bs
 count:Bs
def qP(n v:Bs):jy×Bs:=((n,v),fR v)
def pP(n v:Bs):jy×Bs:=((n,v),v)
def i_.head(d:i_):List (jy×Bs):=[qP PU d.user,qP wa d.aK,qP wh d.bq,qP Y_ d.uri,qP PV d.Q_,pP zp (pz d.scheme d.cy)]
def i_.two(d:i_):List (jy×Bs):=if d.eE.isEmpty then []else [pP Kn d.eE,pP nNc d.count]
def i_.cn(d:i_):List (jy×Bs):=if !d.eE.isEmpty||d.cy then [qP CR d.bP]else []
def i_.op(d:i_):List (jy×Bs):=if d.cj.isEmpty then []else [qP mi d.cj]
def i_.zz(d:i_):List (jy×Bs):=d.head++(d.two++(d.cn++d.op))
def i_.fair(d:i_):Bool:=n_ d.user&&(n_ d.aK&&(n_ d.bq&&(n_ d.uri&&(n_ d.Q_&&((!(!d.eE.isEmpty||d.cy)||n_ d.bP)&&(d.cj.isEmpty||n_ d.cj))))))
def i_.text(d:i_):Bs:=adn++32 :: xQ d.zz
theorem Gr(s cs:aj)(w:World)(hcs:cs.size<4294967281)(Ni:∀b∈cs.data.toList,b.toNat<128) :
  Calls prog 214 #[.string s,.string cs] w fun e w'=>e=.returned (.string ⟨(s.data.toList.dropWhile (cs.data.toList.contains ·)).toArray⟩)/\Fr aR w w':=by
 refine(Any.strings_TrimLeft_laid YI af s cs w hcs (fun j b hj=>Ni b (bT hj))).mono ?_;rintro e w'⟨he,hb⟩;exact⟨he,fj hb⟩
theorem CS{x:Int}(h: -9223372036854775808<=x)(h2:x<9223372036854775808):IntKind.i64.wrap x=x:=by
 simp[IntKind.wrap,IntKind.signed,IntKind.bits];omega
def ado:aj:=⟨Ui.toArray⟩
theorem Ra:∀b∈ado.data.toList,b.toNat<128:=dp
def Iw(s:aj)(i:Nat):Nat:=(mg (s.data.toList.drop i)).length
def Tz(s:aj)(i:Nat):Nat:=(nG (s.data.toList.drop i)).length
theorem ahq(s:aj)(h:i<=s.size):i+Iw s i+Tz s i<=s.size:=by
 have h1:=pN Fv (s.data.toList.drop i);have h2:=pN ll ((s.data.toList.drop i).dropWhile Fv);unfold Iw Tz mg nG;simp at h1;omega
theorem drop_take{p:UInt8->Bool}(l:Bs)(i:Nat):l.drop (i+((l.drop i).takeWhile p).length)=(l.drop i).dropWhile p:=by
 rw[<-ey, <-oK]
theorem zD(s:aj)(i:Nat):s.data.toList.drop (i+Iw s i)=(s.data.toList.drop i).dropWhile Fv:=drop_take _ _
theorem Dz(s:aj)(i:Nat):s.data.toList.drop (i+Iw s i+Tz s i)=sP (s.data.toList.drop i):=by
 unfold Tz nG sP;rw[<-zD];exact drop_take _ _
theorem zE(s:aj)(i:Nat):(s.extract i s.size).data.toList=s.data.toList.drop i:=by
 rw[Lib.extract_data,aC aQ]
theorem Zb(s:aj)(i:Nat):s.extract i (i+Iw s i+Tz s i)=⟨(mg (s.data.toList.drop i)++nG (s.data.toList.drop i)).toArray⟩:=by
 apply Go.WideShapes.bytes_inj;rw[Lib.extract_data];show _=mg (s.data.toList.drop i)++nG (s.data.toList.drop i);have e1:mg (s.data.toList.drop i)++(nG (s.data.toList.drop i)++sP (s.data.toList.drop i))=s.data.toList.drop i:=by
  unfold mg nG sP;rw[List.takeWhile_append_dropWhile,List.takeWhile_append_dropWhile]
 have e2:i+Iw s i+Tz s i-i=(mg (s.data.toList.drop i)++nG (s.data.toList.drop i)).length:=by
  unfold Iw Tz;rw[aM];omega
 have key:∀(A B Z D:Bs),A++(B++Z)=D->D.take (A++B).length=A++B:=by
  intro A B Z D h;subst h;rw[<-cH,List.take_left' rfl]
 rw[e2];exact key _ _ _ _ e1
def mG(c i:Nat)(s:aj)(w:World)(e:Ending)(w':World):Prop :=
 Fr (one c) w w'/\match singleR (s.data.toList.drop i)with
  |some q=>e=.returned (.tuple #[.string ⟨q.1.toArray⟩,.bool true])/\∃j,j<=s.size/\du w' c s j/\s.data.toList.drop j=q.2
  |none=>e=.returned (.tuple #[.string ⟨#[]⟩,.bool false])/\du w' c s i
theorem mG.hit{q:Bs×Bs}(h:singleR (s.data.toList.drop i)=some q)(hf:Fr (one c) w w')(hj:j<=s.size)(hc:du w' c s j)(hd:s.data.toList.drop j=q.2) :
  mG c i s w (.returned (.tuple #[.string ⟨q.1.toArray⟩,.bool true])) w':=by
 refine⟨hf,?_⟩;rw[h];exact⟨rfl,j,hj,hc,hd⟩
theorem mG.no(h:singleR (s.data.toList.drop i)=none)(hf:Fr (one c) w w')(hc:du w' c s i) :
  mG c i s w (.returned (.tuple #[.string ⟨#[]⟩,.bool false])) w':=by
 refine⟨hf,?_⟩;rw[h];exact⟨rfl,hc⟩
theorem Fr.nj(h:Fr aR w w'):Fr S w w':=h.mono (fun _ _ h=>absurd h (fun h=>h))
theorem Nx(b c i:Nat)(s:aj)(v:Value)(w:World)(hr:iI w b c s v)(h:du w c s i)(hs:s.size<100000)(hi:i<=s.size) :
  Calls prog 169 #[.pointer (some ⟨b,0,none⟩)] w (mG c i s w):=by
 have hm:s.size<=maxLen:=fq;have q0:=hr.cell0;have q1:=hr.hZ;have hle:=ahq s hi;have HD1:=O (zD s i);have HD2:=O (Dz s i);have HT:=O (Zb s i);have HR:=O (show singleR (s.data.toList.drop i)=if decide (0<Iw s i)&&oa (s.data.toList.drop (i+Iw s i+Tz s i))then some (mg (s.data.toList.drop i)++nG (s.data.toList.drop i),eV (s.data.toList.drop (i+Iw s i+Tz s i)))else none by
  unfold singleR;rw[Dz];have:(!(mg (s.data.toList.drop i)).isEmpty)=decide (0<Iw s i):=by
   unfold Iw;cases mg (s.data.toList.drop i)<;>simp
  rw[this])
 have T1:=O (show∀U,Calls prog 214 #[.string (s.extract i s.size),.string ado] U fun e w'=>e=.returned (.string (s.extract (i+Iw s i) s.size))/\Fr aR U w' from fun U=>by
  have e1:s.extract (i+Iw s i) s.size=⟨((s.extract i s.size).data.toList.dropWhile (ado.data.toList.contains ·)).toArray⟩:=by
   apply Go.WideShapes.bytes_inj;rw[zE,zE,zD];rfl
  rw[e1];exact Gr _ _ U ag Ra)
 have T2:=O (show∀U,Calls prog 214 #[.string (s.extract (i+Iw s i) s.size),.string ⟨#[61]⟩] U fun e w'=>e=.returned (.string (s.extract (i+Iw s i+Tz s i) s.size))/\Fr aR U w' from fun U=>by
  have e1:s.extract (i+Iw s i+Tz s i) s.size=⟨((s.extract (i+Iw s i) s.size).data.toList.dropWhile ((⟨#[61]⟩:aj).data.toList.contains ·)).toArray⟩:=by
   apply Go.WideShapes.bytes_inj;rw[zE,zE,zD,Dz];rfl
  rw[e1];exact Gr _ _ U ag ag)
 generalize hN:Iw s i=N at *
 generalize hM:Tz s i=M at *
 clear hN hM;generalize mg (s.data.toList.drop i)++nG (s.data.toList.drop i)=TX at *
 have hJ1:i<=i+N:=ab;have hJ2:i+N<=i+N+M:=ab;have hJN:i+N-i=N:=ab;have hLM:i+N+M-(i+N)=M:=ab;generalize hL:i+N+M=L at *
 generalize hJ:i+N=J at *
 have E1:=O hJ;have E2:=O hL;clear hL hJ;have HNM:=O (And.intro hJN hLM);clear hJN hLM;have kZ:(s.extract i s.size).size=s.size-i:=by rw[gB];omega
 have lq:(s.extract J s.size).size=s.size-J:=by rw[gB];omega
 have UB:(s.extract L s.size).size=s.size-L:=by rw[gB];omega
 have W1:=O (show IntKind.i64.wrap (((s.size-i:Nat):Int)-((s.size-J:Nat):Int))=(N:Int)by
  have e:=HNM.o.1;rw[show(((s.size-i:Nat):Int)-((s.size-J:Nat):Int))=(N:Int)from ab];exact CS ab ab)
 have W2:=O (show IntKind.i64.wrap (((s.size-J:Nat):Int)-((s.size-L:Nat):Int))=(M:Int)by
  have e:=HNM.o.2;rw[show(((s.size-J:Nat):Int)-((s.size-L:Nat):Int))=(M:Int)from ab];exact CS ab ab)
 have W3:=O (show IntKind.i64.wrap ((i:Int)+(N:Int))=(J:Int)by
  have e:=HNM.o.1;rw[show((i:Int)+(N:Int))=(J:Int)from ab];exact CS ab ab)
 have W4:=O (show IntKind.i64.wrap ((J:Int)+(M:Int))=(L:Int)by
  have e:=HNM.o.2;rw[show((J:Int)+(M:Int))=(L:Int)from ab];exact CS ab ab)
 have PX:=O (show∀U,Fr aR w U->iI U b c s v/\du U c s i from fun U hU=>⟨hr.fr hU (fun h=>h),h.fr hU (fun h=>h)⟩);go_enter func169,ntmps169;go_wp2_with fail
 refine(AW c s i w h).mono ?_;rintro e w0⟨rfl,rfl⟩;have b1:(0:Int)<=(i:Int):=ab;have b2:(i:Int)<=(s.size:Int):=ab;go_wp2_with fail
 go_region_held3 (fun U=>U.cell? ⟨b,1,none⟩=some (.string s)) ((refine(PX.o _ ?_).1.hZ;repeat(first|exact ae _ _|apply bz|apply aA|refine bE ?_ jA))) ((go_at_call 214;refine(T1.o _).mono ?_;rintro e v1 ⟨rfl,Ft⟩))
 rw[W1.o];obtain⟨yY,px⟩:=PX.o v1 (by repeat(first|exact ae _ _|apply bz|apply aA|apply dz|refine bE ?_ jA));have k_:=O (show Fr aR w v1 from(by repeat(first|exact ae _ _|apply bz|apply aA|apply dz|refine bE ?_ jA)));clear Ft;have q1:=yY.hZ;have b3:(0:Int)<=(J:Int):=ab;have b4:(J:Int)<=(s.size:Int):=ab;have w3:=W3.o;go_wp2_with fail
 go_region_held3 (fun U=>U.cell? ⟨b,1,none⟩=some (.string s)) ((refine(PX.o _ ?_).1.hZ;repeat(first|exact ae _ _|exact k_.o|apply bz|apply aA|refine bE ?_ jA))) ((go_at_call 214;refine(T2.o _).mono ?_;rintro e v2 ⟨rfl,hv2⟩))
 rw[W2.o];obtain⟨ox,sN⟩:=PX.o v2 (by repeat(first|exact ae _ _|exact k_.o|apply bz|apply aA|apply dz|refine bE ?_ jA));have fO:=O (show Fr aR w v2 from(by repeat(first|exact ae _ _|exact k_.o|apply bz|apply aA|apply dz|refine bE ?_ jA)));clear hv2 q1 yY px;have q0:=ox.cell0;have q1:=ox.hZ;have w4:=W4.o;go_wp2_with fail
 refine(yk c s i L v2 sN hm).mono ?_;rintro e v3⟨rfl,uB,iv⟩;rw[uJ hle]at uB;have rJ:=ox.one sN iv;have ic:=O (fO.o.nj.trans iv);have q0:=rJ.cell0;have q1:=rJ.hZ;by_cases PY:0<N
 ·have n0:(0:Int)<(N:Int):=ab;rw[bf PY,jL]at HR;go_wp2_with fail
  refine(Dy b c L s v v3 rJ uB hm hle).mono ?_;rintro e v4⟨rfl,uy,kK⟩;have vX:=rJ.one uB kK;have q0:=vX.cell0;have q1:=vX.hZ;have CT:=O (oP s L);have hbl:=yt (s:=s) hle;cases ho:oa (s.data.toList.drop L)
  ·rw[ho]at HR;go_wp2_with fail
   refine(yk c s _ i v4 uy hm).mono ?_;rintro e v5⟨rfl,uz,lG⟩;rw[uJ hi]at uz;go_wp2;go_ret2;exact mG.no (by rw[HR.o];rfl) ((ic.o.trans kK).trans lG) uz
  ·rw[ho]at HR;have b5:(i:Int)<=(L:Int):=ab;have b6:(L:Int)<=(s.size:Int):=ab;have b7:(0:Int)<=(L:Int):=ab;go_wp2;go_ret2;rw[HT.o];exact mG.hit (q:=(TX,eV (s.data.toList.drop L))) (by rw[HR.o];rfl) (ic.o.trans kK) hbl uy CT.o
 ·have n0:¬(0:Int)<(N:Int):=ab;rw[bh PY,kB]at HR;go_wp2_with fail
  refine(yk c s _ i v3 uB hm).mono ?_;rintro e v5⟨rfl,uz,lG⟩;rw[uJ hi]at uz;go_wp2;go_ret2;exact mG.no (by rw[HR.o];rfl) (ic.o.trans lG) uz
