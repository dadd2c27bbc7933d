/- Lemmas for the law's walk. -/
import Derived.Test.YtjndhcngnghpiaaGreatDoorPp3
set_option maxRecDepth 100000
set_option maxHeartbeats 16000000
set_option linter.unusedSimpArgs false
namespace Go.Proofs.YtjndhcngnghpiaaGreatDoor
open Go.Proofs.Tryz
open Go.RowKit
variable {f k m g b i fuel j:Nat} {l:aK} {c:UInt8} {s:ai} {w w':World} {v:Value} {ws a:List (aK)} {r:Except Nat (List (aK))} {t:TypeId} {cs:a_} {e:Ending}
def Ei(w:World)(v:Value):Option (Nat×Option Nat)->Prop
 |none=>v=.nilIface
 |some (n,none)=>v=.iface 82 (.int .i64 n)
 |some (n,some p)=>∃g,v=.iface 220 (.pointer (some ⟨g,0,none⟩))/\w.heap[g]?=some (.cells #[.int .i64 n,.int .i64 p] 222 (0,0))
def lC:Nat->aK->Except Nat (List (aK))
 |0,_=>.ok []
 |f+1,r =>
  let r1:=r.dropWhile dI
  let w:=r1.takeWhile fO
  let r3:=(r1.dropWhile fO).dropWhile dI
  let ws:=if w.isEmpty then []else [w]
  match r3 with
  |[]=>.ok ws
  |c :: r4=>if c==44 then(lC f r4).map (ws++ ·)else .error (r4.length+1)
def gO(l:aK):Except Nat (List (aK)):=lC (l.length+1) l
theorem og(p:UInt8->Bool)(l:aK):l.dropWhile p=l.drop (l.takeWhile p).length:=by
 induction l with
 |nil=>rfl
 |cons a t ih=>by_cases h:p a<;>simp[h,ih]
theorem jU(p:UInt8->Bool)(l:aK)(i:Nat):l.drop (cM p l i)=(l.drop i).dropWhile p:=by
 rw[og,ey,cM]
theorem yj(p:UInt8->Bool)(l:aK):l.takeWhile p=l.take (l.takeWhile p).length:=by
 induction l with
 |nil=>rfl
 |cons a t ih=>by_cases h:p a<;>simp[h];exact ih
theorem yk(p:UInt8->Bool)(s:ai)(i:Nat):(s.extract i (cM p s.data.toList i))=⟨((s.data.toList.drop i).takeWhile p).toArray⟩:=by
 apply Go.WideShapes.bytes_inj;rw[Lib.extract_data,yj,List.take_drop];rw[cM,List.drop_take];generalize (List.takeWhile p (List.drop i s.data.toList)).length=n;rw[show i+(i+n-i)-i=n from ab]
def dQ(l:List (aK)):List ai:=l.map fun w=>⟨w.toArray⟩
def VI(l:aK)(k:Nat):Nat:=cM dI l k
def RO(l:aK)(k:Nat):Nat:=cM fO l (VI l k)
def uK(l:aK)(k:Nat):Nat:=cM dI l (RO l k)
def wQ(l:aK)(k:Nat):aK:=(l.drop (VI l k)).takeWhile fO
def VJ(l:aK)(k:Nat):List (aK):=if(wQ l k).isEmpty then []else [wQ l k]
theorem vd(f:Nat)(l:aK)(k:Nat):lC (f+1) (l.drop k) =
  match l.drop (uK l k)with
  |[]=>.ok (VJ l k)
  |c :: r4=>if c==44 then(lC f r4).map (VJ l k++ ·)else .error (r4.length+1):=by
 rw[lC];simp only[uK,RO,VI,jU,VJ,wQ]
theorem Ej(h:l.length<=uK l k):lC (f+1) (l.drop k)=.ok (VJ l k):=by
 rw[vd,cO h]
theorem Av(h:l[uK l k]?=some 44):lC (f+1) (l.drop k)=(lC f (l.drop (uK l k+1))).map (VJ l k++ ·):=by
 rw[vd,drop_at h];rfl
theorem Ek(h:l[uK l k]?=some c)(hc:(c==44)=false):lC (f+1) (l.drop k)=.error (l.length-uK l k):=by
 rw[vd,drop_at h];simp only[hc,cJ,eT];have:=(List.getElem?_eq_some_iff.1 h).1;simp;omega
theorem Wv(l:aK)(k:Nat):k<=VI l k/\VI l k<=RO l k/\RO l k<=uK l k:=⟨lj,lj,lj⟩
theorem aeG(h:k<=l.length):VI l k<=l.length/\RO l k<=l.length/\uK l k<=l.length :=
 ⟨gR h,gR (gR h),gR (gR (gR h))⟩
theorem El(p:UInt8->Bool)(l:aK)(k:Nat):cM p l (cM p l k)=cM p l k:=by
 unfold cM;have h:(l.drop (k+((l.drop k).takeWhile p).length)).takeWhile p=[]:=by
  rw[<-ey, <-og];cases hd:(l.drop k).dropWhile p with
  |nil=>rfl
  |cons a t =>
   have:=List.head_dropWhile_not p (l:=l.drop k) (by rw[hd];simp);simp only[hd,List.head_cons]at this;simp[this]
 rw[h];rfl
theorem Im(h:wQ l k=[]):RO l k=VI l k/\uK l k=VI l k:=by
 have h1:RO l k=VI l k:=by unfold RO cM;rw[show(l.drop (VI l k)).takeWhile fO=[]from h];rfl
 exact⟨h1,by unfold uK;rw[h1];exact El _ _ _⟩
theorem pd:∀(f:Nat) {r:aK},r.length<f->lC f r=lC (r.length+1) r
 |0,_,h=>absurd h (ct _)
 |f+1,r,h=>by
  have key:∀(c:UInt8) (r4:aK),((r.dropWhile dI).dropWhile fO).dropWhile dI=c :: r4->r4.length<r.length:=by
   intro c r4 e;have h1:=((iM (p:=dI) (l:=(r.dropWhile dI).dropWhile fO))).length_le;have h2:=((iM (p:=fO) (l:=r.dropWhile dI))).length_le;have h3:=((iM (p:=dI) (l:=r))).length_le;rw[e]at h1;simp at h1;omega
  rw[lC,lC];cases e:((r.dropWhile dI).dropWhile fO).dropWhile dI with
  |nil=>rfl
  |cons c r4 =>
   have hk:=key c r4 e;simp only;rw[pd f (show r4.length<f from ab),pd r.length hk]
def jm(s:ai)(w:World)(e:Ending)(w':World):Prop :=
 ∃v er,e=.returned (.tuple #[v,er])/\Fr aX w w' /\
  match gO s.data.toList with
  | .ok ws=>if 40<ws.length then v=.slice none 0 0/\Ei w' er (some (4,none))else Strs w.heap.size w' v (dQ ws)/\er=.nilIface
  | .error m=>v=.slice none 0 0/\Ei w' er (some (3,some (s.size-m)))
theorem jm.ok(h:gO s.data.toList=.ok ws)(hn:ws.length<=40)(hv:Strs w.heap.size w' v (dQ ws))(hf:Fr aX w w') :
  jm s w (.returned (.tuple #[v,.nilIface])) w':=⟨v,_,rfl,hf,by rw[h];show(if 40<ws.length then _ else _);rw[ay (show¬40<ws.length from ab)];exact⟨hv,rfl⟩⟩
theorem jm.long(h:gO s.data.toList=.ok ws)(hn:40<ws.length)(hf:Fr aX w w') :
  jm s w (.returned (.tuple #[.slice none 0 0,.iface 82 (.int .i64 4)])) w':=⟨_,_,rfl,hf,by rw[h];show(if 40<ws.length then _ else _);rw[aB hn];exact⟨rfl,rfl⟩⟩
theorem jm.bad(h:gO s.data.toList=.error m)(hg:w'.heap[g]?=some (.cells #[.int .i64 3,.int .i64 (s.size-m:Nat)] 222 (0,0)))(hf:Fr aX w w') :
  jm s w (.returned (.tuple #[.slice none 0 0,.iface 220 (.pointer (some ⟨g,0,none⟩))])) w':=⟨_,_,rfl,hf,by rw[h];exact⟨rfl,g,rfl,hg⟩⟩
def akq(s:ai)(w:World)(v:Value)(wr:World):Prop :=
 ∃k acc,k<=s.size/\acc.length<=k/\dm wr w.heap.size s k/\Strs (w.heap.size+1) wr v (dQ acc)/\Fr aX w wr /\
  gO s.data.toList=(lC (s.size-k+1) (s.data.toList.drop k)).map (acc++ ·)
theorem Fr.xn{wr w1:World}{c:Nat}(h:Fr aX w wr)(g:Fr (one c) wr w1)(hc:w.heap.size<=c):Fr aX w w1:=h.step g (fun k hk e=>by have e':k=c:=e;omega)
theorem Ip(a:List (aK))(x:aK):dQ (a++[x])=dQ a++[⟨x.toArray⟩]:=by simp[dQ]
theorem pg(a:List (aK)):(dQ a).length=a.length:=by simp[dQ]
theorem Ns(h:wQ l k≠ []):VJ l k=[wQ l k]:=by unfold VJ;rw[ay (by simpa using h)]
theorem Iq(h:wQ l k=[]):VJ l k=[]:=by unfold VJ;rw[h];rfl
theorem RP{b:List (aK)}(h:r=.ok b):r.map (a++ ·)=.ok (a++b):=by rw[h];rfl
theorem Em(h:r=.error m):r.map (a++ ·)=.error m:=by rw[h];rfl
theorem map_map{b:List (aK)}(r:Except Nat (List (aK))):(r.map (b++ ·)).map (a++ ·)=r.map ((a++b)++ ·):=by cases r<;>simp[Except.map]
theorem xo{b':Nat}{ss:List ai}(h:Strs b' w v ss)(hb:b<=b'):Strs b w v ss:=by
 obtain⟨h1,h2⟩:=h;refine⟨h1,?_⟩;rcases h2 with h2|⟨g,cap,cur,hv,hg,r⟩
 ·exact Or.inl h2
 ·exact Or.inr ⟨g,cap,cur,hv,aH hb hg,r⟩
theorem Ir(s:ai)(w:World)(hs:s.size<4398046511104) :
  aE 175 #[.string s] w (jm s w):=by
 have hm:s.size<=maxLen:=ft;go_enter func175,ntmps175;go_wp2_with (go_at_call 117;refine(RF _ _).mono ?_;rintro e w1 ⟨rfl,rfl⟩)
 go_loopw[4] (akq s w) (fun _ wr=>s.size-o9 wr w.heap.size)
 case atStart=>exact⟨0,[],aW _,az _,aC _ _,kA _ _,(ae _ _).alloc _,by rw[eF];cases h:lC (s.size-0+1) s.data.toList<;>simp[gO,Except.map]<;>simpa using h⟩
 case round =>
  obtain⟨k,acc,hk,aeH,hc,cQ,cR,uJ⟩:=hrel;have gy:=O uJ;clear uJ;have im:w.heap.size+1<=wr.heap.size:=hc.lt;have aeI:=Wv s.data.toList k;have hle:=aeG (l:=s.data.toList) (k:=k) (by simpa using hk);have xl:s.data.toList.length=s.size:=aS;rw[xl]at hle;obtain⟨m1,m2,m3⟩:=aeI;obtain⟨q1,q2,q3⟩:=hle;have pJ:=O hc.pos;obtain⟨ph,BR⟩:∃x,x=acc++VJ s.data.toList k:=⟨_,rfl⟩;have DS:=O BR;clear BR;go_wp2_with fail
  refine(lZ _ s k wr hc hm hk).mono ?_;rintro e w1⟨rfl,oP,dw⟩;have lA:=cR.xn dw (az _);have qW:=cQ.fr dw (fun k hk=>by have e:k=w.heap.size:=hk;omega);have A1:w.heap.size+1<=w1.heap.size:=oP.lt;go_wp2_with fail
  refine(u_ _ s _ w1 oP hm q1).mono ?_;rintro e w2⟨rfl,rI,dF⟩;have fR:=lA.xn dF (az _);have fy:=qW.fr dF (fun k hk=>by have e:k=w.heap.size:=hk;omega);have KQ:w.heap.size+1<=w2.heap.size:=rI.lt;have Ww:dm w2 w.heap.size s (RO s.data.toList k):=rI;rw[yk];have hW:((s.data.toList.drop (cM dI s.data.toList k)).takeWhile fO)=wQ s.data.toList k:=rfl;rw[hW];clear hW rI oP dw dF
  generalize Zg:wQ s.data.toList k=W;have HW:=O Zg;clear Zg;cases W with
  |nil =>
   have hem:=O (Im HW.o);have tO:dm w2 w.heap.size s (uK s.data.toList k):=by have h:=Ww;rw[hem.o.1, <-hem.o.2]at h;exact h
   have BS:Strs (w.heap.size+1) w2 u4 (dQ ph):=by rw[DS.o,Iq HW.o,eX];exact fy
   clear Ww fy qW cQ;have hlen:ph.length<=k+1:=by have e:=DS.o;rw[Iq HW.o,eX]at e;rw[e];omega
   obtain⟨av,cv,hv⟩:=BS.form;subst hv;go_wp2_with fail
   by_cases zJ:s.size<=uK s.data.toList k
   ·have fl:=O (show gO s.data.toList=.ok ph by rw[gy.o,RP (Ej (by simpa using zJ)),DS.o]);have hd:decide (s.size<=uK s.data.toList k)=true:=by simpa using zJ
    refine(vY _ s _ w2 tO).mono ?_;rintro e w4⟨rfl,n4,rfl⟩;rw[hd];by_cases FM:40<(dQ ph).length
    ·have aaP:((40:Int)<((dQ ph).length:Int)):=ab;go_wp2;go_ret2;exact jm.long fl.o (by rw[pg]at FM;exact FM) (fR.drewN _)
    ·have aaP:¬((40:Int)<((dQ ph).length:Int)):=ab;go_wp2;go_ret2;exact jm.ok fl.o (by rw[pg]at FM;omega) (xo BS (bT _)) (fR.drewN _)
   ·have hd:decide (s.size<=uK s.data.toList k)=false:=by simpa using zJ
    refine(vY _ s _ w2 tO).mono ?_;rintro e w4⟨rfl,n4,rfl⟩;rw[hd];have tL:dm (w2.drewN n4) w.heap.size s (uK s.data.toList k):=tO;have VK:Strs (w.heap.size+1) (w2.drewN n4) _ (dQ ph):=BS;have jN:=fR.drewN n4;go_wp2_with fail
    refine(pI _ s _ 44 _ tL hm).mono ?_;rintro e w5⟨rfl,tM,lB⟩;have wR:=jN.xn lB (az _);have hv5:=VK.fr lB (fun k hk=>by have e:k=w.heap.size:=hk;omega);have tK:uK s.data.toList k<s.data.toList.length:=by simpa using zJ
    have dT:=O (List.getElem?_eq_getElem tK);cases e1:j5 s (uK s.data.toList k) 44
    ·have fl:=O (show gO s.data.toList=.error (s.data.toList.length-uK s.data.toList k)by
      rw[gy.o,Em (Ek dT.o (by have h:=e1;unfold j5 at h;rw[dT.o]at h;simpa using h))])
     rw[o8 e1]at tM;have c1:=tM.gU;have DI:=O (show s.size-(s.data.toList.length-uK s.data.toList k)=uK s.data.toList k by rw[xl]at tK ⊢; omega);go_wp2
     go_region
     all_goals
      go_wp2;go_ret2;exact jm.bad fl.o (by rw[DI.o];exact aC w5 _) ((wR.alloc _).drew)
    ·have fl:=O (show gO s.data.toList=(lC (s.size-(uK s.data.toList k+1)+1) (s.data.toList.drop (uK s.data.toList k+1))).map (ph++ ·)by
      rw[gy.o,DS.o,Av (by have h:=e1;unfold j5 at h;simpa using h),map_map];rw[pd (f:=s.size-k) bH,pd (f:=s.size-(uK s.data.toList k+1)+1) aS])
     rw[o7 e1]at tM;go_wp2;go_roundw
     case rel=>exact⟨_,ph,ab,ab,tM,hv5,wR,fl.o⟩
     case measure=>rw[pJ.o,tM.pos];omega
  |cons x W' =>
   have hne:wQ s.data.toList k≠ []:=by rw[HW.o];simp
   have Br:=O hne;clear hne;have En:=O (show dQ ph=dQ acc++[⟨(x :: W').toArray⟩]by rw[DS.o,Ns Br.o,HW.o,Ip]);have hlen:ph.length<=k+1:=by have e:=DS.o;rw[Ns Br.o]at e;rw[e];simp;omega
   obtain⟨av,cv,hv⟩:=fy.form;subst hv;have hlA:acc.length<4398046511104:=ab;have DJ:=O (pg acc);clear qW cQ;go_wp2_with (at_builtin;refine ny rfl _ _ rfl (w.heap.size+1) (.slice av _ cv) (dQ acc) rfl (by apply iq;exact fy) ⟨w2.heap.size,0,none⟩ 1 ⟨(x :: W').toArray⟩ rfl (jk _ _ _ _) (by rw[DJ.o];exact hlA) bH ?_;intro v' w3 fo Bt)
   have aaQ:dm w3 w.heap.size s (RO s.data.toList k):=by
    have h2:dm (w2.alloc (.cells #[.string ⟨(x :: W').toArray⟩] 9)) w.heap.size s (RO s.data.toList k):=Ww.alloc;unfold dm at h2 ⊢;rw[Bt.block _ (bg h2) (fun e=>by have:=fy.block _ e.symm;omega)];exact h2
   have il:=(fR.alloc (.cells #[.string ⟨(x :: W').toArray⟩] 9)).fJ Bt (fun k hk=>by have:=fy.block k hk;omega);rw[<-En.o]at fo;clear fy Bt Ww;have RQ:w.heap.size+1<=w3.heap.size:=aaQ.lt;go_wp2_with fail
   refine(lZ _ s _ w3 aaQ hm q2).mono ?_;rintro e w6⟨rfl,tO,nt⟩;have tO:dm w6 w.heap.size s (uK s.data.toList k):=tO;have x_:=il.xn nt (az _);have BS:=fo.fr nt (fun k hk=>by have e:k=w.heap.size:=hk;omega);clear fo nt aaQ;have hs6:w.heap.size+1<=w6.heap.size:=tO.lt;obtain⟨av3,cv3,hv⟩:=BS.form;subst hv;go_wp2_with fail
   by_cases zJ:s.size<=uK s.data.toList k
   ·have fl:=O (show gO s.data.toList=.ok ph by rw[gy.o,RP (Ej (by simpa using zJ)),DS.o]);have hd:decide (s.size<=uK s.data.toList k)=true:=by simpa using zJ
    refine(vY _ s _ w6 tO).mono ?_;rintro e w4⟨rfl,n4,rfl⟩;rw[hd];by_cases FM:40<(dQ ph).length
    ·have aaP:((40:Int)<((dQ ph).length:Int)):=ab;go_wp2;go_ret2;exact jm.long fl.o (by rw[pg]at FM;exact FM) (x_.drewN _)
    ·have aaP:¬((40:Int)<((dQ ph).length:Int)):=ab;go_wp2;go_ret2;exact jm.ok fl.o (by rw[pg]at FM;omega) (xo BS (bT _)) (x_.drewN _)
   ·have hd:decide (s.size<=uK s.data.toList k)=false:=by simpa using zJ
    refine(vY _ s _ w6 tO).mono ?_;rintro e w4⟨rfl,n4,rfl⟩;rw[hd];have tL:dm (w6.drewN n4) w.heap.size s (uK s.data.toList k):=tO;have VK:Strs (w.heap.size+1) (w6.drewN n4) _ (dQ ph):=BS;have jN:=x_.drewN n4;go_wp2_with fail
    refine(pI _ s _ 44 _ tL hm).mono ?_;rintro e w5⟨rfl,tM,lB⟩;have wR:=jN.xn lB (az _);have hv5:=VK.fr lB (fun k hk=>by have e:k=w.heap.size:=hk;omega);have tK:uK s.data.toList k<s.data.toList.length:=by simpa using zJ
    have dT:=O (List.getElem?_eq_getElem tK);cases e1:j5 s (uK s.data.toList k) 44
    ·have fl:=O (show gO s.data.toList=.error (s.data.toList.length-uK s.data.toList k)by
      rw[gy.o,Em (Ek dT.o (by have h:=e1;unfold j5 at h;rw[dT.o]at h;simpa using h))])
     rw[o8 e1]at tM;have c1:=tM.gU;have DI:=O (show s.size-(s.data.toList.length-uK s.data.toList k)=uK s.data.toList k by rw[xl]at tK ⊢; omega);go_wp2
     go_region
     all_goals
      go_wp2;go_ret2;exact jm.bad fl.o (by rw[DI.o];exact aC w5 _) ((wR.alloc _).drew)
    ·have fl:=O (show gO s.data.toList=(lC (s.size-(uK s.data.toList k+1)+1) (s.data.toList.drop (uK s.data.toList k+1))).map (ph++ ·)by
      rw[gy.o,DS.o,Av (by have h:=e1;unfold j5 at h;simpa using h),map_map];rw[pd (f:=s.size-k) bH,pd (f:=s.size-(uK s.data.toList k+1)+1) aS])
     rw[o7 e1]at tM;go_wp2;go_roundw
     case rel=>exact⟨_,ph,ab,ab,tM,hv5,wR,fl.o⟩
     case measure=>rw[pJ.o,tM.pos];omega
theorem FN:∀(f:Nat) (r a z:aK),r.length<=f->uY r=some (a,z)->a.length+z.length+1<=r.length
 |0,r,a,z,hf,h=>by
  have:r=[]:=b_ ab;subst this;rw[uY.eq_def]at h;simp at h
 |f+1,[],a,z,hf,h=>by rw[uY.eq_def]at h;simp at h
 |f+1,x :: r,a,z,hf,h=>by
  rw[uY.eq_def]at h;simp only at h;by_cases h1:(x==34)=true
  ·rw[aB h1]at h;cases h;simp
  ·rw[ay h1]at h;by_cases h2:(x==92)=true
   ·rw[aB h2]at h;cases r with
    |nil=>simp at h
    |cons y r' =>
     simp only at h;by_cases h3:mY y=true
     ·rw[aB h3]at h;cases hq:uY r' with
      |none=>rw[hq]at h;simp at h
      |some p =>
       rw[hq]at h;simp at h;obtain⟨rfl,rfl⟩:=h;have:=FN f r' p.1 p.2 (by simp at hf;omega) hq;simp;omega
     ·rw[ay h3]at h;simp at h
   ·rw[ay h2]at h;by_cases h3:mY x=true
    ·rw[aB h3]at h;cases hq:uY r with
     |none=>rw[hq]at h;simp at h
     |some p =>
      rw[hq]at h;simp at h;obtain⟨rfl,rfl⟩:=h;have:=FN f r p.1 p.2 (by simp at hf;omega) hq;simp;omega
    ·rw[ay h3]at h;simp at h
def RR(k:Int)(n:Nat):Nat:=(max 0 (min k n)).toNat
theorem xp(b:Nat)(s:ai)(i:Nat)(k:Int)(w:World)(h:dm w b s i)(hs:s.size<=maxLen) :
  aE 212 #[.pointer (some ⟨b,0,none⟩),.int .i64 k] w fun e w'=>e=.returned (.tuple #[])/\dm w' b s (RR k s.size)/\Fr (one b) w w':=by
 have h0:=h.cell0;have h1:=h.gU;have hf:=h.free 1;unfold maxLen at hs;go_enter func212,ntmps212;go_wp2;go_end0;rw[show max 0 (min k (s.size:Int))=((RR k s.size:Nat):Int)from by unfold RR;omega];exact⟨rfl,h.setCell,lX w b _ 0⟩
def FO(l:aK):Bool:=zI l||nJ l
def iu:List ai:=[⟨#[68,69,76,69,84,69]⟩,⟨#[71,69,84]⟩,⟨#[72,69,65,68]⟩,⟨#[79,80,84,73,79,78,83]⟩,⟨#[80,79,83,84]⟩,⟨#[80,85,84]⟩]
def mZ:List ai->ai->ai
 |[],s=>s
 |m :: l,s=>if dH s.data.toList m.data.toList then m else mZ l s
def jB(s:ai):ai:=mZ iu s
def qA(s:ai):Bool:=s.toList== [71,69,84]||s.toList== [72,69,65,68]||s.toList== [80,79,83,84]
theorem yr:∀(l:List ai) (s:ai),(mZ l s∈l/\dH s.data.toList (mZ l s).data.toList=true)\/mZ l s=s
 |[],s=>.inr rfl
 |m :: l,s=>by
  unfold mZ;by_cases h:dH s.data.toList m.data.toList=true
  ·rw[aB h];exact .inl ⟨cY .., h⟩
  ·rw[ay h];rcases yr l s with ⟨h1,h2⟩|h1
   ·exact .inl ⟨bV _ h1,h2⟩
   ·exact .inr h1
theorem Lj(s:ai)(w:World) :
  aE 126 #[.string s] w fun e w'=>e=.returned (.bool (qA s))/\w=w':=by
 by_cases h1:s.toList=[71,69,84]
 ·have hb:=O (show qA s=true by unfold qA;rw[h1];rfl);go_enter func126,ntmps126;go_wp2;go_ret;exact⟨fS hb.o.symm,rfl⟩
 ·by_cases h2:s.toList=[72,69,65,68]
  ·have hb:=O (show qA s=true by unfold qA;rw[h2];rfl);go_enter func126,ntmps126;go_wp2;go_ret;exact⟨fS hb.o.symm,rfl⟩
  ·have hb:=O (show qA s=(s.toList== [71,69,84]||s.toList== [72,69,65,68]||s.toList== [80,79,83,84])from rfl);go_enter func126,ntmps126;go_wp2;go_ret;exact⟨fS hb.o.symm,rfl⟩
def aeL(s:ai)(w:World)(i:Value)(wr:World):Prop:=∃k:Nat,k<=6/\i=.int .i64 k/\jB s=mZ (iu.drop k) s/\Fr aX w wr
theorem xu(s:ai)(w:World)(hs:s.size<100000) :
  aE 73 #[.string s] w fun e w'=>e=.returned (.string (jB s))/\Fr aX w w':=by
 have HC:=O (show∀U,Fr aX (w.alloc (.cells (iu.map Value.string).toArray 9)) U->∀(k:Nat) x,iu[k]?=some x->U.cell? ⟨w.heap.size,k,none⟩=some (.string x)from fun U hU k x hx=>by
  have h:=hU.keep (aC w (.cells (iu.map Value.string).toArray 9)) id;have e:(iu.map Value.string)[k]?=some (.string x):=by rw[List.getElem?_map,hx];rfl
  simp only[World.cell?,h];simpa using e)
 have kf:Fr aX w (w.alloc (.cells (iu.map Value.string).toArray 9)):=(ae aX w).alloc _;have lV:=O kf;obtain⟨wb,jP⟩:∃wb,wb=w.alloc (.cells (iu.map Value.string).toArray 9):=⟨_,rfl⟩;rw[<-jP]at HC lV
 have qB:=O (show wb=w.alloc (.cells #[.string ⟨#[68,69,76,69,84,69]⟩,.string ⟨#[71,69,84]⟩,.string ⟨#[72,69,65,68]⟩,.string ⟨#[79,80,84,73,79,78,83]⟩,.string ⟨#[80,79,83,84]⟩,.string ⟨#[80,85,84]⟩] 9)from jP);clear jP kf;go_enter func73,ntmps73;go_wp2;rw[<-qB.o];go_loopw[7] (aeL s wb) (fun i _=>6-(intOf i).toNat)
 case atStart=>exact⟨0,ab,rfl,rfl,ae _ _⟩
 case round =>
  obtain⟨k,hk,rfl,hm,cR⟩:=hrel;by_cases hk6:k<6
  ·have qm:(k:Int)<6:=ab;obtain⟨m,Ny⟩:∃m,iu[k]?=some m:=⟨_,List.getElem?_eq_getElem (by show k<6;exact hk6)⟩;have hcell:=HC.o wr cR k m Ny;have hmz:m.size<=10:=(show∀x∈iu,x.size<=10 from ag) m (cL Ny);have HD:=O (show jB s=if dH s.data.toList m.data.toList then m else mZ (iu.drop (k+1)) s by
    rw[hm,cP (show k<iu.length from hk6)];have e:iu[k]'(show k<iu.length from hk6)=m:=by rw[List.getElem?_eq_getElem (show k<iu.length from hk6)]at Ny;exact jQ Ny
    rw[e];rfl)
   clear hm Ny;have HSA:=O (lY s m wr ab ab);go_wp2_with fail
   refine HSA.o.mono ?_;rintro e w5⟨rfl,lB⟩;clear HSA;cases oO:dH s.data.toList m.data.toList
   ·have HD2:=O (show jB s=mZ (iu.drop (k+1)) s by rw[HD.o,oO];rfl);clear oO;go_wp2;go_roundw
    case rel=>exact⟨k+1,ab,bh,HD2.o,cR.trans lB⟩
    case measure=>simp[intOf];omega
   ·have HD2:=O (show jB s=m by rw[HD.o,oO];rfl);clear oO;go_wp2;go_ret;exact⟨by rw[HD2.o];rfl,lV.o.trans (cR.trans lB)⟩
  ·have qm:¬(k:Int)<6:=ab;have HD2:=O (show jB s=s by rw[hm,cO (by show 6<=k;omega)];rfl);clear hm;go_wp2;go_ret;exact⟨by rw[HD2.o];rfl,lV.o.trans cR⟩
def Cu:List Int:=[3614090360,3905402710,606105819,3250441966,4118548399,1200080426,2821735955,4249261313,1770035416,2336552879,4294925233,2304563134,1804603682,4254626195,2792965006,1236535329,4129170786,3225465664,643717713,3921069994,3593408605,38016083,3634488961,3889429448,568446438,3275163606,4107603335,1163531501,2850285829,4243563512,1735328473,2368359562,4294588738,2272392833,1839030562,4259657740,2763975236,1272893353,4139469664,3200236656,681279174,3936430074,3572445317,76029189,3654602809,3873151461,530742520,3299628645,4096336452,1126891415,2878612391,4237533241,1700485571,2399980690,4293915773,2240044497,1873313359,4264355552,2734768916,1309151649,4149444226,3174756917,718787259,3951481745]
def oy:List Nat:=[7,12,17,22,5,9,14,20,4,11,16,23,6,10,15,21]
def oz(w:World)(g:Nat)(k:IntKind)(zs:List Int):Prop:=g<w.heap.size/\∀(i:Nat) z,zs[i]?=some z->w.cell? ⟨g,i,none⟩=some (.int k z)
theorem oz.fr{k:IntKind}{zs:List Int}(h:oz w g k zs)(hf:Fr aX w w'):oz w' g k zs :=
 ⟨cN h.1 hf.size,fun i z hz=>(hf.cell (p:=⟨g,i,none⟩) h.1 id).trans (h.2 i z hz)⟩
structure tY (w:World):Prop where
 s:oz w 3 .u32 Cu
 t:oz w 4 .i64 (oy.map Int.ofNat)
theorem tY.fr(h:tY w)(hf:Fr aX w w'):tY w':=⟨h.s.fr hf,h.t.fr hf⟩
structure Md where
 a:Int
 b:Int
 c:Int
 d:Int
def Md.ok(s:Md):Prop:=(0<=s.a/\s.a<4294967296)/\(0<=s.b/\s.b<4294967296)/\(0<=s.c/\s.c<4294967296)/\(0<=s.d/\s.d<4294967296)
def Ly(x:Int):Int:=bits .xor .u32 IntKind.u32.max x
def mdF(r:Nat)(b c d:Int):Int:=match r with
 |0=>bits .or .u32 (bits .and .u32 b c) (bits .and .u32 (Ly b) d)
 |1=>bits .or .u32 (bits .and .u32 d b) (bits .and .u32 (Ly d) c)
 |2=>bits .xor .u32 (bits .xor .u32 b c) d
 |_=>bits .xor .u32 c (bits .or .u32 b (Ly d))
def Xc(r k:Nat):Nat:=match r with
 |0=>k
 |1=>(5*k+1)%16
 |2=>(3*k+5)%16
 |_=>7*k%16
def ri(X:aK)(k:Nat)(s:Md):Md :=
 ⟨s.d,(s.b+lL ((mdF (k/16) s.b s.c s.d+(s.a+Cu.getD k 0+qp true (X.drop (4*Xc (k/16) k))))%4294967296) (oy.getD (k/16*4+k%4) 0))%4294967296,s.b,s.c⟩
def kD(X:aK)(h:Md):Nat->Md
 |0=>h
 |k+1=>ri X k (kD X h k)
def BC(X:aK)(h:Md):Md :=
 ⟨(h.a+(kD X h 64).a)%4294967296,(h.b+(kD X h 64).b)%4294967296,(h.c+(kD X h 64).c)%4294967296,(h.d+(kD X h 64).d)%4294967296⟩
def md0:Md:=⟨1732584193,4023233417,2562383102,271733878⟩
def xG(T:aK):Nat->Md
 |0=>md0
 |k+1=>BC (T.drop (64*k)) (xG T k)
def Md.list(s:Md):List Int:=[s.a,s.b,s.c,s.d]
def Ja(l:aK):aK:=ox true (xG (uN true l) ((uN true l).length/64)).list
theorem zR(x:Int):0<=x%4294967296/\x%4294967296<4294967296:=⟨Int.emod_nonneg _ ag,Int.emod_lt_of_pos _ ag⟩
theorem O_{X:aK}{s:Md}(h:s.ok):(ri X k s).ok:=⟨h.2.2.2,zR _,h.2.1,h.2.2.1⟩
theorem Cv{X:aK}{h:Md}(ho:h.ok):∀k,(kD X h k).ok
 |0=>ho
 |k+1=>O_ (Cv ho k)
theorem Lz(X:aK)(h:Md):(BC X h).ok:=⟨zR _,zR _,zR _,zR _⟩
theorem abk:md0.ok:=by unfold Md.ok md0;decide
theorem NR(T:aK):∀k,(xG T k).ok
 |0=>abk
 |_+1=>Lz _ _
theorem yG:∀i:Fin 16,bits .and .u64 ((oy.getD i.val 0:Nat):Int) 31=((oy.getD i.val 0:Nat):Int)/\oy.getD i.val 0<32:=cZ
theorem Jb(dK:Bool)(l:aK):(uN dK l).length%64=0/\(uN dK l).length<=l.length+128:=by
 unfold uN;simp only[aM,fb,nd,List.length_cons,List.length_nil];omega
theorem kn(T:ai)(i:Nat):(T.extract i T.size).data.toList=T.data.toList.drop i:=by
 rw[Lib.extract_data,aG aS]
theorem js(T:ai)(i:Nat):(T.extract i T.size).size=T.size-i:=by
 have h:(T.extract i T.size).data.toList.length=(T.extract i T.size).size:=rfl;rw[<-h,kn,bJ];simp
theorem NS(T:ai)(i j:Nat):(T.extract i T.size).extract j (T.extract i T.size).size=T.extract (i+j) T.size:=by
 apply Go.WideShapes.bytes_inj;rw[kn,kn,kn,ey]
theorem tq{cur:bW}{f:Nat×Nat}(h:w.heap[b]?=some (.cells cur t f))(o:Nat)(v:Value):(w.setCell ⟨b,o,none⟩ v).heap[b]?=some (.cells (cur.setIfInBounds o v) t f):=by
 simp[World.setCell,Array.getElem?_modify,h]
def sI(w:World)(g:Nat)(h:Md):Prop:=w.heap[g]?=some (.cells #[.int .u32 h.a,.int .u32 h.b,.int .u32 h.c,.int .u32 h.d] 300 (0,0))
def ae_(T:ai)(g:Nat)(w:World)(t:Value)(wr:World):Prop:=∃k:Nat,64*k<=T.size/\t=.string (T.extract (64*k) T.size)/\sI wr g (xG T.data.toList k)/\Fr aX w wr
def akN(X:aK)(h:Md)(g:Nat)(w:World)(a b c d i:Value)(wr:World):Prop :=
 ∃k:Nat,k<=64/\i=.int .i64 k/\a=.int .u32 (kD X h k).a/\b=.int .u32 (kD X h k).b/\c=.int .u32 (kD X h k).c/\d=.int .u32 (kD X h k).d/\sI wr g h/\Fr aX w wr
theorem Xd(s:ai)(w:World)(hs:s.size<4398046511104)(ht:tY w) :
  aE 208 #[.string s] w fun e w'=>e=.returned (.string ⟨(Ja s.data.toList).toArray⟩)/\Fr aX w w':=by
 have ix:Fr aX w (w.alloc (.cells #[.int .u32 1732584193,.int .u32 4023233417,.int .u32 2562383102,.int .u32 271733878] 300)):=(ae aX w).alloc _;have Wx:sI (w.alloc (.cells #[.int .u32 1732584193,.int .u32 4023233417,.int .u32 2562383102,.int .u32 271733878] 300)) w.heap.size md0:=aC _ _;have HM0:=O Wx;clear Wx;go_enter func208,ntmps208;go_wp2_with fail
 refine(NQ s true _ ab).mono ?_;rintro e w1⟨rfl,dw⟩;obtain⟨T,hT⟩:∃T,T=(⟨(uN true s.data.toList).toArray⟩:ai):=⟨_,rfl⟩;rw[<-hT];have ZC:T.data.toList=uN true s.data.toList:=by rw[hT]
 have hTs:T.size=(uN true s.data.toList).length:=by rw[<-ZC];simp
 obtain⟨abm,Sy⟩:=Jb true s.data.toList;rw[<-hTs]at abm Sy;have ZD:s.data.toList.length=s.size:=aS;rw[ZD]at Sy;have Cw:=O (show Ja s.data.toList=ox true (xG T.data.toList (T.size/64)).list by unfold Ja;rw[ZC,hTs]);have HM1:=O (show sI w1 w.heap.size md0 from dw.keep HM0.o id);have lA:=O (ix.trans dw);clear hT ZC hTs HM0 ix dw ZD;go_wp2
 go_loopw[4] (ae_ T w.heap.size w) (fun t _=>match t with| .string x=>x.size|_=>0)
 case atStart=>exact⟨0,ab,by rw[Nat.mul_zero];congr 1;apply Go.WideShapes.bytes_inj;rw[kn];rfl,HM1.o,lA.o⟩
 case round =>
  obtain⟨n,hn,rfl,hm,cR⟩:=hrel;by_cases hne:64*n<T.size
  ·have Sz:64<=(T.extract (64*n) T.size).size:=by rw[js];omega
   have akP:(T.extract (64*n) T.size).size<17592186044416:=by rw[js];omega
   have p9:=O (NS T (64*n) 64);have hXl:=O (kn T (64*n));have hXm:=O (js T (64*n));generalize T.extract (64*n) T.size=X at *
   have hx:X.toList.isEmpty=false:=by
    rw[aN];cases hq:X.data.toList with
    |nil=>rw[gN.1 hq]at Sz;omega
    |cons a l=>rfl
   have R7:¬X.toList=[]:=by rw[aN];intro h;rw[gN.1 h]at Sz;omega
   have HM:=O hm;have h0:wr.cell? ⟨w.heap.size,0,none⟩=some (.int .u32 (xG T.data.toList n).a):=by unfold sI at hm;simp[World.cell?,hm]
   have h1:wr.cell? ⟨w.heap.size,1,none⟩=some (.int .u32 (xG T.data.toList n).b):=by unfold sI at hm;simp[World.cell?,hm]
   have h2:wr.cell? ⟨w.heap.size,2,none⟩=some (.int .u32 (xG T.data.toList n).c):=by unfold sI at hm;simp[World.cell?,hm]
   have h3:wr.cell? ⟨w.heap.size,3,none⟩=some (.int .u32 (xG T.data.toList n).d):=by unfold sI at hm;simp[World.cell?,hm]
   have pG:=O (show xG T.data.toList (n+1)=BC X.data.toList (xG T.data.toList n)by rw[hXl.o];rfl);have KW:=O (NR T.data.toList n);generalize xG T.data.toList n=H at *
   clear hm;go_wp2;go_quiet (fail);clear h0 h1 h2 h3;go_wp2;go_loopw[5,6,7,8,27] (akN X.data.toList H w.heap.size w) (fun _ _ _ _ i _=>64-(intOf i).toNat)
   case atStart=>exact⟨0,ab,rfl,rfl,rfl,rfl,rfl,by exact HM.o,by first|exact cR|exact cR.drewN _⟩
   case round =>
    obtain⟨k,hk,rfl,rfl,rfl,rfl,rfl,hm,km⟩:=hrel;obtain⟨⟨a0,a1⟩,⟨b0,b1⟩,⟨c0,c1⟩,⟨d0,d1⟩⟩:=Cv (X:=X.data.toList) KW.o k;have ZE:=O hm;have En:=O (show kD X.data.toList H (k+1)=ri X.data.toList k (kD X.data.toList H k)from rfl)
    have H64:=O (show k=64->BC X.data.toList H=⟨(H.a+(kD X.data.toList H k).a)%4294967296,(H.b+(kD X.data.toList H k).b)%4294967296,(H.c+(kD X.data.toList H k).c)%4294967296,(H.d+(kD X.data.toList H k).d)%4294967296⟩from fun h=>by subst h;rfl);generalize kD X.data.toList H k=M at *
    clear hm;by_cases I7:k<64
    ·have arj:(k:Int)<64:=ab;obtain⟨z,hz⟩:∃z,Cu[k]?=some z:=⟨_,List.getElem?_eq_getElem (by show k<64;omega)⟩;have Gf:=O ((ht.fr km).s.2 k z hz);have Zz:=O (show Cu.getD k 0=z by rw[List.getD_eq_getElem?_getD,hz];rfl);obtain⟨m,hmm⟩:∃m:Nat,(k:Int)%4=(m:Int):=⟨k%4,ab⟩;have hm4:m<4:=ab;have Xe:=O (show k%4=m from ab);clear hz;by_cases hr0:k<16
     ·have e1:(k:Int)/16=0:=ab;have uO:=O (show k/16=0 from ab);have hmg:=O (show Xc (k/16) k=k by rw[uO.o];rfl);obtain⟨wv,DY⟩:∃wv,wv=qp true (X.extract (4*k) X.size).data.toList:=⟨_,rfl⟩;have r_:=O (fun W=>vD (X.extract (4*k) X.size) true W (by rw[js];omega) (by rw[js];omega));rw[<-DY]at r_;have Xf:=O (show qp true (X.data.toList.drop (4*Xc (k/16) k))=wv by rw[hmg.o,DY,kn]);clear DY;go_wp2
      have qf:IntKind.i64.wrap (4*(k:Int))=4*(k:Int):=IntWalk.i64_in _ ab;have q0:(0:Int)<=(k:Int):=ab;have q1:(0:Int)<=4*(k:Int):=ab;have q2:4*(k:Int)<=(X.size:Int):=ab;have q3:4*k<=X.size:=ab;have q4:(4*(k:Int)).toNat=4*k:=ab;have Cx:=Gf.o;go_quiet ((go_at_call 238;exact Calls.quiet_of (r_.o _)));clear qf q0 q1 q2 q3 q4 Cx
      obtain⟨z2,kR⟩:∃z2,oy[m]?=some z2:=⟨_,List.getElem?_eq_getElem (by show m<16;omega)⟩;have htu:=(ht.fr (km.drewN nq)).t.2 (m) (z2:Int) (by rw[List.getElem?_map,kR];rfl);have hzt:=O (show oy.getD (k/16*4+k%4) 0=z2 by rw[uO.o,Xe.o,show 0*4+m=m from ab,List.getD_eq_getElem?_getD,kR];rfl)
      obtain⟨jX,LA⟩:bits .and .u64 (z2:Int) 31=(z2:Int)/\z2<32:=by have h:=yG ⟨m,ab⟩;simp only[List.getD_eq_getElem?_getD,kR,Option.getD_some]at h;exact h
      clear kR;have m0:(m:Int)<4:=ab;have Rc:=O (show sI (wr.drewN nq) w.heap.size H from ZE.o);have qg:=km.drewN nq;generalize wr.drewN nq=wd at *
      go_wp2_with fail
      refine(BB _ (z2:Int) z2 wd ab ab jX LA).mono ?_;rintro e w5⟨rfl,rfl⟩;have mC:=O (show ri X.data.toList k M=⟨M.d,(M.b+lL ((mdF 0 M.b M.c M.d+(M.a+z+wv))%4294967296) z2)%4294967296,M.b,M.c⟩by unfold ri;rw[Zz.o,hzt.o,Xf.o,uO.o]);clear htu jX;go_wp2;go_roundw
      case rel=>exact⟨k+1,ab,bh,by rw[En.o,mC.o],by rw[En.o,mC.o];rfl,by rw[En.o,mC.o],by rw[En.o,mC.o],Rc.o,qg⟩
      case measure=>simp[intOf];omega
     ·by_cases Bx:k<32
      ·have e1:(k:Int)/16=1:=ab;have uO:=O (show k/16=1 from ab);obtain⟨gg,VR⟩:∃gg:Nat,gg=(5*k+1)%16:=⟨_,rfl⟩;have afb:gg<16:=ab;have VS:(5*(k:Int)+1)%16=(gg:Int):=ab;have hmg:=O (show Xc (k/16) k=gg by rw[uO.o,VR];rfl);obtain⟨wv,DY⟩:∃wv,wv=qp true (X.extract (4*gg) X.size).data.toList:=⟨_,rfl⟩;have r_:=O (fun W=>vD (X.extract (4*gg) X.size) true W (by rw[js];omega) (by rw[js];omega));rw[<-DY]at r_
       have Xf:=O (show qp true (X.data.toList.drop (4*Xc (k/16) k))=wv by rw[hmg.o,DY,kn]);clear DY VR;go_wp2;have qf:IntKind.i64.wrap (4*(gg:Int))=4*(gg:Int):=IntWalk.i64_in _ ab;have q0:(0:Int)<=(k:Int):=ab;have q1:(0:Int)<=4*(gg:Int):=ab;have q2:4*(gg:Int)<=(X.size:Int):=ab;have q3:4*gg<=X.size:=ab;have q4:(4*(gg:Int)).toNat=4*gg:=ab;have Cx:=Gf.o
       go_quiet ((go_at_call 238;exact Calls.quiet_of (r_.o _)));clear qf q0 q1 q2 q3 q4 Cx;obtain⟨z2,kR⟩:∃z2,oy[4+m]?=some z2:=⟨_,List.getElem?_eq_getElem (by show 4+m<16;omega)⟩;have htu:=(ht.fr (km.drewN nq)).t.2 (4+m) (z2:Int) (by rw[List.getElem?_map,kR];rfl);have hzt:=O (show oy.getD (k/16*4+k%4) 0=z2 by rw[uO.o,Xe.o,show 1*4+m=4+m from ab,List.getD_eq_getElem?_getD,kR];rfl)
       obtain⟨jX,LA⟩:bits .and .u64 (z2:Int) 31=(z2:Int)/\z2<32:=by have h:=yG ⟨4+m,ab⟩;simp only[List.getD_eq_getElem?_getD,kR,Option.getD_some]at h;exact h
       clear kR;have m0:(m:Int)<4:=ab;have Rc:=O (show sI (wr.drewN nq) w.heap.size H from ZE.o);have qg:=km.drewN nq;generalize wr.drewN nq=wd at *
       go_wp2_with fail
       refine(BB _ (z2:Int) z2 wd ab ab jX LA).mono ?_;rintro e w5⟨rfl,rfl⟩;have mC:=O (show ri X.data.toList k M=⟨M.d,(M.b+lL ((mdF 1 M.b M.c M.d+(M.a+z+wv))%4294967296) z2)%4294967296,M.b,M.c⟩by unfold ri;rw[Zz.o,hzt.o,Xf.o,uO.o]);clear htu jX;go_wp2;go_roundw
       case rel=>exact⟨k+1,ab,bh,by rw[En.o,mC.o],by rw[En.o,mC.o];rfl,by rw[En.o,mC.o],by rw[En.o,mC.o],Rc.o,qg⟩
       case measure=>simp[intOf];omega
      ·by_cases pN:k<48
       ·have e1:(k:Int)/16=2:=ab;have uO:=O (show k/16=2 from ab);obtain⟨gg,VR⟩:∃gg:Nat,gg=(3*k+5)%16:=⟨_,rfl⟩;have afb:gg<16:=ab;have VS:(3*(k:Int)+5)%16=(gg:Int):=ab;have hmg:=O (show Xc (k/16) k=gg by rw[uO.o,VR];rfl);obtain⟨wv,DY⟩:∃wv,wv=qp true (X.extract (4*gg) X.size).data.toList:=⟨_,rfl⟩;have r_:=O (fun W=>vD (X.extract (4*gg) X.size) true W (by rw[js];omega) (by rw[js];omega));rw[<-DY]at r_
        have Xf:=O (show qp true (X.data.toList.drop (4*Xc (k/16) k))=wv by rw[hmg.o,DY,kn]);clear DY VR;go_wp2;have qf:IntKind.i64.wrap (4*(gg:Int))=4*(gg:Int):=IntWalk.i64_in _ ab;have q0:(0:Int)<=(k:Int):=ab;have q1:(0:Int)<=4*(gg:Int):=ab;have q2:4*(gg:Int)<=(X.size:Int):=ab;have q3:4*gg<=X.size:=ab;have q4:(4*(gg:Int)).toNat=4*gg:=ab;have Cx:=Gf.o
        go_quiet ((go_at_call 238;exact Calls.quiet_of (r_.o _)));clear qf q0 q1 q2 q3 q4 Cx;obtain⟨z2,kR⟩:∃z2,oy[8+m]?=some z2:=⟨_,List.getElem?_eq_getElem (by show 8+m<16;omega)⟩;have htu:=(ht.fr (km.drewN nq)).t.2 (8+m) (z2:Int) (by rw[List.getElem?_map,kR];rfl);have hzt:=O (show oy.getD (k/16*4+k%4) 0=z2 by rw[uO.o,Xe.o,show 2*4+m=8+m from ab,List.getD_eq_getElem?_getD,kR];rfl)
        obtain⟨jX,LA⟩:bits .and .u64 (z2:Int) 31=(z2:Int)/\z2<32:=by have h:=yG ⟨8+m,ab⟩;simp only[List.getD_eq_getElem?_getD,kR,Option.getD_some]at h;exact h
        clear kR;have m0:(m:Int)<4:=ab;have Rc:=O (show sI (wr.drewN nq) w.heap.size H from ZE.o);have qg:=km.drewN nq;generalize wr.drewN nq=wd at *
        go_wp2_with fail
        refine(BB _ (z2:Int) z2 wd ab ab jX LA).mono ?_;rintro e w5⟨rfl,rfl⟩;have mC:=O (show ri X.data.toList k M=⟨M.d,(M.b+lL ((mdF 2 M.b M.c M.d+(M.a+z+wv))%4294967296) z2)%4294967296,M.b,M.c⟩by unfold ri;rw[Zz.o,hzt.o,Xf.o,uO.o]);clear htu jX;go_wp2;go_roundw
        case rel=>exact⟨k+1,ab,bh,by rw[En.o,mC.o],by rw[En.o,mC.o];rfl,by rw[En.o,mC.o],by rw[En.o,mC.o],Rc.o,qg⟩
        case measure=>simp[intOf];omega
       ·have e1:(k:Int)/16=3:=ab;have uO:=O (show k/16=3 from ab);obtain⟨gg,VR⟩:∃gg:Nat,gg=7*k%16:=⟨_,rfl⟩;have afb:gg<16:=ab;have VS:7*(k:Int)%16=(gg:Int):=ab;have hmg:=O (show Xc (k/16) k=gg by rw[uO.o,VR];rfl);obtain⟨wv,DY⟩:∃wv,wv=qp true (X.extract (4*gg) X.size).data.toList:=⟨_,rfl⟩;have r_:=O (fun W=>vD (X.extract (4*gg) X.size) true W (by rw[js];omega) (by rw[js];omega));rw[<-DY]at r_
        have Xf:=O (show qp true (X.data.toList.drop (4*Xc (k/16) k))=wv by rw[hmg.o,DY,kn]);clear DY VR;go_wp2;have qf:IntKind.i64.wrap (4*(gg:Int))=4*(gg:Int):=IntWalk.i64_in _ ab;have q0:(0:Int)<=(k:Int):=ab;have q1:(0:Int)<=4*(gg:Int):=ab;have q2:4*(gg:Int)<=(X.size:Int):=ab;have q3:4*gg<=X.size:=ab;have q4:(4*(gg:Int)).toNat=4*gg:=ab;have Cx:=Gf.o
        go_quiet ((go_at_call 238;exact Calls.quiet_of (r_.o _)));clear qf q0 q1 q2 q3 q4 Cx;obtain⟨z2,kR⟩:∃z2,oy[12+m]?=some z2:=⟨_,List.getElem?_eq_getElem (by show 12+m<16;omega)⟩;have htu:=(ht.fr (km.drewN nq)).t.2 (12+m) (z2:Int) (by rw[List.getElem?_map,kR];rfl);have hzt:=O (show oy.getD (k/16*4+k%4) 0=z2 by rw[uO.o,Xe.o,show 3*4+m=12+m from ab,List.getD_eq_getElem?_getD,kR];rfl)
        obtain⟨jX,LA⟩:bits .and .u64 (z2:Int) 31=(z2:Int)/\z2<32:=by have h:=yG ⟨12+m,ab⟩;simp only[List.getD_eq_getElem?_getD,kR,Option.getD_some]at h;exact h
        clear kR;have m0:(m:Int)<4:=ab;have Rc:=O (show sI (wr.drewN nq) w.heap.size H from ZE.o);have qg:=km.drewN nq;generalize wr.drewN nq=wd at *
        go_wp2_with fail
        refine(BB _ (z2:Int) z2 wd ab ab jX LA).mono ?_;rintro e w5⟨rfl,rfl⟩;have mC:=O (show ri X.data.toList k M=⟨M.d,(M.b+lL ((mdF 3 M.b M.c M.d+(M.a+z+wv))%4294967296) z2)%4294967296,M.b,M.c⟩by unfold ri;rw[Zz.o,hzt.o,Xf.o,uO.o]);clear htu jX;go_wp2;go_roundw
        case rel=>exact⟨k+1,ab,bh,by rw[En.o,mC.o],by rw[En.o,mC.o];rfl,by rw[En.o,mC.o],by rw[En.o,mC.o],Rc.o,qg⟩
        case measure=>simp[intOf];omega
    ·have SA:k=64:=ab;subst SA;have vE:=ZE.o;have h0:wr.cell? ⟨w.heap.size,0,none⟩=some (.int .u32 H.a):=by unfold sI at vE;simp[World.cell?,vE]
     have h1:wr.cell? ⟨w.heap.size,1,none⟩=some (.int .u32 H.b):=by unfold sI at vE;simp[World.cell?,vE]
     have h2:wr.cell? ⟨w.heap.size,2,none⟩=some (.int .u32 H.c):=by unfold sI at vE;simp[World.cell?,vE]
     have h3:wr.cell? ⟨w.heap.size,3,none⟩=some (.int .u32 H.d):=by unfold sI at vE;simp[World.cell?,vE]
     have f0:wr.frozen? ⟨w.heap.size,0,none⟩=false:=by unfold sI at vE;simp[World.frozen?,vE]
     have f1:wr.frozen? ⟨w.heap.size,1,none⟩=false:=by unfold sI at vE;simp[World.frozen?,vE]
     have f2:wr.frozen? ⟨w.heap.size,2,none⟩=false:=by unfold sI at vE;simp[World.frozen?,vE]
     have f3:wr.frozen? ⟨w.heap.size,3,none⟩=false:=by unfold sI at vE;simp[World.frozen?,vE]
     clear vE;have akQ:(64:Int)<=(X.size:Int):=ab;go_wp2;have ZF:wr.heap[w.heap.size]?=some (.cells #[.int .u32 H.a,.int .u32 H.b,.int .u32 H.c,.int .u32 H.d] 300 (0,0)):=ZE.o;have sD:=tq ZF 0 (.int .u32 ((H.a+M.a)%4294967296));have jX:=tq sD 1 (.int .u32 ((H.b+M.b)%4294967296));have sJ:=tq jX 2 (.int .u32 ((H.c+M.c)%4294967296));have uP:=tq sJ 3 (.int .u32 ((H.d+M.d)%4294967296))
     refine⟨⟨n+1,ab,?_,?_,(((km.gI (p:=⟨w.heap.size,0,none⟩) (az _) _).gI (p:=⟨w.heap.size,1,none⟩) (az _) _).gI (p:=⟨w.heap.size,2,none⟩) (az _) _).gI (p:=⟨w.heap.size,3,none⟩) (az _) _⟩,?_⟩
     ·rw[p9.o];rfl
     ·rw[pG.o,H64.o rfl];exact uP
     ·show(X.extract 64 X.size).size<X.size;rw[js];omega
  ·have BD:64*n=T.size:=ab;have he:(T.extract (64*n) T.size)=⟨#[]⟩:=by apply Go.WideShapes.bytes_inj;rw[kn,cO bH]
   rw[he];have SB:=O (show xG T.data.toList (T.size/64)=xG T.data.toList n by rw[<-BD];congr 1;omega);have KW:=NR T.data.toList n;generalize xG T.data.toList n=H at *
   have HM:=O hm;have TX:=O (AI w.heap.size H.list true wr (by show 4<=8;omega) (bg hm) (fun j x hj=>by
    unfold sI at hm
    match j,hj with
    |0,hj=>simp[Md.list]at hj;subst hj;simp[World.cell?,hm]
    |1,hj=>simp[Md.list]at hj;subst hj;simp[World.cell?,hm]
    |2,hj=>simp[Md.list]at hj;subst hj;simp[World.cell?,hm]
    |3,hj=>simp[Md.list]at hj;subst hj;simp[World.cell?,hm]
    |j+4,hj=>simp[Md.list]at hj) (fun x hx=>by
    simp only[Md.list,bE,bU,dL]at hx;obtain⟨p0,p1,p2,p3⟩:=KW;rcases hx with rfl|rfl|rfl|rfl<;>assumption))
   clear hm KW;go_wp2_with fail
   refine TX.o.mono ?_;rintro e w5⟨rfl,lB⟩;go_wp2;go_ret;exact⟨by rw[Cw.o,SB.o];rfl,cR.trans lB⟩
def ak9(c:UInt8):Option Nat:=if 65<=c/\c<=90 then some (c.toNat-65)else if 97<=c/\c<=122 then some (c.toNat-71)else if 48<=c/\c<=57 then some (c.toNat+4)else if c=43 then some 62 else if c=47 then some 63 else none
def qv(l:aK):Nat->Nat
 |0=>0
 |j+1=>qv l j*64+(match l[j]? with|some c=>(ak9 c).getD 0|none=>0)
theorem wh:∀(l:aK) (c:UInt8) (i:Nat),Lib.indexByte l c=(i:Int)->l=l.take i++c :: l.drop (i+1)/\c∉l.take i
 |[],c,i,h=>by simp[Lib.indexByte]at h
 |x :: l,c,i,h=>by
  have hge:=Lib.indexByte_ge l c;have h':(if x==c then(0:Int)else if Lib.indexByte l c== -1 then -1 else Lib.indexByte l c+1)=(i:Int):=h;by_cases hx:x=c
  ·rw[aB (by simpa using hx)]at h';obtain rfl:i=0:=ab;subst hx;exact⟨rfl,aS⟩
  ·rw[ay (by simpa using hx)]at h';by_cases h1:Lib.indexByte l c= -1
   ·rw[aB (by simpa using h1)]at h';omega
   ·rw[ay (by simpa using h1)]at h';obtain⟨j,rfl⟩:∃j,i=j+1:=⟨i-1,ab⟩;obtain⟨e1,e2⟩:=wh l c j ab;refine⟨?_,?_⟩
    ·show x :: l=x :: (l.take j++c :: l.drop (j+1));rw[<-e1]
    ·intro hc;rcases bE.1 hc with rfl|hc
     ·exact hx rfl
     ·exact e2 hc
theorem SN(h:Lib.indexByte l c=(i:Int)):i<l.length:=by
 obtain⟨e,_⟩:=wh l c i h;have:=ar List.length e;simp at this;omega
def iL(c:UInt8)(s:ai):List ai:=(dY c s.data.toList).map fun l=>⟨l.toArray⟩
theorem oA(s:ai)(a b:Nat):s.extract a b=⟨((s.data.toList.drop a).take (b-a)).toArray⟩:=by
 have h:=Lib.extract_data s a b;have h2:(s.extract a b).data=((s.data.toList.drop a).take (b-a)).toArray:=by rw[<-h]
 calc s.extract a b=⟨(s.extract a b).data⟩:=rfl
  _=_:=by rw[h2]
theorem CH(c:UInt8)(s:ai)(i:Nat)(h:Lib.indexByte s.data.toList c=(i:Int)):iL c s=s.extract 0 i :: iL c (s.extract (i+1) s.size):=by
 obtain⟨e,hn⟩:=wh _ _ _ h;unfold iL
 conv=>lhs;rw[e,BX c _ _ hn,cA]
 rw[oA,oA,aG (l:=s.data.toList.drop (i+1)) aS];rfl
theorem AJ(c:UInt8)(s:ai)(h:¬0<=Lib.indexByte s.data.toList c):iL c s=[s]:=by
 have hn:c∉s.data.toList:=fun hc=>(FU _ _).1 h c hc rfl;unfold iL;rw[BZ c _ hn];rfl
theorem xH(s:ai)(c:UInt8):Lib.indexB s ⟨#[c]⟩=Lib.indexByte s.data.toList c:=by
 show Lib.index s.data.toList [c]=_;exact Lib.index_one _ _
theorem AK(c:UInt8):∀(k:Nat) (s:ai),Lib.countB s ⟨#[c]⟩=k->Lib.splitB ⟨#[c]⟩ 0 k s=iL c s
 |0,s,hk=>by
  rcases Lib.indexB_cases s ⟨#[c]⟩with v_|⟨i,v_,_⟩
  ·rw[Lib.splitB_zero,AJ c s (by rw[<-xH,v_];decide)]
  ·have:=Lib.countB_hit s ⟨#[c]⟩ i (az _) v_;omega
 |k+1,s,hk=>by
  rcases Lib.indexB_cases s ⟨#[c]⟩with v_|⟨i,v_,_⟩
  ·rw[Lib.countB_miss s ⟨#[c]⟩ v_]at hk;omega
  ·have hct:=Lib.countB_hit s ⟨#[c]⟩ i (az _) v_;rw[Lib.splitB_hit _ 0 k s i v_,CH c s i (by rw[<-xH];exact v_)];have e:Lib.splitB ⟨#[c]⟩ 0 k (s.extract (i+(⟨#[c]⟩:ai).size) s.size)=iL c (s.extract (i+1) s.size):=AK c k (s.extract (i+1) s.size) (by
    have:Lib.countB (s.extract (i+(⟨#[c]⟩:ai).size) s.size) ⟨#[c]⟩=k:=ab;exact this)
   rw[e];rfl
theorem LJ(s:ai)(c:UInt8):Lib.countB s ⟨#[c]⟩=Lib.countByte s.data.toList c:=by
 show Lib.count s.data.toList [c]=_;exact Lib.count_one _ _
theorem xI(s:ai)(c:UInt8)(w:World)(hs:s.size<4294967281) :
  aE 131 #[.string s,.string ⟨#[c]⟩] w fun e w'=>e=.returned (.slice (some ⟨w.heap.size,0,none⟩) (iL c s).length (iL c s).length)/\w'=w.alloc (.cells ((iL c s).map Value.string).toArray 9):=by
 have oP:(1:Nat)<=(⟨#[c]⟩:ai).size:=az _;have hle:=Lib.countB_le ⟨#[c]⟩ oP s.size s (az _);have hlen:=Lib.splitB_all ⟨#[c]⟩ oP 0 _ s rfl;have pX:Lib.splitB ⟨#[c]⟩ 0 (Lib.countB s ⟨#[c]⟩) s=iL c s:=AK c _ s rfl;have k:aE 185 #[.string s,.string ⟨#[c]⟩,.int .i64 (0:Nat),.int .i64 (-1)] w fun e w' =>
   e=.returned (.slice (some ⟨w.heap.size,0,none⟩) (Lib.splitB ⟨#[c]⟩ 0 (Lib.countB s ⟨#[c]⟩+1-1) s).length (Lib.countB s ⟨#[c]⟩+1))/\w'=w.alloc (.cells (Lib.cellsOf (Lib.splitB ⟨#[c]⟩ 0 (Lib.countB s ⟨#[c]⟩+1-1) s) (Lib.countB s ⟨#[c]⟩+1)) 9) :=
  Any.strings_genSplit_core Wp af s ⟨#[c]⟩ 0 (-1) (Lib.countB s ⟨#[c]⟩+1) w hs oP (aW _)
   (fun x cc _=>(Any.strings_Index_one Wk x c _).mono fun e w' ⟨he,hw⟩=>⟨by rw[he,xH],hw⟩)
   ((Any.strings_Count_one Wm s c w).mono fun e w' ⟨he,hw⟩=>⟨by rw[he,LJ],hw⟩)
   ag ag (by rw[aB ag];omega)
 rw[Nat.add_sub_cancel,hlen]at k;have e2:Lib.cellsOf (Lib.splitB ⟨#[c]⟩ 0 (Lib.countB s ⟨#[c]⟩) s) (Lib.countB s ⟨#[c]⟩+1)=((Lib.splitB ⟨#[c]⟩ 0 (Lib.countB s ⟨#[c]⟩) s).map Value.string).toArray:=by rw[<-hlen];exact Lib.cellsOf_full _
 rw[e2, <-hlen,pX]at k;go_enter func131,ntmps131;go_wp2_with fail
 refine k.mono ?_;rintro e w1⟨rfl,rfl⟩;go_wp2;go_ret;exact⟨rfl,rfl⟩
def within(path p:ai):Bool:=Lib.hasPrefix path.data.toList p.data.toList
theorem CK(path p:ai)(w:World) :
  aE 203 #[.string path,.string p] w fun e w'=>e=.returned (.bool (within path p))/\w=w':=by
 go_enter func203,ntmps203;go_wp2_with fail
 refine(strings_HasPrefix path p w).mono ?_;rintro e w'⟨rfl,rfl⟩;go_wp2;go_ret;exact⟨rfl,rfl⟩
def rp(path:ai)(ps:List ai)(n:Int):Int:=ps.foldl (fun n p=>if within path p then max n (p.size:Int)else n) n
def ud(g:gz)(gp:Bool)(ps:List ai)(o:gz)(proxy:Bool)(path:ai):Int:=if g.kM o&&gp==proxy then rp path ps (-1)else -1
theorem LR(path:ai)(ps:List ai)(p:ai)(n:Int):rp path (ps++[p]) n=if within path p then max (rp path ps n) (p.size:Int)else rp path ps n:=by simp[rp]
def Tc(path:ai)(ps:List ai)(n i:Value):Prop:=∃k:Nat,k<=ps.length/\i=.int .i64 k/\n=.int .i64 (rp path (ps.take k) (-1))
theorem Pz(g:aU Value)(o:gz)(proxy:Bool)(path:ai)(ps:List ai)(w:World)(hp:ig w g.paths ps) :
  aE 155 #[.agg g.cells.toArray,.agg o.cells.toArray,.bool proxy,.string path] w fun e w'=>e=.returned (.int .i64 (ud g.o g.proxy ps o proxy path))/\Fr aX w w':=by
 have hne:=Ay g.o o;unfold aU.cells gz.cells;obtain⟨av,cv,hv⟩:=hp.form;rw[hv]at hp ⊢;clear hv;cases e1:g.o.kM o
 ·have HR:=O (show ud g.o g.proxy ps o proxy path= -1 by unfold ud;rw[e1];rfl);go_enter func155,ntmps155;go_wp2;go_ret;exact⟨by rw[HR.o];rfl,((ae _ _).alloc _).alloc _⟩
 ·cases e2:g.proxy==proxy
  ·have HR:=O (show ud g.o g.proxy ps o proxy path= -1 by unfold ud;rw[e1,e2];rfl);have ZL:(g.proxy !=proxy)=true:=by rw[bne,e2];rfl
   go_enter func155,ntmps155;go_wp2;go_ret;exact⟨by rw[HR.o];rfl,((ae _ _).alloc _).alloc _⟩
  ·have HR:=O (show ud g.o g.proxy ps o proxy path=rp path ps (-1)by unfold ud;rw[e1,e2];rfl);have ZL:(g.proxy !=proxy)=false:=by rw[bne,e2];rfl
   go_enter func155,ntmps155;go_wp2;have hf:Fr aX w _:=((ae aX w).alloc (.cells #[.bool g.o.aD,.string g.o.host,.int .i64 g.o.port,.bool g.proxy,.string g.user,.string g.pass,.int .i64 g.a.scheme,.string g.a.aO,.string g.a.bC,.string g.a.cj,.bool g.a.cy,.string g.a.eZ,.bool g.a.dr,g.a.dom,.int .i64 g.count,.slice av ps.length cv] 133)).alloc (.cells #[.bool o.aD,.string o.host,.int .i64 o.port] 24)
   have EA:=hp.i_ hf;generalize (w.alloc _).alloc _=W at hf EA;clear hp hne e1 e2 ZL
   go_loop [9,26] (Tc path ps) (fun _ i=>ps.length-(intOf i).toNat)
   case atStart=>exact⟨0,aW _,rfl,rfl⟩
   case round =>
    obtain⟨k,hk,rfl,rfl⟩:=hrel;by_cases fE:k<ps.length
    ·rcases EA with ⟨_,_,_,e,_⟩|⟨bk,of,c,dw,h1,h2,h3,h4⟩
     ·rw[e]at fE;exact absurd fE (ct _)
     ·cases dw;unfold maxLen at h2;have dT:=O (List.getElem?_eq_getElem fE);have hc:=h4 k _ dT.o;generalize ps[k]=x at dT hc;have He:=O (show rp path (ps.take (k+1)) (-1)=if within path x then max (rp path (ps.take k) (-1)) (x.size:Int)else rp path (ps.take k) (-1)by rw[dU dT.o,LR]);clear h4;generalize rp path (ps.take k) (-1)=n at *
      cases hw:within path x
      ·have abF:=O (show rp path (ps.take (k+1)) (-1)=n by rw[He.o,hw];rfl);go_wp2_with fail
       refine(CK path x W).mono ?_;rintro e w1⟨rfl,rfl⟩;rw[hw];go_wp2
       go_round
       case rel=>exact⟨k+1,ab,bh,by rw[abF.o]⟩
       case measure=>simp[intOf];omega
      ·have abF:=O (show rp path (ps.take (k+1)) (-1)=max n (x.size:Int)by rw[He.o,hw];rfl);go_wp2_with fail
       refine(CK path x W).mono ?_;rintro e w1⟨rfl,rfl⟩;rw[hw];go_wp2
       go_round
       case rel=>exact⟨k+1,ab,bh,by rw[abF.o]⟩
       case measure=>simp[intOf];omega
    ·have fl:=O (show rp path (ps.take k) (-1)=rp path ps (-1)by rw[aG ab]);go_wp2;go_ret;exact⟨by rw[HR.o,fl.o];rfl,hf⟩
def hD(S:dB)(w:World)(g:Nat)(cap:bW)(p:a_->Bool)(xs:cX):Prop :=
 ∀x,x∈xs->∀u,Fr S w u->aE g (#[.agg x.toArray]++cap) u fun e u'=>e=.returned (.bool (p x))/\Fr aX u u'
theorem hD.none{S:dB}{cap:bW}{p:a_->Bool}{xs:cX}(h:hD S w g cap p xs):hD aX w g cap p xs :=
 fun x hx u hu=>h x hx u (hu.mono (fun _ _ h=>absurd h id))
theorem jt{P:Program}(w:World)(t e ty:TypeId)(zs:bW)(ht:P.underlying t=some (.slice e))(hv:∀w,(zeroValue e).run P w=.ok (.agg zs) w)(hs:0<zs.size)(h1:∀v∈zs.toList,v.oneCell'=true)(b o n c:Nat)(hn:0<n)
  (hc:w.there b o (n*zs.size)) :
  (Builtin.clear_ #[t] ty #[.slice (some ⟨b,o,none⟩) n c]).run P w=.ok (.tuple #[]) (w.setCells b o (Builtin.zeroCells zs n).toList):=by
 have hl:(Builtin.zeroCells zs n).toList.length=n*zs.size:=by simp[Builtin.zeroCells]
 have iQ:=run_storeCells_cells (P:=P) b o (Builtin.zeroCells zs n).toList 0 w (by rw[hl];intro j hj;exact(hc j hj).1) (by rw[hl];intro j hj;exact(hc j hj).2) (by
  intro v ua;rw[Builtin.zeroCells,Array.mem_toList_iff,Array.mem_map]at ua;obtain⟨i,_,rfl⟩:=ua;have hm:=Nat.mod_lt i hs;rw[getElem!_pos zs _ hm];exact h1 _ aS)
 simp only[Nat.add_zero]at iQ;obtain⟨m,rfl⟩:∃m,n=m+1:=⟨n-1,ab⟩;have La:(Value.agg zs).cells=zs:=rfl;simp[Builtin.clear_,run_underlying ht,hv,La,iQ]
def Dd:gz:=⟨true,⟨#[97,46,116,101,115,116]⟩,443⟩
theorem JW(w:World):aE 21 #[] w fun e w'=>e=.returned (.agg Dd.cells.toArray)/\Fr aX w w':=by
 go_enter func21,ntmps21;go_wp2;refine aR (bj bB _ _ w.heap.size 24 #[.bool true,.string ⟨#[97,46,116,101,115,116]⟩,.int .i64 443] (0,0) _ rfl (aC _ _) underlying24 rfl af) rfl ?_;exact⟨rfl,(ae _ _).alloc _⟩
open Go.ChangeShapes Go.WideShapes Go.ChangeAt Go.RowKit Go.Deep
section
variable {H : Type} {enc : TypeId × Value → H} {P : Program} {W : World}
theorem xj{e:TypeId}:∀ {l:List (DataW H)} {d:DataW H},d∈l->∀n∈d.weights P e,n∈DataW.weightsAll P e l
 |d' :: r,d,hd,n,hn=>by
  simp only[DataW.weightsAll,bO];rcases bE.1 hd with rfl|h
  ·exact Or.inl hn
  ·exact Or.inr (xj h n hn)
def oJ(P:Program)(t:TypeId)(d:DataW H):Prop:=∀n∈d.weights P t,n<=reachBytes
theorem pz{fs:Array Field}{x:DataW H×List MemPlace}(ht:P.underlying t=some (.struct fs))(h:DataW.trod enc P W 0 (fun _=>true) true fuel t cs=some x) :
  cs.length=P.cellsOf t/\∃n,∀(i:Nat) (t':TypeId) (o k:Nat),fs[i]?.map (fun f=>(f.type,f.offset))=some (t',o)->P.cellsOf t'=k->∃y,DataW.trod enc P W 0 (fun _=>true) true n t' ((cs.drop o).take k)=some y/\(oJ P t x.1->oJ P t' y.1):=by
 obtain⟨xs,n,_,rfl,hl,nZ,hf⟩:=DataW.trod_struct ht h;refine⟨hl,n,fun i t' o k he hk=>?_⟩;obtain⟨f,hi,e⟩:=Option.map_eq_some_iff.1 he;injection e with e1 e2
 subst e1 e2 hk;have tK:i<fs.size:=(Array.getElem?_eq_some_iff.1 hi).1;refine⟨xs[i],by rw[hf i f hi];exact List.getElem?_eq_getElem _,fun hL m hm=>hL m ?_⟩;simp only[DataW.weights,ht];refine DataW.weights_mem_each (j:=i) (t:=f.type) (d:=xs[i].1) ?_ ?_ m hm
 ·rw[List.getElem?_map,Array.getElem?_toList,hi];rfl
 ·rw[List.getElem?_map,List.getElem?_eq_getElem ab];rfl
theorem lF{x:DataW H×List MemPlace}(ht:P.underlying t=some .bool)(h:DataW.trod enc P W 0 (fun _=>true) true fuel t cs=some x):∃b,cs=[.bool b]:=by
 obtain⟨b,e,_⟩:=DataW.trod_bool ht h;exact⟨b,e⟩
theorem mB{k:IntKind}{x:DataW H×List MemPlace}(ht:P.underlying t=some (.int k))(h:DataW.trod enc P W 0 (fun _=>true) true fuel t cs=some x):∃n,cs=[.int k n]/\(Lit.int k n).wf=true:=by
 obtain⟨b,e,_,hw⟩:=DataW.trod_int ht h;exact⟨b,e,hw⟩
theorem fk{x:DataW H×List MemPlace}(ht:P.underlying t=some .string)(h:DataW.trod enc P W 0 (fun _=>true) true fuel t cs=some x) :
  ∃s:ai,cs=[.string s]/\(oJ P t x.1->s.size<=reachBytes):=by
 obtain⟨s,e,hx,_⟩:=DataW.trod_string ht h;refine⟨s,e,fun hL=>?_⟩;have:=hL s.data.toList.length (by rw[hx];simp[DataW.weights]);simpa using this
end
variable {H : Type} {enc : TypeId × Value → H} {W : World}
theorem uy:prog.cellsOf 4=1:=af
theorem tI:prog.cellsOf 3=1:=af
theorem iD:prog.cellsOf 9=1:=af
theorem Ao:prog.cellsOf 24=3:=af
def gz.KF(o:gz):Prop:=o.host.size<=reachBytes
theorem an1{α:Type}{l:List α}(h:l.length=3):∃a b c,l=[a,b,c]:=by
 match l,h with
 |[a,b,c],_=>exact⟨a,b,c,rfl⟩
theorem aim{α:Type}{l:List α}(h:l.length=2):∃a b,l=[a,b]:=by
 match l,h with
 |[a,b],_=>exact⟨a,b,rfl⟩
theorem KG{x:DataW H×List MemPlace}(h:DataW.trod enc prog W 0 (fun _=>true) true fuel 24 cs=some x) :
  ∃o:gz,cs=o.cells/\(Lit.int .i64 o.port).wf=true/\(oJ prog 24 x.1->o.KF):=by
 obtain⟨hl,n,hf⟩:=pz underlying24 h;rw[Ao]at hl;obtain⟨c0,c1,c2,rfl⟩:=an1 hl;obtain⟨y0,h0,l0⟩:=hf 0 4 0 _ rfl uy;obtain⟨y1,h1,l1⟩:=hf 1 9 1 _ rfl iD;obtain⟨y2,h2,l2⟩:=hf 2 3 2 _ rfl tI;simp only[List.drop,List.take]at h0 h1 h2;obtain⟨b0,e0⟩:=lF underlying4 h0;obtain⟨b1,e1,w1⟩:=fk underlying9 h1;obtain⟨b2,e2,w2⟩:=mB underlying3 h2;simp at e0 e1 e2;subst e0 e1 e2
 exact⟨⟨b0,b1,b2⟩,rfl,w2,fun hL=>w1 (l1 hL)⟩
theorem DB{P:Program}{ts:List TypeId}{ds:List (DataW H)}(xl:(DataW.weightsEach P ts ds).all (· <=reachBytes)=true){d:DataW H}(ht:ts[j]?=some t)(hd:ds[j]?=some d):oJ P t d:=fun n hn=>by
 have:=fY.1 xl n (DataW.weights_mem_each ht hd n hn);simpa using this
theorem ve{p:UInt8->Bool}{t:aK}(ht:∀c,t.head?=some c->p c=false):t.dropWhile p=t:=by
 cases t with
 |nil=>rfl
 |cons c t=>rw[List.dropWhile_cons_of_neg (by simp[ht c rfl])]
theorem jm.isOk(h:jm s w e w')(hl:gO s.data.toList=.ok ws)(hn:ws.length<=40) :
  ∃v,e=.returned (.tuple #[v,.nilIface])/\Strs w.heap.size w' v (dQ ws)/\Fr aX w w':=by
 obtain⟨v,er,he,hf,hm⟩:=h;rw[hl]at hm;have RZ:if 40<ws.length then v=.slice none 0 0/\Ei w' er (some (4,none))else Strs w.heap.size w' v (dQ ws)/\er=.nilIface:=hm
 rw[ay (show¬40<ws.length from ab)]at RZ;obtain⟨hv,hr⟩:=RZ;exact⟨v,by rw[he,hr],hv,hf⟩
theorem gS.isOk{a:aK}(h:gS b s i w e w')(hq:gD s.data.toList i=Option.some (a,j)) :
  e=.returned (.tuple #[.string ⟨a.toArray⟩,.bool true])/\dm w' b s j/\Fr (one b) w w':=by
 obtain⟨he,hc,hf⟩:=h;rw[hq]at he;have h1:nz s.data.toList i=a:=by simp[nz,hq]
 have h2:o_ s.data.toList i=j:=by simp[o_,hq]
 rw[h1]at he;rw[h2]at hc;exact⟨he,hc,hf⟩
theorem gS.isNone(h:gS b s i w e w')(hq:gD s.data.toList i=Option.none) :
  e=.returned (.tuple #[.string ⟨#[]⟩,.bool false])/\dm w' b s i/\Fr (one b) w w':=by
 obtain⟨he,hc,hf⟩:=h;rw[hq]at he;have h1:nz s.data.toList i=[]:=by simp[nz,hq]
 have h2:o_ s.data.toList i=i:=by simp[o_,hq]
 rw[h1]at he;rw[h2]at hc;exact⟨he,hc,hf⟩
