/- Lemmas for the law's walk. -/
import Derived.Test.YtjndhcngnghpiaaGreatDoorPo3
set_option maxRecDepth 100000
set_option maxHeartbeats 16000000
set_option linter.unusedSimpArgs false
namespace Go.Proofs.YtjndhcngnghpiaaGreatDoor
open Go.Proofs.Tryz
open Go.RowKit
variable {f k m g b i fuel j:Nat} {l:aH} {c:UInt8} {s:ai} {w w':World} {v:Value} {ws a:List (aH)} {r:Except Nat (List (aH))} {t:TypeId} {cs:aX} {e:Ending}
def EG(w:World)(v:Value):Option (Nat×Option Nat)->Prop
 |none=>v=.nilIface
 |some (n,none)=>v=.iface 82 (.int .i64 n)
 |some (n,some p)=>∃g,v=.iface 220 (.pointer (some ⟨g,0,none⟩))/\w.heap[g]?=some (.cells #[.int .i64 n,.int .i64 p] 222 (0,0))
def lF:Nat->aH->Except Nat (List (aH))
 |0,_=>.ok []
 |f+1,r =>
  let r1:=r.dropWhile dH
  let w:=r1.takeWhile fM
  let r3:=(r1.dropWhile fM).dropWhile dH
  let ws:=if w.isEmpty then []else [w]
  match r3 with
  |[]=>.ok ws
  |c :: r4=>if c==44 then(lF f r4).map (ws++ ·)else .error (r4.length+1)
def gP(l:aH):Except Nat (List (aH)):=lF (l.length+1) l
theorem ot(p:UInt8->Bool)(l:aH):l.dropWhile p=l.drop (l.takeWhile p).length:=by
 induction l with
 |nil=>rfl
 |cons a t ih=>by_cases h:p a<;>simp[h,ih]
theorem jP(p:UInt8->Bool)(l:aH)(i:Nat):l.drop (cJ p l i)=(l.drop i).dropWhile p:=by
 rw[ot,ep,cJ]
theorem yu(p:UInt8->Bool)(l:aH):l.takeWhile p=l.take (l.takeWhile p).length:=by
 induction l with
 |nil=>rfl
 |cons a t ih=>by_cases h:p a<;>simp[h];exact ih
theorem yv(p:UInt8->Bool)(s:ai)(i:Nat):(s.extract i (cJ p s.data.toList i))=⟨((s.data.toList.drop i).takeWhile p).toArray⟩:=by
 apply Go.WideShapes.bytes_inj;rw[Lib.extract_data,yu,List.take_drop];rw[cJ,List.drop_take];generalize (List.takeWhile p (List.drop i s.data.toList)).length=n;rw[show i+(i+n-i)-i=n from ab]
def dM(l:List (aH)):List ai:=l.map fun w=>⟨w.toArray⟩
def V2(l:aH)(k:Nat):Nat:=cJ dH l k
def Sm(l:aH)(k:Nat):Nat:=cJ fM l (V2 l k)
def uP(l:aH)(k:Nat):Nat:=cJ dH l (Sm l k)
def wZ(l:aH)(k:Nat):aH:=(l.drop (V2 l k)).takeWhile fM
def V3(l:aH)(k:Nat):List (aH):=if(wZ l k).isEmpty then []else [wZ l k]
theorem vo(f:Nat)(l:aH)(k:Nat):lF (f+1) (l.drop k) =
  match l.drop (uP l k)with
  |[]=>.ok (V3 l k)
  |c :: r4=>if c==44 then(lF f r4).map (V3 l k++ ·)else .error (r4.length+1):=by
 rw[lF];simp only[uP,Sm,V2,jP,V3,wZ]
theorem EH(h:l.length<=uP l k):lF (f+1) (l.drop k)=.ok (V3 l k):=by
 rw[vo,cL h]
theorem AO(h:l[uP l k]?=some 44):lF (f+1) (l.drop k)=(lF f (l.drop (uP l k+1))).map (V3 l k++ ·):=by
 rw[vo,drop_at h];rfl
theorem EI(h:l[uP l k]?=some c)(hc:(c==44)=false):lF (f+1) (l.drop k)=.error (l.length-uP l k):=by
 rw[vo,drop_at h];simp only[hc,cG,eR];have:=(List.getElem?_eq_some_iff.1 h).1;simp;omega
theorem WZ(l:aH)(k:Nat):k<=V2 l k/\V2 l k<=Sm l k/\Sm l k<=uP l k:=⟨ll,ll,ll⟩
theorem ae3(h:k<=l.length):V2 l k<=l.length/\Sm l k<=l.length/\uP l k<=l.length :=
 ⟨gS h,gS (gS h),gS (gS (gS h))⟩
theorem EJ(p:UInt8->Bool)(l:aH)(k:Nat):cJ p l (cJ p l k)=cJ p l k:=by
 unfold cJ;have h:(l.drop (k+((l.drop k).takeWhile p).length)).takeWhile p=[]:=by
  rw[<-ep, <-ot];cases hd:(l.drop k).dropWhile p with
  |nil=>rfl
  |cons a t =>
   have:=List.head_dropWhile_not p (l:=l.drop k) (by rw[hd];simp);simp only[hd,List.head_cons]at this;simp[this]
 rw[h];rfl
theorem IX(h:wZ l k=[]):Sm l k=V2 l k/\uP l k=V2 l k:=by
 have h1:Sm l k=V2 l k:=by unfold Sm cJ;rw[show(l.drop (V2 l k)).takeWhile fM=[]from h];rfl
 exact⟨h1,by unfold uP;rw[h1];exact EJ _ _ _⟩
theorem pj:∀(f:Nat) {r:aH},r.length<f->lF f r=lF (r.length+1) r
 |0,_,h=>absurd h (cq _)
 |f+1,r,h=>by
  have key:∀(c:UInt8) (r4:aH),((r.dropWhile dH).dropWhile fM).dropWhile dH=c :: r4->r4.length<r.length:=by
   intro c r4 e;have h1:=((iK (p:=dH) (l:=(r.dropWhile dH).dropWhile fM))).length_le;have h2:=((iK (p:=fM) (l:=r.dropWhile dH))).length_le;have h3:=((iK (p:=dH) (l:=r))).length_le;rw[e]at h1;simp at h1;omega
  rw[lF,lF];cases e:((r.dropWhile dH).dropWhile fM).dropWhile dH with
  |nil=>rfl
  |cons c r4 =>
   have hk:=key c r4 e;simp only;rw[pj f (show r4.length<f from ab),pj r.length hk]
def jg(s:ai)(w:World)(e:Ending)(w':World):Prop :=
 ∃v er,e=.returned (.tuple #[v,er])/\Fr aW w w' /\
  match gP s.data.toList with
  | .ok ws=>if 40<ws.length then v=.slice none 0 0/\EG w' er (some (4,none))else Strs w.heap.size w' v (dM ws)/\er=.nilIface
  | .error m=>v=.slice none 0 0/\EG w' er (some (3,some (s.size-m)))
theorem jg.ok(h:gP s.data.toList=.ok ws)(hn:ws.length<=40)(hv:Strs w.heap.size w' v (dM ws))(hf:Fr aW w w') :
  jg s w (.returned (.tuple #[v,.nilIface])) w':=⟨v,_,rfl,hf,by rw[h];show(if 40<ws.length then _ else _);rw[ar (show¬40<ws.length from ab)];exact⟨hv,rfl⟩⟩
theorem jg.long(h:gP s.data.toList=.ok ws)(hn:40<ws.length)(hf:Fr aW w w') :
  jg s w (.returned (.tuple #[.slice none 0 0,.iface 82 (.int .i64 4)])) w':=⟨_,_,rfl,hf,by rw[h];show(if 40<ws.length then _ else _);rw[aA hn];exact⟨rfl,rfl⟩⟩
theorem jg.bad(h:gP s.data.toList=.error m)(hg:w'.heap[g]?=some (.cells #[.int .i64 3,.int .i64 (s.size-m:Nat)] 222 (0,0)))(hf:Fr aW w w') :
  jg s w (.returned (.tuple #[.slice none 0 0,.iface 220 (.pointer (some ⟨g,0,none⟩))])) w':=⟨_,_,rfl,hf,by rw[h];exact⟨rfl,g,rfl,hg⟩⟩
def akM(s:ai)(w:World)(v:Value)(wr:World):Prop :=
 ∃k acc,k<=s.size/\acc.length<=k/\dk wr w.heap.size s k/\Strs (w.heap.size+1) wr v (dM acc)/\Fr aW w wr /\
  gP s.data.toList=(lF (s.size-k+1) (s.data.toList.drop k)).map (acc++ ·)
theorem Fr.xz{wr w1:World}{c:Nat}(h:Fr aW w wr)(g:Fr (one c) wr w1)(hc:w.heap.size<=c):Fr aW w w1:=h.step g (fun k hk e=>by have e':k=c:=e;omega)
theorem IY(a:List (aH))(x:aH):dM (a++[x])=dM a++[⟨x.toArray⟩]:=by simp[dM]
theorem pk(a:List (aH)):(dM a).length=a.length:=by simp[dM]
theorem N3(h:wZ l k≠ []):V3 l k=[wZ l k]:=by unfold V3;rw[ar (by simpa using h)]
theorem IZ(h:wZ l k=[]):V3 l k=[]:=by unfold V3;rw[h];rfl
theorem Sn{b:List (aH)}(h:r=.ok b):r.map (a++ ·)=.ok (a++b):=by rw[h];rfl
theorem EK(h:r=.error m):r.map (a++ ·)=.error m:=by rw[h];rfl
theorem map_map{b:List (aH)}(r:Except Nat (List (aH))):(r.map (b++ ·)).map (a++ ·)=r.map ((a++b)++ ·):=by cases r<;>simp[Except.map]
theorem xA{b':Nat}{ss:List ai}(h:Strs b' w v ss)(hb:b<=b'):Strs b w v ss:=by
 obtain⟨h1,h2⟩:=h;refine⟨h1,?_⟩;rcases h2 with h2|⟨g,cap,cur,hv,hg,r⟩
 ·exact Or.inl h2
 ·exact Or.inr ⟨g,cap,cur,hv,aE hb hg,r⟩
theorem I2(s:ai)(w:World)(hs:s.size<4398046511104) :
  aC 175 #[.string s] w (jg s w):=by
 have hm:s.size<=maxLen:=fl;go_enter func175,ntmps175;go_wp2_with (go_at_call 117;refine(Sd _ _).mono ?_;rintro e w1 ⟨rfl,rfl⟩)
 go_loopw[4] (akM s w) (fun _ wr=>s.size-pg wr w.heap.size)
 case atStart=>exact⟨0,[],aS _,ay _,aB _ _,kD _ _,(ae _ _).alloc _,by rw[eC];cases h:lF (s.size-0+1) s.data.toList<;>simp[gP,Except.map]<;>simpa using h⟩
 case round =>
  obtain⟨k,acc,hk,ae4,hc,cO,cN,uO⟩:=hrel;have gu:=O uO;clear uO;have il:w.heap.size+1<=wr.heap.size:=hc.lt;have ae5:=WZ s.data.toList k;have hle:=ae3 (l:=s.data.toList) (k:=k) (by simpa using hk);have xx:s.data.toList.length=s.size:=aQ;rw[xx]at hle;obtain⟨m1,m2,m3⟩:=ae5;obtain⟨q1,q2,q3⟩:=hle;have pM:=O hc.pos;obtain⟨pn,Ch⟩:∃x,x=acc++V3 s.data.toList k:=⟨_,rfl⟩;have Ef:=O Ch;clear Ch;go_wp2_with fail
  refine(mf _ s k wr hc hm hk).mono ?_;rintro e w1⟨rfl,pJ,dn⟩;have lB:=cN.xz dn (ay _);have qY:=cO.fr dn (fun k hk=>by have e:k=w.heap.size:=hk;omega);have Bp:w.heap.size+1<=w1.heap.size:=pJ.lt;go_wp2_with fail
  refine(vn _ s _ w1 pJ hm q1).mono ?_;rintro e w2⟨rfl,sW,dD⟩;have fS:=lB.xz dD (ay _);have fu:=qY.fr dD (fun k hk=>by have e:k=w.heap.size:=hk;omega);have Ci:w.heap.size+1<=w2.heap.size:=sW.lt;have W7:dk w2 w.heap.size s (Sm s.data.toList k):=sW;rw[yv];have hW:((s.data.toList.drop (cJ dH s.data.toList k)).takeWhile fM)=wZ s.data.toList k:=rfl;rw[hW];clear hW sW pJ dn dD
  generalize ZA:wZ s.data.toList k=W;have HW:=O ZA;clear ZA;cases W with
  |nil =>
   have hem:=O (IX HW.o);have tP:dk w2 w.heap.size s (uP s.data.toList k):=by have h:=W7;rw[hem.o.1, <-hem.o.2]at h;exact h
   have Cj:Strs (w.heap.size+1) w2 u4 (dM pn):=by rw[Ef.o,IZ HW.o,dI];exact fu
   clear W7 fu qY cO;have hlen:pn.length<=k+1:=by have e:=Ef.o;rw[IZ HW.o,dI]at e;rw[e];omega
   obtain⟨av,cv,hv⟩:=Cj.form;subst hv;go_wp2_with fail
   by_cases zZ:s.size<=uP s.data.toList k
   ·have eX:=O (show gP s.data.toList=.ok pn by rw[gu.o,Sn (EH (by simpa using zZ)),Ef.o]);have hd:decide (s.size<=uP s.data.toList k)=true:=by simpa using zZ
    refine(wj _ s _ w2 tP).mono ?_;rintro e w4⟨rfl,n4,rfl⟩;rw[hd];by_cases Gi:40<(dM pn).length
    ·have aba:((40:Int)<((dM pn).length:Int)):=ab;go_wp2;go_ret2;exact jg.long eX.o (by rw[pk]at Gi;exact Gi) (fS.drewN _)
    ·have aba:¬((40:Int)<((dM pn).length:Int)):=ab;go_wp2;go_ret2;exact jg.ok eX.o (by rw[pk]at Gi;omega) (xA Cj (bT _)) (fS.drewN _)
   ·have hd:decide (s.size<=uP s.data.toList k)=false:=by simpa using zZ
    refine(wj _ s _ w2 tP).mono ?_;rintro e w4⟨rfl,n4,rfl⟩;rw[hd];have tM:dk (w2.drewN n4) w.heap.size s (uP s.data.toList k):=tP;have V4:Strs (w.heap.size+1) (w2.drewN n4) _ (dM pn):=Cj;have jH:=fS.drewN n4;go_wp2_with fail
    refine(pL _ s _ 44 _ tM hm).mono ?_;rintro e w5⟨rfl,tN,lC⟩;have w_:=jH.xz lC (ay _);have hv5:=V4.fr lC (fun k hk=>by have e:k=w.heap.size:=hk;omega);have tL:uP s.data.toList k<s.data.toList.length:=by simpa using zZ
    have dL:=O (List.getElem?_eq_getElem tL);cases e1:jU s (uP s.data.toList k) 44
    ·have eX:=O (show gP s.data.toList=.error (s.data.toList.length-uP s.data.toList k)by
      rw[gu.o,EK (EI dL.o (by have h:=e1;unfold jU at h;rw[dL.o]at h;simpa using h))])
     rw[pd e1]at tN;have c1:=tN.gV;have D7:=O (show s.size-(s.data.toList.length-uP s.data.toList k)=uP s.data.toList k by rw[xx]at tL ⊢; omega);go_wp2
     go_region
     all_goals
      go_wp2;go_ret2;exact jg.bad eX.o (by rw[D7.o];exact aB w5 _) ((w_.alloc _).drew)
    ·have eX:=O (show gP s.data.toList=(lF (s.size-(uP s.data.toList k+1)+1) (s.data.toList.drop (uP s.data.toList k+1))).map (pn++ ·)by
      rw[gu.o,Ef.o,AO (by have h:=e1;unfold jU at h;simpa using h),map_map];rw[pj (f:=s.size-k) bF,pj (f:=s.size-(uP s.data.toList k+1)+1) aQ])
     rw[o_ e1]at tN;go_wp2;go_roundw
     case rel=>exact⟨_,pn,ab,ab,tN,hv5,w_,eX.o⟩
     case measure=>rw[pM.o,tN.pos];omega
  |cons x W' =>
   have hne:wZ s.data.toList k≠ []:=by rw[HW.o];simp
   have BP:=O hne;clear hne;have Ck:=O (show dM pn=dM acc++[⟨(x :: W').toArray⟩]by rw[Ef.o,N3 BP.o,HW.o,IY]);have hlen:pn.length<=k+1:=by have e:=Ef.o;rw[N3 BP.o]at e;rw[e];simp;omega
   obtain⟨av,cv,hv⟩:=fu.form;subst hv;have hlA:acc.length<4398046511104:=ab;have D8:=O (pk acc);clear qY cO;go_wp2_with (at_builtin;refine nF rfl _ _ rfl (w.heap.size+1) (.slice av _ cv) (dM acc) rfl (by apply im;exact fu) ⟨w2.heap.size,0,none⟩ 1 ⟨(x :: W').toArray⟩ rfl (je _ _ _ _) (by rw[D8.o];exact hlA) bF ?_;intro v' w3 fk BQ)
   have abb:dk w3 w.heap.size s (Sm s.data.toList k):=by
    have h2:dk (w2.alloc (.cells #[.string ⟨(x :: W').toArray⟩] 9)) w.heap.size s (Sm s.data.toList k):=W7.alloc;unfold dk at h2 ⊢;rw[BQ.block _ (bg h2) (fun e=>by have:=fu.block _ e.symm;omega)];exact h2
   have ij:=(fS.alloc (.cells #[.string ⟨(x :: W').toArray⟩] 9)).fH BQ (fun k hk=>by have:=fu.block k hk;omega);rw[<-Ck.o]at fk;clear fu BQ W7;have Sp:w.heap.size+1<=w3.heap.size:=abb.lt;go_wp2_with fail
   refine(mf _ s _ w3 abb hm q2).mono ?_;rintro e w6⟨rfl,tP,nw⟩;have tP:dk w6 w.heap.size s (uP s.data.toList k):=tP;have yj:=ij.xz nw (ay _);have Cj:=fk.fr nw (fun k hk=>by have e:k=w.heap.size:=hk;omega);clear fk nw abb;have hs6:w.heap.size+1<=w6.heap.size:=tP.lt;obtain⟨av3,cv3,hv⟩:=Cj.form;subst hv;go_wp2_with fail
   by_cases zZ:s.size<=uP s.data.toList k
   ·have eX:=O (show gP s.data.toList=.ok pn by rw[gu.o,Sn (EH (by simpa using zZ)),Ef.o]);have hd:decide (s.size<=uP s.data.toList k)=true:=by simpa using zZ
    refine(wj _ s _ w6 tP).mono ?_;rintro e w4⟨rfl,n4,rfl⟩;rw[hd];by_cases Gi:40<(dM pn).length
    ·have aba:((40:Int)<((dM pn).length:Int)):=ab;go_wp2;go_ret2;exact jg.long eX.o (by rw[pk]at Gi;exact Gi) (yj.drewN _)
    ·have aba:¬((40:Int)<((dM pn).length:Int)):=ab;go_wp2;go_ret2;exact jg.ok eX.o (by rw[pk]at Gi;omega) (xA Cj (bT _)) (yj.drewN _)
   ·have hd:decide (s.size<=uP s.data.toList k)=false:=by simpa using zZ
    refine(wj _ s _ w6 tP).mono ?_;rintro e w4⟨rfl,n4,rfl⟩;rw[hd];have tM:dk (w6.drewN n4) w.heap.size s (uP s.data.toList k):=tP;have V4:Strs (w.heap.size+1) (w6.drewN n4) _ (dM pn):=Cj;have jH:=yj.drewN n4;go_wp2_with fail
    refine(pL _ s _ 44 _ tM hm).mono ?_;rintro e w5⟨rfl,tN,lC⟩;have w_:=jH.xz lC (ay _);have hv5:=V4.fr lC (fun k hk=>by have e:k=w.heap.size:=hk;omega);have tL:uP s.data.toList k<s.data.toList.length:=by simpa using zZ
    have dL:=O (List.getElem?_eq_getElem tL);cases e1:jU s (uP s.data.toList k) 44
    ·have eX:=O (show gP s.data.toList=.error (s.data.toList.length-uP s.data.toList k)by
      rw[gu.o,EK (EI dL.o (by have h:=e1;unfold jU at h;rw[dL.o]at h;simpa using h))])
     rw[pd e1]at tN;have c1:=tN.gV;have D7:=O (show s.size-(s.data.toList.length-uP s.data.toList k)=uP s.data.toList k by rw[xx]at tL ⊢; omega);go_wp2
     go_region
     all_goals
      go_wp2;go_ret2;exact jg.bad eX.o (by rw[D7.o];exact aB w5 _) ((w_.alloc _).drew)
    ·have eX:=O (show gP s.data.toList=(lF (s.size-(uP s.data.toList k+1)+1) (s.data.toList.drop (uP s.data.toList k+1))).map (pn++ ·)by
      rw[gu.o,Ef.o,AO (by have h:=e1;unfold jU at h;simpa using h),map_map];rw[pj (f:=s.size-k) bF,pj (f:=s.size-(uP s.data.toList k+1)+1) aQ])
     rw[o_ e1]at tN;go_wp2;go_roundw
     case rel=>exact⟨_,pn,ab,ab,tN,hv5,w_,eX.o⟩
     case measure=>rw[pM.o,tN.pos];omega
theorem Gj:∀(f:Nat) (r a z:aH),r.length<=f->ve r=some (a,z)->a.length+z.length+1<=r.length
 |0,r,a,z,hf,h=>by
  have:r=[]:=bZ ab;subst this;rw[ve.eq_def]at h;simp at h
 |f+1,[],a,z,hf,h=>by rw[ve.eq_def]at h;simp at h
 |f+1,x :: r,a,z,hf,h=>by
  rw[ve.eq_def]at h;simp only at h;by_cases h1:(x==34)=true
  ·rw[aA h1]at h;cases h;simp
  ·rw[ar h1]at h;by_cases h2:(x==92)=true
   ·rw[aA h2]at h;cases r with
    |nil=>simp at h
    |cons y r' =>
     simp only at h;by_cases h3:ng y=true
     ·rw[aA h3]at h;cases hq:ve r' with
      |none=>rw[hq]at h;simp at h
      |some p =>
       rw[hq]at h;simp at h;obtain⟨rfl,rfl⟩:=h;have:=Gj f r' p.1 p.2 (by simp at hf;omega) hq;simp;omega
     ·rw[ar h3]at h;simp at h
   ·rw[ar h2]at h;by_cases h3:ng x=true
    ·rw[aA h3]at h;cases hq:ve r with
     |none=>rw[hq]at h;simp at h
     |some p =>
      rw[hq]at h;simp at h;obtain⟨rfl,rfl⟩:=h;have:=Gj f r p.1 p.2 (by simp at hf;omega) hq;simp;omega
    ·rw[ar h3]at h;simp at h
def Sq(k:Int)(n:Nat):Nat:=(max 0 (min k n)).toNat
theorem xB(b:Nat)(s:ai)(i:Nat)(k:Int)(w:World)(h:dk w b s i)(hs:s.size<=maxLen) :
  aC 212 #[.pointer (some ⟨b,0,none⟩),.int .i64 k] w fun e w'=>e=.returned (.tuple #[])/\dk w' b s (Sq k s.size)/\Fr (one b) w w':=by
 have h0:=h.cell0;have h1:=h.gV;have hf:=h.free 1;unfold maxLen at hs;go_enter func212,ntmps212;go_wp2;go_end0;rw[show max 0 (min k (s.size:Int))=((Sq k s.size:Nat):Int)from by unfold Sq;omega];exact⟨rfl,h.setCell,l_ w b _ 0⟩
def Gk(l:aH):Bool:=zY l||nQ l
def ir:List ai:=[⟨#[68,69,76,69,84,69]⟩,⟨#[71,69,84]⟩,⟨#[72,69,65,68]⟩,⟨#[79,80,84,73,79,78,83]⟩,⟨#[80,79,83,84]⟩,⟨#[80,85,84]⟩]
def ni:List ai->ai->ai
 |[],s=>s
 |m :: l,s=>if dG s.data.toList m.data.toList then m else ni l s
def ju(s:ai):ai:=ni ir s
def qB(s:ai):Bool:=s.toList== [71,69,84]||s.toList== [72,69,65,68]||s.toList== [80,79,83,84]
theorem yC:∀(l:List ai) (s:ai),(ni l s∈l/\dG s.data.toList (ni l s).data.toList=true)\/ni l s=s
 |[],s=>.inr rfl
 |m :: l,s=>by
  unfold ni;by_cases h:dG s.data.toList m.data.toList=true
  ·rw[aA h];exact .inl ⟨cR .., h⟩
  ·rw[ar h];rcases yC l s with ⟨h1,h2⟩|h1
   ·exact .inl ⟨bO _ h1,h2⟩
   ·exact .inr h1
theorem LO(s:ai)(w:World) :
  aC 126 #[.string s] w fun e w'=>e=.returned (.bool (qB s))/\w=w':=by
 by_cases h1:s.toList=[71,69,84]
 ·have hb:=O (show qB s=true by unfold qB;rw[h1];rfl);go_enter func126,ntmps126;go_wp2;go_ret;exact⟨ft hb.o.symm,rfl⟩
 ·by_cases h2:s.toList=[72,69,65,68]
  ·have hb:=O (show qB s=true by unfold qB;rw[h2];rfl);go_enter func126,ntmps126;go_wp2;go_ret;exact⟨ft hb.o.symm,rfl⟩
  ·have hb:=O (show qB s=(s.toList== [71,69,84]||s.toList== [72,69,65,68]||s.toList== [80,79,83,84])from rfl);go_enter func126,ntmps126;go_wp2;go_ret;exact⟨ft hb.o.symm,rfl⟩
def ae8(s:ai)(w:World)(i:Value)(wr:World):Prop:=∃k:Nat,k<=6/\i=.int .i64 k/\ju s=ni (ir.drop k) s/\Fr aW w wr
theorem xE(s:ai)(w:World)(hs:s.size<100000) :
  aC 73 #[.string s] w fun e w'=>e=.returned (.string (ju s))/\Fr aW w w':=by
 have HC:=O (show∀U,Fr aW (w.alloc (.cells (ir.map Value.string).toArray 9)) U->∀(k:Nat) x,ir[k]?=some x->U.cell? ⟨w.heap.size,k,none⟩=some (.string x)from fun U hU k x hx=>by
  have h:=hU.keep (aB w (.cells (ir.map Value.string).toArray 9)) id;have e:(ir.map Value.string)[k]?=some (.string x):=by rw[List.getElem?_map,hx];rfl
  simp only[World.cell?,h];simpa using e)
 have j6:Fr aW w (w.alloc (.cells (ir.map Value.string).toArray 9)):=(ae aW w).alloc _;have lZ:=O j6;obtain⟨wb,jJ⟩:∃wb,wb=w.alloc (.cells (ir.map Value.string).toArray 9):=⟨_,rfl⟩;rw[<-jJ]at HC lZ
 have qC:=O (show wb=w.alloc (.cells #[.string ⟨#[68,69,76,69,84,69]⟩,.string ⟨#[71,69,84]⟩,.string ⟨#[72,69,65,68]⟩,.string ⟨#[79,80,84,73,79,78,83]⟩,.string ⟨#[80,79,83,84]⟩,.string ⟨#[80,85,84]⟩] 9)from jJ);clear jJ j6;go_enter func73,ntmps73;go_wp2;rw[<-qC.o];go_loopw[7] (ae8 s wb) (fun i _=>6-(intOf i).toNat)
 case atStart=>exact⟨0,ab,rfl,rfl,ae _ _⟩
 case round =>
  obtain⟨k,hk,rfl,hm,cN⟩:=hrel;by_cases hk6:k<6
  ·have qp:(k:Int)<6:=ab;obtain⟨m,N9⟩:∃m,ir[k]?=some m:=⟨_,List.getElem?_eq_getElem (by show k<6;exact hk6)⟩;have hcell:=HC.o wr cN k m N9;have hmz:m.size<=10:=(show∀x∈ir,x.size<=10 from ag) m (cA N9);have HD:=O (show ju s=if dG s.data.toList m.data.toList then m else ni (ir.drop (k+1)) s by
    rw[hm,cM (show k<ir.length from hk6)];have e:ir[k]'(show k<ir.length from hk6)=m:=by rw[List.getElem?_eq_getElem (show k<ir.length from hk6)]at N9;exact jK N9
    rw[e];rfl)
   clear hm N9;have HSA:=O (ma s m wr ab ab);go_wp2_with fail
   refine HSA.o.mono ?_;rintro e w5⟨rfl,lC⟩;clear HSA;cases nv:dG s.data.toList m.data.toList
   ·have HD2:=O (show ju s=ni (ir.drop (k+1)) s by rw[HD.o,nv];rfl);clear nv;go_wp2;go_roundw
    case rel=>exact⟨k+1,ab,bf,HD2.o,cN.trans lC⟩
    case measure=>simp[intOf];omega
   ·have HD2:=O (show ju s=m by rw[HD.o,nv];rfl);clear nv;go_wp2;go_ret;exact⟨by rw[HD2.o];rfl,lZ.o.trans (cN.trans lC)⟩
  ·have qp:¬(k:Int)<6:=ab;have HD2:=O (show ju s=s by rw[hm,cL (by show 6<=k;omega)];rfl);clear hm;go_wp2;go_ret;exact⟨by rw[HD2.o];rfl,lZ.o.trans cN⟩
def CS:List Int:=[3614090360,3905402710,606105819,3250441966,4118548399,1200080426,2821735955,4249261313,1770035416,2336552879,4294925233,2304563134,1804603682,4254626195,2792965006,1236535329,4129170786,3225465664,643717713,3921069994,3593408605,38016083,3634488961,3889429448,568446438,3275163606,4107603335,1163531501,2850285829,4243563512,1735328473,2368359562,4294588738,2272392833,1839030562,4259657740,2763975236,1272893353,4139469664,3200236656,681279174,3936430074,3572445317,76029189,3654602809,3873151461,530742520,3299628645,4096336452,1126891415,2878612391,4237533241,1700485571,2399980690,4293915773,2240044497,1873313359,4264355552,2734768916,1309151649,4149444226,3174756917,718787259,3951481745]
def oB:List Nat:=[7,12,17,22,5,9,14,20,4,11,16,23,6,10,15,21]
def oC(w:World)(g:Nat)(k:IntKind)(zs:List Int):Prop:=g<w.heap.size/\∀(i:Nat) z,zs[i]?=some z->w.cell? ⟨g,i,none⟩=some (.int k z)
theorem oC.fr{k:IntKind}{zs:List Int}(h:oC w g k zs)(hf:Fr aW w w'):oC w' g k zs :=
 ⟨cK h.1 hf.size,fun i z hz=>(hf.cell (p:=⟨g,i,none⟩) h.1 id).trans (h.2 i z hz)⟩
structure tZ (w:World):Prop where
 s:oC w 3 .u32 CS
 t:oC w 4 .i64 (oB.map Int.ofNat)
theorem tZ.fr(h:tZ w)(hf:Fr aW w w'):tZ w':=⟨h.s.fr hf,h.t.fr hf⟩
structure Md where
 a:Int
 b:Int
 c:Int
 d:Int
def Md.ok(s:Md):Prop:=(0<=s.a/\s.a<4294967296)/\(0<=s.b/\s.b<4294967296)/\(0<=s.c/\s.c<4294967296)/\(0<=s.d/\s.d<4294967296)
def L'(x:Int):Int:=bits .xor .u32 IntKind.u32.max x
def mdF(r:Nat)(b c d:Int):Int:=match r with
 |0=>bits .or .u32 (bits .and .u32 b c) (bits .and .u32 (L' b) d)
 |1=>bits .or .u32 (bits .and .u32 d b) (bits .and .u32 (L' d) c)
 |2=>bits .xor .u32 (bits .xor .u32 b c) d
 |_=>bits .xor .u32 c (bits .or .u32 b (L' d))
def XD(r k:Nat):Nat:=match r with
 |0=>k
 |1=>(5*k+1)%16
 |2=>(3*k+5)%16
 |_=>7*k%16
def rk(X:aH)(k:Nat)(s:Md):Md :=
 ⟨s.d,(s.b+lN ((mdF (k/16) s.b s.c s.d+(s.a+CS.getD k 0+qt true (X.drop (4*XD (k/16) k))))%4294967296) (oB.getD (k/16*4+k%4) 0))%4294967296,s.b,s.c⟩
def kG(X:aH)(h:Md):Nat->Md
 |0=>h
 |k+1=>rk X k (kG X h k)
def B4(X:aH)(h:Md):Md :=
 ⟨(h.a+(kG X h 64).a)%4294967296,(h.b+(kG X h 64).b)%4294967296,(h.c+(kG X h 64).c)%4294967296,(h.d+(kG X h 64).d)%4294967296⟩
def md0:Md:=⟨1732584193,4023233417,2562383102,271733878⟩
def xP(T:aH):Nat->Md
 |0=>md0
 |k+1=>B4 (T.drop (64*k)) (xP T k)
def Md.list(s:Md):List Int:=[s.a,s.b,s.c,s.d]
def JB(l:aH):aH:=oA true (xP (uR true l) ((uR true l).length/64)).list
theorem Af(x:Int):0<=x%4294967296/\x%4294967296<4294967296:=⟨Int.emod_nonneg _ ag,Int.emod_lt_of_pos _ ag⟩
theorem PM{X:aH}{s:Md}(h:s.ok):(rk X k s).ok:=⟨h.2.2.2,Af _,h.2.1,h.2.2.1⟩
theorem CT{X:aH}{h:Md}(ho:h.ok):∀k,(kG X h k).ok
 |0=>ho
 |k+1=>PM (CT ho k)
theorem Ma(X:aH)(h:Md):(B4 X h).ok:=⟨Af _,Af _,Af _,Af _⟩
theorem abC:md0.ok:=by unfold Md.ok md0;decide
theorem Ou(T:aH):∀k,(xP T k).ok
 |0=>abC
 |_+1=>Ma _ _
theorem yQ:∀i:Fin 16,bits .and .u64 ((oB.getD i.val 0:Nat):Int) 31=((oB.getD i.val 0:Nat):Int)/\oB.getD i.val 0<32:=dp
theorem JC(dK:Bool)(l:aH):(uR dK l).length%64=0/\(uR dK l).length<=l.length+128:=by
 unfold uR;simp only[aM,fb,nj,List.length_cons,List.length_nil];omega
theorem kj(T:ai)(i:Nat):(T.extract i T.size).data.toList=T.data.toList.drop i:=by
 rw[Lib.extract_data,aD aQ]
theorem jm(T:ai)(i:Nat):(T.extract i T.size).size=T.size-i:=by
 have h:(T.extract i T.size).data.toList.length=(T.extract i T.size).size:=rfl;rw[<-h,kj,bH];simp
theorem Ov(T:ai)(i j:Nat):(T.extract i T.size).extract j (T.extract i T.size).size=T.extract (i+j) T.size:=by
 apply Go.WideShapes.bytes_inj;rw[kj,kj,kj,ep]
theorem tB{cur:bS}{f:Nat×Nat}(h:w.heap[b]?=some (.cells cur t f))(o:Nat)(v:Value):(w.setCell ⟨b,o,none⟩ v).heap[b]?=some (.cells (cur.setIfInBounds o v) t f):=by
 simp[World.setCell,Array.getElem?_modify,h]
def sM(w:World)(g:Nat)(h:Md):Prop:=w.heap[g]?=some (.cells #[.int .u32 h.a,.int .u32 h.b,.int .u32 h.c,.int .u32 h.d] 300 (0,0))
def afv(T:ai)(g:Nat)(w:World)(t:Value)(wr:World):Prop:=∃k:Nat,64*k<=T.size/\t=.string (T.extract (64*k) T.size)/\sM wr g (xP T.data.toList k)/\Fr aW w wr
def ak'(X:aH)(h:Md)(g:Nat)(w:World)(a b c d i:Value)(wr:World):Prop :=
 ∃k:Nat,k<=64/\i=.int .i64 k/\a=.int .u32 (kG X h k).a/\b=.int .u32 (kG X h k).b/\c=.int .u32 (kG X h k).c/\d=.int .u32 (kG X h k).d/\sM wr g h/\Fr aW w wr
theorem XE(s:ai)(w:World)(hs:s.size<4398046511104)(ht:tZ w) :
  aC 208 #[.string s] w fun e w'=>e=.returned (.string ⟨(JB s.data.toList).toArray⟩)/\Fr aW w w':=by
 have iv:Fr aW w (w.alloc (.cells #[.int .u32 1732584193,.int .u32 4023233417,.int .u32 2562383102,.int .u32 271733878] 300)):=(ae aW w).alloc _;have W_:sM (w.alloc (.cells #[.int .u32 1732584193,.int .u32 4023233417,.int .u32 2562383102,.int .u32 271733878] 300)) w.heap.size md0:=aB _ _;have HM0:=O W_;clear W_;go_enter func208,ntmps208;go_wp2_with fail
 refine(Ot s true _ ab).mono ?_;rintro e w1⟨rfl,dn⟩;obtain⟨T,hT⟩:∃T,T=(⟨(uR true s.data.toList).toArray⟩:ai):=⟨_,rfl⟩;rw[<-hT];have ZZ:T.data.toList=uR true s.data.toList:=by rw[hT]
 have hTs:T.size=(uR true s.data.toList).length:=by rw[<-ZZ];simp
 obtain⟨abE,Ta⟩:=JC true s.data.toList;rw[<-hTs]at abE Ta;have Tb:s.data.toList.length=s.size:=aQ;rw[Tb]at Ta;have CU:=O (show JB s.data.toList=oA true (xP T.data.toList (T.size/64)).list by unfold JB;rw[ZZ,hTs]);have HM1:=O (show sM w1 w.heap.size md0 from dn.keep HM0.o id);have lB:=O (iv.trans dn);clear hT ZZ hTs HM0 iv dn Tb;go_wp2
 go_loopw[4] (afv T w.heap.size w) (fun t _=>match t with| .string x=>x.size|_=>0)
 case atStart=>exact⟨0,ab,by rw[Nat.mul_zero];congr 1;apply Go.WideShapes.bytes_inj;rw[kj];rfl,HM1.o,lB.o⟩
 case round =>
  obtain⟨n,hn,rfl,hm,cN⟩:=hrel;by_cases hne:64*n<T.size
  ·have Tc:64<=(T.extract (64*n) T.size).size:=by rw[jm];omega
   have alb:(T.extract (64*n) T.size).size<17592186044416:=by rw[jm];omega
   have pN:=O (Ov T (64*n) 64);have hXl:=O (kj T (64*n));have hXm:=O (jm T (64*n));generalize T.extract (64*n) T.size=X at *
   have hx:X.toList.isEmpty=false:=by
    rw[aN];cases hq:X.data.toList with
    |nil=>rw[gN.1 hq]at Tc;omega
    |cons a l=>rfl
   have SB:¬X.toList=[]:=by rw[aN];intro h;rw[gN.1 h]at Tc;omega
   have HM:=O hm;have h0:wr.cell? ⟨w.heap.size,0,none⟩=some (.int .u32 (xP T.data.toList n).a):=by unfold sM at hm;simp[World.cell?,hm]
   have h1:wr.cell? ⟨w.heap.size,1,none⟩=some (.int .u32 (xP T.data.toList n).b):=by unfold sM at hm;simp[World.cell?,hm]
   have h2:wr.cell? ⟨w.heap.size,2,none⟩=some (.int .u32 (xP T.data.toList n).c):=by unfold sM at hm;simp[World.cell?,hm]
   have h3:wr.cell? ⟨w.heap.size,3,none⟩=some (.int .u32 (xP T.data.toList n).d):=by unfold sM at hm;simp[World.cell?,hm]
   have pI:=O (show xP T.data.toList (n+1)=B4 X.data.toList (xP T.data.toList n)by rw[hXl.o];rfl);have Lt:=O (Ou T.data.toList n);generalize xP T.data.toList n=H at *
   clear hm;go_wp2;go_quiet (fail);clear h0 h1 h2 h3;go_wp2;go_loopw[5,6,7,8,27] (ak' X.data.toList H w.heap.size w) (fun _ _ _ _ i _=>64-(intOf i).toNat)
   case atStart=>exact⟨0,ab,rfl,rfl,rfl,rfl,rfl,by exact HM.o,by first|exact cN|exact cN.drewN _⟩
   case round =>
    obtain⟨k,hk,rfl,rfl,rfl,rfl,rfl,hm,ki⟩:=hrel;obtain⟨⟨a0,a1⟩,⟨b0,b1⟩,⟨c0,c1⟩,⟨d0,d1⟩⟩:=CT (X:=X.data.toList) Lt.o k;have Z0:=O hm;have Ck:=O (show kG X.data.toList H (k+1)=rk X.data.toList k (kG X.data.toList H k)from rfl)
    have H64:=O (show k=64->B4 X.data.toList H=⟨(H.a+(kG X.data.toList H k).a)%4294967296,(H.b+(kG X.data.toList H k).b)%4294967296,(H.c+(kG X.data.toList H k).c)%4294967296,(H.d+(kG X.data.toList H k).d)%4294967296⟩from fun h=>by subst h;rfl);generalize kG X.data.toList H k=M at *
    clear hm;by_cases Jv:k<64
    ·have arH:(k:Int)<64:=ab;obtain⟨z,hz⟩:∃z,CS[k]?=some z:=⟨_,List.getElem?_eq_getElem (by show k<64;omega)⟩;have GK:=O ((ht.fr ki).s.2 k z hz);have ZW:=O (show CS.getD k 0=z by rw[List.getD_eq_getElem?_getD,hz];rfl);obtain⟨m,hmm⟩:∃m:Nat,(k:Int)%4=(m:Int):=⟨k%4,ab⟩;have hm4:m<4:=ab;have RG:=O (show k%4=m from ab);clear hz;by_cases hr0:k<16
     ·have e1:(k:Int)/16=0:=ab;have uS:=O (show k/16=0 from ab);have hmg:=O (show XD (k/16) k=k by rw[uS.o];rfl);obtain⟨wv,El⟩:∃wv,wv=qt true (X.extract (4*k) X.size).data.toList:=⟨_,rfl⟩;have se:=O (fun W=>vI (X.extract (4*k) X.size) true W (by rw[jm];omega) (by rw[jm];omega));rw[<-El]at se;have XF:=O (show qt true (X.data.toList.drop (4*XD (k/16) k))=wv by rw[hmg.o,El,kj]);clear El;go_wp2
      have qh:IntKind.i64.wrap (4*(k:Int))=4*(k:Int):=IntWalk.i64_in _ ab;have q0:(0:Int)<=(k:Int):=ab;have q1:(0:Int)<=4*(k:Int):=ab;have q2:4*(k:Int)<=(X.size:Int):=ab;have q3:4*k<=X.size:=ab;have q4:(4*(k:Int)).toNat=4*k:=ab;have CV:=GK.o;go_quiet ((go_at_call 238;exact Calls.quiet_of (se.o _)));clear qh q0 q1 q2 q3 q4 CV
      obtain⟨z2,kS⟩:∃z2,oB[m]?=some z2:=⟨_,List.getElem?_eq_getElem (by show m<16;omega)⟩;have htu:=(ht.fr (ki.drewN nq)).t.2 (m) (z2:Int) (by rw[List.getElem?_map,kS];rfl);have hzt:=O (show oB.getD (k/16*4+k%4) 0=z2 by rw[uS.o,RG.o,show 0*4+m=m from ab,List.getD_eq_getElem?_getD,kS];rfl)
      obtain⟨kh,Mb⟩:bits .and .u64 (z2:Int) 31=(z2:Int)/\z2<32:=by have h:=yQ ⟨m,ab⟩;simp only[List.getD_eq_getElem?_getD,kS,Option.getD_some]at h;exact h
      clear kS;have m0:(m:Int)<4:=ab;have RH:=O (show sM (wr.drewN nq) w.heap.size H from Z0.o);have qi:=ki.drewN nq;generalize wr.drewN nq=wd at *
      go_wp2_with fail
      refine(BZ _ (z2:Int) z2 wd ab ab kh Mb).mono ?_;rintro e w5⟨rfl,rfl⟩;have lT:=O (show rk X.data.toList k M=⟨M.d,(M.b+lN ((mdF 0 M.b M.c M.d+(M.a+z+wv))%4294967296) z2)%4294967296,M.b,M.c⟩by unfold rk;rw[ZW.o,hzt.o,XF.o,uS.o]);clear htu kh;go_wp2;go_roundw
      case rel=>exact⟨k+1,ab,bf,by rw[Ck.o,lT.o],by rw[Ck.o,lT.o];rfl,by rw[Ck.o,lT.o],by rw[Ck.o,lT.o],RH.o,qi⟩
      case measure=>simp[intOf];omega
     ·by_cases BV:k<32
      ·have e1:(k:Int)/16=1:=ab;have uS:=O (show k/16=1 from ab);obtain⟨gg,Wa⟩:∃gg:Nat,gg=(5*k+1)%16:=⟨_,rfl⟩;have afy:gg<16:=ab;have Wb:(5*(k:Int)+1)%16=(gg:Int):=ab;have hmg:=O (show XD (k/16) k=gg by rw[uS.o,Wa];rfl);obtain⟨wv,El⟩:∃wv,wv=qt true (X.extract (4*gg) X.size).data.toList:=⟨_,rfl⟩;have se:=O (fun W=>vI (X.extract (4*gg) X.size) true W (by rw[jm];omega) (by rw[jm];omega));rw[<-El]at se
       have XF:=O (show qt true (X.data.toList.drop (4*XD (k/16) k))=wv by rw[hmg.o,El,kj]);clear El Wa;go_wp2;have qh:IntKind.i64.wrap (4*(gg:Int))=4*(gg:Int):=IntWalk.i64_in _ ab;have q0:(0:Int)<=(k:Int):=ab;have q1:(0:Int)<=4*(gg:Int):=ab;have q2:4*(gg:Int)<=(X.size:Int):=ab;have q3:4*gg<=X.size:=ab;have q4:(4*(gg:Int)).toNat=4*gg:=ab;have CV:=GK.o
       go_quiet ((go_at_call 238;exact Calls.quiet_of (se.o _)));clear qh q0 q1 q2 q3 q4 CV;obtain⟨z2,kS⟩:∃z2,oB[4+m]?=some z2:=⟨_,List.getElem?_eq_getElem (by show 4+m<16;omega)⟩;have htu:=(ht.fr (ki.drewN nq)).t.2 (4+m) (z2:Int) (by rw[List.getElem?_map,kS];rfl);have hzt:=O (show oB.getD (k/16*4+k%4) 0=z2 by rw[uS.o,RG.o,show 1*4+m=4+m from ab,List.getD_eq_getElem?_getD,kS];rfl)
       obtain⟨kh,Mb⟩:bits .and .u64 (z2:Int) 31=(z2:Int)/\z2<32:=by have h:=yQ ⟨4+m,ab⟩;simp only[List.getD_eq_getElem?_getD,kS,Option.getD_some]at h;exact h
       clear kS;have m0:(m:Int)<4:=ab;have RH:=O (show sM (wr.drewN nq) w.heap.size H from Z0.o);have qi:=ki.drewN nq;generalize wr.drewN nq=wd at *
       go_wp2_with fail
       refine(BZ _ (z2:Int) z2 wd ab ab kh Mb).mono ?_;rintro e w5⟨rfl,rfl⟩;have lT:=O (show rk X.data.toList k M=⟨M.d,(M.b+lN ((mdF 1 M.b M.c M.d+(M.a+z+wv))%4294967296) z2)%4294967296,M.b,M.c⟩by unfold rk;rw[ZW.o,hzt.o,XF.o,uS.o]);clear htu kh;go_wp2;go_roundw
       case rel=>exact⟨k+1,ab,bf,by rw[Ck.o,lT.o],by rw[Ck.o,lT.o];rfl,by rw[Ck.o,lT.o],by rw[Ck.o,lT.o],RH.o,qi⟩
       case measure=>simp[intOf];omega
      ·by_cases oP:k<48
       ·have e1:(k:Int)/16=2:=ab;have uS:=O (show k/16=2 from ab);obtain⟨gg,Wa⟩:∃gg:Nat,gg=(3*k+5)%16:=⟨_,rfl⟩;have afy:gg<16:=ab;have Wb:(3*(k:Int)+5)%16=(gg:Int):=ab;have hmg:=O (show XD (k/16) k=gg by rw[uS.o,Wa];rfl);obtain⟨wv,El⟩:∃wv,wv=qt true (X.extract (4*gg) X.size).data.toList:=⟨_,rfl⟩;have se:=O (fun W=>vI (X.extract (4*gg) X.size) true W (by rw[jm];omega) (by rw[jm];omega));rw[<-El]at se
        have XF:=O (show qt true (X.data.toList.drop (4*XD (k/16) k))=wv by rw[hmg.o,El,kj]);clear El Wa;go_wp2;have qh:IntKind.i64.wrap (4*(gg:Int))=4*(gg:Int):=IntWalk.i64_in _ ab;have q0:(0:Int)<=(k:Int):=ab;have q1:(0:Int)<=4*(gg:Int):=ab;have q2:4*(gg:Int)<=(X.size:Int):=ab;have q3:4*gg<=X.size:=ab;have q4:(4*(gg:Int)).toNat=4*gg:=ab;have CV:=GK.o
        go_quiet ((go_at_call 238;exact Calls.quiet_of (se.o _)));clear qh q0 q1 q2 q3 q4 CV;obtain⟨z2,kS⟩:∃z2,oB[8+m]?=some z2:=⟨_,List.getElem?_eq_getElem (by show 8+m<16;omega)⟩;have htu:=(ht.fr (ki.drewN nq)).t.2 (8+m) (z2:Int) (by rw[List.getElem?_map,kS];rfl);have hzt:=O (show oB.getD (k/16*4+k%4) 0=z2 by rw[uS.o,RG.o,show 2*4+m=8+m from ab,List.getD_eq_getElem?_getD,kS];rfl)
        obtain⟨kh,Mb⟩:bits .and .u64 (z2:Int) 31=(z2:Int)/\z2<32:=by have h:=yQ ⟨8+m,ab⟩;simp only[List.getD_eq_getElem?_getD,kS,Option.getD_some]at h;exact h
        clear kS;have m0:(m:Int)<4:=ab;have RH:=O (show sM (wr.drewN nq) w.heap.size H from Z0.o);have qi:=ki.drewN nq;generalize wr.drewN nq=wd at *
        go_wp2_with fail
        refine(BZ _ (z2:Int) z2 wd ab ab kh Mb).mono ?_;rintro e w5⟨rfl,rfl⟩;have lT:=O (show rk X.data.toList k M=⟨M.d,(M.b+lN ((mdF 2 M.b M.c M.d+(M.a+z+wv))%4294967296) z2)%4294967296,M.b,M.c⟩by unfold rk;rw[ZW.o,hzt.o,XF.o,uS.o]);clear htu kh;go_wp2;go_roundw
        case rel=>exact⟨k+1,ab,bf,by rw[Ck.o,lT.o],by rw[Ck.o,lT.o];rfl,by rw[Ck.o,lT.o],by rw[Ck.o,lT.o],RH.o,qi⟩
        case measure=>simp[intOf];omega
       ·have e1:(k:Int)/16=3:=ab;have uS:=O (show k/16=3 from ab);obtain⟨gg,Wa⟩:∃gg:Nat,gg=7*k%16:=⟨_,rfl⟩;have afy:gg<16:=ab;have Wb:7*(k:Int)%16=(gg:Int):=ab;have hmg:=O (show XD (k/16) k=gg by rw[uS.o,Wa];rfl);obtain⟨wv,El⟩:∃wv,wv=qt true (X.extract (4*gg) X.size).data.toList:=⟨_,rfl⟩;have se:=O (fun W=>vI (X.extract (4*gg) X.size) true W (by rw[jm];omega) (by rw[jm];omega));rw[<-El]at se
        have XF:=O (show qt true (X.data.toList.drop (4*XD (k/16) k))=wv by rw[hmg.o,El,kj]);clear El Wa;go_wp2;have qh:IntKind.i64.wrap (4*(gg:Int))=4*(gg:Int):=IntWalk.i64_in _ ab;have q0:(0:Int)<=(k:Int):=ab;have q1:(0:Int)<=4*(gg:Int):=ab;have q2:4*(gg:Int)<=(X.size:Int):=ab;have q3:4*gg<=X.size:=ab;have q4:(4*(gg:Int)).toNat=4*gg:=ab;have CV:=GK.o
        go_quiet ((go_at_call 238;exact Calls.quiet_of (se.o _)));clear qh q0 q1 q2 q3 q4 CV;obtain⟨z2,kS⟩:∃z2,oB[12+m]?=some z2:=⟨_,List.getElem?_eq_getElem (by show 12+m<16;omega)⟩;have htu:=(ht.fr (ki.drewN nq)).t.2 (12+m) (z2:Int) (by rw[List.getElem?_map,kS];rfl);have hzt:=O (show oB.getD (k/16*4+k%4) 0=z2 by rw[uS.o,RG.o,show 3*4+m=12+m from ab,List.getD_eq_getElem?_getD,kS];rfl)
        obtain⟨kh,Mb⟩:bits .and .u64 (z2:Int) 31=(z2:Int)/\z2<32:=by have h:=yQ ⟨12+m,ab⟩;simp only[List.getD_eq_getElem?_getD,kS,Option.getD_some]at h;exact h
        clear kS;have m0:(m:Int)<4:=ab;have RH:=O (show sM (wr.drewN nq) w.heap.size H from Z0.o);have qi:=ki.drewN nq;generalize wr.drewN nq=wd at *
        go_wp2_with fail
        refine(BZ _ (z2:Int) z2 wd ab ab kh Mb).mono ?_;rintro e w5⟨rfl,rfl⟩;have lT:=O (show rk X.data.toList k M=⟨M.d,(M.b+lN ((mdF 3 M.b M.c M.d+(M.a+z+wv))%4294967296) z2)%4294967296,M.b,M.c⟩by unfold rk;rw[ZW.o,hzt.o,XF.o,uS.o]);clear htu kh;go_wp2;go_roundw
        case rel=>exact⟨k+1,ab,bf,by rw[Ck.o,lT.o],by rw[Ck.o,lT.o];rfl,by rw[Ck.o,lT.o],by rw[Ck.o,lT.o],RH.o,qi⟩
        case measure=>simp[intOf];omega
    ·have Td:k=64:=ab;subst Td;have vJ:=Z0.o;have h0:wr.cell? ⟨w.heap.size,0,none⟩=some (.int .u32 H.a):=by unfold sM at vJ;simp[World.cell?,vJ]
     have h1:wr.cell? ⟨w.heap.size,1,none⟩=some (.int .u32 H.b):=by unfold sM at vJ;simp[World.cell?,vJ]
     have h2:wr.cell? ⟨w.heap.size,2,none⟩=some (.int .u32 H.c):=by unfold sM at vJ;simp[World.cell?,vJ]
     have h3:wr.cell? ⟨w.heap.size,3,none⟩=some (.int .u32 H.d):=by unfold sM at vJ;simp[World.cell?,vJ]
     have f0:wr.frozen? ⟨w.heap.size,0,none⟩=false:=by unfold sM at vJ;simp[World.frozen?,vJ]
     have f1:wr.frozen? ⟨w.heap.size,1,none⟩=false:=by unfold sM at vJ;simp[World.frozen?,vJ]
     have f2:wr.frozen? ⟨w.heap.size,2,none⟩=false:=by unfold sM at vJ;simp[World.frozen?,vJ]
     have f3:wr.frozen? ⟨w.heap.size,3,none⟩=false:=by unfold sM at vJ;simp[World.frozen?,vJ]
     clear vJ;have alc:(64:Int)<=(X.size:Int):=ab;go_wp2;have Z1:wr.heap[w.heap.size]?=some (.cells #[.int .u32 H.a,.int .u32 H.b,.int .u32 H.c,.int .u32 H.d] 300 (0,0)):=Z0.o;have sJ:=tB Z1 0 (.int .u32 ((H.a+M.a)%4294967296));have kh:=tB sJ 1 (.int .u32 ((H.b+M.b)%4294967296));have sN:=tB kh 2 (.int .u32 ((H.c+M.c)%4294967296));have tC:=tB sN 3 (.int .u32 ((H.d+M.d)%4294967296))
     refine⟨⟨n+1,ab,?_,?_,(((ki.gI (p:=⟨w.heap.size,0,none⟩) (ay _) _).gI (p:=⟨w.heap.size,1,none⟩) (ay _) _).gI (p:=⟨w.heap.size,2,none⟩) (ay _) _).gI (p:=⟨w.heap.size,3,none⟩) (ay _) _⟩,?_⟩
     ·rw[pN.o];rfl
     ·rw[pI.o,H64.o rfl];exact tC
     ·show(X.extract 64 X.size).size<X.size;rw[jm];omega
  ·have zU:64*n=T.size:=ab;have he:(T.extract (64*n) T.size)=⟨#[]⟩:=by apply Go.WideShapes.bytes_inj;rw[kj,cL bF]
   rw[he];have Te:=O (show xP T.data.toList (T.size/64)=xP T.data.toList n by rw[<-zU];congr 1;omega);have Lt:=Ou T.data.toList n;generalize xP T.data.toList n=H at *
   have HM:=O hm;have TX:=O (A' w.heap.size H.list true wr (by show 4<=8;omega) (bg hm) (fun j x hj=>by
    unfold sM at hm
    match j,hj with
    |0,hj=>simp[Md.list]at hj;subst hj;simp[World.cell?,hm]
    |1,hj=>simp[Md.list]at hj;subst hj;simp[World.cell?,hm]
    |2,hj=>simp[Md.list]at hj;subst hj;simp[World.cell?,hm]
    |3,hj=>simp[Md.list]at hj;subst hj;simp[World.cell?,hm]
    |j+4,hj=>simp[Md.list]at hj) (fun x hx=>by
    simp only[Md.list,bu,cg,dS]at hx;obtain⟨p0,p1,p2,p3⟩:=Lt;rcases hx with rfl|rfl|rfl|rfl<;>assumption))
   clear hm Lt;go_wp2_with fail
   refine TX.o.mono ?_;rintro e w5⟨rfl,lC⟩;go_wp2;go_ret;exact⟨by rw[CU.o,Te.o];rfl,cN.trans lC⟩
def aly(c:UInt8):Option Nat:=if 65<=c/\c<=90 then some (c.toNat-65)else if 97<=c/\c<=122 then some (c.toNat-71)else if 48<=c/\c<=57 then some (c.toNat+4)else if c=43 then some 62 else if c=47 then some 63 else none
def qv(l:aH):Nat->Nat
 |0=>0
 |j+1=>qv l j*64+(match l[j]? with|some c=>(aly c).getD 0|none=>0)
theorem wD:∀(l:aH) (c:UInt8) (i:Nat),Lib.indexByte l c=(i:Int)->l=l.take i++c :: l.drop (i+1)/\c∉l.take i
 |[],c,i,h=>by simp[Lib.indexByte]at h
 |x :: l,c,i,h=>by
  have hge:=Lib.indexByte_ge l c;have h':(if x==c then(0:Int)else if Lib.indexByte l c== -1 then -1 else Lib.indexByte l c+1)=(i:Int):=h;by_cases hx:x=c
  ·rw[aA (by simpa using hx)]at h';obtain rfl:i=0:=ab;subst hx;exact⟨rfl,aQ⟩
  ·rw[ar (by simpa using hx)]at h';by_cases h1:Lib.indexByte l c= -1
   ·rw[aA (by simpa using h1)]at h';omega
   ·rw[ar (by simpa using h1)]at h';obtain⟨j,rfl⟩:∃j,i=j+1:=⟨i-1,ab⟩;obtain⟨e1,e2⟩:=wD l c j ab;refine⟨?_,?_⟩
    ·show x :: l=x :: (l.take j++c :: l.drop (j+1));rw[<-e1]
    ·intro hc;rcases bu.1 hc with rfl|hc
     ·exact hx rfl
     ·exact e2 hc
theorem Tq(h:Lib.indexByte l c=(i:Int)):i<l.length:=by
 obtain⟨e,_⟩:=wD l c i h;have:=aq List.length e;simp at this;omega
def iJ(c:UInt8)(s:ai):List ai:=(dU c s.data.toList).map fun l=>⟨l.toArray⟩
theorem oD(s:ai)(a b:Nat):s.extract a b=⟨((s.data.toList.drop a).take (b-a)).toArray⟩:=by
 have h:=Lib.extract_data s a b;have h2:(s.extract a b).data=((s.data.toList.drop a).take (b-a)).toArray:=by rw[<-h]
 calc s.extract a b=⟨(s.extract a b).data⟩:=rfl
  _=_:=by rw[h2]
theorem C7(c:UInt8)(s:ai)(i:Nat)(h:Lib.indexByte s.data.toList c=(i:Int)):iJ c s=s.extract 0 i :: iJ c (s.extract (i+1) s.size):=by
 obtain⟨e,hn⟩:=wD _ _ _ h;unfold iJ
 conv=>lhs;rw[e,Co c _ _ hn,cz]
 rw[oD,oD,aD (l:=s.data.toList.drop (i+1)) aQ];rfl
theorem Ba(c:UInt8)(s:ai)(h:¬0<=Lib.indexByte s.data.toList c):iJ c s=[s]:=by
 have hn:c∉s.data.toList:=fun hc=>(Gq _ _).1 h c hc rfl;unfold iJ;rw[Cp c _ hn];rfl
theorem xQ(s:ai)(c:UInt8):Lib.indexB s ⟨#[c]⟩=Lib.indexByte s.data.toList c:=by
 show Lib.index s.data.toList [c]=_;exact Lib.index_one _ _
theorem Bb(c:UInt8):∀(k:Nat) (s:ai),Lib.countB s ⟨#[c]⟩=k->Lib.splitB ⟨#[c]⟩ 0 k s=iJ c s
 |0,s,hk=>by
  rcases Lib.indexB_cases s ⟨#[c]⟩with wA|⟨i,wA,_⟩
  ·rw[Lib.splitB_zero,Ba c s (by rw[<-xQ,wA];decide)]
  ·have:=Lib.countB_hit s ⟨#[c]⟩ i (ay _) wA;omega
 |k+1,s,hk=>by
  rcases Lib.indexB_cases s ⟨#[c]⟩with wA|⟨i,wA,_⟩
  ·rw[Lib.countB_miss s ⟨#[c]⟩ wA]at hk;omega
  ·have hct:=Lib.countB_hit s ⟨#[c]⟩ i (ay _) wA;rw[Lib.splitB_hit _ 0 k s i wA,C7 c s i (by rw[<-xQ];exact wA)];have e:Lib.splitB ⟨#[c]⟩ 0 k (s.extract (i+(⟨#[c]⟩:ai).size) s.size)=iJ c (s.extract (i+1) s.size):=Bb c k (s.extract (i+1) s.size) (by
    have:Lib.countB (s.extract (i+(⟨#[c]⟩:ai).size) s.size) ⟨#[c]⟩=k:=ab;exact this)
   rw[e];rfl
theorem Mj(s:ai)(c:UInt8):Lib.countB s ⟨#[c]⟩=Lib.countByte s.data.toList c:=by
 show Lib.count s.data.toList [c]=_;exact Lib.count_one _ _
theorem xR(s:ai)(c:UInt8)(w:World)(hs:s.size<4294967281) :
  aC 131 #[.string s,.string ⟨#[c]⟩] w fun e w'=>e=.returned (.slice (some ⟨w.heap.size,0,none⟩) (iJ c s).length (iJ c s).length)/\w'=w.alloc (.cells ((iJ c s).map Value.string).toArray 9):=by
 have pJ:(1:Nat)<=(⟨#[c]⟩:ai).size:=ay _;have hle:=Lib.countB_le ⟨#[c]⟩ pJ s.size s (ay _);have hlen:=Lib.splitB_all ⟨#[c]⟩ pJ 0 _ s rfl;have p9:Lib.splitB ⟨#[c]⟩ 0 (Lib.countB s ⟨#[c]⟩) s=iJ c s:=Bb c _ s rfl;have k:aC 185 #[.string s,.string ⟨#[c]⟩,.int .i64 (0:Nat),.int .i64 (-1)] w fun e w' =>
   e=.returned (.slice (some ⟨w.heap.size,0,none⟩) (Lib.splitB ⟨#[c]⟩ 0 (Lib.countB s ⟨#[c]⟩+1-1) s).length (Lib.countB s ⟨#[c]⟩+1))/\w'=w.alloc (.cells (Lib.cellsOf (Lib.splitB ⟨#[c]⟩ 0 (Lib.countB s ⟨#[c]⟩+1-1) s) (Lib.countB s ⟨#[c]⟩+1)) 9) :=
  Any.strings_genSplit_core WT af s ⟨#[c]⟩ 0 (-1) (Lib.countB s ⟨#[c]⟩+1) w hs pJ (aS _)
   (fun x cc _=>(Any.strings_Index_one WN x c _).mono fun e w' ⟨he,hw⟩=>⟨by rw[he,xQ],hw⟩)
   ((Any.strings_Count_one WQ s c w).mono fun e w' ⟨he,hw⟩=>⟨by rw[he,Mj],hw⟩)
   ag ag (by rw[aA ag];omega)
 rw[Nat.add_sub_cancel,hlen]at k;have e2:Lib.cellsOf (Lib.splitB ⟨#[c]⟩ 0 (Lib.countB s ⟨#[c]⟩) s) (Lib.countB s ⟨#[c]⟩+1)=((Lib.splitB ⟨#[c]⟩ 0 (Lib.countB s ⟨#[c]⟩) s).map Value.string).toArray:=by rw[<-hlen];exact Lib.cellsOf_full _
 rw[e2, <-hlen,p9]at k;go_enter func131,ntmps131;go_wp2_with fail
 refine k.mono ?_;rintro e w1⟨rfl,rfl⟩;go_wp2;go_ret;exact⟨rfl,rfl⟩
def within(path p:ai):Bool:=Lib.hasPrefix path.data.toList p.data.toList
theorem C_(path p:ai)(w:World) :
  aC 203 #[.string path,.string p] w fun e w'=>e=.returned (.bool (within path p))/\w=w':=by
 go_enter func203,ntmps203;go_wp2_with fail
 refine(strings_HasPrefix path p w).mono ?_;rintro e w'⟨rfl,rfl⟩;go_wp2;go_ret;exact⟨rfl,rfl⟩
def ry(path:ai)(ps:List ai)(n:Int):Int:=ps.foldl (fun n p=>if within path p then max n (p.size:Int)else n) n
def ue(g:gy)(gp:Bool)(ps:List ai)(o:gy)(proxy:Bool)(path:ai):Int:=if g.kQ o&&gp==proxy then ry path ps (-1)else -1
theorem Mq(path:ai)(ps:List ai)(p:ai)(n:Int):ry path (ps++[p]) n=if within path p then max (ry path ps n) (p.size:Int)else ry path ps n:=by simp[ry]
def TE(path:ai)(ps:List ai)(n i:Value):Prop:=∃k:Nat,k<=ps.length/\i=.int .i64 k/\n=.int .i64 (ry path (ps.take k) (-1))
theorem P_(g:aU Value)(o:gy)(proxy:Bool)(path:ai)(ps:List ai)(w:World)(hp:ib w g.paths ps) :
  aC 155 #[.agg g.cells.toArray,.agg o.cells.toArray,.bool proxy,.string path] w fun e w'=>e=.returned (.int .i64 (ue g.o g.proxy ps o proxy path))/\Fr aW w w':=by
 have hne:=AR g.o o;unfold aU.cells gy.cells;obtain⟨av,cv,hv⟩:=hp.form;rw[hv]at hp ⊢;clear hv;cases e1:g.o.kQ o
 ·have HR:=O (show ue g.o g.proxy ps o proxy path= -1 by unfold ue;rw[e1];rfl);go_enter func155,ntmps155;go_wp2;go_ret;exact⟨by rw[HR.o];rfl,((ae _ _).alloc _).alloc _⟩
 ·cases e2:g.proxy==proxy
  ·have HR:=O (show ue g.o g.proxy ps o proxy path= -1 by unfold ue;rw[e1,e2];rfl);have Z7:(g.proxy !=proxy)=true:=by rw[bne,e2];rfl
   go_enter func155,ntmps155;go_wp2;go_ret;exact⟨by rw[HR.o];rfl,((ae _ _).alloc _).alloc _⟩
  ·have HR:=O (show ue g.o g.proxy ps o proxy path=ry path ps (-1)by unfold ue;rw[e1,e2];rfl);have Z7:(g.proxy !=proxy)=false:=by rw[bne,e2];rfl
   go_enter func155,ntmps155;go_wp2;have hf:Fr aW w _:=((ae aW w).alloc (.cells #[.bool g.o.aG,.string g.o.host,.int .i64 g.o.port,.bool g.proxy,.string g.user,.string g.pass,.int .i64 g.a.scheme,.string g.a.aP,.string g.a.bz,.string g.a.cC,.bool g.a.cD,.string g.a.eY,.bool g.a.du,g.a.dom,.int .i64 g.count,.slice av ps.length cv] 133)).alloc (.cells #[.bool o.aG,.string o.host,.int .i64 o.port] 24)
   have EY:=hp.iY hf;generalize (w.alloc _).alloc _=W at hf EY;clear hp hne e1 e2 Z7
   go_loop [9,26] (TE path ps) (fun _ i=>ps.length-(intOf i).toNat)
   case atStart=>exact⟨0,aS _,rfl,rfl⟩
   case round =>
    obtain⟨k,hk,rfl,rfl⟩:=hrel;by_cases fx:k<ps.length
    ·rcases EY with ⟨_,_,_,e,_⟩|⟨bk,of,c,dn,h1,h2,h3,h4⟩
     ·rw[e]at fx;exact absurd fx (cq _)
     ·cases dn;unfold maxLen at h2;have dL:=O (List.getElem?_eq_getElem fx);have hc:=h4 k _ dL.o;generalize ps[k]=x at dL hc;have Ia:=O (show ry path (ps.take (k+1)) (-1)=if within path x then max (ry path (ps.take k) (-1)) (x.size:Int)else ry path (ps.take k) (-1)by rw[dT dL.o,Mq]);clear h4;generalize ry path (ps.take k) (-1)=n at *
      cases hw:within path x
      ·have abW:=O (show ry path (ps.take (k+1)) (-1)=n by rw[Ia.o,hw];rfl);go_wp2_with fail
       refine(C_ path x W).mono ?_;rintro e w1⟨rfl,rfl⟩;rw[hw];go_wp2
       go_round
       case rel=>exact⟨k+1,ab,bf,by rw[abW.o]⟩
       case measure=>simp[intOf];omega
      ·have abW:=O (show ry path (ps.take (k+1)) (-1)=max n (x.size:Int)by rw[Ia.o,hw];rfl);go_wp2_with fail
       refine(C_ path x W).mono ?_;rintro e w1⟨rfl,rfl⟩;rw[hw];go_wp2
       go_round
       case rel=>exact⟨k+1,ab,bf,by rw[abW.o]⟩
       case measure=>simp[intOf];omega
    ·have eX:=O (show ry path (ps.take k) (-1)=ry path ps (-1)by rw[aD ab]);go_wp2;go_ret;exact⟨by rw[HR.o,eX.o];rfl,hf⟩
def gF(S:dz)(w:World)(g:Nat)(cap:bS)(p:aX->Bool)(xs:cU):Prop :=
 ∀x,x∈xs->∀u,Fr S w u->aC g (#[.agg x.toArray]++cap) u fun e u'=>e=.returned (.bool (p x))/\Fr aW u u'
theorem gF.none{S:dz}{cap:bS}{p:aX->Bool}{xs:cU}(h:gF S w g cap p xs):gF aW w g cap p xs :=
 fun x hx u hu=>h x hx u (hu.mono (fun _ _ h=>absurd h id))
theorem jn{P:Program}(w:World)(t e ty:TypeId)(zs:bS)(ht:P.underlying t=some (.slice e))(hv:∀w,(zeroValue e).run P w=.ok (.agg zs) w)(hs:0<zs.size)(h1:∀v∈zs.toList,v.oneCell'=true)(b o n c:Nat)(hn:0<n)
  (hc:w.there b o (n*zs.size)) :
  (Builtin.clear_ #[t] ty #[.slice (some ⟨b,o,none⟩) n c]).run P w=.ok (.tuple #[]) (w.setCells b o (Builtin.zeroCells zs n).toList):=by
 have hl:(Builtin.zeroCells zs n).toList.length=n*zs.size:=by simp[Builtin.zeroCells]
 have iM:=run_storeCells_cells (P:=P) b o (Builtin.zeroCells zs n).toList 0 w (by rw[hl];intro j hj;exact(hc j hj).1) (by rw[hl];intro j hj;exact(hc j hj).2) (by
  intro v ub;rw[Builtin.zeroCells,Array.mem_toList_iff,Array.mem_map]at ub;obtain⟨i,_,rfl⟩:=ub;have hm:=Nat.mod_lt i hs;rw[getElem!_pos zs _ hm];exact h1 _ aQ)
 simp only[Nat.add_zero]at iM;obtain⟨m,rfl⟩:∃m,n=m+1:=⟨n-1,ab⟩;have LD:(Value.agg zs).cells=zs:=rfl;simp[Builtin.clear_,run_underlying ht,hv,LD,iM]
def DA:gy:=⟨true,⟨#[97,46,116,101,115,116]⟩,443⟩
theorem Kj(w:World):aC 21 #[] w fun e w'=>e=.returned (.agg DA.cells.toArray)/\Fr aW w w':=by
 go_enter func21,ntmps21;go_wp2;refine aR (bh bw _ _ w.heap.size 24 #[.bool true,.string ⟨#[97,46,116,101,115,116]⟩,.int .i64 443] (0,0) _ rfl (aB _ _) underlying24 rfl af) rfl ?_;exact⟨rfl,(ae _ _).alloc _⟩
open Go.ChangeShapes Go.WideShapes Go.ChangeAt Go.RowKit Go.Deep
section
variable {H : Type} {enc : TypeId × Value → H} {P : Program} {W : World}
theorem xt{e:TypeId}:∀ {l:List (DataW H)} {d:DataW H},d∈l->∀n∈d.weights P e,n∈DataW.weightsAll P e l
 |d' :: r,d,hd,n,hn=>by
  simp only[DataW.weightsAll,bP];rcases bu.1 hd with rfl|h
  ·exact Or.inl hn
  ·exact Or.inr (xt h n hn)
def oO(P:Program)(t:TypeId)(d:DataW H):Prop:=∀n∈d.weights P t,n<=reachBytes
theorem nP{fs:Array Field}{x:DataW H×List MemPlace}(ht:P.underlying t=some (.struct fs))(h:DataW.trod enc P W 0 (fun _=>true) true fuel t cs=some x) :
  cs.length=P.cellsOf t/\∃n,∀(i:Nat) (t':TypeId) (o k:Nat),fs[i]?.map (fun f=>(f.type,f.offset))=some (t',o)->P.cellsOf t'=k->∃y,DataW.trod enc P W 0 (fun _=>true) true n t' ((cs.drop o).take k)=some y/\(oO P t x.1->oO P t' y.1):=by
 obtain⟨xs,n,_,rfl,hl,ob,hf⟩:=DataW.trod_struct ht h;refine⟨hl,n,fun i t' o k he hk=>?_⟩;obtain⟨f,hi,e⟩:=Option.map_eq_some_iff.1 he;injection e with e1 e2
 subst e1 e2 hk;have tL:i<fs.size:=(Array.getElem?_eq_some_iff.1 hi).1;refine⟨xs[i],by rw[hf i f hi];exact List.getElem?_eq_getElem _,fun hL m hm=>hL m ?_⟩;simp only[DataW.weights,ht];refine DataW.weights_mem_each (j:=i) (t:=f.type) (d:=xs[i].1) ?_ ?_ m hm
 ·rw[List.getElem?_map,Array.getElem?_toList,hi];rfl
 ·rw[List.getElem?_map,List.getElem?_eq_getElem ab];rfl
theorem nD{x:DataW H×List MemPlace}(ht:P.underlying t=some .bool)(h:DataW.trod enc P W 0 (fun _=>true) true fuel t cs=some x):∃b,cs=[.bool b]:=by
 obtain⟨b,e,_⟩:=DataW.trod_bool ht h;exact⟨b,e⟩
theorem kq{k:IntKind}{x:DataW H×List MemPlace}(ht:P.underlying t=some (.int k))(h:DataW.trod enc P W 0 (fun _=>true) true fuel t cs=some x):∃n,cs=[.int k n]/\(Lit.int k n).wf=true:=by
 obtain⟨b,e,_,hw⟩:=DataW.trod_int ht h;exact⟨b,e,hw⟩
theorem fj{x:DataW H×List MemPlace}(ht:P.underlying t=some .string)(h:DataW.trod enc P W 0 (fun _=>true) true fuel t cs=some x) :
  ∃s:ai,cs=[.string s]/\(oO P t x.1->s.size<=reachBytes):=by
 obtain⟨s,e,hx,_⟩:=DataW.trod_string ht h;refine⟨s,e,fun hL=>?_⟩;have:=hL s.data.toList.length (by rw[hx];simp[DataW.weights]);simpa using this
end
variable {H : Type} {enc : TypeId × Value → H} {W : World}
theorem uB:prog.cellsOf 4=1:=af
theorem pC:prog.cellsOf 3=1:=af
theorem iC:prog.cellsOf 9=1:=af
theorem AF:prog.cellsOf 24=3:=af
def gy.Ld(o:gy):Prop:=o.host.size<=reachBytes
theorem aok{α:Type}{l:List α}(h:l.length=3):∃a b c,l=[a,b,c]:=by
 match l,h with
 |[a,b,c],_=>exact⟨a,b,c,rfl⟩
theorem aiJ{α:Type}{l:List α}(h:l.length=2):∃a b,l=[a,b]:=by
 match l,h with
 |[a,b],_=>exact⟨a,b,rfl⟩
theorem Lf{x:DataW H×List MemPlace}(h:DataW.trod enc prog W 0 (fun _=>true) true fuel 24 cs=some x) :
  ∃o:gy,cs=o.cells/\(Lit.int .i64 o.port).wf=true/\(oO prog 24 x.1->o.Ld):=by
 obtain⟨hl,n,hf⟩:=nP underlying24 h;rw[AF]at hl;obtain⟨c0,c1,c2,rfl⟩:=aok hl;obtain⟨y0,h0,l0⟩:=hf 0 4 0 _ rfl uB;obtain⟨y1,h1,l1⟩:=hf 1 9 1 _ rfl iC;obtain⟨y2,h2,l2⟩:=hf 2 3 2 _ rfl pC;simp only[List.drop,List.take]at h0 h1 h2;obtain⟨b0,e0⟩:=nD underlying4 h0;obtain⟨b1,e1,w1⟩:=fj underlying9 h1;obtain⟨b2,e2,w2⟩:=kq underlying3 h2;simp at e0 e1 e2;subst e0 e1 e2
 exact⟨⟨b0,b1,b2⟩,rfl,w2,fun hL=>w1 (l1 hL)⟩
theorem D0{P:Program}{ts:List TypeId}{ds:List (DataW H)}(xx:(DataW.weightsEach P ts ds).all (· <=reachBytes)=true){d:DataW H}(ht:ts[j]?=some t)(hd:ds[j]?=some d):oO P t d:=fun n hn=>by
 have:=fZ.1 xx n (DataW.weights_mem_each ht hd n hn);simpa using this
theorem vp{p:UInt8->Bool}{t:aH}(ht:∀c,t.head?=some c->p c=false):t.dropWhile p=t:=by
 cases t with
 |nil=>rfl
 |cons c t=>rw[List.dropWhile_cons_of_neg (by simp[ht c rfl])]
theorem jg.isOk(h:jg s w e w')(hl:gP s.data.toList=.ok ws)(hn:ws.length<=40) :
  ∃v,e=.returned (.tuple #[v,.nilIface])/\Strs w.heap.size w' v (dM ws)/\Fr aW w w':=by
 obtain⟨v,er,he,hf,hm⟩:=h;rw[hl]at hm;have LL:if 40<ws.length then v=.slice none 0 0/\EG w' er (some (4,none))else Strs w.heap.size w' v (dM ws)/\er=.nilIface:=hm
 rw[ar (show¬40<ws.length from ab)]at LL;obtain⟨hv,hr⟩:=LL;exact⟨v,by rw[he,hr],hv,hf⟩
theorem gT.isOk{a:aH}(h:gT b s i w e w')(hq:gC s.data.toList i=Option.some (a,j)) :
  e=.returned (.tuple #[.string ⟨a.toArray⟩,.bool true])/\dk w' b s j/\Fr (one b) w w':=by
 obtain⟨he,hc,hf⟩:=h;rw[hq]at he;have h1:nG s.data.toList i=a:=by simp[nG,hq]
 have h2:ph s.data.toList i=j:=by simp[ph,hq]
 rw[h1]at he;rw[h2]at hc;exact⟨he,hc,hf⟩
theorem gT.isNone(h:gT b s i w e w')(hq:gC s.data.toList i=Option.none) :
  e=.returned (.tuple #[.string ⟨#[]⟩,.bool false])/\dk w' b s i/\Fr (one b) w w':=by
 obtain⟨he,hc,hf⟩:=h;rw[hq]at he;have h1:nG s.data.toList i=[]:=by simp[nG,hq]
 have h2:ph s.data.toList i=i:=by simp[ph,hq]
 rw[h1]at he;rw[h2]at hc;exact⟨he,hc,hf⟩
def Cs:aH:=[34,40,41,58,60,62,63,64,91,92,93,123,125]
def jR(c:UInt8):Bool:=(decide (c.toNat<32)&&!decide (c.toNat=9))||decide (c.toNat=127)||decide (0<=Lib.indexByte Cs c)
theorem LP(c:UInt8)(w:World) :
  aC 218 #[.int .u8 (c.toNat:Int)] w fun e w'=>e=.returned (.bool (jR c))/\w'=w:=by
 by_cases h1:c.toNat<32/\¬c.toNat=9
 ·obtain⟨h1,h2⟩:=h1;have hb:=O (show jR c=true by unfold jR;rw[bK h1,bB h2];rfl);have i1:(c.toNat:Int)<32:=ab;have i2:¬(c.toNat:Int)=9:=ab;go_enter func218,ntmps218;go_wp2;go_ret;exact⟨ft hb.o.symm,rfl⟩
 ·by_cases h3:c.toNat=127
  ·have hb:=O (show jR c=true by unfold jR;rw[bK h3];simp);have i1:¬(c.toNat:Int)<32:=ab;have i3:(c.toNat:Int)=127:=ab;go_enter func218,ntmps218;go_wp2;go_ret;exact⟨ft hb.o.symm,rfl⟩
  ·have hb:=O (show jR c=decide (0<=Lib.indexByte Cs c)by
    unfold jR;rw[bB h3];by_cases h4:c.toNat<32
    ·have h9:c.toNat=9:=ab;rw[bK h4,bK h9];rfl
    ·rw[bB h4];rfl)
   have HI:=O (show aC 201 #[.string ⟨#[34,40,41,58,60,62,63,64,91,92,93,123,125]⟩,.int .u8 (c.toNat:Int)] w fun e w'=>e=.returned (.int .i64 (Lib.indexByte Cs c))/\w'=w from
    (strings_IndexByte ⟨#[34,40,41,58,60,62,63,64,91,92,93,123,125]⟩ c.toNat w).mono fun e w' ⟨he,hw⟩=>⟨by
     have hc:((c.toNat:Int).toNat.toUInt8)=c:=aQ;rw[hc]at he;rw[he];rfl,hw⟩)
   by_cases h4:c.toNat<32
   ·have i1:(c.toNat:Int)<32:=ab;have i2:(c.toNat:Int)=9:=ab;have hi9:=HI.o;rw[i2]at hi9;have HI9:=O hi9;clear hi9;have i3:((c.toNat:Int)==127)=false:=by rw[aK];omega
    go_enter func218,ntmps218;go_wp2_with fail
    refine HI9.o.mono ?_;rintro e u⟨rfl,rfl⟩;go_wp2;go_ret
    first|exact⟨ft hb.o.symm,rfl⟩|exact⟨ft (show(((c.toNat:Int)==127)||decide (0<=Lib.indexByte Cs c))=jR c by rw[i3,hb.o];rfl),rfl⟩
   ·have i1:¬(c.toNat:Int)<32:=ab;have i2:¬(c.toNat:Int)=127:=ab;have i3:((c.toNat:Int)==127)=false:=by rw[aK];exact i2
    go_enter func218,ntmps218;go_wp2_with fail
    refine HI.o.mono ?_;rintro e u⟨rfl,rfl⟩;go_wp2;go_ret
    first|exact⟨ft hb.o.symm,rfl⟩|exact⟨ft (show(((c.toNat:Int)==127)||decide (0<=Lib.indexByte Cs c))=jR c by rw[i3,hb.o];rfl),rfl⟩
def rY:aH:=[32,42,44,45,46,59,61]
def qq(c:UInt8):Bool:=og c||decide (0<=Lib.indexByte rY c)
def vu(s:ai):Bool:=s.data.toList.all qq
def ae9(s:ai)(w:World)(i:Value)(wr:World):Prop:=∃k:Nat,k<=s.size/\i=.int .i64 k/\(s.data.toList.take k).all qq=true/\Fr aW w wr
theorem yD(s:ai)(w:World)(hs:s.size<100000) :
  aC 219 #[.string s] w fun e w'=>e=.returned (.bool (vu s))/\Fr aW w w':=by
 go_enter func219,ntmps219;go_wp2;go_loopw[7] (ae9 s w) (fun i _=>s.size-(intOf i).toNat)
 case atStart=>exact⟨0,ab,rfl,rfl,ae _ _⟩
 case round =>
  obtain⟨k,hk,rfl,iE,cN⟩:=hrel;by_cases fx:k<s.size
  ·have qp:(k:Int)<(s.size:Int):=ab;have qD:=byte_at s k fx;have HI:=O (show aC 201 #[.string ⟨#[32,42,44,45,46,59,61]⟩,.int .u8 (s[k].toNat:Int)] wr fun e w'=>e=.returned (.int .i64 (Lib.indexByte rY s[k]))/\w'=wr from
    (strings_IndexByte ⟨#[32,42,44,45,46,59,61]⟩ s[k].toNat wr).mono fun e w' ⟨he,hw⟩=>⟨by
     have hc:((s[k].toNat:Int).toNat.toUInt8)=s[k]:=aQ;rw[hc]at he;rw[he];rfl,hw⟩)
   have LQ:=O (show qq s[k]=true->(s.data.toList.take (k+1)).all qq=true from fun h=>by rw[ct,qD,jI,iE];simp[h]);have ZD:=O (show qq s[k]=false->vu s=false from fun h=>by unfold vu;rw[iU];exact⟨s[k],cA qD,by simp[h]⟩);have tL:=s[k].toNat_lt;by_cases g0:s[k].toNat<=47
   ·have q1:(s[k].toNat:Int)<48:=ab;have q2:¬57<(s[k].toNat:Int):=ab;have q3:(s[k].toNat:Int)<97:=ab;have q4:¬122<(s[k].toNat:Int):=ab;have q5:(s[k].toNat:Int)<65:=ab;have q6:¬90<(s[k].toNat:Int):=ab;have Br:og s[k]=false:=by unfold og;simp;omega
    have Ab:=O Br;clear Br qD iE;go_wp2_with fail
    refine HI.o.mono ?_;rintro e u⟨rfl,rfl⟩;by_cases wA:0<=Lib.indexByte rY s[k]
    ·have LR:¬Lib.indexByte rY s[k]<0:=ab;have HY:=O (LQ.o (by unfold qq;rw[Ab.o,bK wA];rfl));go_wp2;go_roundw
     case rel=>exact⟨k+1,ab,bf,HY.o,cN⟩
     case measure=>simp[intOf];omega
    ·have LR:Lib.indexByte rY s[k]<0:=ab;have HN:=O (ZD.o (by unfold qq;rw[Ab.o,bB wA];rfl));go_wp2;go_ret;exact⟨by rw[HN.o];rfl,cN⟩
   ·skip
    by_cases g1:s[k].toNat<=57
    ·have q1:¬(s[k].toNat:Int)<48:=ab;have q2:¬57<(s[k].toNat:Int):=ab;have q3:(s[k].toNat:Int)<97:=ab;have q4:¬122<(s[k].toNat:Int):=ab;have q5:(s[k].toNat:Int)<65:=ab;have q6:¬90<(s[k].toNat:Int):=ab;have hy:=LQ.o (by unfold qq og;simp;omega);have HY:=O hy;clear hy iE qD;go_wp2;go_roundw
     case rel=>exact⟨k+1,ab,bf,HY.o,cN⟩
     case measure=>simp[intOf];omega
    ·skip
     by_cases g2:s[k].toNat<=64
     ·have q1:¬(s[k].toNat:Int)<48:=ab;have q2:57<(s[k].toNat:Int):=ab;have q3:(s[k].toNat:Int)<97:=ab;have q4:¬122<(s[k].toNat:Int):=ab;have q5:(s[k].toNat:Int)<65:=ab;have q6:¬90<(s[k].toNat:Int):=ab;have Br:og s[k]=false:=by unfold og;simp;omega
      have Ab:=O Br;clear Br qD iE;go_wp2_with fail
      refine HI.o.mono ?_;rintro e u⟨rfl,rfl⟩;by_cases wA:0<=Lib.indexByte rY s[k]
      ·have LR:¬Lib.indexByte rY s[k]<0:=ab;have HY:=O (LQ.o (by unfold qq;rw[Ab.o,bK wA];rfl));go_wp2;go_roundw
       case rel=>exact⟨k+1,ab,bf,HY.o,cN⟩
       case measure=>simp[intOf];omega
      ·have LR:Lib.indexByte rY s[k]<0:=ab;have HN:=O (ZD.o (by unfold qq;rw[Ab.o,bB wA];rfl));go_wp2;go_ret;exact⟨by rw[HN.o];rfl,cN⟩
     ·skip
      by_cases g3:s[k].toNat<=90
      ·have q1:¬(s[k].toNat:Int)<48:=ab;have q2:57<(s[k].toNat:Int):=ab;have q3:(s[k].toNat:Int)<97:=ab;have q4:¬122<(s[k].toNat:Int):=ab;have q5:¬(s[k].toNat:Int)<65:=ab;have q6:¬90<(s[k].toNat:Int):=ab;have hy:=LQ.o (by unfold qq og;simp;omega);have HY:=O hy;clear hy iE qD;go_wp2;go_roundw
       case rel=>exact⟨k+1,ab,bf,HY.o,cN⟩
       case measure=>simp[intOf];omega
      ·skip
       by_cases g4:s[k].toNat<=96
       ·have q1:¬(s[k].toNat:Int)<48:=ab;have q2:57<(s[k].toNat:Int):=ab;have q3:(s[k].toNat:Int)<97:=ab;have q4:¬122<(s[k].toNat:Int):=ab;have q5:¬(s[k].toNat:Int)<65:=ab;have q6:90<(s[k].toNat:Int):=ab;have Br:og s[k]=false:=by unfold og;simp;omega
        have Ab:=O Br;clear Br qD iE;go_wp2_with fail
        refine HI.o.mono ?_;rintro e u⟨rfl,rfl⟩;by_cases wA:0<=Lib.indexByte rY s[k]
        ·have LR:¬Lib.indexByte rY s[k]<0:=ab;have HY:=O (LQ.o (by unfold qq;rw[Ab.o,bK wA];rfl));go_wp2;go_roundw
         case rel=>exact⟨k+1,ab,bf,HY.o,cN⟩
         case measure=>simp[intOf];omega
        ·have LR:Lib.indexByte rY s[k]<0:=ab;have HN:=O (ZD.o (by unfold qq;rw[Ab.o,bB wA];rfl));go_wp2;go_ret;exact⟨by rw[HN.o];rfl,cN⟩
       ·skip
        by_cases g5:s[k].toNat<=122
        ·have q1:¬(s[k].toNat:Int)<48:=ab;have q2:57<(s[k].toNat:Int):=ab;have q3:¬(s[k].toNat:Int)<97:=ab;have q4:¬122<(s[k].toNat:Int):=ab;have q5:¬(s[k].toNat:Int)<65:=ab;have q6:90<(s[k].toNat:Int):=ab;have hy:=LQ.o (by unfold qq og;simp;omega);have HY:=O hy;clear hy iE qD;go_wp2;go_roundw
         case rel=>exact⟨k+1,ab,bf,HY.o,cN⟩
         case measure=>simp[intOf];omega
        ·skip
         have q1:¬(s[k].toNat:Int)<48:=ab;have q2:57<(s[k].toNat:Int):=ab;have q3:¬(s[k].toNat:Int)<97:=ab;have q4:122<(s[k].toNat:Int):=ab;have q5:¬(s[k].toNat:Int)<65:=ab;have q6:90<(s[k].toNat:Int):=ab;have Br:og s[k]=false:=by unfold og;simp;omega
         have Ab:=O Br;clear Br qD iE;go_wp2_with fail
         refine HI.o.mono ?_;rintro e u⟨rfl,rfl⟩;by_cases wA:0<=Lib.indexByte rY s[k]
         ·have LR:¬Lib.indexByte rY s[k]<0:=ab;have HY:=O (LQ.o (by unfold qq;rw[Ab.o,bK wA];rfl));go_wp2;go_roundw
          case rel=>exact⟨k+1,ab,bf,HY.o,cN⟩
          case measure=>simp[intOf];omega
         ·have LR:Lib.indexByte rY s[k]<0:=ab;have HN:=O (ZD.o (by unfold qq;rw[Ab.o,bB wA];rfl));go_wp2;go_ret;exact⟨by rw[HN.o];rfl,cN⟩
  ·have qp:¬(k:Int)<(s.size:Int):=ab;have eX:=O (show vu s=true by
    unfold vu;rw[aD bF]at iE;exact iE)
   clear iE;go_wp2;go_ret;exact⟨by rw[eX.o];rfl,cN⟩
