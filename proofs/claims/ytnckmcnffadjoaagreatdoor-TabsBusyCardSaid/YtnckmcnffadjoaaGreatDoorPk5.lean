/- Lemmas for the law's walk. -/
import Derived.Test.YtnckmcnffadjoaaGreatDoorPk4
set_option maxRecDepth 100000
set_option maxHeartbeats 16000000
set_option linter.unusedSimpArgs false
namespace Go.Proofs.YtnckmcnffadjoaaGreatDoor
open Go.Proofs.Tryz
open Go.RowKit
variable {f k m g:Nat} {l:aG} {c:UInt8} {s:aj} {w w':World} {v:Value} {ws a b:List (aG)} {r:Except Nat (List (aG))}
def F9(w:World)(v:Value):Option (Nat×Option Nat)->Prop
 |none=>v=.nilIface
 |some (n,none)=>v=.iface 105 (.int .i64 n)
 |some (n,some p)=>∃g,v=.iface 211 (.pointer (some ⟨g,0,none⟩))/\w.heap[g]?=some (.cells #[.int .i64 n,.int .i64 p] 213 (0,0))
def lT:Nat->aG->Except Nat (List (aG))
 |0,_=>.ok []
 |f+1,r =>
  let r1:=r.dropWhile dJ
  let w:=r1.takeWhile fY
  let r3:=(r1.dropWhile fY).dropWhile dJ
  let ws:=if w.isEmpty then []else [w]
  match r3 with
  |[]=>.ok ws
  |c :: r4=>if c==44 then(lT f r4).map (ws++ ·)else .error (r4.length+1)
def gY(l:aG):Except Nat (List (aG)):=lT (l.length+1) l
theorem oK(p:UInt8->Bool)(l:aG):l.dropWhile p=l.drop (l.takeWhile p).length:=by
 induction l with
 |nil=>rfl
 |cons a t ih=>by_cases h:p a<;>simp[h,ih]
theorem kh(p:UInt8->Bool)(l:aG)(i:Nat):l.drop (cL p l i)=(l.drop i).dropWhile p:=by
 rw[oK,ey,cL]
theorem zl(p:UInt8->Bool)(l:aG):l.takeWhile p=l.take (l.takeWhile p).length:=by
 induction l with
 |nil=>rfl
 |cons a t ih=>by_cases h:p a<;>simp[h];exact ih
theorem zm(p:UInt8->Bool)(s:aj)(i:Nat):(s.extract i (cL p s.data.toList i))=⟨((s.data.toList.drop i).takeWhile p).toArray⟩:=by
 apply Go.WideShapes.bytes_inj;rw[Lib.extract_data,zl,List.take_drop];rw[cL,List.drop_take];generalize (List.takeWhile p (List.drop i s.data.toList)).length=n;rw[show i+(i+n-i)-i=n from ab]
def dP(l:List (aG)):List aj:=l.map fun w=>⟨w.toArray⟩
def X3(l:aG)(k:Nat):Nat:=cL dJ l k
def Ue(l:aG)(k:Nat):Nat:=cL fY l (X3 l k)
def vH(l:aG)(k:Nat):Nat:=cL dJ l (Ue l k)
def xP(l:aG)(k:Nat):aG:=(l.drop (X3 l k)).takeWhile fY
def X4(l:aG)(k:Nat):List (aG):=if(xP l k).isEmpty then []else [xP l k]
theorem vZ(f:Nat)(l:aG)(k:Nat):lT (f+1) (l.drop k) =
  match l.drop (vH l k)with
  |[]=>.ok (X4 l k)
  |c :: r4=>if c==44 then(lT f r4).map (X4 l k++ ·)else .error (r4.length+1):=by
 rw[lT];simp only[vH,Ue,X3,kh,X4,xP]
theorem F_(h:l.length<=vH l k):lT (f+1) (l.drop k)=.ok (X4 l k):=by
 rw[vZ,cO h]
theorem BN(h:l[vH l k]?=some 44):lT (f+1) (l.drop k)=(lT f (l.drop (vH l k+1))).map (X4 l k++ ·):=by
 rw[vZ,drop_at h];rfl
theorem F'(h:l[vH l k]?=some c)(hc:(c==44)=false):lT (f+1) (l.drop k)=.error (l.length-vH l k):=by
 rw[vZ,drop_at h];simp only[hc,cG,eU];have:=(List.getElem?_eq_some_iff.1 h).1;simp;omega
theorem YY(l:aG)(k:Nat):k<=X3 l k/\X3 l k<=Ue l k/\Ue l k<=vH l k:=⟨lK,lK,lK⟩
theorem ahb(h:k<=l.length):X3 l k<=l.length/\Ue l k<=l.length/\vH l k<=l.length :=
 ⟨ia h,ia (ia h),ia (ia (ia h))⟩
theorem Ga(p:UInt8->Bool)(l:aG)(k:Nat):cL p l (cL p l k)=cL p l k:=by
 unfold cL;have h:(l.drop (k+((l.drop k).takeWhile p).length)).takeWhile p=[]:=by
  rw[<-ey, <-oK];cases hd:(l.drop k).dropWhile p with
  |nil=>rfl
  |cons a t =>
   have:=List.head_dropWhile_not p (l:=l.drop k) (by rw[hd];simp);simp only[hd,List.head_cons]at this;simp[this]
 rw[h];rfl
theorem Kj(h:xP l k=[]):Ue l k=X3 l k/\vH l k=X3 l k:=by
 have h1:Ue l k=X3 l k:=by unfold Ue cL;rw[show(l.drop (X3 l k)).takeWhile fY=[]from h];rfl
 exact⟨h1,by unfold vH;rw[h1];exact Ga _ _ _⟩
theorem pI:∀(f:Nat) {r:aG},r.length<f->lT f r=lT (r.length+1) r
 |0,_,h=>absurd h (bS _)
 |f+1,r,h=>by
  have key:∀(c:UInt8) (r4:aG),((r.dropWhile dJ).dropWhile fY).dropWhile dJ=c :: r4->r4.length<r.length:=by
   intro c r4 e;have h1:=((jd (p:=dJ) (l:=(r.dropWhile dJ).dropWhile fY))).length_le;have h2:=((jd (p:=fY) (l:=r.dropWhile dJ))).length_le;have h3:=((jd (p:=dJ) (l:=r))).length_le;rw[e]at h1;simp at h1;omega
  rw[lT,lT];cases e:((r.dropWhile dJ).dropWhile fY).dropWhile dJ with
  |nil=>rfl
  |cons c r4 =>
   have hk:=key c r4 e;simp only;rw[pI f (show r4.length<f from ab),pI r.length hk]
def jx(s:aj)(w:World)(e:Ending)(w':World):Prop :=
 ∃v er,e=.returned (.tuple #[v,er])/\Fr aR w w' /\
  match gY s.data.toList with
  | .ok ws=>if 40<ws.length then v=.slice none 0 0/\F9 w' er (some (4,none))else Strs w.heap.size w' v (dP ws)/\er=.nilIface
  | .error m=>v=.slice none 0 0/\F9 w' er (some (3,some (s.size-m)))
theorem jx.ok(h:gY s.data.toList=.ok ws)(hn:ws.length<=40)(hv:Strs w.heap.size w' v (dP ws))(hf:Fr aR w w') :
  jx s w (.returned (.tuple #[v,.nilIface])) w':=⟨v,_,rfl,hf,by rw[h];show(if 40<ws.length then _ else _);rw[aq (show¬40<ws.length from ab)];exact⟨hv,rfl⟩⟩
theorem jx.long(h:gY s.data.toList=.ok ws)(hn:40<ws.length)(hf:Fr aR w w') :
  jx s w (.returned (.tuple #[.slice none 0 0,.iface 105 (.int .i64 4)])) w':=⟨_,_,rfl,hf,by rw[h];show(if 40<ws.length then _ else _);rw[az hn];exact⟨rfl,rfl⟩⟩
theorem jx.bad(h:gY s.data.toList=.error m)(hg:w'.heap[g]?=some (.cells #[.int .i64 3,.int .i64 (s.size-m:Nat)] 213 (0,0)))(hf:Fr aR w w') :
  jx s w (.returned (.tuple #[.slice none 0 0,.iface 211 (.pointer (some ⟨g,0,none⟩))])) w':=⟨_,_,rfl,hf,by rw[h];exact⟨rfl,g,rfl,hg⟩⟩
def am1(s:aj)(w:World)(v:Value)(wr:World):Prop :=
 ∃k acc,k<=s.size/\acc.length<=k/\du wr w.heap.size s k/\Strs (w.heap.size+1) wr v (dP acc)/\Fr aR w wr /\
  gY s.data.toList=(lT (s.size-k+1) (s.data.toList.drop k)).map (acc++ ·)
theorem Fr.yi{wr w1:World}{c:Nat}(h:Fr aR w wr)(g:Fr (one c) wr w1)(hc:w.heap.size<=c):Fr aR w w1:=h.step g (fun k hk e=>by have e':k=c:=e;omega)
theorem Kk(a:List (aG))(x:aG):dP (a++[x])=dP a++[⟨x.toArray⟩]:=by simp[dP]
theorem pJ(a:List (aG)):(dP a).length=a.length:=by simp[dP]
theorem PI(h:xP l k≠ []):X4 l k=[xP l k]:=by unfold X4;rw[aq (by simpa using h)]
theorem Kl(h:xP l k=[]):X4 l k=[]:=by unfold X4;rw[h];rfl
theorem Uf(h:r=.ok b):r.map (a++ ·)=.ok (a++b):=by rw[h];rfl
theorem Gb(h:r=.error m):r.map (a++ ·)=.error m:=by rw[h];rfl
theorem map_map(r:Except Nat (List (aG))):(r.map (b++ ·)).map (a++ ·)=r.map ((a++b)++ ·):=by cases r<;>simp[Except.map]
theorem yj{b b':Nat}{ss:List aj}(h:Strs b' w v ss)(hb:b<=b'):Strs b w v ss:=by
 obtain⟨h1,h2⟩:=h;refine⟨h1,?_⟩;rcases h2 with h2|⟨g,cap,cur,hv,hg,r⟩
 ·exact Or.inl h2
 ·exact Or.inr ⟨g,cap,cur,hv,aD hb hg,r⟩
theorem Km(s:aj)(w:World)(hs:s.size<4398046511104) :
  Calls prog 174 #[.string s] w (jx s w):=by
 have hm:s.size<=maxLen:=fq;go_enter func174,ntmps174;go_wp2_with (go_at_call 110;refine(T9 _ _).mono ?_;rintro e w1 ⟨rfl,rfl⟩)
 go_loopw[4] (am1 s w) (fun _ wr=>s.size-pG wr w.heap.size)
 case atStart=>exact⟨0,[],aI _,ay _,aB _ _,kT _ _,(ae _ _).alloc _,by rw[eD];cases h:lT (s.size-0+1) s.data.toList<;>simp[gY,Except.map]<;>simpa using h⟩
 case round =>
  obtain⟨k,acc,hk,ahc,hc,cP,cK,vG⟩:=hrel;have gJ:=O vG;clear vG;have iD:w.heap.size+1<=wr.heap.size:=hc.lt;have ahd:=YY s.data.toList k;have hle:=ahb (l:=s.data.toList) (k:=k) (by simpa using hk);have xM:s.data.toList.length=s.size:=aQ;rw[xM]at hle;obtain⟨m1,m2,m3⟩:=ahd;obtain⟨q1,q2,q3⟩:=hle;have qh:=O hc.pos;obtain⟨pK,Dc⟩:∃x,x=acc++X4 s.data.toList k:=⟨_,rfl⟩;have Fu:=O Dc;clear Dc;go_wp2_with fail
  refine(mB _ s k wr hc hm hk).mono ?_;rintro e w1⟨rfl,px,df⟩;have k_:=cK.yi df (ay _);have rE:=cP.fr df (fun k hk=>by have e:k=w.heap.size:=hk;omega);have Cp:w.heap.size+1<=w1.heap.size:=px.lt;go_wp2_with fail
  refine(vY _ s _ w1 px hm q1).mono ?_;rintro e w2⟨rfl,sN,dy⟩;have fO:=k_.yi dy (ay _);have fy:=rE.fr dy (fun k hk=>by have e:k=w.heap.size:=hk;omega);have MX:w.heap.size+1<=w2.heap.size:=sN.lt;have YZ:du w2 w.heap.size s (Ue s.data.toList k):=sN;rw[zm];have hW:((s.data.toList.drop (cL dJ s.data.toList k)).takeWhile fY)=xP s.data.toList k:=rfl;rw[hW];clear hW sN px df dy
  generalize hW2:xP s.data.toList k=W;have HW:=O hW2;clear hW2;cases W with
  |nil =>
   have hem:=O (Kj HW.o);have uB:du w2 w.heap.size s (vH s.data.toList k):=by have h:=YZ;rw[hem.o.1, <-hem.o.2]at h;exact h
   have BO:Strs (w.heap.size+1) w2 u4 (dP pK):=by rw[Fu.o,Kl HW.o,dR];exact fy
   clear YZ fy rE cP;have hlen:pK.length<=k+1:=by have e:=Fu.o;rw[Kl HW.o,dR]at e;rw[e];omega
   obtain⟨av,cv,hv⟩:=BO.form;subst hv;go_wp2_with fail
   by_cases AZ:s.size<=vH s.data.toList k
   ·have fc:=O (show gY s.data.toList=.ok pK by rw[gJ.o,Uf (F_ (by simpa using AZ)),Fu.o]);have hd:decide (s.size<=vH s.data.toList k)=true:=by simpa using AZ
    refine(xh _ s _ w2 uB).mono ?_;rintro e w4⟨rfl,n4,rfl⟩;rw[hd];by_cases H':40<(dP pK).length
    ·have ac6:((40:Int)<((dP pK).length:Int)):=ab;go_wp2;go_ret2;exact jx.long fc.o (by rw[pJ]at H';exact H') (fO.drewN _)
    ·have ac6:¬((40:Int)<((dP pK).length:Int)):=ab;go_wp2;go_ret2;exact jx.ok fc.o (by rw[pJ]at H';omega) (yj BO (bU _)) (fO.drewN _)
   ·have hd:decide (s.size<=vH s.data.toList k)=false:=by simpa using AZ
    refine(xh _ s _ w2 uB).mono ?_;rintro e w4⟨rfl,n4,rfl⟩;rw[hd];have uy:du (w2.drewN n4) w.heap.size s (vH s.data.toList k):=uB;have PJ:Strs (w.heap.size+1) (w2.drewN n4) _ (dP pK):=BO;have jV:=fO.drewN n4;go_wp2_with fail
    refine(qg _ s _ 44 _ uy hm).mono ?_;rintro e w5⟨rfl,uz,lG⟩;have tU:=jV.yi lG (ay _);have hv5:=PJ.fr lG (fun k hk=>by have e:k=w.heap.size:=hk;omega);have sO:vH s.data.toList k<s.data.toList.length:=by simpa using AZ
    have dN:=O (List.getElem?_eq_getElem sO);cases e1:kn s (vH s.data.toList k) 44
    ·have fc:=O (show gY s.data.toList=.error (s.data.toList.length-vH s.data.toList k)by
      rw[gJ.o,Gb (F' dN.o (by have h:=e1;unfold kn at h;rw[dN.o]at h;simpa using h))])
     rw[pF e1]at uz;have c1:=uz.hZ;have Fg:=O (show s.size-(s.data.toList.length-vH s.data.toList k)=vH s.data.toList k by rw[xM]at sO ⊢; omega);go_wp2
     go_region
     all_goals
      go_wp2;go_ret2;exact jx.bad fc.o (by rw[Fg.o];exact aB w5 _) ((tU.alloc _).drew)
    ·have fc:=O (show gY s.data.toList=(lT (s.size-(vH s.data.toList k+1)+1) (s.data.toList.drop (vH s.data.toList k+1))).map (pK++ ·)by
      rw[gJ.o,Fu.o,BN (by have h:=e1;unfold kn at h;simpa using h),map_map];rw[pI (f:=s.size-k) bG,pI (f:=s.size-(vH s.data.toList k+1)+1) aQ])
     rw[pE e1]at uz;go_wp2;go_roundw
     case rel=>exact⟨_,pK,ab,ab,uz,hv5,tU,fc.o⟩
     case measure=>rw[qh.o,uz.pos];omega
  |cons x W' =>
   have hne:xP s.data.toList k≠ []:=by rw[HW.o];simp
   have CN:=O hne;clear hne;have Dd:=O (show dP pK=dP acc++[⟨(x :: W').toArray⟩]by rw[Fu.o,PI CN.o,HW.o,Kk]);have hlen:pK.length<=k+1:=by have e:=Fu.o;rw[PI CN.o]at e;rw[e];simp;omega
   obtain⟨av,cv,hv⟩:=fy.form;subst hv;have hlA:acc.length<4398046511104:=ab;have Fh:=O (pJ acc);clear rE cP;go_wp2_with (at_builtin;refine nO rfl _ _ rfl (w.heap.size+1) (.slice av _ cv) (dP acc) rfl (by apply iE;exact fy) ⟨w2.heap.size,0,none⟩ 1 ⟨(x :: W').toArray⟩ rfl (jv _ _ _ _) (by rw[Fh.o];exact hlA) bG ?_;intro v' w3 fo CO)
   have ac7:du w3 w.heap.size s (Ue s.data.toList k):=by
    have h2:du (w2.alloc (.cells #[.string ⟨(x :: W').toArray⟩] 9)) w.heap.size s (Ue s.data.toList k):=YZ.alloc;unfold du at h2 ⊢;rw[CO.block _ (bj h2) (fun e=>by have:=fy.block _ e.symm;omega)];exact h2
   have ic:=(fO.alloc (.cells #[.string ⟨(x :: W').toArray⟩] 9)).fQ CO (fun k hk=>by have:=fy.block k hk;omega);rw[<-Dd.o]at fo;clear fy CO YZ;have Ug:w.heap.size+1<=w3.heap.size:=ac7.lt;go_wp2_with fail
   refine(mB _ s _ w3 ac7 hm q2).mono ?_;rintro e w6⟨rfl,uB,nF⟩;have uB:du w6 w.heap.size s (vH s.data.toList k):=uB;have yX:=ic.yi nF (ay _);have BO:=fo.fr nF (fun k hk=>by have e:k=w.heap.size:=hk;omega);clear fo nF ac7;have hs6:w.heap.size+1<=w6.heap.size:=uB.lt;obtain⟨av3,cv3,hv⟩:=BO.form;subst hv;go_wp2_with fail
   by_cases AZ:s.size<=vH s.data.toList k
   ·have fc:=O (show gY s.data.toList=.ok pK by rw[gJ.o,Uf (F_ (by simpa using AZ)),Fu.o]);have hd:decide (s.size<=vH s.data.toList k)=true:=by simpa using AZ
    refine(xh _ s _ w6 uB).mono ?_;rintro e w4⟨rfl,n4,rfl⟩;rw[hd];by_cases H':40<(dP pK).length
    ·have ac6:((40:Int)<((dP pK).length:Int)):=ab;go_wp2;go_ret2;exact jx.long fc.o (by rw[pJ]at H';exact H') (yX.drewN _)
    ·have ac6:¬((40:Int)<((dP pK).length:Int)):=ab;go_wp2;go_ret2;exact jx.ok fc.o (by rw[pJ]at H';omega) (yj BO (bU _)) (yX.drewN _)
   ·have hd:decide (s.size<=vH s.data.toList k)=false:=by simpa using AZ
    refine(xh _ s _ w6 uB).mono ?_;rintro e w4⟨rfl,n4,rfl⟩;rw[hd];have uy:du (w6.drewN n4) w.heap.size s (vH s.data.toList k):=uB;have PJ:Strs (w.heap.size+1) (w6.drewN n4) _ (dP pK):=BO;have jV:=yX.drewN n4;go_wp2_with fail
    refine(qg _ s _ 44 _ uy hm).mono ?_;rintro e w5⟨rfl,uz,lG⟩;have tU:=jV.yi lG (ay _);have hv5:=PJ.fr lG (fun k hk=>by have e:k=w.heap.size:=hk;omega);have sO:vH s.data.toList k<s.data.toList.length:=by simpa using AZ
    have dN:=O (List.getElem?_eq_getElem sO);cases e1:kn s (vH s.data.toList k) 44
    ·have fc:=O (show gY s.data.toList=.error (s.data.toList.length-vH s.data.toList k)by
      rw[gJ.o,Gb (F' dN.o (by have h:=e1;unfold kn at h;rw[dN.o]at h;simpa using h))])
     rw[pF e1]at uz;have c1:=uz.hZ;have Fg:=O (show s.size-(s.data.toList.length-vH s.data.toList k)=vH s.data.toList k by rw[xM]at sO ⊢; omega);go_wp2
     go_region
     all_goals
      go_wp2;go_ret2;exact jx.bad fc.o (by rw[Fg.o];exact aB w5 _) ((tU.alloc _).drew)
    ·have fc:=O (show gY s.data.toList=(lT (s.size-(vH s.data.toList k+1)+1) (s.data.toList.drop (vH s.data.toList k+1))).map (pK++ ·)by
      rw[gJ.o,Fu.o,BN (by have h:=e1;unfold kn at h;simpa using h),map_map];rw[pI (f:=s.size-k) bG,pI (f:=s.size-(vH s.data.toList k+1)+1) aQ])
     rw[pE e1]at uz;go_wp2;go_roundw
     case rel=>exact⟨_,pK,ab,ab,uz,hv5,tU,fc.o⟩
     case measure=>rw[qh.o,uz.pos];omega
theorem Ia:∀(f:Nat) (r a z:aG),r.length<=f->vV r=some (a,z)->a.length+z.length+1<=r.length
 |0,r,a,z,hf,h=>by
  have:r=[]:=cg ab;subst this;rw[vV.eq_def]at h;simp at h
 |f+1,[],a,z,hf,h=>by rw[vV.eq_def]at h;simp at h
 |f+1,x :: r,a,z,hf,h=>by
  rw[vV.eq_def]at h;simp only at h;by_cases h1:(x==34)=true
  ·rw[az h1]at h;cases h;simp
  ·rw[aq h1]at h;by_cases h2:(x==92)=true
   ·rw[az h2]at h;cases r with
    |nil=>simp at h
    |cons y r' =>
     simp only at h;by_cases h3:nx y=true
     ·rw[az h3]at h;cases hq:vV r' with
      |none=>rw[hq]at h;simp at h
      |some p =>
       rw[hq]at h;simp at h;obtain⟨rfl,rfl⟩:=h;have:=Ia f r' p.1 p.2 (by simp at hf;omega) hq;simp;omega
     ·rw[aq h3]at h;simp at h
   ·rw[aq h2]at h;by_cases h3:nx x=true
    ·rw[az h3]at h;cases hq:vV r with
     |none=>rw[hq]at h;simp at h
     |some p =>
      rw[hq]at h;simp at h;obtain⟨rfl,rfl⟩:=h;have:=Ia f r p.1 p.2 (by simp at hf;omega) hq;simp;omega
    ·rw[aq h3]at h;simp at h
def Uh(k:Int)(n:Nat):Nat:=(max 0 (min k n)).toNat
theorem yk(b:Nat)(s:aj)(i:Nat)(k:Int)(w:World)(h:du w b s i)(hs:s.size<=maxLen) :
  Calls prog 213 #[.pointer (some ⟨b,0,none⟩),.int .i64 k] w fun e w'=>e=.returned (.tuple #[])/\du w' b s (Uh k s.size)/\Fr (one b) w w':=by
 have h0:=h.cell0;have h1:=h.hZ;have hf:=h.free 1;unfold maxLen at hs;go_enter func213,ntmps213;go_wp2;go_end0;rw[show max 0 (min k (s.size:Int))=((Uh k s.size:Nat):Int)from by unfold Uh;omega];exact⟨rfl,h.setCell,mz w b _ 0⟩
def Ib(l:aG):Bool:=AX l||n_ l
def iH:List aj:=[⟨#[68,69,76,69,84,69]⟩,⟨#[71,69,84]⟩,⟨#[72,69,65,68]⟩,⟨#[79,80,84,73,79,78,83]⟩,⟨#[80,79,83,84]⟩,⟨#[80,85,84]⟩]
def ny:List aj->aj->aj
 |[],s=>s
 |m :: l,s=>if dG s.data.toList m.data.toList then m else ny l s
def jM(s:aj):aj:=ny iH s
def qX(s:aj):Bool:=s.toList== [71,69,84]||s.toList== [72,69,65,68]||s.toList== [80,79,83,84]
theorem zu:∀(l:List aj) (s:aj),(ny l s∈l/\dG s.data.toList (ny l s).data.toList=true)\/ny l s=s
 |[],s=>.inr rfl
 |m :: l,s=>by
  unfold ny;by_cases h:dG s.data.toList m.data.toList=true
  ·rw[az h];exact .inl ⟨cQ .., h⟩
  ·rw[aq h];rcases zu l s with ⟨h1,h2⟩|h1
   ·exact .inl ⟨bN _ h1,h2⟩
   ·exact .inr h1
theorem Nk(s:aj)(w:World) :
  Calls prog 120 #[.string s] w fun e w'=>e=.returned (.bool (qX s))/\w=w':=by
 by_cases h1:s.toList=[71,69,84]
 ·have hb:=O (show qX s=true by unfold qX;rw[h1];rfl);go_enter func120,ntmps120;go_wp2;go_ret;exact⟨fx hb.o.symm,rfl⟩
 ·by_cases h2:s.toList=[72,69,65,68]
  ·have hb:=O (show qX s=true by unfold qX;rw[h2];rfl);go_enter func120,ntmps120;go_wp2;go_ret;exact⟨fx hb.o.symm,rfl⟩
  ·have hb:=O (show qX s=(s.toList== [71,69,84]||s.toList== [72,69,65,68]||s.toList== [80,79,83,84])from rfl);go_enter func120,ntmps120;go_wp2;go_ret;exact⟨fx hb.o.symm,rfl⟩
def ahg(s:aj)(w:World)(i:Value)(wr:World):Prop:=∃k:Nat,k<=6/\i=.int .i64 k/\jM s=ny (iH.drop k) s/\Fr aR w wr
theorem yn(s:aj)(w:World)(hs:s.size<100000) :
  Calls prog 51 #[.string s] w fun e w'=>e=.returned (.string (jM s))/\Fr aR w w':=by
 have HC:=O (show∀U,Fr aR (w.alloc (.cells (iH.map Value.string).toArray 9)) U->∀(k:Nat) x,iH[k]?=some x->U.cell? ⟨w.heap.size,k,none⟩=some (.string x)from fun U hU k x hx=>by
  have h:=hU.keep (aB w (.cells (iH.map Value.string).toArray 9)) (fun h=>h);have e:(iH.map Value.string)[k]?=some (.string x):=by rw[List.getElem?_map,hx];rfl
  simp only[World.cell?,h];simpa using e)
 have ks:Fr aR w (w.alloc (.cells (iH.map Value.string).toArray 9)):=(ae aR w).alloc _;have mr:=O ks;obtain⟨wb,j_⟩:∃wb,wb=w.alloc (.cells (iH.map Value.string).toArray 9):=⟨_,rfl⟩;rw[<-j_]at HC mr
 have qY:=O (show wb=w.alloc (.cells #[.string ⟨#[68,69,76,69,84,69]⟩,.string ⟨#[71,69,84]⟩,.string ⟨#[72,69,65,68]⟩,.string ⟨#[79,80,84,73,79,78,83]⟩,.string ⟨#[80,79,83,84]⟩,.string ⟨#[80,85,84]⟩] 9)from j_);clear j_ ks;go_enter func51,ntmps51;go_wp2;rw[<-qY.o];go_loopw[7] (ahg s wb) (fun i _=>6-(intOf i).toNat)
 case atStart=>exact⟨0,ab,rfl,rfl,ae _ _⟩
 case round =>
  obtain⟨k,hk,rfl,hm,cK⟩:=hrel;by_cases hk6:k<6
  ·have py:(k:Int)<6:=ab;obtain⟨m,PQ⟩:∃m,iH[k]?=some m:=⟨_,List.getElem?_eq_getElem (by show k<6;exact hk6)⟩;have hcell:=HC.o wr cK k m PQ;have hmz:m.size<=10:=(show∀x∈iH,x.size<=10 from ag) m (bT PQ);have HD:=O (show jM s=if dG s.data.toList m.data.toList then m else ny (iH.drop (k+1)) s by
    rw[hm,cR (show k<iH.length from hk6)];have e:iH[k]'(show k<iH.length from hk6)=m:=by rw[List.getElem?_eq_getElem (show k<iH.length from hk6)]at PQ;exact ka PQ
    rw[e];rfl)
   clear hm PQ;have X5:=O (mA s m wr ab ab);go_wp2_with fail
   refine X5.o.mono ?_;rintro e w5⟨rfl,lG⟩;clear X5;cases pk:dG s.data.toList m.data.toList
   ·have HD2:=O (show jM s=ny (iH.drop (k+1)) s by rw[HD.o,pk];rfl);clear pk;go_wp2;go_roundw
    case rel=>exact⟨k+1,ab,a_,HD2.o,cK.trans lG⟩
    case measure=>simp[intOf];omega
   ·have HD2:=O (show jM s=m by rw[HD.o,pk];rfl);clear pk;go_wp2;go_ret;exact⟨by rw[HD2.o];rfl,mr.o.trans (cK.trans lG)⟩
  ·have py:¬(k:Int)<6:=ab;have HD2:=O (show jM s=s by rw[hm,cO (by show 6<=k;omega)];rfl);clear hm;go_wp2;go_ret;exact⟨by rw[HD2.o];rfl,mr.o.trans cK⟩
def DN:List Int:=[3614090360,3905402710,606105819,3250441966,4118548399,1200080426,2821735955,4249261313,1770035416,2336552879,4294925233,2304563134,1804603682,4254626195,2792965006,1236535329,4129170786,3225465664,643717713,3921069994,3593408605,38016083,3634488961,3889429448,568446438,3275163606,4107603335,1163531501,2850285829,4243563512,1735328473,2368359562,4294588738,2272392833,1839030562,4259657740,2763975236,1272893353,4139469664,3200236656,681279174,3936430074,3572445317,76029189,3654602809,3873151461,530742520,3299628645,4096336452,1126891415,2878612391,4237533241,1700485571,2399980690,4293915773,2240044497,1873313359,4264355552,2734768916,1309151649,4149444226,3174756917,718787259,3951481745]
def oT:List Nat:=[7,12,17,22,5,9,14,20,4,11,16,23,6,10,15,21]
def om(w:World)(g:Nat)(k:IntKind)(zs:List Int):Prop:=g<w.heap.size/\∀(i:Nat) z,zs[i]?=some z->w.cell? ⟨g,i,none⟩=some (.int k z)
theorem om.fr{k:IntKind}{zs:List Int}(h:om w g k zs)(hf:Fr aR w w'):om w' g k zs :=
 ⟨cN h.1 hf.size,fun i z hz=>(hf.cell (p:=⟨g,i,none⟩) h.1 (fun h=>h)).trans (h.2 i z hz)⟩
structure tI (w:World):Prop where
 s:om w 3 .u32 DN
 t:om w 4 .i64 (oT.map Int.ofNat)
theorem tI.fr(h:tI w)(hf:Fr aR w w'):tI w':=⟨h.s.fr hf,h.t.fr hf⟩
structure Md where
 a:Int
 b:Int
 c:Int
 d:Int
def Md.ok(s:Md):Prop:=(0<=s.a/\s.a<4294967296)/\(0<=s.b/\s.b<4294967296)/\(0<=s.c/\s.c<4294967296)/\(0<=s.d/\s.d<4294967296)
def ND(x:Int):Int:=bits .xor .u32 IntKind.u32.max x
def mdF(r:Nat)(b c d:Int):Int:=match r with
 |0=>bits .or .u32 (bits .and .u32 b c) (bits .and .u32 (ND b) d)
 |1=>bits .or .u32 (bits .and .u32 d b) (bits .and .u32 (ND d) c)
 |2=>bits .xor .u32 (bits .xor .u32 b c) d
 |_=>bits .xor .u32 c (bits .or .u32 b (ND d))
def Zt(r k:Nat):Nat:=match r with
 |0=>k
 |1=>(5*k+1)%16
 |2=>(3*k+5)%16
 |_=>7*k%16
def rL(X:aG)(k:Nat)(s:Md):Md :=
 ⟨s.d,(s.b+ma ((mdF (k/16) s.b s.c s.d+(s.a+DN.getD k 0+qN true (X.drop (4*Zt (k/16) k))))%4294967296) (oT.getD (k/16*4+k%4) 0))%4294967296,s.b,s.c⟩
def kX(X:aG)(h:Md):Nat->Md
 |0=>h
 |k+1=>rL X k (kX X h k)
def CW(X:aG)(h:Md):Md :=
 ⟨(h.a+(kX X h 64).a)%4294967296,(h.b+(kX X h 64).b)%4294967296,(h.c+(kX X h 64).c)%4294967296,(h.d+(kX X h 64).d)%4294967296⟩
def md0:Md:=⟨1732584193,4023233417,2562383102,271733878⟩
def yz(T:aG):Nat->Md
 |0=>md0
 |k+1=>CW (T.drop (64*k)) (yz T k)
def Md.list(s:Md):List Int:=[s.a,s.b,s.c,s.d]
def KV(l:aG):aG:=oQ true (yz (vJ true l) ((vJ true l).length/64)).list
theorem Be(x:Int):0<=x%4294967296/\x%4294967296<4294967296:=⟨Int.emod_nonneg _ ag,Int.emod_lt_of_pos _ ag⟩
theorem Rk{X:aG}{s:Md}(h:s.ok):(rL X k s).ok:=⟨h.2.2.2,Be _,h.2.1,h.2.2.1⟩
theorem DP{X:aG}{h:Md}(ho:h.ok):∀k,(kX X h k).ok
 |0=>ho
 |k+1=>Rk (DP ho k)
theorem NF(X:aG)(h:Md):(CW X h).ok:=⟨Be _,Be _,Be _,Be _⟩
theorem ady:md0.ok:=by unfold Md.ok md0;decide
theorem P9(T:aG):∀k,(yz T k).ok
 |0=>ady
 |_+1=>NF _ _
theorem zI:∀i:Fin 16,bits .and .u64 ((oT.getD i.val 0:Nat):Int) 31=((oT.getD i.val 0:Nat):Int)/\oT.getD i.val 0<32:=dp
theorem KW(dL:Bool)(l:aG):(vJ dL l).length%64=0/\(vJ dL l).length<=l.length+128:=by
 unfold vJ;simp only[aM,fi,nz,List.length_cons,List.length_nil];omega
theorem kD(T:aj)(i:Nat):(T.extract i T.size).data.toList=T.data.toList.drop i:=by
 rw[Lib.extract_data,aC aQ]
theorem jE(T:aj)(i:Nat):(T.extract i T.size).size=T.size-i:=by
 have h:(T.extract i T.size).data.toList.length=(T.extract i T.size).size:=rfl;rw[<-h,kD,bJ];simp
theorem P_(T:aj)(i j:Nat):(T.extract i T.size).extract j (T.extract i T.size).size=T.extract (i+j) T.size:=by
 apply Go.WideShapes.bytes_inj;rw[kD,kD,kD,ey]
theorem ug{b:Nat}{cur:Array Value}{t:TypeId}{f:Nat×Nat}(h:w.heap[b]?=some (.cells cur t f))(o:Nat)(v:Value):(w.setCell ⟨b,o,none⟩ v).heap[b]?=some (.cells (cur.setIfInBounds o v) t f):=by
 simp[World.setCell,Array.getElem?_modify,h]
def tJ(w:World)(g:Nat)(h:Md):Prop:=w.heap[g]?=some (.cells #[.int .u32 h.a,.int .u32 h.b,.int .u32 h.c,.int .u32 h.d] 298 (0,0))
def ahF(T:aj)(g:Nat)(w:World)(t:Value)(wr:World):Prop:=∃k:Nat,64*k<=T.size/\t=.string (T.extract (64*k) T.size)/\tJ wr g (yz T.data.toList k)/\Fr aR w wr
def anr(X:aG)(h:Md)(g:Nat)(w:World)(a b c d i:Value)(wr:World):Prop :=
 ∃k:Nat,k<=64/\i=.int .i64 k/\a=.int .u32 (kX X h k).a/\b=.int .u32 (kX X h k).b/\c=.int .u32 (kX X h k).c/\d=.int .u32 (kX X h k).d/\tJ wr g h/\Fr aR w wr
theorem Zu(s:aj)(w:World)(hs:s.size<4398046511104)(ht:tI w) :
  Calls prog 209 #[.string s] w fun e w'=>e=.returned (.string ⟨(KV s.data.toList).toArray⟩)/\Fr aR w w':=by
 have gS:Fr aR w (w.alloc (.cells #[.int .u32 1732584193,.int .u32 4023233417,.int .u32 2562383102,.int .u32 271733878] 298)):=(ae aR w).alloc _;have Y1:tJ (w.alloc (.cells #[.int .u32 1732584193,.int .u32 4023233417,.int .u32 2562383102,.int .u32 271733878] 298)) w.heap.size md0:=aB _ _;have HM0:=O Y1;clear Y1;go_enter func209,ntmps209;go_wp2_with fail
 refine(P8 s true _ ab).mono ?_;rintro e w1⟨rfl,df⟩;obtain⟨T,hT⟩:∃T,T=(⟨(vJ true s.data.toList).toArray⟩:aj):=⟨_,rfl⟩;rw[<-hT];have hTl:T.data.toList=vJ true s.data.toList:=by rw[hT]
 have hTs:T.size=(vJ true s.data.toList).length:=by rw[<-hTl];simp
 obtain⟨adA,UQ⟩:=KW true s.data.toList;rw[<-hTs]at adA UQ;have KX:s.data.toList.length=s.size:=aQ;rw[KX]at UQ;have DQ:=O (show KV s.data.toList=oQ true (yz T.data.toList (T.size/64)).list by unfold KV;rw[hTl,hTs]);have HM1:=O (show tJ w1 w.heap.size md0 from df.keep HM0.o (fun h=>h));have k_:=O (gS.trans df);clear hT hTl hTs HM0 gS df KX;go_wp2
 go_loopw[4] (ahF T w.heap.size w) (fun t _=>match t with| .string x=>x.size|_=>0)
 case atStart=>exact⟨0,ab,by rw[Nat.mul_zero];congr 1;apply Go.WideShapes.bytes_inj;rw[kD];rfl,HM1.o,k_.o⟩
 case round =>
  obtain⟨n,hn,rfl,hm,cK⟩:=hrel;by_cases hne:64*n<T.size
  ·have UR:64<=(T.extract (64*n) T.size).size:=by rw[jE];omega
   have ant:(T.extract (64*n) T.size).size<17592186044416:=by rw[jE];omega
   have qi:=O (P_ T (64*n) 64);have hXl:=O (kD T (64*n));have hXm:=O (jE T (64*n));generalize T.extract (64*n) T.size=X at *
   have hx:X.toList.isEmpty=false:=by
    rw[aO];cases hq:X.data.toList with
    |nil=>rw[gW.1 hq]at UR;omega
    |cons a l=>rfl
   have Ur:¬X.toList=[]:=by rw[aO];intro h;rw[gW.1 h]at UR;omega
   have HM:=O hm;have h0:wr.cell? ⟨w.heap.size,0,none⟩=some (.int .u32 (yz T.data.toList n).a):=by unfold tJ at hm;simp[World.cell?,hm]
   have h1:wr.cell? ⟨w.heap.size,1,none⟩=some (.int .u32 (yz T.data.toList n).b):=by unfold tJ at hm;simp[World.cell?,hm]
   have h2:wr.cell? ⟨w.heap.size,2,none⟩=some (.int .u32 (yz T.data.toList n).c):=by unfold tJ at hm;simp[World.cell?,hm]
   have h3:wr.cell? ⟨w.heap.size,3,none⟩=some (.int .u32 (yz T.data.toList n).d):=by unfold tJ at hm;simp[World.cell?,hm]
   have qe:=O (show yz T.data.toList (n+1)=CW X.data.toList (yz T.data.toList n)by rw[hXl.o];rfl);have Bf:=O (P9 T.data.toList n);generalize yz T.data.toList n=H at *
   clear hm;go_wp2;go_quiet (fail);clear h0 h1 h2 h3;go_wp2;go_loopw[5,6,7,8,27] (anr X.data.toList H w.heap.size w) (fun _ _ _ _ i _=>64-(intOf i).toNat)
   case atStart=>exact⟨0,ab,rfl,rfl,rfl,rfl,rfl,by exact HM.o,by first|exact cK|exact cK.drewN _⟩
   case round =>
    obtain⟨k,hk,rfl,rfl,rfl,rfl,rfl,hm,js⟩:=hrel;obtain⟨⟨a0,a1⟩,⟨b0,b1⟩,⟨c0,c1⟩,⟨d0,d1⟩⟩:=DP (X:=X.data.toList) Bf.o k;have HM2:=O hm;have Dd:=O (show kX X.data.toList H (k+1)=rL X.data.toList k (kX X.data.toList H k)from rfl)
    have H64:=O (show k=64->CW X.data.toList H=⟨(H.a+(kX X.data.toList H k).a)%4294967296,(H.b+(kX X.data.toList H k).b)%4294967296,(H.c+(kX X.data.toList H k).c)%4294967296,(H.d+(kX X.data.toList H k).d)%4294967296⟩from fun h=>by subst h;rfl);generalize kX X.data.toList H k=M at *
    clear hm;by_cases KP:k<64
    ·have auP:(k:Int)<64:=ab;obtain⟨z,hz⟩:∃z,DN[k]?=some z:=⟨_,List.getElem?_eq_getElem (by show k<64;omega)⟩;have IE:=O ((ht.fr js).s.2 k z hz);have hzd:=O (show DN.getD k 0=z by rw[List.getD_eq_getElem?_getD,hz];rfl);obtain⟨m,hmm⟩:∃m:Nat,(k:Int)%4=(m:Int):=⟨k%4,ab⟩;have hm4:m<4:=ab;have Zv:=O (show k%4=m from ab);clear hz;by_cases hr0:k<16
     ·have e1:(k:Int)/16=0:=ab;have vK:=O (show k/16=0 from ab);have hmg:=O (show Zt (k/16) k=k by rw[vK.o];rfl);obtain⟨wv,FA⟩:∃wv,wv=qN true (X.extract (4*k) X.size).data.toList:=⟨_,rfl⟩;have sX:=O (fun W=>wJ (X.extract (4*k) X.size) true W (by rw[jE];omega) (by rw[jE];omega));rw[<-FA]at sX;have Zw:=O (show qN true (X.data.toList.drop (4*Zt (k/16) k))=wv by rw[hmg.o,FA,kD]);clear FA;go_wp2
      have qF:IntKind.i64.wrap (4*(k:Int))=4*(k:Int):=IntWalk.i64_in _ ab;have q0:(0:Int)<=(k:Int):=ab;have q1:(0:Int)<=4*(k:Int):=ab;have q2:4*(k:Int)<=(X.size:Int):=ab;have q3:4*k<=X.size:=ab;have q4:(4*(k:Int)).toNat=4*k:=ab;have DS:=IE.o;go_quiet ((go_at_call 239;exact Calls.quiet_of (sX.o _)));clear qF q0 q1 q2 q3 q4 DS
      obtain⟨z2,lq⟩:∃z2,oT[m]?=some z2:=⟨_,List.getElem?_eq_getElem (by show m<16;omega)⟩;have htu:=(ht.fr (js.drewN nq)).t.2 (m) (z2:Int) (by rw[List.getElem?_map,lq];rfl);have hzt:=O (show oT.getD (k/16*4+k%4) 0=z2 by rw[vK.o,Zv.o,show 0*4+m=m from ab,List.getD_eq_getElem?_getD,lq];rfl)
      obtain⟨kC,NG⟩:bits .and .u64 (z2:Int) 31=(z2:Int)/\z2<32:=by have h:=zI ⟨m,ab⟩;simp only[List.getD_eq_getElem?_getD,lq,Option.getD_some]at h;exact h
      clear lq;have m0:(m:Int)<4:=ab;have TE:=O (show tJ (wr.drewN nq) w.heap.size H from HM2.o);have qG:=js.drewN nq;generalize wr.drewN nq=wd at *
      go_wp2_with fail
      refine(CV _ (z2:Int) z2 wd ab ab kC NG).mono ?_;rintro e w5⟨rfl,rfl⟩;have lH:=O (show rL X.data.toList k M=⟨M.d,(M.b+ma ((mdF 0 M.b M.c M.d+(M.a+z+wv))%4294967296) z2)%4294967296,M.b,M.c⟩by unfold rL;rw[hzd.o,hzt.o,Zw.o,vK.o]);clear htu kC;go_wp2;go_roundw
      case rel=>exact⟨k+1,ab,a_,by rw[Dd.o,lH.o],by rw[Dd.o,lH.o];rfl,by rw[Dd.o,lH.o],by rw[Dd.o,lH.o],TE.o,qG⟩
      case measure=>simp[intOf];omega
     ·by_cases yY:k<32
      ·have e1:(k:Int)/16=1:=ab;have vK:=O (show k/16=1 from ab);obtain⟨gg,Ya⟩:∃gg:Nat,gg=(5*k+1)%16:=⟨_,rfl⟩;have ahI:gg<16:=ab;have Yb:(5*(k:Int)+1)%16=(gg:Int):=ab;have hmg:=O (show Zt (k/16) k=gg by rw[vK.o,Ya];rfl);obtain⟨wv,FA⟩:∃wv,wv=qN true (X.extract (4*gg) X.size).data.toList:=⟨_,rfl⟩;have sX:=O (fun W=>wJ (X.extract (4*gg) X.size) true W (by rw[jE];omega) (by rw[jE];omega));rw[<-FA]at sX
       have Zw:=O (show qN true (X.data.toList.drop (4*Zt (k/16) k))=wv by rw[hmg.o,FA,kD]);clear FA Ya;go_wp2;have qF:IntKind.i64.wrap (4*(gg:Int))=4*(gg:Int):=IntWalk.i64_in _ ab;have q0:(0:Int)<=(k:Int):=ab;have q1:(0:Int)<=4*(gg:Int):=ab;have q2:4*(gg:Int)<=(X.size:Int):=ab;have q3:4*gg<=X.size:=ab;have q4:(4*(gg:Int)).toNat=4*gg:=ab;have DS:=IE.o
       go_quiet ((go_at_call 239;exact Calls.quiet_of (sX.o _)));clear qF q0 q1 q2 q3 q4 DS;obtain⟨z2,lq⟩:∃z2,oT[4+m]?=some z2:=⟨_,List.getElem?_eq_getElem (by show 4+m<16;omega)⟩;have htu:=(ht.fr (js.drewN nq)).t.2 (4+m) (z2:Int) (by rw[List.getElem?_map,lq];rfl);have hzt:=O (show oT.getD (k/16*4+k%4) 0=z2 by rw[vK.o,Zv.o,show 1*4+m=4+m from ab,List.getD_eq_getElem?_getD,lq];rfl)
       obtain⟨kC,NG⟩:bits .and .u64 (z2:Int) 31=(z2:Int)/\z2<32:=by have h:=zI ⟨4+m,ab⟩;simp only[List.getD_eq_getElem?_getD,lq,Option.getD_some]at h;exact h
       clear lq;have m0:(m:Int)<4:=ab;have TE:=O (show tJ (wr.drewN nq) w.heap.size H from HM2.o);have qG:=js.drewN nq;generalize wr.drewN nq=wd at *
       go_wp2_with fail
       refine(CV _ (z2:Int) z2 wd ab ab kC NG).mono ?_;rintro e w5⟨rfl,rfl⟩;have lH:=O (show rL X.data.toList k M=⟨M.d,(M.b+ma ((mdF 1 M.b M.c M.d+(M.a+z+wv))%4294967296) z2)%4294967296,M.b,M.c⟩by unfold rL;rw[hzd.o,hzt.o,Zw.o,vK.o]);clear htu kC;go_wp2;go_roundw
       case rel=>exact⟨k+1,ab,a_,by rw[Dd.o,lH.o],by rw[Dd.o,lH.o];rfl,by rw[Dd.o,lH.o],by rw[Dd.o,lH.o],TE.o,qG⟩
       case measure=>simp[intOf];omega
      ·by_cases ox:k<48
       ·have e1:(k:Int)/16=2:=ab;have vK:=O (show k/16=2 from ab);obtain⟨gg,Ya⟩:∃gg:Nat,gg=(3*k+5)%16:=⟨_,rfl⟩;have ahI:gg<16:=ab;have Yb:(3*(k:Int)+5)%16=(gg:Int):=ab;have hmg:=O (show Zt (k/16) k=gg by rw[vK.o,Ya];rfl);obtain⟨wv,FA⟩:∃wv,wv=qN true (X.extract (4*gg) X.size).data.toList:=⟨_,rfl⟩;have sX:=O (fun W=>wJ (X.extract (4*gg) X.size) true W (by rw[jE];omega) (by rw[jE];omega));rw[<-FA]at sX
        have Zw:=O (show qN true (X.data.toList.drop (4*Zt (k/16) k))=wv by rw[hmg.o,FA,kD]);clear FA Ya;go_wp2;have qF:IntKind.i64.wrap (4*(gg:Int))=4*(gg:Int):=IntWalk.i64_in _ ab;have q0:(0:Int)<=(k:Int):=ab;have q1:(0:Int)<=4*(gg:Int):=ab;have q2:4*(gg:Int)<=(X.size:Int):=ab;have q3:4*gg<=X.size:=ab;have q4:(4*(gg:Int)).toNat=4*gg:=ab;have DS:=IE.o
        go_quiet ((go_at_call 239;exact Calls.quiet_of (sX.o _)));clear qF q0 q1 q2 q3 q4 DS;obtain⟨z2,lq⟩:∃z2,oT[8+m]?=some z2:=⟨_,List.getElem?_eq_getElem (by show 8+m<16;omega)⟩;have htu:=(ht.fr (js.drewN nq)).t.2 (8+m) (z2:Int) (by rw[List.getElem?_map,lq];rfl);have hzt:=O (show oT.getD (k/16*4+k%4) 0=z2 by rw[vK.o,Zv.o,show 2*4+m=8+m from ab,List.getD_eq_getElem?_getD,lq];rfl)
        obtain⟨kC,NG⟩:bits .and .u64 (z2:Int) 31=(z2:Int)/\z2<32:=by have h:=zI ⟨8+m,ab⟩;simp only[List.getD_eq_getElem?_getD,lq,Option.getD_some]at h;exact h
        clear lq;have m0:(m:Int)<4:=ab;have TE:=O (show tJ (wr.drewN nq) w.heap.size H from HM2.o);have qG:=js.drewN nq;generalize wr.drewN nq=wd at *
        go_wp2_with fail
        refine(CV _ (z2:Int) z2 wd ab ab kC NG).mono ?_;rintro e w5⟨rfl,rfl⟩;have lH:=O (show rL X.data.toList k M=⟨M.d,(M.b+ma ((mdF 2 M.b M.c M.d+(M.a+z+wv))%4294967296) z2)%4294967296,M.b,M.c⟩by unfold rL;rw[hzd.o,hzt.o,Zw.o,vK.o]);clear htu kC;go_wp2;go_roundw
        case rel=>exact⟨k+1,ab,a_,by rw[Dd.o,lH.o],by rw[Dd.o,lH.o];rfl,by rw[Dd.o,lH.o],by rw[Dd.o,lH.o],TE.o,qG⟩
        case measure=>simp[intOf];omega
       ·have e1:(k:Int)/16=3:=ab;have vK:=O (show k/16=3 from ab);obtain⟨gg,Ya⟩:∃gg:Nat,gg=7*k%16:=⟨_,rfl⟩;have ahI:gg<16:=ab;have Yb:7*(k:Int)%16=(gg:Int):=ab;have hmg:=O (show Zt (k/16) k=gg by rw[vK.o,Ya];rfl);obtain⟨wv,FA⟩:∃wv,wv=qN true (X.extract (4*gg) X.size).data.toList:=⟨_,rfl⟩;have sX:=O (fun W=>wJ (X.extract (4*gg) X.size) true W (by rw[jE];omega) (by rw[jE];omega));rw[<-FA]at sX
        have Zw:=O (show qN true (X.data.toList.drop (4*Zt (k/16) k))=wv by rw[hmg.o,FA,kD]);clear FA Ya;go_wp2;have qF:IntKind.i64.wrap (4*(gg:Int))=4*(gg:Int):=IntWalk.i64_in _ ab;have q0:(0:Int)<=(k:Int):=ab;have q1:(0:Int)<=4*(gg:Int):=ab;have q2:4*(gg:Int)<=(X.size:Int):=ab;have q3:4*gg<=X.size:=ab;have q4:(4*(gg:Int)).toNat=4*gg:=ab;have DS:=IE.o
        go_quiet ((go_at_call 239;exact Calls.quiet_of (sX.o _)));clear qF q0 q1 q2 q3 q4 DS;obtain⟨z2,lq⟩:∃z2,oT[12+m]?=some z2:=⟨_,List.getElem?_eq_getElem (by show 12+m<16;omega)⟩;have htu:=(ht.fr (js.drewN nq)).t.2 (12+m) (z2:Int) (by rw[List.getElem?_map,lq];rfl);have hzt:=O (show oT.getD (k/16*4+k%4) 0=z2 by rw[vK.o,Zv.o,show 3*4+m=12+m from ab,List.getD_eq_getElem?_getD,lq];rfl)
        obtain⟨kC,NG⟩:bits .and .u64 (z2:Int) 31=(z2:Int)/\z2<32:=by have h:=zI ⟨12+m,ab⟩;simp only[List.getD_eq_getElem?_getD,lq,Option.getD_some]at h;exact h
        clear lq;have m0:(m:Int)<4:=ab;have TE:=O (show tJ (wr.drewN nq) w.heap.size H from HM2.o);have qG:=js.drewN nq;generalize wr.drewN nq=wd at *
        go_wp2_with fail
        refine(CV _ (z2:Int) z2 wd ab ab kC NG).mono ?_;rintro e w5⟨rfl,rfl⟩;have lH:=O (show rL X.data.toList k M=⟨M.d,(M.b+ma ((mdF 3 M.b M.c M.d+(M.a+z+wv))%4294967296) z2)%4294967296,M.b,M.c⟩by unfold rL;rw[hzd.o,hzt.o,Zw.o,vK.o]);clear htu kC;go_wp2;go_roundw
        case rel=>exact⟨k+1,ab,a_,by rw[Dd.o,lH.o],by rw[Dd.o,lH.o];rfl,by rw[Dd.o,lH.o],by rw[Dd.o,lH.o],TE.o,qG⟩
        case measure=>simp[intOf];omega
    ·have US:k=64:=ab;subst US;have wK:=HM2.o;have h0:wr.cell? ⟨w.heap.size,0,none⟩=some (.int .u32 H.a):=by unfold tJ at wK;simp[World.cell?,wK]
     have h1:wr.cell? ⟨w.heap.size,1,none⟩=some (.int .u32 H.b):=by unfold tJ at wK;simp[World.cell?,wK]
     have h2:wr.cell? ⟨w.heap.size,2,none⟩=some (.int .u32 H.c):=by unfold tJ at wK;simp[World.cell?,wK]
     have h3:wr.cell? ⟨w.heap.size,3,none⟩=some (.int .u32 H.d):=by unfold tJ at wK;simp[World.cell?,wK]
     have f0:wr.frozen? ⟨w.heap.size,0,none⟩=false:=by unfold tJ at wK;simp[World.frozen?,wK]
     have f1:wr.frozen? ⟨w.heap.size,1,none⟩=false:=by unfold tJ at wK;simp[World.frozen?,wK]
     have f2:wr.frozen? ⟨w.heap.size,2,none⟩=false:=by unfold tJ at wK;simp[World.frozen?,wK]
     have f3:wr.frozen? ⟨w.heap.size,3,none⟩=false:=by unfold tJ at wK;simp[World.frozen?,wK]
     clear wK;have anu:(64:Int)<=(X.size:Int):=ab;go_wp2;have JQ:wr.heap[w.heap.size]?=some (.cells #[.int .u32 H.a,.int .u32 H.b,.int .u32 H.c,.int .u32 H.d] 298 (0,0)):=HM2.o;have qj:=ug JQ 0 (.int .u32 ((H.a+M.a)%4294967296));have kC:=ug qj 1 (.int .u32 ((H.b+M.b)%4294967296));have tK:=ug kC 2 (.int .u32 ((H.c+M.c)%4294967296));have vL:=ug tK 3 (.int .u32 ((H.d+M.d)%4294967296))
     refine⟨⟨n+1,ab,?_,?_,(((js.gI (p:=⟨w.heap.size,0,none⟩) (ay _) _).gI (p:=⟨w.heap.size,1,none⟩) (ay _) _).gI (p:=⟨w.heap.size,2,none⟩) (ay _) _).gI (p:=⟨w.heap.size,3,none⟩) (ay _) _⟩,?_⟩
     ·rw[qi.o];rfl
     ·rw[qe.o,H64.o rfl];exact vL
     ·show(X.extract 64 X.size).size<X.size;rw[jE];omega
  ·have CX:64*n=T.size:=ab;have he:(T.extract (64*n) T.size)=⟨#[]⟩:=by apply Go.WideShapes.bytes_inj;rw[kD,cO bG]
   rw[he];have UT:=O (show yz T.data.toList (T.size/64)=yz T.data.toList n by rw[<-CX];congr 1;omega);have Bf:=P9 T.data.toList n;generalize yz T.data.toList n=H at *
   have HM:=O hm;have TX:=O (B7 w.heap.size H.list true wr (by show 4<=8;omega) (bj hm) (fun j x hj=>by
    unfold tJ at hm
    match j,hj with
    |0,hj=>simp[Md.list]at hj;subst hj;simp[World.cell?,hm]
    |1,hj=>simp[Md.list]at hj;subst hj;simp[World.cell?,hm]
    |2,hj=>simp[Md.list]at hj;subst hj;simp[World.cell?,hm]
    |3,hj=>simp[Md.list]at hj;subst hj;simp[World.cell?,hm]
    |j+4,hj=>simp[Md.list]at hj) (fun x hx=>by
    simp only[Md.list,bB,cq,dU]at hx;obtain⟨p0,p1,p2,p3⟩:=Bf;rcases hx with rfl|rfl|rfl|rfl<;>assumption))
   clear hm Bf;go_wp2_with fail
   refine TX.o.mono ?_;rintro e w5⟨rfl,lG⟩;go_wp2;go_ret;exact⟨by rw[DQ.o,UT.o];rfl,cK.trans lG⟩
def anN(c:UInt8):Option Nat:=if 65<=c/\c<=90 then some (c.toNat-65)else if 97<=c/\c<=122 then some (c.toNat-71)else if 48<=c/\c<=57 then some (c.toNat+4)else if c=43 then some 62 else if c=47 then some 63 else none
def qv(l:aG):Nat->Nat
 |0=>0
 |j+1=>qv l j*64+(match l[j]? with|some c=>(anN c).getD 0|none=>0)
theorem xo:∀(l:aG) (c:UInt8) (i:Nat),Lib.indexByte l c=(i:Int)->l=l.take i++c :: l.drop (i+1)/\c∉l.take i
 |[],c,i,h=>by simp[Lib.indexByte]at h
 |x :: l,c,i,h=>by
  have hge:=Lib.indexByte_ge l c;have h':(if x==c then(0:Int)else if Lib.indexByte l c== -1 then -1 else Lib.indexByte l c+1)=(i:Int):=h;by_cases hx:x=c
  ·rw[az (by simpa using hx)]at h';obtain rfl:i=0:=ab;subst hx;exact⟨rfl,aQ⟩
  ·rw[aq (by simpa using hx)]at h';by_cases h1:Lib.indexByte l c= -1
   ·rw[az (by simpa using h1)]at h';omega
   ·rw[aq (by simpa using h1)]at h';obtain⟨j,rfl⟩:∃j,i=j+1:=⟨i-1,ab⟩;obtain⟨e1,e2⟩:=xo l c j ab;refine⟨?_,?_⟩
    ·show x :: l=x :: (l.take j++c :: l.drop (j+1));rw[<-e1]
    ·intro hc;rcases bB.1 hc with rfl|hc
     ·exact hx rfl
     ·exact e2 hc
theorem U4{i:Nat}(h:Lib.indexByte l c=(i:Int)):i<l.length:=by
 obtain⟨e,_⟩:=xo l c i h;have:=ar List.length e;simp at this;omega
def jc(c:UInt8)(s:aj):List aj:=(dZ c s.data.toList).map fun l=>⟨l.toArray⟩
theorem oU(s:aj)(a b:Nat):s.extract a b=⟨((s.data.toList.drop a).take (b-a)).toArray⟩:=by
 have h:=Lib.extract_data s a b;have h2:(s.extract a b).data=((s.data.toList.drop a).take (b-a)).toArray:=by rw[<-h]
 calc s.extract a b=⟨(s.extract a b).data⟩:=rfl
  _=_:=by rw[h2]
theorem D2(c:UInt8)(s:aj)(i:Nat)(h:Lib.indexByte s.data.toList c=(i:Int)):jc c s=s.extract 0 i :: jc c (s.extract (i+1) s.size):=by
 obtain⟨e,hn⟩:=xo _ _ _ h;unfold jc
 conv=>lhs;rw[e,Dh c _ _ hn,cA]
 rw[oU,oU,aC (l:=s.data.toList.drop (i+1)) aQ];rfl
theorem B_(c:UInt8)(s:aj)(h:¬0<=Lib.indexByte s.data.toList c):jc c s=[s]:=by
 have hn:c∉s.data.toList:=fun hc=>(Ii _ _).1 h c hc rfl;unfold jc;rw[Di c _ hn];rfl
theorem yA(s:aj)(c:UInt8):Lib.indexB s ⟨#[c]⟩=Lib.indexByte s.data.toList c:=by
 show Lib.index s.data.toList [c]=_;exact Lib.index_one _ _
theorem Ca(c:UInt8):∀(k:Nat) (s:aj),Lib.countB s ⟨#[c]⟩=k->Lib.splitB ⟨#[c]⟩ 0 k s=jc c s
 |0,s,hk=>by
  rcases Lib.indexB_cases s ⟨#[c]⟩with xm|⟨i,xm,_⟩
  ·rw[Lib.splitB_zero,B_ c s (by rw[<-yA,xm];decide)]
  ·have:=Lib.countB_hit s ⟨#[c]⟩ i (ay _) xm;omega
 |k+1,s,hk=>by
  rcases Lib.indexB_cases s ⟨#[c]⟩with xm|⟨i,xm,_⟩
  ·rw[Lib.countB_miss s ⟨#[c]⟩ xm]at hk;omega
  ·have hct:=Lib.countB_hit s ⟨#[c]⟩ i (ay _) xm;rw[Lib.splitB_hit _ 0 k s i xm,D2 c s i (by rw[<-yA];exact xm)];have e:Lib.splitB ⟨#[c]⟩ 0 k (s.extract (i+(⟨#[c]⟩:aj).size) s.size)=jc c (s.extract (i+1) s.size):=Ca c k (s.extract (i+1) s.size) (by
    have:Lib.countB (s.extract (i+(⟨#[c]⟩:aj).size) s.size) ⟨#[c]⟩=k:=ab;exact this)
   rw[e];rfl
theorem NQ(s:aj)(c:UInt8):Lib.countB s ⟨#[c]⟩=Lib.countByte s.data.toList c:=by
 show Lib.count s.data.toList [c]=_;exact Lib.count_one _ _
theorem yB(s:aj)(c:UInt8)(w:World)(hs:s.size<4294967281) :
  Calls prog 125 #[.string s,.string ⟨#[c]⟩] w fun e w'=>e=.returned (.slice (some ⟨w.heap.size,0,none⟩) (jc c s).length (jc c s).length)/\w'=w.alloc (.cells ((jc c s).map Value.string).toArray 9):=by
 have px:(1:Nat)<=(⟨#[c]⟩:aj).size:=ay _;have hle:=Lib.countB_le ⟨#[c]⟩ px s.size s (ay _);have hlen:=Lib.splitB_all ⟨#[c]⟩ px 0 _ s rfl;have qz:Lib.splitB ⟨#[c]⟩ 0 (Lib.countB s ⟨#[c]⟩) s=jc c s:=Ca c _ s rfl;have k:Calls prog 184 #[.string s,.string ⟨#[c]⟩,.int .i64 (0:Nat),.int .i64 (-1)] w fun e w' =>
   e=.returned (.slice (some ⟨w.heap.size,0,none⟩) (Lib.splitB ⟨#[c]⟩ 0 (Lib.countB s ⟨#[c]⟩+1-1) s).length (Lib.countB s ⟨#[c]⟩+1))/\w'=w.alloc (.cells (Lib.cellsOf (Lib.splitB ⟨#[c]⟩ 0 (Lib.countB s ⟨#[c]⟩+1-1) s) (Lib.countB s ⟨#[c]⟩+1)) 9) :=
  Any.strings_genSplit_core YS af s ⟨#[c]⟩ 0 (-1) (Lib.countB s ⟨#[c]⟩+1) w hs px (aI _)
   (fun x cc _=>(Any.strings_Index_one YN x c _).mono fun e w' ⟨he,hw⟩=>⟨by rw[he,yA],hw⟩)
   ((Any.strings_Count_one YP s c w).mono fun e w' ⟨he,hw⟩=>⟨by rw[he,NQ],hw⟩)
   ag ag (by rw[az ag];omega)
 rw[Nat.add_sub_cancel,hlen]at k;have e2:Lib.cellsOf (Lib.splitB ⟨#[c]⟩ 0 (Lib.countB s ⟨#[c]⟩) s) (Lib.countB s ⟨#[c]⟩+1)=((Lib.splitB ⟨#[c]⟩ 0 (Lib.countB s ⟨#[c]⟩) s).map Value.string).toArray:=by rw[<-hlen];exact Lib.cellsOf_full _
 rw[e2, <-hlen,qz]at k;go_enter func125,ntmps125;go_wp2_with fail
 refine k.mono ?_;rintro e w1⟨rfl,rfl⟩;go_wp2;go_ret;exact⟨rfl,rfl⟩
def within(path p:aj):Bool:=Lib.hasPrefix path.data.toList p.data.toList
theorem D6(path p:aj)(w:World) :
  Calls prog 204 #[.string path,.string p] w fun e w'=>e=.returned (.bool (within path p))/\w=w':=by
 go_enter func204,ntmps204;go_wp2_with fail
 refine(strings_HasPrefix path p w).mono ?_;rintro e w'⟨rfl,rfl⟩;go_wp2;go_ret;exact⟨rfl,rfl⟩
def rQ(path:aj)(ps:List aj)(n:Int):Int:=ps.foldl (fun n p=>if within path p then max n (p.size:Int)else n) n
def uO(g:gz)(gp:Bool)(ps:List aj)(o:gz)(proxy:Bool)(path:aj):Int:=if g.ll o&&gp==proxy then rQ path ps (-1)else -1
theorem NX(path:aj)(ps:List aj)(p:aj)(n:Int):rQ path (ps++[p]) n=if within path p then max (rQ path ps n) (p.size:Int)else rQ path ps n:=by simp[rQ]
def Vh(path:aj)(ps:List aj)(n i:Value):Prop:=∃k:Nat,k<=ps.length/\i=.int .i64 k/\n=.int .i64 (rQ path (ps.take k) (-1))
theorem RF(g:aP Value)(o:gz)(proxy:Bool)(path:aj)(ps:List aj)(w:World)(hp:fN w g.paths ps) :
  Calls prog 154 #[.agg g.cells.toArray,.agg o.cells.toArray,.bool proxy,.string path] w fun e w'=>e=.returned (.int .i64 (uO g.o g.proxy ps o proxy path))/\Fr aR w w':=by
 have hne:=BR g.o o;unfold aP.cells gz.cells;obtain⟨av,cv,hv⟩:=hp.form;rw[hv]at hp ⊢;clear hv;cases e1:g.o.ll o
 ·have HR:=O (show uO g.o g.proxy ps o proxy path= -1 by unfold uO;rw[e1];rfl);go_enter func154,ntmps154;go_wp2;go_ret;exact⟨by rw[HR.o];rfl,((ae _ _).alloc _).alloc _⟩
 ·cases e2:g.proxy==proxy
  ·have HR:=O (show uO g.o g.proxy ps o proxy path= -1 by unfold uO;rw[e1,e2];rfl);have e2':(g.proxy !=proxy)=true:=by rw[bne,e2];rfl
   go_enter func154,ntmps154;go_wp2;go_ret;exact⟨by rw[HR.o];rfl,((ae _ _).alloc _).alloc _⟩
  ·have HR:=O (show uO g.o g.proxy ps o proxy path=rQ path ps (-1)by unfold uO;rw[e1,e2];rfl);have e2':(g.proxy !=proxy)=false:=by rw[bne,e2];rfl
   go_enter func154,ntmps154;go_wp2;have hf:Fr aR w _:=((ae aR w).alloc (.cells #[.bool g.o.aF,.string g.o.host,.int .i64 g.o.port,.bool g.proxy,.string g.user,.string g.pass,.int .i64 g.a.scheme,.string g.a.aK,.string g.a.bq,.string g.a.cj,.bool g.a.cy,.string g.a.eE,.bool g.a.cM,g.a.dom,.int .i64 g.count,.slice av ps.length cv] 114)).alloc (.cells #[.bool o.aF,.string o.host,.int .i64 o.port] 32)
   have Dq:=hp.fH hf;generalize (w.alloc _).alloc _=W at hf Dq;clear hp hne e1 e2 e2'
   go_loop [9,26] (Vh path ps) (fun _ i=>ps.length-(intOf i).toNat)
   case atStart=>exact⟨0,aI _,rfl,rfl⟩
   case round =>
    obtain⟨k,hk,rfl,rfl⟩:=hrel;by_cases eX:k<ps.length
    ·rcases Dq with ⟨_,_,_,e,_⟩|⟨bk,of,c,df,h1,h2,h3,h4⟩
     ·rw[e]at eX;exact absurd eX (bS _)
     ·cases df;unfold maxLen at h2;have dN:=O (List.getElem?_eq_getElem eX);have hc:=h4 k _ dN.o;generalize ps[k]=x at dN hc;have JL:=O (show rQ path (ps.take (k+1)) (-1)=if within path x then max (rQ path (ps.take k) (-1)) (x.size:Int)else rQ path (ps.take k) (-1)by rw[dW dN.o,NX]);clear h4;generalize rQ path (ps.take k) (-1)=n at *
      cases hw:within path x
      ·have adS:=O (show rQ path (ps.take (k+1)) (-1)=n by rw[JL.o,hw];rfl);go_wp2_with fail
       refine(D6 path x W).mono ?_;rintro e w1⟨rfl,rfl⟩;rw[hw];go_wp2
       go_round
       case rel=>exact⟨k+1,ab,a_,by rw[adS.o]⟩
       case measure=>simp[intOf];omega
      ·have adS:=O (show rQ path (ps.take (k+1)) (-1)=max n (x.size:Int)by rw[JL.o,hw];rfl);go_wp2_with fail
       refine(D6 path x W).mono ?_;rintro e w1⟨rfl,rfl⟩;rw[hw];go_wp2
       go_round
       case rel=>exact⟨k+1,ab,a_,by rw[adS.o]⟩
       case measure=>simp[intOf];omega
    ·have fc:=O (show rQ path (ps.take k) (-1)=rQ path ps (-1)by rw[aC ab]);go_wp2;go_ret;exact⟨by rw[HR.o,fc.o];rfl,hf⟩
def gO(S:Nat->Prop)(w:World)(g:Nat)(cap:Array Value)(p:List Value->Bool)(xs:List (List Value)):Prop :=
 ∀x,x∈xs->∀u,Fr S w u->Calls prog g (#[.agg x.toArray]++cap) u fun e u'=>e=.returned (.bool (p x))/\Fr aR u u'
theorem gO.none{S:Nat->Prop}{cap:Array Value}{p:List Value->Bool}{xs:List (List Value)}(h:gO S w g cap p xs):gO aR w g cap p xs :=
 fun x hx u hu=>h x hx u (hu.mono (fun _ _ h=>absurd h (fun h=>h)))
theorem jF{P:Program}(w:World)(t e ty:TypeId)(zs:Array Value)(ht:P.underlying t=some (.slice e))(hv:∀w,(zeroValue e).run P w=.ok (.agg zs) w)(hs:0<zs.size)(h1:∀v∈zs.toList,v.oneCell'=true)(b o n c:Nat)(hn:0<n)
  (hc:w.there b o (n*zs.size)) :
  (Builtin.clear_ #[t] ty #[.slice (some ⟨b,o,none⟩) n c]).run P w=.ok (.tuple #[]) (w.setCells b o (Builtin.zeroCells zs n).toList):=by
 have hl:(Builtin.zeroCells zs n).toList.length=n*zs.size:=by simp[Builtin.zeroCells]
 have jq:=run_storeCells_cells (P:=P) b o (Builtin.zeroCells zs n).toList 0 w (by rw[hl];intro j hj;exact(hc j hj).1) (by rw[hl];intro j hj;exact(hc j hj).2) (by
  intro v sH;rw[Builtin.zeroCells,Array.mem_toList_iff,Array.mem_map]at sH;obtain⟨i,_,rfl⟩:=sH;have hm:=Nat.mod_lt i hs;rw[getElem!_pos zs _ hm];exact h1 _ aQ)
 simp only[Nat.add_zero]at jq;obtain⟨m,rfl⟩:∃m,n=m+1:=⟨n-1,ab⟩;have M_:(Value.agg zs).cells=zs:=rfl;simp[Builtin.clear_,run_underlying ht,hv,M_,jq]
