/- Lemmas for the law's walk. -/
import Derived.Test.YtnckmcnffadjoaaGreatDoorPk3
set_option maxRecDepth 100000
set_option maxHeartbeats 16000000
set_option linter.unusedSimpArgs false
namespace Go.Proofs.YtnckmcnffadjoaaGreatDoor
open Go.Proofs.Tryz
open Go.RowKit
variable {f k m g b i fuel j:Nat} {l:aH} {c:UInt8} {s:aj} {w w':World} {v:Value} {ws a:List (aH)} {r:Except Nat (List (aH))} {t:TypeId} {cs:aZ} {e:Ending}
def Gf(w:World)(v:Value):Option (Nat×Option Nat)->Prop
 |none=>v=.nilIface
 |some (n,none)=>v=.iface 105 (.int .i64 n)
 |some (n,some p)=>∃g,v=.iface 211 (.pointer (some ⟨g,0,none⟩))/\w.heap[g]?=some (.cells #[.int .i64 n,.int .i64 p] 213 (0,0))
def ma:Nat->aH->Except Nat (List (aH))
 |0,_=>.ok []
 |f+1,r =>
  let r1:=r.dropWhile dN
  let w:=r1.takeWhile gq
  let r3:=(r1.dropWhile gq).dropWhile dN
  let ws:=if w.isEmpty then []else [w]
  match r3 with
  |[]=>.ok ws
  |c :: r4=>if c==44 then(ma f r4).map (ws++ ·)else .error (r4.length+1)
def ia(l:aH):Except Nat (List (aH)):=ma (l.length+1) l
theorem oT(p:UInt8->Bool)(l:aH):l.dropWhile p=l.drop (l.takeWhile p).length:=by
 induction l with
 |nil=>rfl
 |cons a t ih=>by_cases h:p a<;>simp[h,ih]
theorem kp(p:UInt8->Bool)(l:aH)(i:Nat):l.drop (cQ p l i)=(l.drop i).dropWhile p:=by
 rw[oT,eD,cQ]
theorem zv(p:UInt8->Bool)(l:aH):l.takeWhile p=l.take (l.takeWhile p).length:=by
 induction l with
 |nil=>rfl
 |cons a t ih=>by_cases h:p a<;>simp[h];exact ih
theorem zw(p:UInt8->Bool)(s:aj)(i:Nat):(s.extract i (cQ p s.data.toList i))=⟨((s.data.toList.drop i).takeWhile p).toArray⟩:=by
 apply Go.WideShapes.bytes_inj;rw[Lib.extract_data,zv,List.take_drop];rw[cQ,List.drop_take];generalize (List.takeWhile p (List.drop i s.data.toList)).length=n;rw[show i+(i+n-i)-i=n from ab]
def dT(l:List (aH)):List aj:=l.map fun w=>⟨w.toArray⟩
def Yf(l:aH)(k:Nat):Nat:=cQ dN l k
def Ur(l:aH)(k:Nat):Nat:=cQ gq l (Yf l k)
def vM(l:aH)(k:Nat):Nat:=cQ dN l (Ur l k)
def xV(l:aH)(k:Nat):aH:=(l.drop (Yf l k)).takeWhile gq
def Yg(l:aH)(k:Nat):List (aH):=if(xV l k).isEmpty then []else [xV l k]
theorem wk(f:Nat)(l:aH)(k:Nat):ma (f+1) (l.drop k) =
  match l.drop (vM l k)with
  |[]=>.ok (Yg l k)
  |c :: r4=>if c==44 then(ma f r4).map (Yg l k++ ·)else .error (r4.length+1):=by
 rw[ma];simp only[vM,Ur,Yf,kp,Yg,xV]
theorem Gg(h:l.length<=vM l k):ma (f+1) (l.drop k)=.ok (Yg l k):=by
 rw[wk,cV h]
theorem BW(h:l[vM l k]?=some 44):ma (f+1) (l.drop k)=(ma f (l.drop (vM l k+1))).map (Yg l k++ ·):=by
 rw[wk,drop_at h];rfl
theorem Gh(h:l[vM l k]?=some c)(hc:(c==44)=false):ma (f+1) (l.drop k)=.error (l.length-vM l k):=by
 rw[wk,drop_at h];simp only[hc,cL,fa];have:=(List.getElem?_eq_some_iff.1 h).1;simp;omega
theorem Y'(l:aH)(k:Nat):k<=Yf l k/\Yf l k<=Ur l k/\Ur l k<=vM l k:=⟨lS,lS,lS⟩
theorem ahx(h:k<=l.length):Yf l k<=l.length/\Ur l k<=l.length/\vM l k<=l.length :=
 ⟨ij h,ij (ij h),ij (ij (ij h))⟩
theorem Gi(p:UInt8->Bool)(l:aH)(k:Nat):cQ p l (cQ p l k)=cQ p l k:=by
 unfold cQ;have h:(l.drop (k+((l.drop k).takeWhile p).length)).takeWhile p=[]:=by
  rw[<-eD, <-oT];cases hd:(l.drop k).dropWhile p with
  |nil=>rfl
  |cons a t =>
   have:=List.head_dropWhile_not p (l:=l.drop k) (by rw[hd];simp);simp only[hd,List.head_cons]at this;simp[this]
 rw[h];rfl
theorem Ky(h:xV l k=[]):Ur l k=Yf l k/\vM l k=Yf l k:=by
 have h1:Ur l k=Yf l k:=by unfold Ur cQ;rw[show(l.drop (Yf l k)).takeWhile gq=[]from h];rfl
 exact⟨h1,by unfold vM;rw[h1];exact Gi _ _ _⟩
theorem pQ:∀(f:Nat) {r:aH},r.length<f->ma f r=ma (r.length+1) r
 |0,_,h=>absurd h (bV _)
 |f+1,r,h=>by
  have key:∀(c:UInt8) (r4:aH),((r.dropWhile dN).dropWhile gq).dropWhile dN=c :: r4->r4.length<r.length:=by
   intro c r4 e;have h1:=((jl (p:=dN) (l:=(r.dropWhile dN).dropWhile gq))).length_le;have h2:=((jl (p:=gq) (l:=r.dropWhile dN))).length_le;have h3:=((jl (p:=dN) (l:=r))).length_le;rw[e]at h1;simp at h1;omega
  rw[ma,ma];cases e:((r.dropWhile dN).dropWhile gq).dropWhile dN with
  |nil=>rfl
  |cons c r4 =>
   have hk:=key c r4 e;simp only;rw[pQ f (show r4.length<f from ab),pQ r.length hk]
def jE(s:aj)(w:World)(e:Ending)(w':World):Prop :=
 ∃v er,e=.returned (.tuple #[v,er])/\Fr aS w w' /\
  match ia s.data.toList with
  | .ok ws=>if 40<ws.length then v=.slice none 0 0/\Gf w' er (some (4,none))else Strs w.heap.size w' v (dT ws)/\er=.nilIface
  | .error m=>v=.slice none 0 0/\Gf w' er (some (3,some (s.size-m)))
theorem jE.ok(h:ia s.data.toList=.ok ws)(hn:ws.length<=40)(hv:Strs w.heap.size w' v (dT ws))(hf:Fr aS w w') :
  jE s w (.returned (.tuple #[v,.nilIface])) w':=⟨v,_,rfl,hf,by rw[h];show(if 40<ws.length then _ else _);rw[aq (show¬40<ws.length from ab)];exact⟨hv,rfl⟩⟩
theorem jE.long(h:ia s.data.toList=.ok ws)(hn:40<ws.length)(hf:Fr aS w w') :
  jE s w (.returned (.tuple #[.slice none 0 0,.iface 105 (.int .i64 4)])) w':=⟨_,_,rfl,hf,by rw[h];show(if 40<ws.length then _ else _);rw[az hn];exact⟨rfl,rfl⟩⟩
theorem jE.bad(h:ia s.data.toList=.error m)(hg:w'.heap[g]?=some (.cells #[.int .i64 3,.int .i64 (s.size-m:Nat)] 213 (0,0)))(hf:Fr aS w w') :
  jE s w (.returned (.tuple #[.slice none 0 0,.iface 211 (.pointer (some ⟨g,0,none⟩))])) w':=⟨_,_,rfl,hf,by rw[h];exact⟨rfl,g,rfl,hg⟩⟩
def anl(s:aj)(w:World)(v:Value)(wr:World):Prop :=
 ∃k acc,k<=s.size/\acc.length<=k/\dz wr w.heap.size s k/\Strs (w.heap.size+1) wr v (dT acc)/\Fr aS w wr /\
  ia s.data.toList=(ma (s.size-k+1) (s.data.toList.drop k)).map (acc++ ·)
theorem Fr.yr{wr w1:World}{c:Nat}(h:Fr aS w wr)(g:Fr (one c) wr w1)(hc:w.heap.size<=c):Fr aS w w1:=h.step g (fun k hk e=>by have e':k=c:=e;omega)
theorem Kz(a:List (aH))(x:aH):dT (a++[x])=dT a++[⟨x.toArray⟩]:=by simp[dT]
theorem pR(a:List (aH)):(dT a).length=a.length:=by simp[dT]
theorem PY(h:xV l k≠ []):Yg l k=[xV l k]:=by unfold Yg;rw[aq (by simpa using h)]
theorem KA(h:xV l k=[]):Yg l k=[]:=by unfold Yg;rw[h];rfl
theorem Us{b:List (aH)}(h:r=.ok b):r.map (a++ ·)=.ok (a++b):=by rw[h];rfl
theorem Gj(h:r=.error m):r.map (a++ ·)=.error m:=by rw[h];rfl
theorem map_map{b:List (aH)}(r:Except Nat (List (aH))):(r.map (b++ ·)).map (a++ ·)=r.map ((a++b)++ ·):=by cases r<;>simp[Except.map]
theorem yt{b':Nat}{ss:List aj}(h:Strs b' w v ss)(hb:b<=b'):Strs b w v ss:=by
 obtain⟨h1,h2⟩:=h;refine⟨h1,?_⟩;rcases h2 with h2|⟨g,cap,cur,hv,hg,r⟩
 ·exact Or.inl h2
 ·exact Or.inr ⟨g,cap,cur,hv,aE hb hg,r⟩
theorem KB(s:aj)(w:World)(hs:s.size<4398046511104) :
  aB 174 #[.string s] w (jE s w):=by
 have hm:s.size<=maxLen:=ft;go_enter func174,ntmps174;go_wp2_with (go_at_call 110;refine(Uk _ _).mono ?_;rintro e w1 ⟨rfl,rfl⟩)
 go_loopw[4] (anl s w) (fun _ wr=>s.size-pN wr w.heap.size)
 case atStart=>exact⟨0,[],aL _,ay _,aC _ _,ld _ _,(ae _ _).alloc _,by rw[eI];cases h:ma (s.size-0+1) s.data.toList<;>simp[ia,Except.map]<;>simpa using h⟩
 case round =>
  obtain⟨k,acc,hk,ahy,hc,cW,cP,vL⟩:=hrel;have gO:=O vL;clear vL;have iL:w.heap.size+1<=wr.heap.size:=hc.lt;have ahz:=Y' s.data.toList k;have hle:=ahx (l:=s.data.toList) (k:=k) (by simpa using hk);have xS:s.data.toList.length=s.size:=aR;rw[xS]at hle;obtain⟨m1,m2,m3⟩:=ahz;obtain⟨q1,q2,q3⟩:=hle;have qq:=O hc.pos;obtain⟨pS,Dj⟩:∃x,x=acc++Yg s.data.toList k:=⟨_,rfl⟩;have FD:=O Dj;clear Dj;go_wp2_with fail
  refine(mI _ s k wr hc hm hk).mono ?_;rintro e w1⟨rfl,pK,dk⟩;have ln:=cP.yr dk (ay _);have rK:=cW.fr dk (fun k hk=>by have e:k=w.heap.size:=hk;omega);have Cy:w.heap.size+1<=w1.heap.size:=pK.lt;go_wp2_with fail
  refine(wj _ s _ w1 pK hm q1).mono ?_;rintro e w2⟨rfl,sR,dE⟩;have fU:=ln.yr dE (ay _);have fG:=rK.fr dE (fun k hk=>by have e:k=w.heap.size:=hk;omega);have Nf:w.heap.size+1<=w2.heap.size:=sR.lt;have Za:dz w2 w.heap.size s (Ur s.data.toList k):=sR;rw[zw];have hW:((s.data.toList.drop (cQ dN s.data.toList k)).takeWhile gq)=xV s.data.toList k:=rfl;rw[hW];clear hW sR pK dk dE
  generalize hW2:xV s.data.toList k=W;have HW:=O hW2;clear hW2;cases W with
  |nil =>
   have hem:=O (Ky HW.o);have uG:dz w2 w.heap.size s (vM s.data.toList k):=by have h:=Za;rw[hem.o.1, <-hem.o.2]at h;exact h
   have BX:Strs (w.heap.size+1) w2 u4 (dT pS):=by rw[FD.o,KA HW.o,dV];exact fG
   clear Za fG rK cW;have hlen:pS.length<=k+1:=by have e:=FD.o;rw[KA HW.o,dV]at e;rw[e];omega
   obtain⟨av,cv,hv⟩:=BX.form;subst hv;go_wp2_with fail
   by_cases Bd:s.size<=vM s.data.toList k
   ·have fl:=O (show ia s.data.toList=.ok pS by rw[gO.o,Us (Gg (by simpa using Bd)),FD.o]);have hd:decide (s.size<=vM s.data.toList k)=true:=by simpa using Bd
    refine(xm _ s _ w2 uG).mono ?_;rintro e w4⟨rfl,n4,rfl⟩;rw[hd];by_cases Il:40<(dT pS).length
    ·have adm:((40:Int)<((dT pS).length:Int)):=ab;go_wp2;go_ret2;exact jE.long fl.o (by rw[pR]at Il;exact Il) (fU.drewN _)
    ·have adm:¬((40:Int)<((dT pS).length:Int)):=ab;go_wp2;go_ret2;exact jE.ok fl.o (by rw[pR]at Il;omega) (yt BX (bX _)) (fU.drewN _)
   ·have hd:decide (s.size<=vM s.data.toList k)=false:=by simpa using Bd
    refine(xm _ s _ w2 uG).mono ?_;rintro e w4⟨rfl,n4,rfl⟩;rw[hd];have uD:dz (w2.drewN n4) w.heap.size s (vM s.data.toList k):=uG;have PZ:Strs (w.heap.size+1) (w2.drewN n4) _ (dT pS):=BX;have j6:=fU.drewN n4;go_wp2_with fail
    refine(qp _ s _ 44 _ uD hm).mono ?_;rintro e w5⟨rfl,uE,lN⟩;have v_:=j6.yr lN (ay _);have hv5:=PZ.fr lN (fun k hk=>by have e:k=w.heap.size:=hk;omega);have sS:vM s.data.toList k<s.data.toList.length:=by simpa using Bd
    have dS:=O (List.getElem?_eq_getElem sS);cases e1:kx s (vM s.data.toList k) 44
    ·have fl:=O (show ia s.data.toList=.error (s.data.toList.length-vM s.data.toList k)by
      rw[gO.o,Gj (Gh dS.o (by have h:=e1;unfold kx at h;rw[dS.o]at h;simpa using h))])
     rw[pM e1]at uE;have c1:=uE.ib;have Fp:=O (show s.size-(s.data.toList.length-vM s.data.toList k)=vM s.data.toList k by rw[xS]at sS ⊢; omega);go_wp2
     go_region
     all_goals
      go_wp2;go_ret2;exact jE.bad fl.o (by rw[Fp.o];exact aC w5 _) ((v_.alloc _).drew)
    ·have fl:=O (show ia s.data.toList=(ma (s.size-(vM s.data.toList k+1)+1) (s.data.toList.drop (vM s.data.toList k+1))).map (pS++ ·)by
      rw[gO.o,FD.o,BW (by have h:=e1;unfold kx at h;simpa using h),map_map];rw[pQ (f:=s.size-k) bH,pQ (f:=s.size-(vM s.data.toList k+1)+1) aR])
     rw[pL e1]at uE;go_wp2;go_roundw
     case rel=>exact⟨_,pS,ab,ab,uE,hv5,v_,fl.o⟩
     case measure=>rw[qq.o,uE.pos];omega
  |cons x W' =>
   have hne:xV s.data.toList k≠ []:=by rw[HW.o];simp
   have CU:=O hne;clear hne;have Dk:=O (show dT pS=dT acc++[⟨(x :: W').toArray⟩]by rw[FD.o,PY CU.o,HW.o,Kz]);have hlen:pS.length<=k+1:=by have e:=FD.o;rw[PY CU.o]at e;rw[e];simp;omega
   obtain⟨av,cv,hv⟩:=fG.form;subst hv;have hlA:acc.length<4398046511104:=ab;have Fq:=O (pR acc);clear rK cW;go_wp2_with (at_builtin;refine nW rfl _ _ rfl (w.heap.size+1) (.slice av _ cv) (dT acc) rfl (by apply iM;exact fG) ⟨w2.heap.size,0,none⟩ 1 ⟨(x :: W').toArray⟩ rfl (jC _ _ _ _) (by rw[Fq.o];exact hlA) bH ?_;intro v' w3 fC CV)
   have adn:dz w3 w.heap.size s (Ur s.data.toList k):=by
    have h2:dz (w2.alloc (.cells #[.string ⟨(x :: W').toArray⟩] 9)) w.heap.size s (Ur s.data.toList k):=Za.alloc;unfold dz at h2 ⊢;rw[CV.block _ (bq h2) (fun e=>by have:=fG.block _ e.symm;omega)];exact h2
   have il:=(fU.alloc (.cells #[.string ⟨(x :: W').toArray⟩] 9)).fW CV (fun k hk=>by have:=fG.block k hk;omega);rw[<-Dk.o]at fC;clear fG CV Za;have Ut:w.heap.size+1<=w3.heap.size:=adn.lt;go_wp2_with fail
   refine(mI _ s _ w3 adn hm q2).mono ?_;rintro e w6⟨rfl,uG,nL⟩;have uG:dz w6 w.heap.size s (vM s.data.toList k):=uG;have xo:=il.yr nL (ay _);have BX:=fC.fr nL (fun k hk=>by have e:k=w.heap.size:=hk;omega);clear fC nL adn;have hs6:w.heap.size+1<=w6.heap.size:=uG.lt;obtain⟨av3,cv3,hv⟩:=BX.form;subst hv;go_wp2_with fail
   by_cases Bd:s.size<=vM s.data.toList k
   ·have fl:=O (show ia s.data.toList=.ok pS by rw[gO.o,Us (Gg (by simpa using Bd)),FD.o]);have hd:decide (s.size<=vM s.data.toList k)=true:=by simpa using Bd
    refine(xm _ s _ w6 uG).mono ?_;rintro e w4⟨rfl,n4,rfl⟩;rw[hd];by_cases Il:40<(dT pS).length
    ·have adm:((40:Int)<((dT pS).length:Int)):=ab;go_wp2;go_ret2;exact jE.long fl.o (by rw[pR]at Il;exact Il) (xo.drewN _)
    ·have adm:¬((40:Int)<((dT pS).length:Int)):=ab;go_wp2;go_ret2;exact jE.ok fl.o (by rw[pR]at Il;omega) (yt BX (bX _)) (xo.drewN _)
   ·have hd:decide (s.size<=vM s.data.toList k)=false:=by simpa using Bd
    refine(xm _ s _ w6 uG).mono ?_;rintro e w4⟨rfl,n4,rfl⟩;rw[hd];have uD:dz (w6.drewN n4) w.heap.size s (vM s.data.toList k):=uG;have PZ:Strs (w.heap.size+1) (w6.drewN n4) _ (dT pS):=BX;have j6:=xo.drewN n4;go_wp2_with fail
    refine(qp _ s _ 44 _ uD hm).mono ?_;rintro e w5⟨rfl,uE,lN⟩;have v_:=j6.yr lN (ay _);have hv5:=PZ.fr lN (fun k hk=>by have e:k=w.heap.size:=hk;omega);have sS:vM s.data.toList k<s.data.toList.length:=by simpa using Bd
    have dS:=O (List.getElem?_eq_getElem sS);cases e1:kx s (vM s.data.toList k) 44
    ·have fl:=O (show ia s.data.toList=.error (s.data.toList.length-vM s.data.toList k)by
      rw[gO.o,Gj (Gh dS.o (by have h:=e1;unfold kx at h;rw[dS.o]at h;simpa using h))])
     rw[pM e1]at uE;have c1:=uE.ib;have Fp:=O (show s.size-(s.data.toList.length-vM s.data.toList k)=vM s.data.toList k by rw[xS]at sS ⊢; omega);go_wp2
     go_region
     all_goals
      go_wp2;go_ret2;exact jE.bad fl.o (by rw[Fp.o];exact aC w5 _) ((v_.alloc _).drew)
    ·have fl:=O (show ia s.data.toList=(ma (s.size-(vM s.data.toList k+1)+1) (s.data.toList.drop (vM s.data.toList k+1))).map (pS++ ·)by
      rw[gO.o,FD.o,BW (by have h:=e1;unfold kx at h;simpa using h),map_map];rw[pQ (f:=s.size-k) bH,pQ (f:=s.size-(vM s.data.toList k+1)+1) aR])
     rw[pL e1]at uE;go_wp2;go_roundw
     case rel=>exact⟨_,pS,ab,ab,uE,hv5,v_,fl.o⟩
     case measure=>rw[qq.o,uE.pos];omega
theorem Im:∀(f:Nat) (r a z:aH),r.length<=f->v8 r=some (a,z)->a.length+z.length+1<=r.length
 |0,r,a,z,hf,h=>by
  have:r=[]:=ct ab;subst this;rw[v8.eq_def]at h;simp at h
 |f+1,[],a,z,hf,h=>by rw[v8.eq_def]at h;simp at h
 |f+1,x :: r,a,z,hf,h=>by
  rw[v8.eq_def]at h;simp only at h;by_cases h1:(x==34)=true
  ·rw[az h1]at h;cases h;simp
  ·rw[aq h1]at h;by_cases h2:(x==92)=true
   ·rw[az h2]at h;cases r with
    |nil=>simp at h
    |cons y r' =>
     simp only at h;by_cases h3:nE y=true
     ·rw[az h3]at h;cases hq:v8 r' with
      |none=>rw[hq]at h;simp at h
      |some p =>
       rw[hq]at h;simp at h;obtain⟨rfl,rfl⟩:=h;have:=Im f r' p.1 p.2 (by simp at hf;omega) hq;simp;omega
     ·rw[aq h3]at h;simp at h
   ·rw[aq h2]at h;by_cases h3:nE x=true
    ·rw[az h3]at h;cases hq:v8 r with
     |none=>rw[hq]at h;simp at h
     |some p =>
      rw[hq]at h;simp at h;obtain⟨rfl,rfl⟩:=h;have:=Im f r p.1 p.2 (by simp at hf;omega) hq;simp;omega
    ·rw[aq h3]at h;simp at h
def Uu(k:Int)(n:Nat):Nat:=(max 0 (min k n)).toNat
theorem yu(b:Nat)(s:aj)(i:Nat)(k:Int)(w:World)(h:dz w b s i)(hs:s.size<=maxLen) :
  aB 213 #[.pointer (some ⟨b,0,none⟩),.int .i64 k] w fun e w'=>e=.returned (.tuple #[])/\dz w' b s (Uu k s.size)/\Fr (one b) w w':=by
 have h0:=h.cell0;have h1:=h.ib;have hf:=h.free 1;unfold maxLen at hs;go_enter func213,ntmps213;go_wp2;go_end0;rw[show max 0 (min k (s.size:Int))=((Uu k s.size:Nat):Int)from by unfold Uu;omega];exact⟨rfl,h.setCell,mG w b _ 0⟩
def Ip(l:aH):Bool:=Bc l||oo l
def iQ:List aj:=[⟨#[68,69,76,69,84,69]⟩,⟨#[71,69,84]⟩,⟨#[72,69,65,68]⟩,⟨#[79,80,84,73,79,78,83]⟩,⟨#[80,79,83,84]⟩,⟨#[80,85,84]⟩]
def nF:List aj->aj->aj
 |[],s=>s
 |m :: l,s=>if dL s.data.toList m.data.toList then m else nF l s
def jT(s:aj):aj:=nF iQ s
def rh(s:aj):Bool:=s.toList== [71,69,84]||s.toList== [72,69,65,68]||s.toList== [80,79,83,84]
theorem zC:∀(l:List aj) (s:aj),(nF l s∈l/\dL s.data.toList (nF l s).data.toList=true)\/nF l s=s
 |[],s=>.inr rfl
 |m :: l,s=>by
  unfold nF;by_cases h:dL s.data.toList m.data.toList=true
  ·rw[az h];exact .inl ⟨cM .., h⟩
  ·rw[aq h];rcases zC l s with ⟨h1,h2⟩|h1
   ·exact .inl ⟨bN _ h1,h2⟩
   ·exact .inr h1
theorem NC(s:aj)(w:World) :
  aB 120 #[.string s] w fun e w'=>e=.returned (.bool (rh s))/\w=w':=by
 by_cases h1:s.toList=[71,69,84]
 ·have hb:=O (show rh s=true by unfold rh;rw[h1];rfl);go_enter func120,ntmps120;go_wp2;go_ret;exact⟨fF hb.o.symm,rfl⟩
 ·by_cases h2:s.toList=[72,69,65,68]
  ·have hb:=O (show rh s=true by unfold rh;rw[h2];rfl);go_enter func120,ntmps120;go_wp2;go_ret;exact⟨fF hb.o.symm,rfl⟩
  ·have hb:=O (show rh s=(s.toList== [71,69,84]||s.toList== [72,69,65,68]||s.toList== [80,79,83,84])from rfl);go_enter func120,ntmps120;go_wp2;go_ret;exact⟨fF hb.o.symm,rfl⟩
def ahC(s:aj)(w:World)(i:Value)(wr:World):Prop:=∃k:Nat,k<=6/\i=.int .i64 k/\jT s=nF (iQ.drop k) s/\Fr aS w wr
theorem yx(s:aj)(w:World)(hs:s.size<100000) :
  aB 51 #[.string s] w fun e w'=>e=.returned (.string (jT s))/\Fr aS w w':=by
 have HC:=O (show∀U,Fr aS (w.alloc (.cells (iQ.map Value.string).toArray 9)) U->∀(k:Nat) x,iQ[k]?=some x->U.cell? ⟨w.heap.size,k,none⟩=some (.string x)from fun U hU k x hx=>by
  have h:=hU.keep (aC w (.cells (iQ.map Value.string).toArray 9)) id;have e:(iQ.map Value.string)[k]?=some (.string x):=by rw[List.getElem?_map,hx];rfl
  simp only[World.cell?,h];simpa using e)
 have kC:Fr aS w (w.alloc (.cells (iQ.map Value.string).toArray 9)):=(ae aS w).alloc _;have mF:=O kC;obtain⟨wb,kj⟩:∃wb,wb=w.alloc (.cells (iQ.map Value.string).toArray 9):=⟨_,rfl⟩;rw[<-kj]at HC mF
 have ri:=O (show wb=w.alloc (.cells #[.string ⟨#[68,69,76,69,84,69]⟩,.string ⟨#[71,69,84]⟩,.string ⟨#[72,69,65,68]⟩,.string ⟨#[79,80,84,73,79,78,83]⟩,.string ⟨#[80,79,83,84]⟩,.string ⟨#[80,85,84]⟩] 9)from kj);clear kj kC;go_enter func51,ntmps51;go_wp2;rw[<-ri.o];go_loopw[7] (ahC s wb) (fun i _=>6-(intOf i).toNat)
 case atStart=>exact⟨0,ab,rfl,rfl,ae _ _⟩
 case round =>
  obtain⟨k,hk,rfl,hm,cP⟩:=hrel;by_cases hk6:k<6
  ·have pE:(k:Int)<6:=ab;obtain⟨m,P6⟩:∃m,iQ[k]?=some m:=⟨_,List.getElem?_eq_getElem (by show k<6;exact hk6)⟩;have hcell:=HC.o wr cP k m P6;have hmz:m.size<=10:=(show∀x∈iQ,x.size<=10 from ag) m (bQ P6);have HD:=O (show jT s=if dL s.data.toList m.data.toList then m else nF (iQ.drop (k+1)) s by
    rw[hm,cX (show k<iQ.length from hk6)];have e:iQ[k]'(show k<iQ.length from hk6)=m:=by rw[List.getElem?_eq_getElem (show k<iQ.length from hk6)]at P6;exact km P6
    rw[e];rfl)
   clear hm P6;have Yh:=O (mH s m wr ab ab);go_wp2_with fail
   refine Yh.o.mono ?_;rintro e w5⟨rfl,lN⟩;clear Yh;cases pz:dL s.data.toList m.data.toList
   ·have HD2:=O (show jT s=nF (iQ.drop (k+1)) s by rw[HD.o,pz];rfl);clear pz;go_wp2;go_roundw
    case rel=>exact⟨k+1,ab,bg,HD2.o,cP.trans lN⟩
    case measure=>simp[intOf];omega
   ·have HD2:=O (show jT s=m by rw[HD.o,pz];rfl);clear pz;go_wp2;go_ret;exact⟨by rw[HD2.o];rfl,mF.o.trans (cP.trans lN)⟩
  ·have pE:¬(k:Int)<6:=ab;have HD2:=O (show jT s=s by rw[hm,cV (by show 6<=k;omega)];rfl);clear hm;go_wp2;go_ret;exact⟨by rw[HD2.o];rfl,mF.o.trans cP⟩
def DW:List Int:=[3614090360,3905402710,606105819,3250441966,4118548399,1200080426,2821735955,4249261313,1770035416,2336552879,4294925233,2304563134,1804603682,4254626195,2792965006,1236535329,4129170786,3225465664,643717713,3921069994,3593408605,38016083,3634488961,3889429448,568446438,3275163606,4107603335,1163531501,2850285829,4243563512,1735328473,2368359562,4294588738,2272392833,1839030562,4259657740,2763975236,1272893353,4139469664,3200236656,681279174,3936430074,3572445317,76029189,3654602809,3873151461,530742520,3299628645,4096336452,1126891415,2878612391,4237533241,1700485571,2399980690,4293915773,2240044497,1873313359,4264355552,2734768916,1309151649,4149444226,3174756917,718787259,3951481745]
def o7:List Nat:=[7,12,17,22,5,9,14,20,4,11,16,23,6,10,15,21]
def ow(w:World)(g:Nat)(k:IntKind)(zs:List Int):Prop:=g<w.heap.size/\∀(i:Nat) z,zs[i]?=some z->w.cell? ⟨g,i,none⟩=some (.int k z)
theorem ow.fr{k:IntKind}{zs:List Int}(h:ow w g k zs)(hf:Fr aS w w'):ow w' g k zs :=
 ⟨cK h.1 hf.size,fun i z hz=>(hf.cell (p:=⟨g,i,none⟩) h.1 id).trans (h.2 i z hz)⟩
structure tM (w:World):Prop where
 s:ow w 3 .u32 DW
 t:ow w 4 .i64 (o7.map Int.ofNat)
theorem tM.fr(h:tM w)(hf:Fr aS w w'):tM w':=⟨h.s.fr hf,h.t.fr hf⟩
structure Md where
 a:Int
 b:Int
 c:Int
 d:Int
def Md.ok(s:Md):Prop:=(0<=s.a/\s.a<4294967296)/\(0<=s.b/\s.b<4294967296)/\(0<=s.c/\s.c<4294967296)/\(0<=s.d/\s.d<4294967296)
def NT(x:Int):Int:=bits .xor .u32 IntKind.u32.max x
def mdF(r:Nat)(b c d:Int):Int:=match r with
 |0=>bits .or .u32 (bits .and .u32 b c) (bits .and .u32 (NT b) d)
 |1=>bits .or .u32 (bits .and .u32 d b) (bits .and .u32 (NT d) c)
 |2=>bits .xor .u32 (bits .xor .u32 b c) d
 |_=>bits .xor .u32 c (bits .or .u32 b (NT d))
def ZG(r k:Nat):Nat:=match r with
 |0=>k
 |1=>(5*k+1)%16
 |2=>(3*k+5)%16
 |_=>7*k%16
def rR(X:aH)(k:Nat)(s:Md):Md :=
 ⟨s.d,(s.b+mq ((mdF (k/16) s.b s.c s.d+(s.a+DW.getD k 0+qY true (X.drop (4*ZG (k/16) k))))%4294967296) (o7.getD (k/16*4+k%4) 0))%4294967296,s.b,s.c⟩
def lh(X:aH)(h:Md):Nat->Md
 |0=>h
 |k+1=>rR X k (lh X h k)
def C6(X:aH)(h:Md):Md :=
 ⟨(h.a+(lh X h 64).a)%4294967296,(h.b+(lh X h 64).b)%4294967296,(h.c+(lh X h 64).c)%4294967296,(h.d+(lh X h 64).d)%4294967296⟩
def md0:Md:=⟨1732584193,4023233417,2562383102,271733878⟩
def yI(T:aH):Nat->Md
 |0=>md0
 |k+1=>C6 (T.drop (64*k)) (yI T k)
def Md.list(s:Md):List Int:=[s.a,s.b,s.c,s.d]
def Lj(l:aH):aH:=oZ true (yI (vO true l) ((vO true l).length/64)).list
theorem Bl(x:Int):0<=x%4294967296/\x%4294967296<4294967296:=⟨Int.emod_nonneg _ ag,Int.emod_lt_of_pos _ ag⟩
theorem Ry{X:aH}{s:Md}(h:s.ok):(rR X k s).ok:=⟨h.2.2.2,Bl _,h.2.1,h.2.2.1⟩
theorem DX{X:aH}{h:Md}(ho:h.ok):∀k,(lh X h k).ok
 |0=>ho
 |k+1=>Ry (DX ho k)
theorem NU(X:aH)(h:Md):(C6 X h).ok:=⟨Bl _,Bl _,Bl _,Bl _⟩
theorem adP:md0.ok:=by unfold Md.ok md0;decide
theorem Qm(T:aH):∀k,(yI T k).ok
 |0=>adP
 |_+1=>NU _ _
theorem zQ:∀i:Fin 16,bits .and .u64 ((o7.getD i.val 0:Nat):Int) 31=((o7.getD i.val 0:Nat):Int)/\o7.getD i.val 0<32:=dw
theorem Lk(dQ:Bool)(l:aH):(vO dQ l).length%64=0/\(vO dQ l).length<=l.length+128:=by
 unfold vO;simp only[aK,fu,nG,List.length_cons,List.length_nil];omega
theorem kK(T:aj)(i:Nat):(T.extract i T.size).data.toList=T.data.toList.drop i:=by
 rw[Lib.extract_data,aD aR]
theorem jL(T:aj)(i:Nat):(T.extract i T.size).size=T.size-i:=by
 have h:(T.extract i T.size).data.toList.length=(T.extract i T.size).size:=rfl;rw[<-h,kK,bM];simp
theorem Qn(T:aj)(i j:Nat):(T.extract i T.size).extract j (T.extract i T.size).size=T.extract (i+j) T.size:=by
 apply Go.WideShapes.bytes_inj;rw[kK,kK,kK,eD]
theorem um{cur:bT}{f:Nat×Nat}(h:w.heap[b]?=some (.cells cur t f))(o:Nat)(v:Value):(w.setCell ⟨b,o,none⟩ v).heap[b]?=some (.cells (cur.setIfInBounds o v) t f):=by
 simp[World.setCell,Array.getElem?_modify,h]
def tN(w:World)(g:Nat)(h:Md):Prop:=w.heap[g]?=some (.cells #[.int .u32 h.a,.int .u32 h.b,.int .u32 h.c,.int .u32 h.d] 298 (0,0))
def ah0(T:aj)(g:Nat)(w:World)(t:Value)(wr:World):Prop:=∃k:Nat,64*k<=T.size/\t=.string (T.extract (64*k) T.size)/\tN wr g (yI T.data.toList k)/\Fr aS w wr
def anK(X:aH)(h:Md)(g:Nat)(w:World)(a b c d i:Value)(wr:World):Prop :=
 ∃k:Nat,k<=64/\i=.int .i64 k/\a=.int .u32 (lh X h k).a/\b=.int .u32 (lh X h k).b/\c=.int .u32 (lh X h k).c/\d=.int .u32 (lh X h k).d/\tN wr g h/\Fr aS w wr
theorem ZH(s:aj)(w:World)(hs:s.size<4398046511104)(ht:tM w) :
  aB 209 #[.string s] w fun e w'=>e=.returned (.string ⟨(Lj s.data.toList).toArray⟩)/\Fr aS w w':=by
 have gX:Fr aS w (w.alloc (.cells #[.int .u32 1732584193,.int .u32 4023233417,.int .u32 2562383102,.int .u32 271733878] 298)):=(ae aS w).alloc _;have Zc:tN (w.alloc (.cells #[.int .u32 1732584193,.int .u32 4023233417,.int .u32 2562383102,.int .u32 271733878] 298)) w.heap.size md0:=aC _ _;have HM0:=O Zc;clear Zc;go_enter func209,ntmps209;go_wp2_with fail
 refine(Ql s true _ ab).mono ?_;rintro e w1⟨rfl,dk⟩;obtain⟨T,hT⟩:∃T,T=(⟨(vO true s.data.toList).toArray⟩:aj):=⟨_,rfl⟩;rw[<-hT];have hTl:T.data.toList=vO true s.data.toList:=by rw[hT]
 have hTs:T.size=(vO true s.data.toList).length:=by rw[<-hTl];simp
 obtain⟨adR,U4⟩:=Lk true s.data.toList;rw[<-hTs]at adR U4;have Ll:s.data.toList.length=s.size:=aR;rw[Ll]at U4;have DY:=O (show Lj s.data.toList=oZ true (yI T.data.toList (T.size/64)).list by unfold Lj;rw[hTl,hTs]);have HM1:=O (show tN w1 w.heap.size md0 from dk.keep HM0.o id);have ln:=O (gX.trans dk);clear hT hTl hTs HM0 gX dk Ll;go_wp2
 go_loopw[4] (ah0 T w.heap.size w) (fun t _=>match t with| .string x=>x.size|_=>0)
 case atStart=>exact⟨0,ab,by rw[Nat.mul_zero];congr 1;apply Go.WideShapes.bytes_inj;rw[kK];rfl,HM1.o,ln.o⟩
 case round =>
  obtain⟨n,hn,rfl,hm,cP⟩:=hrel;by_cases hne:64*n<T.size
  ·have U5:64<=(T.extract (64*n) T.size).size:=by rw[jL];omega
   have anM:(T.extract (64*n) T.size).size<17592186044416:=by rw[jL];omega
   have qt:=O (Qn T (64*n) 64);have hXl:=O (kK T (64*n));have hXm:=O (jL T (64*n));generalize T.extract (64*n) T.size=X at *
   have hx:X.toList.isEmpty=false:=by
    rw[aP];cases hq:X.data.toList with
    |nil=>rw[hZ.1 hq]at U5;omega
    |cons a l=>rfl
   have UE:¬X.toList=[]:=by rw[aP];intro h;rw[hZ.1 h]at U5;omega
   have HM:=O hm;have h0:wr.cell? ⟨w.heap.size,0,none⟩=some (.int .u32 (yI T.data.toList n).a):=by unfold tN at hm;simp[World.cell?,hm]
   have h1:wr.cell? ⟨w.heap.size,1,none⟩=some (.int .u32 (yI T.data.toList n).b):=by unfold tN at hm;simp[World.cell?,hm]
   have h2:wr.cell? ⟨w.heap.size,2,none⟩=some (.int .u32 (yI T.data.toList n).c):=by unfold tN at hm;simp[World.cell?,hm]
   have h3:wr.cell? ⟨w.heap.size,3,none⟩=some (.int .u32 (yI T.data.toList n).d):=by unfold tN at hm;simp[World.cell?,hm]
   have qm:=O (show yI T.data.toList (n+1)=C6 X.data.toList (yI T.data.toList n)by rw[hXl.o];rfl);have Bm:=O (Qm T.data.toList n);generalize yI T.data.toList n=H at *
   clear hm;go_wp2;go_quiet (fail);clear h0 h1 h2 h3;go_wp2;go_loopw[5,6,7,8,27] (anK X.data.toList H w.heap.size w) (fun _ _ _ _ i _=>64-(intOf i).toNat)
   case atStart=>exact⟨0,ab,rfl,rfl,rfl,rfl,rfl,by exact HM.o,by first|exact cP|exact cP.drewN _⟩
   case round =>
    obtain⟨k,hk,rfl,rfl,rfl,rfl,rfl,hm,jz⟩:=hrel;obtain⟨⟨a0,a1⟩,⟨b0,b1⟩,⟨c0,c1⟩,⟨d0,d1⟩⟩:=DX (X:=X.data.toList) Bm.o k;have HM2:=O hm;have Dk:=O (show lh X.data.toList H (k+1)=rR X.data.toList k (lh X.data.toList H k)from rfl)
    have H64:=O (show k=64->C6 X.data.toList H=⟨(H.a+(lh X.data.toList H k).a)%4294967296,(H.b+(lh X.data.toList H k).b)%4294967296,(H.c+(lh X.data.toList H k).c)%4294967296,(H.d+(lh X.data.toList H k).d)%4294967296⟩from fun h=>by subst h;rfl);generalize lh X.data.toList H k=M at *
    clear hm;by_cases Ld:k<64
    ·have au4:(k:Int)<64:=ab;obtain⟨z,hz⟩:∃z,DW[k]?=some z:=⟨_,List.getElem?_eq_getElem (by show k<64;omega)⟩;have IU:=O ((ht.fr jz).s.2 k z hz);have hzd:=O (show DW.getD k 0=z by rw[List.getD_eq_getElem?_getD,hz];rfl);obtain⟨m,hmm⟩:∃m:Nat,(k:Int)%4=(m:Int):=⟨k%4,ab⟩;have hm4:m<4:=ab;have ZI:=O (show k%4=m from ab);clear hz;by_cases hr0:k<16
     ·have e1:(k:Int)/16=0:=ab;have vP:=O (show k/16=0 from ab);have hmg:=O (show ZG (k/16) k=k by rw[vP.o];rfl);obtain⟨wv,FJ⟩:∃wv,wv=qY true (X.extract (4*k) X.size).data.toList:=⟨_,rfl⟩;have tj:=O (fun W=>wP (X.extract (4*k) X.size) true W (by rw[jL];omega) (by rw[jL];omega));rw[<-FJ]at tj;have ZJ:=O (show qY true (X.data.toList.drop (4*ZG (k/16) k))=wv by rw[hmg.o,FJ,kK]);clear FJ;go_wp2
      have qQ:IntKind.i64.wrap (4*(k:Int))=4*(k:Int):=IntWalk.i64_in _ ab;have q0:(0:Int)<=(k:Int):=ab;have q1:(0:Int)<=4*(k:Int):=ab;have q2:4*(k:Int)<=(X.size:Int):=ab;have q3:4*k<=X.size:=ab;have q4:(4*(k:Int)).toNat=4*k:=ab;have DZ:=IU.o;go_quiet ((go_at_call 239;exact Calls.quiet_of (tj.o _)));clear qQ q0 q1 q2 q3 q4 DZ
      obtain⟨z2,lF⟩:∃z2,o7[m]?=some z2:=⟨_,List.getElem?_eq_getElem (by show m<16;omega)⟩;have htu:=(ht.fr (jz.drewN nq)).t.2 (m) (z2:Int) (by rw[List.getElem?_map,lF];rfl);have hzt:=O (show o7.getD (k/16*4+k%4) 0=z2 by rw[vP.o,ZI.o,show 0*4+m=m from ab,List.getD_eq_getElem?_getD,lF];rfl)
      obtain⟨kJ,NV⟩:bits .and .u64 (z2:Int) 31=(z2:Int)/\z2<32:=by have h:=zQ ⟨m,ab⟩;simp only[List.getD_eq_getElem?_getD,lF,Option.getD_some]at h;exact h
      clear lF;have m0:(m:Int)<4:=ab;have TS:=O (show tN (wr.drewN nq) w.heap.size H from HM2.o);have qR:=jz.drewN nq;generalize wr.drewN nq=wd at *
      go_wp2_with fail
      refine(C5 _ (z2:Int) z2 wd ab ab kJ NV).mono ?_;rintro e w5⟨rfl,rfl⟩;have lO:=O (show rR X.data.toList k M=⟨M.d,(M.b+mq ((mdF 0 M.b M.c M.d+(M.a+z+wv))%4294967296) z2)%4294967296,M.b,M.c⟩by unfold rR;rw[hzd.o,hzt.o,ZJ.o,vP.o]);clear htu kJ;go_wp2;go_roundw
      case rel=>exact⟨k+1,ab,bg,by rw[Dk.o,lO.o],by rw[Dk.o,lO.o];rfl,by rw[Dk.o,lO.o],by rw[Dk.o,lO.o],TS.o,qR⟩
      case measure=>simp[intOf];omega
     ·by_cases zg:k<32
      ·have e1:(k:Int)/16=1:=ab;have vP:=O (show k/16=1 from ab);obtain⟨gg,Yn⟩:∃gg:Nat,gg=(5*k+1)%16:=⟨_,rfl⟩;have ah2:gg<16:=ab;have Yo:(5*(k:Int)+1)%16=(gg:Int):=ab;have hmg:=O (show ZG (k/16) k=gg by rw[vP.o,Yn];rfl);obtain⟨wv,FJ⟩:∃wv,wv=qY true (X.extract (4*gg) X.size).data.toList:=⟨_,rfl⟩;have tj:=O (fun W=>wP (X.extract (4*gg) X.size) true W (by rw[jL];omega) (by rw[jL];omega));rw[<-FJ]at tj
       have ZJ:=O (show qY true (X.data.toList.drop (4*ZG (k/16) k))=wv by rw[hmg.o,FJ,kK]);clear FJ Yn;go_wp2;have qQ:IntKind.i64.wrap (4*(gg:Int))=4*(gg:Int):=IntWalk.i64_in _ ab;have q0:(0:Int)<=(k:Int):=ab;have q1:(0:Int)<=4*(gg:Int):=ab;have q2:4*(gg:Int)<=(X.size:Int):=ab;have q3:4*gg<=X.size:=ab;have q4:(4*(gg:Int)).toNat=4*gg:=ab;have DZ:=IU.o
       go_quiet ((go_at_call 239;exact Calls.quiet_of (tj.o _)));clear qQ q0 q1 q2 q3 q4 DZ;obtain⟨z2,lF⟩:∃z2,o7[4+m]?=some z2:=⟨_,List.getElem?_eq_getElem (by show 4+m<16;omega)⟩;have htu:=(ht.fr (jz.drewN nq)).t.2 (4+m) (z2:Int) (by rw[List.getElem?_map,lF];rfl);have hzt:=O (show o7.getD (k/16*4+k%4) 0=z2 by rw[vP.o,ZI.o,show 1*4+m=4+m from ab,List.getD_eq_getElem?_getD,lF];rfl)
       obtain⟨kJ,NV⟩:bits .and .u64 (z2:Int) 31=(z2:Int)/\z2<32:=by have h:=zQ ⟨4+m,ab⟩;simp only[List.getD_eq_getElem?_getD,lF,Option.getD_some]at h;exact h
       clear lF;have m0:(m:Int)<4:=ab;have TS:=O (show tN (wr.drewN nq) w.heap.size H from HM2.o);have qR:=jz.drewN nq;generalize wr.drewN nq=wd at *
       go_wp2_with fail
       refine(C5 _ (z2:Int) z2 wd ab ab kJ NV).mono ?_;rintro e w5⟨rfl,rfl⟩;have lO:=O (show rR X.data.toList k M=⟨M.d,(M.b+mq ((mdF 1 M.b M.c M.d+(M.a+z+wv))%4294967296) z2)%4294967296,M.b,M.c⟩by unfold rR;rw[hzd.o,hzt.o,ZJ.o,vP.o]);clear htu kJ;go_wp2;go_roundw
       case rel=>exact⟨k+1,ab,bg,by rw[Dk.o,lO.o],by rw[Dk.o,lO.o];rfl,by rw[Dk.o,lO.o],by rw[Dk.o,lO.o],TS.o,qR⟩
       case measure=>simp[intOf];omega
      ·by_cases oF:k<48
       ·have e1:(k:Int)/16=2:=ab;have vP:=O (show k/16=2 from ab);obtain⟨gg,Yn⟩:∃gg:Nat,gg=(3*k+5)%16:=⟨_,rfl⟩;have ah2:gg<16:=ab;have Yo:(3*(k:Int)+5)%16=(gg:Int):=ab;have hmg:=O (show ZG (k/16) k=gg by rw[vP.o,Yn];rfl);obtain⟨wv,FJ⟩:∃wv,wv=qY true (X.extract (4*gg) X.size).data.toList:=⟨_,rfl⟩;have tj:=O (fun W=>wP (X.extract (4*gg) X.size) true W (by rw[jL];omega) (by rw[jL];omega));rw[<-FJ]at tj
        have ZJ:=O (show qY true (X.data.toList.drop (4*ZG (k/16) k))=wv by rw[hmg.o,FJ,kK]);clear FJ Yn;go_wp2;have qQ:IntKind.i64.wrap (4*(gg:Int))=4*(gg:Int):=IntWalk.i64_in _ ab;have q0:(0:Int)<=(k:Int):=ab;have q1:(0:Int)<=4*(gg:Int):=ab;have q2:4*(gg:Int)<=(X.size:Int):=ab;have q3:4*gg<=X.size:=ab;have q4:(4*(gg:Int)).toNat=4*gg:=ab;have DZ:=IU.o
        go_quiet ((go_at_call 239;exact Calls.quiet_of (tj.o _)));clear qQ q0 q1 q2 q3 q4 DZ;obtain⟨z2,lF⟩:∃z2,o7[8+m]?=some z2:=⟨_,List.getElem?_eq_getElem (by show 8+m<16;omega)⟩;have htu:=(ht.fr (jz.drewN nq)).t.2 (8+m) (z2:Int) (by rw[List.getElem?_map,lF];rfl);have hzt:=O (show o7.getD (k/16*4+k%4) 0=z2 by rw[vP.o,ZI.o,show 2*4+m=8+m from ab,List.getD_eq_getElem?_getD,lF];rfl)
        obtain⟨kJ,NV⟩:bits .and .u64 (z2:Int) 31=(z2:Int)/\z2<32:=by have h:=zQ ⟨8+m,ab⟩;simp only[List.getD_eq_getElem?_getD,lF,Option.getD_some]at h;exact h
        clear lF;have m0:(m:Int)<4:=ab;have TS:=O (show tN (wr.drewN nq) w.heap.size H from HM2.o);have qR:=jz.drewN nq;generalize wr.drewN nq=wd at *
        go_wp2_with fail
        refine(C5 _ (z2:Int) z2 wd ab ab kJ NV).mono ?_;rintro e w5⟨rfl,rfl⟩;have lO:=O (show rR X.data.toList k M=⟨M.d,(M.b+mq ((mdF 2 M.b M.c M.d+(M.a+z+wv))%4294967296) z2)%4294967296,M.b,M.c⟩by unfold rR;rw[hzd.o,hzt.o,ZJ.o,vP.o]);clear htu kJ;go_wp2;go_roundw
        case rel=>exact⟨k+1,ab,bg,by rw[Dk.o,lO.o],by rw[Dk.o,lO.o];rfl,by rw[Dk.o,lO.o],by rw[Dk.o,lO.o],TS.o,qR⟩
        case measure=>simp[intOf];omega
       ·have e1:(k:Int)/16=3:=ab;have vP:=O (show k/16=3 from ab);obtain⟨gg,Yn⟩:∃gg:Nat,gg=7*k%16:=⟨_,rfl⟩;have ah2:gg<16:=ab;have Yo:7*(k:Int)%16=(gg:Int):=ab;have hmg:=O (show ZG (k/16) k=gg by rw[vP.o,Yn];rfl);obtain⟨wv,FJ⟩:∃wv,wv=qY true (X.extract (4*gg) X.size).data.toList:=⟨_,rfl⟩;have tj:=O (fun W=>wP (X.extract (4*gg) X.size) true W (by rw[jL];omega) (by rw[jL];omega));rw[<-FJ]at tj
        have ZJ:=O (show qY true (X.data.toList.drop (4*ZG (k/16) k))=wv by rw[hmg.o,FJ,kK]);clear FJ Yn;go_wp2;have qQ:IntKind.i64.wrap (4*(gg:Int))=4*(gg:Int):=IntWalk.i64_in _ ab;have q0:(0:Int)<=(k:Int):=ab;have q1:(0:Int)<=4*(gg:Int):=ab;have q2:4*(gg:Int)<=(X.size:Int):=ab;have q3:4*gg<=X.size:=ab;have q4:(4*(gg:Int)).toNat=4*gg:=ab;have DZ:=IU.o
        go_quiet ((go_at_call 239;exact Calls.quiet_of (tj.o _)));clear qQ q0 q1 q2 q3 q4 DZ;obtain⟨z2,lF⟩:∃z2,o7[12+m]?=some z2:=⟨_,List.getElem?_eq_getElem (by show 12+m<16;omega)⟩;have htu:=(ht.fr (jz.drewN nq)).t.2 (12+m) (z2:Int) (by rw[List.getElem?_map,lF];rfl);have hzt:=O (show o7.getD (k/16*4+k%4) 0=z2 by rw[vP.o,ZI.o,show 3*4+m=12+m from ab,List.getD_eq_getElem?_getD,lF];rfl)
        obtain⟨kJ,NV⟩:bits .and .u64 (z2:Int) 31=(z2:Int)/\z2<32:=by have h:=zQ ⟨12+m,ab⟩;simp only[List.getD_eq_getElem?_getD,lF,Option.getD_some]at h;exact h
        clear lF;have m0:(m:Int)<4:=ab;have TS:=O (show tN (wr.drewN nq) w.heap.size H from HM2.o);have qR:=jz.drewN nq;generalize wr.drewN nq=wd at *
        go_wp2_with fail
        refine(C5 _ (z2:Int) z2 wd ab ab kJ NV).mono ?_;rintro e w5⟨rfl,rfl⟩;have lO:=O (show rR X.data.toList k M=⟨M.d,(M.b+mq ((mdF 3 M.b M.c M.d+(M.a+z+wv))%4294967296) z2)%4294967296,M.b,M.c⟩by unfold rR;rw[hzd.o,hzt.o,ZJ.o,vP.o]);clear htu kJ;go_wp2;go_roundw
        case rel=>exact⟨k+1,ab,bg,by rw[Dk.o,lO.o],by rw[Dk.o,lO.o];rfl,by rw[Dk.o,lO.o],by rw[Dk.o,lO.o],TS.o,qR⟩
        case measure=>simp[intOf];omega
    ·have U6:k=64:=ab;subst U6;have wQ:=HM2.o;have h0:wr.cell? ⟨w.heap.size,0,none⟩=some (.int .u32 H.a):=by unfold tN at wQ;simp[World.cell?,wQ]
     have h1:wr.cell? ⟨w.heap.size,1,none⟩=some (.int .u32 H.b):=by unfold tN at wQ;simp[World.cell?,wQ]
     have h2:wr.cell? ⟨w.heap.size,2,none⟩=some (.int .u32 H.c):=by unfold tN at wQ;simp[World.cell?,wQ]
     have h3:wr.cell? ⟨w.heap.size,3,none⟩=some (.int .u32 H.d):=by unfold tN at wQ;simp[World.cell?,wQ]
     have f0:wr.frozen? ⟨w.heap.size,0,none⟩=false:=by unfold tN at wQ;simp[World.frozen?,wQ]
     have f1:wr.frozen? ⟨w.heap.size,1,none⟩=false:=by unfold tN at wQ;simp[World.frozen?,wQ]
     have f2:wr.frozen? ⟨w.heap.size,2,none⟩=false:=by unfold tN at wQ;simp[World.frozen?,wQ]
     have f3:wr.frozen? ⟨w.heap.size,3,none⟩=false:=by unfold tN at wQ;simp[World.frozen?,wQ]
     clear wQ;have anN:(64:Int)<=(X.size:Int):=ab;go_wp2;have J3:wr.heap[w.heap.size]?=some (.cells #[.int .u32 H.a,.int .u32 H.b,.int .u32 H.c,.int .u32 H.d] 298 (0,0)):=HM2.o;have qw:=um J3 0 (.int .u32 ((H.a+M.a)%4294967296));have kJ:=um qw 1 (.int .u32 ((H.b+M.b)%4294967296));have tO:=um kJ 2 (.int .u32 ((H.c+M.c)%4294967296));have vQ:=um tO 3 (.int .u32 ((H.d+M.d)%4294967296))
     refine⟨⟨n+1,ab,?_,?_,(((jz.gN (p:=⟨w.heap.size,0,none⟩) (ay _) _).gN (p:=⟨w.heap.size,1,none⟩) (ay _) _).gN (p:=⟨w.heap.size,2,none⟩) (ay _) _).gN (p:=⟨w.heap.size,3,none⟩) (ay _) _⟩,?_⟩
     ·rw[qt.o];rfl
     ·rw[qm.o,H64.o rfl];exact vQ
     ·show(X.extract 64 X.size).size<X.size;rw[jL];omega
  ·have C7:64*n=T.size:=ab;have he:(T.extract (64*n) T.size)=⟨#[]⟩:=by apply Go.WideShapes.bytes_inj;rw[kK,cV bH]
   rw[he];have U7:=O (show yI T.data.toList (T.size/64)=yI T.data.toList n by rw[<-C7];congr 1;omega);have Bm:=Qm T.data.toList n;generalize yI T.data.toList n=H at *
   have HM:=O hm;have TX:=O (Cd w.heap.size H.list true wr (by show 4<=8;omega) (bq hm) (fun j x hj=>by
    unfold tN at hm
    match j,hj with
    |0,hj=>simp[Md.list]at hj;subst hj;simp[World.cell?,hm]
    |1,hj=>simp[Md.list]at hj;subst hj;simp[World.cell?,hm]
    |2,hj=>simp[Md.list]at hj;subst hj;simp[World.cell?,hm]
    |3,hj=>simp[Md.list]at hj;subst hj;simp[World.cell?,hm]
    |j+4,hj=>simp[Md.list]at hj) (fun x hx=>by
    simp only[Md.list,bC,cA,dY]at hx;obtain⟨p0,p1,p2,p3⟩:=Bm;rcases hx with rfl|rfl|rfl|rfl<;>assumption))
   clear hm Bm;go_wp2_with fail
   refine TX.o.mono ?_;rintro e w5⟨rfl,lN⟩;go_wp2;go_ret;exact⟨by rw[DY.o,U7.o];rfl,cP.trans lN⟩
def an5(c:UInt8):Option Nat:=if 65<=c/\c<=90 then some (c.toNat-65)else if 97<=c/\c<=122 then some (c.toNat-71)else if 48<=c/\c<=57 then some (c.toNat+4)else if c=43 then some 62 else if c=47 then some 63 else none
def qv(l:aH):Nat->Nat
 |0=>0
 |j+1=>qv l j*64+(match l[j]? with|some c=>(an5 c).getD 0|none=>0)
theorem xx:∀(l:aH) (c:UInt8) (i:Nat),Lib.indexByte l c=(i:Int)->l=l.take i++c :: l.drop (i+1)/\c∉l.take i
 |[],c,i,h=>by simp[Lib.indexByte]at h
 |x :: l,c,i,h=>by
  have hge:=Lib.indexByte_ge l c;have h':(if x==c then(0:Int)else if Lib.indexByte l c== -1 then -1 else Lib.indexByte l c+1)=(i:Int):=h;by_cases hx:x=c
  ·rw[az (by simpa using hx)]at h';obtain rfl:i=0:=ab;subst hx;exact⟨rfl,aR⟩
  ·rw[aq (by simpa using hx)]at h';by_cases h1:Lib.indexByte l c= -1
   ·rw[az (by simpa using h1)]at h';omega
   ·rw[aq (by simpa using h1)]at h';obtain⟨j,rfl⟩:∃j,i=j+1:=⟨i-1,ab⟩;obtain⟨e1,e2⟩:=xx l c j ab;refine⟨?_,?_⟩
    ·show x :: l=x :: (l.take j++c :: l.drop (j+1));rw[<-e1]
    ·intro hc;rcases bC.1 hc with rfl|hc
     ·exact hx rfl
     ·exact e2 hc
theorem Vg(h:Lib.indexByte l c=(i:Int)):i<l.length:=by
 obtain⟨e,_⟩:=xx l c i h;have:=ar List.length e;simp at this;omega
def ji(c:UInt8)(s:aj):List aj:=(eh c s.data.toList).map fun l=>⟨l.toArray⟩
theorem o8(s:aj)(a b:Nat):s.extract a b=⟨((s.data.toList.drop a).take (b-a)).toArray⟩:=by
 have h:=Lib.extract_data s a b;have h2:(s.extract a b).data=((s.data.toList.drop a).take (b-a)).toArray:=by rw[<-h]
 calc s.extract a b=⟨(s.extract a b).data⟩:=rfl
  _=_:=by rw[h2]
theorem D9(c:UInt8)(s:aj)(i:Nat)(h:Lib.indexByte s.data.toList c=(i:Int)):ji c s=s.extract 0 i :: ji c (s.extract (i+1) s.size):=by
 obtain⟨e,hn⟩:=xx _ _ _ h;unfold ji
 conv=>lhs;rw[e,Dp c _ _ hn,cF]
 rw[o8,o8,aD (l:=s.data.toList.drop (i+1)) aR];rfl
theorem Cg(c:UInt8)(s:aj)(h:¬0<=Lib.indexByte s.data.toList c):ji c s=[s]:=by
 have hn:c∉s.data.toList:=fun hc=>(Iw _ _).1 h c hc rfl;unfold ji;rw[Dq c _ hn];rfl
theorem yJ(s:aj)(c:UInt8):Lib.indexB s ⟨#[c]⟩=Lib.indexByte s.data.toList c:=by
 show Lib.index s.data.toList [c]=_;exact Lib.index_one _ _
theorem Ch(c:UInt8):∀(k:Nat) (s:aj),Lib.countB s ⟨#[c]⟩=k->Lib.splitB ⟨#[c]⟩ 0 k s=ji c s
 |0,s,hk=>by
  rcases Lib.indexB_cases s ⟨#[c]⟩with xu|⟨i,xu,_⟩
  ·rw[Lib.splitB_zero,Cg c s (by rw[<-yJ,xu];decide)]
  ·have:=Lib.countB_hit s ⟨#[c]⟩ i (ay _) xu;omega
 |k+1,s,hk=>by
  rcases Lib.indexB_cases s ⟨#[c]⟩with xu|⟨i,xu,_⟩
  ·rw[Lib.countB_miss s ⟨#[c]⟩ xu]at hk;omega
  ·have hct:=Lib.countB_hit s ⟨#[c]⟩ i (ay _) xu;rw[Lib.splitB_hit _ 0 k s i xu,D9 c s i (by rw[<-yJ];exact xu)];have e:Lib.splitB ⟨#[c]⟩ 0 k (s.extract (i+(⟨#[c]⟩:aj).size) s.size)=ji c (s.extract (i+1) s.size):=Ch c k (s.extract (i+1) s.size) (by
    have:Lib.countB (s.extract (i+(⟨#[c]⟩:aj).size) s.size) ⟨#[c]⟩=k:=ab;exact this)
   rw[e];rfl
theorem N3(s:aj)(c:UInt8):Lib.countB s ⟨#[c]⟩=Lib.countByte s.data.toList c:=by
 show Lib.count s.data.toList [c]=_;exact Lib.count_one _ _
theorem yK(s:aj)(c:UInt8)(w:World)(hs:s.size<4294967281) :
  aB 125 #[.string s,.string ⟨#[c]⟩] w fun e w'=>e=.returned (.slice (some ⟨w.heap.size,0,none⟩) (ji c s).length (ji c s).length)/\w'=w.alloc (.cells ((ji c s).map Value.string).toArray 9):=by
 have pK:(1:Nat)<=(⟨#[c]⟩:aj).size:=ay _;have hle:=Lib.countB_le ⟨#[c]⟩ pK s.size s (ay _);have hlen:=Lib.splitB_all ⟨#[c]⟩ pK 0 _ s rfl;have qI:Lib.splitB ⟨#[c]⟩ 0 (Lib.countB s ⟨#[c]⟩) s=ji c s:=Ch c _ s rfl;have k:aB 184 #[.string s,.string ⟨#[c]⟩,.int .i64 (0:Nat),.int .i64 (-1)] w fun e w' =>
   e=.returned (.slice (some ⟨w.heap.size,0,none⟩) (Lib.splitB ⟨#[c]⟩ 0 (Lib.countB s ⟨#[c]⟩+1-1) s).length (Lib.countB s ⟨#[c]⟩+1))/\w'=w.alloc (.cells (Lib.cellsOf (Lib.splitB ⟨#[c]⟩ 0 (Lib.countB s ⟨#[c]⟩+1-1) s) (Lib.countB s ⟨#[c]⟩+1)) 9) :=
  Any.strings_genSplit_core Y5 af s ⟨#[c]⟩ 0 (-1) (Lib.countB s ⟨#[c]⟩+1) w hs pK (aL _)
   (fun x cc _=>(Any.strings_Index_one Y0 x c _).mono fun e w' ⟨he,hw⟩=>⟨by rw[he,yJ],hw⟩)
   ((Any.strings_Count_one Y2 s c w).mono fun e w' ⟨he,hw⟩=>⟨by rw[he,N3],hw⟩)
   ag ag (by rw[az ag];omega)
 rw[Nat.add_sub_cancel,hlen]at k;have e2:Lib.cellsOf (Lib.splitB ⟨#[c]⟩ 0 (Lib.countB s ⟨#[c]⟩) s) (Lib.countB s ⟨#[c]⟩+1)=((Lib.splitB ⟨#[c]⟩ 0 (Lib.countB s ⟨#[c]⟩) s).map Value.string).toArray:=by rw[<-hlen];exact Lib.cellsOf_full _
 rw[e2, <-hlen,qI]at k;go_enter func125,ntmps125;go_wp2_with fail
 refine k.mono ?_;rintro e w1⟨rfl,rfl⟩;go_wp2;go_ret;exact⟨rfl,rfl⟩
def within(path p:aj):Bool:=Lib.hasPrefix path.data.toList p.data.toList
theorem Eb(path p:aj)(w:World) :
  aB 204 #[.string path,.string p] w fun e w'=>e=.returned (.bool (within path p))/\w=w':=by
 go_enter func204,ntmps204;go_wp2_with fail
 refine(strings_HasPrefix path p w).mono ?_;rintro e w'⟨rfl,rfl⟩;go_wp2;go_ret;exact⟨rfl,rfl⟩
def rX(path:aj)(ps:List aj)(n:Int):Int:=ps.foldl (fun n p=>if within path p then max n (p.size:Int)else n) n
def uT(g:gG)(gp:Bool)(ps:List aj)(o:gG)(proxy:Bool)(path:aj):Int:=if g.lz o&&gp==proxy then rX path ps (-1)else -1
theorem N_(path:aj)(ps:List aj)(p:aj)(n:Int):rX path (ps++[p]) n=if within path p then max (rX path ps n) (p.size:Int)else rX path ps n:=by simp[rX]
def Vu(path:aj)(ps:List aj)(n i:Value):Prop:=∃k:Nat,k<=ps.length/\i=.int .i64 k/\n=.int .i64 (rX path (ps.take k) (-1))
theorem RU(g:aQ Value)(o:gG)(proxy:Bool)(path:aj)(ps:List aj)(w:World)(hp:fT w g.paths ps) :
  aB 154 #[.agg g.cells.toArray,.agg o.cells.toArray,.bool proxy,.string path] w fun e w'=>e=.returned (.int .i64 (uT g.o g.proxy ps o proxy path))/\Fr aS w w':=by
 have hne:=B6 g.o o;unfold aQ.cells gG.cells;obtain⟨av,cv,hv⟩:=hp.form;rw[hv]at hp ⊢;clear hv;cases e1:g.o.lz o
 ·have HR:=O (show uT g.o g.proxy ps o proxy path= -1 by unfold uT;rw[e1];rfl);go_enter func154,ntmps154;go_wp2;go_ret;exact⟨by rw[HR.o];rfl,((ae _ _).alloc _).alloc _⟩
 ·cases e2:g.proxy==proxy
  ·have HR:=O (show uT g.o g.proxy ps o proxy path= -1 by unfold uT;rw[e1,e2];rfl);have e2':(g.proxy !=proxy)=true:=by rw[bne,e2];rfl
   go_enter func154,ntmps154;go_wp2;go_ret;exact⟨by rw[HR.o];rfl,((ae _ _).alloc _).alloc _⟩
  ·have HR:=O (show uT g.o g.proxy ps o proxy path=rX path ps (-1)by unfold uT;rw[e1,e2];rfl);have e2':(g.proxy !=proxy)=false:=by rw[bne,e2];rfl
   go_enter func154,ntmps154;go_wp2;have hf:Fr aS w _:=((ae aS w).alloc (.cells #[.bool g.o.aG,.string g.o.host,.int .i64 g.o.port,.bool g.proxy,.string g.user,.string g.pass,.int .i64 g.a.scheme,.string g.a.aM,.string g.a.bu,.string g.a.cz,.bool g.a.cD,.string g.a.eJ,.bool g.a.cR,g.a.dom,.int .i64 g.count,.slice av ps.length cv] 114)).alloc (.cells #[.bool o.aG,.string o.host,.int .i64 o.port] 32)
   have Dx:=hp.fN hf;generalize (w.alloc _).alloc _=W at hf Dx;clear hp hne e1 e2 e2'
   go_loop [9,26] (Vu path ps) (fun _ i=>ps.length-(intOf i).toNat)
   case atStart=>exact⟨0,aL _,rfl,rfl⟩
   case round =>
    obtain⟨k,hk,rfl,rfl⟩:=hrel;by_cases fe:k<ps.length
    ·rcases Dx with ⟨_,_,_,e,_⟩|⟨bk,of,c,dk,h1,h2,h3,h4⟩
     ·rw[e]at fe;exact absurd fe (bV _)
     ·cases dk;unfold maxLen at h2;have dS:=O (List.getElem?_eq_getElem fe);have hc:=h4 k _ dS.o;generalize ps[k]=x at dS hc;have JX:=O (show rX path (ps.take (k+1)) (-1)=if within path x then max (rX path (ps.take k) (-1)) (x.size:Int)else rX path (ps.take k) (-1)by rw[d_ dS.o,N_]);clear h4;generalize rX path (ps.take k) (-1)=n at *
      cases hw:within path x
      ·have ad_:=O (show rX path (ps.take (k+1)) (-1)=n by rw[JX.o,hw];rfl);go_wp2_with fail
       refine(Eb path x W).mono ?_;rintro e w1⟨rfl,rfl⟩;rw[hw];go_wp2
       go_round
       case rel=>exact⟨k+1,ab,bg,by rw[ad_.o]⟩
       case measure=>simp[intOf];omega
      ·have ad_:=O (show rX path (ps.take (k+1)) (-1)=max n (x.size:Int)by rw[JX.o,hw];rfl);go_wp2_with fail
       refine(Eb path x W).mono ?_;rintro e w1⟨rfl,rfl⟩;rw[hw];go_wp2
       go_round
       case rel=>exact⟨k+1,ab,bg,by rw[ad_.o]⟩
       case measure=>simp[intOf];omega
    ·have fl:=O (show rX path (ps.take k) (-1)=rX path ps (-1)by rw[aD ab]);go_wp2;go_ret;exact⟨by rw[HR.o,fl.o];rfl,hf⟩
def gT(S:dF)(w:World)(g:Nat)(cap:bT)(p:aZ->Bool)(xs:dh):Prop :=
 ∀x,x∈xs->∀u,Fr S w u->aB g (#[.agg x.toArray]++cap) u fun e u'=>e=.returned (.bool (p x))/\Fr aS u u'
theorem gT.none{S:dF}{cap:bT}{p:aZ->Bool}{xs:dh}(h:gT S w g cap p xs):gT aS w g cap p xs :=
 fun x hx u hu=>h x hx u (hu.mono (fun _ _ h=>absurd h id))
theorem jM{P:Program}(w:World)(t e ty:TypeId)(zs:bT)(ht:P.underlying t=some (.slice e))(hv:∀w,(zeroValue e).run P w=.ok (.agg zs) w)(hs:0<zs.size)(h1:∀v∈zs.toList,v.oneCell'=true)(b o n c:Nat)(hn:0<n)
  (hc:w.there b o (n*zs.size)) :
  (Builtin.clear_ #[t] ty #[.slice (some ⟨b,o,none⟩) n c]).run P w=.ok (.tuple #[]) (w.setCells b o (Builtin.zeroCells zs n).toList):=by
 have hl:(Builtin.zeroCells zs n).toList.length=n*zs.size:=by simp[Builtin.zeroCells]
 have jx:=run_storeCells_cells (P:=P) b o (Builtin.zeroCells zs n).toList 0 w (by rw[hl];intro j hj;exact(hc j hj).1) (by rw[hl];intro j hj;exact(hc j hj).2) (by
  intro v sL;rw[Builtin.zeroCells,Array.mem_toList_iff,Array.mem_map]at sL;obtain⟨i,_,rfl⟩:=sL;have hm:=Nat.mod_lt i hs;rw[getElem!_pos zs _ hm];exact h1 _ aR)
 simp only[Nat.add_zero]at jx;obtain⟨m,rfl⟩:∃m,n=m+1:=⟨n-1,ab⟩;have Ns:(Value.agg zs).cells=zs:=rfl;simp[Builtin.clear_,run_underlying ht,hv,Ns,jx]
def uw:gG:=⟨true,⟨#[97,46,116,101,115,116]⟩,443⟩
theorem Aq(w:World):aB 23 #[] w fun e w'=>e=.returned (.agg uw.cells.toArray)/\Fr aS w w':=by
 go_enter func23,ntmps23;go_wp2;refine aW (bw bD _ _ w.heap.size 32 #[.bool true,.string ⟨#[97,46,116,101,115,116]⟩,.int .i64 443] (0,0) _ rfl (aC _ _) underlying32 rfl af) rfl ?_;exact⟨rfl,(ae _ _).alloc _⟩
open Go.ChangeShapes Go.WideShapes Go.ChangeAt Go.RowKit Go.Deep
section
variable {H : Type} {enc : TypeId × Value → H} {P : Program} {W : World}
theorem ym{e:TypeId}:∀ {l:List (DataW H)} {d:DataW H},d∈l->∀n∈d.weights P e,n∈DataW.weightsAll P e l
 |d' :: r,d,hd,n,hn=>by
  simp only[DataW.weightsAll,bL];rcases bC.1 hd with rfl|h
  ·exact Or.inl hn
  ·exact Or.inr (ym h n hn)
def pI(P:Program)(t:TypeId)(d:DataW H):Prop:=∀n∈d.weights P t,n<=reachBytes
theorem om{fs:Array Field}{x:DataW H×List MemPlace}(ht:P.underlying t=some (.struct fs))(h:DataW.trod enc P W 0 (fun _=>true) true fuel t cs=some x) :
  cs.length=P.cellsOf t/\∃n,∀(i:Nat) (t':TypeId) (o k:Nat),fs[i]?.map (fun f=>(f.type,f.offset))=some (t',o)->P.cellsOf t'=k->∃y,DataW.trod enc P W 0 (fun _=>true) true n t' ((cs.drop o).take k)=some y/\(pI P t x.1->pI P t' y.1):=by
 obtain⟨xs,n,_,rfl,hl,oH,hf⟩:=DataW.trod_struct ht h;refine⟨hl,n,fun i t' o k he hk=>?_⟩;obtain⟨f,hi,e⟩:=Option.map_eq_some_iff.1 he;injection e with e1 e2
 subst e1 e2 hk;have sS:i<fs.size:=(Array.getElem?_eq_some_iff.1 hi).1;refine⟨xs[i],by rw[hf i f hi];exact List.getElem?_eq_getElem _,fun hL m hm=>hL m ?_⟩;simp only[DataW.weights,ht];refine DataW.weights_mem_each (j:=i) (t:=f.type) (d:=xs[i].1) ?_ ?_ m hm
 ·rw[List.getElem?_map,Array.getElem?_toList,hi];rfl
 ·rw[List.getElem?_map,List.getElem?_eq_getElem ab];rfl
theorem nV{x:DataW H×List MemPlace}(ht:P.underlying t=some .bool)(h:DataW.trod enc P W 0 (fun _=>true) true fuel t cs=some x):∃b,cs=[.bool b]:=by
 obtain⟨b,e,_⟩:=DataW.trod_bool ht h;exact⟨b,e⟩
theorem kQ{k:IntKind}{x:DataW H×List MemPlace}(ht:P.underlying t=some (.int k))(h:DataW.trod enc P W 0 (fun _=>true) true fuel t cs=some x):∃n,cs=[.int k n]/\(Lit.int k n).wf=true:=by
 obtain⟨b,e,_,hw⟩:=DataW.trod_int ht h;exact⟨b,e,hw⟩
theorem fA{x:DataW H×List MemPlace}(ht:P.underlying t=some .string)(h:DataW.trod enc P W 0 (fun _=>true) true fuel t cs=some x) :
  ∃s:aj,cs=[.string s]/\(pI P t x.1->s.size<=reachBytes):=by
 obtain⟨s,e,hx,_⟩:=DataW.trod_string ht h;refine⟨s,e,fun hL=>?_⟩;have:=hL s.data.toList.length (by rw[hx];simp[DataW.weights]);simpa using this
end
variable {H : Type} {enc : TypeId × Value → H} {W : World}
theorem vr:prog.cellsOf 4=1:=af
theorem qe:prog.cellsOf 3=1:=af
theorem jc:prog.cellsOf 9=1:=af
theorem BP:prog.cellsOf 32=3:=af
def gG.MW(o:gG):Prop:=o.host.size<=reachBytes
theorem aqQ{α:Type}{l:List α}(h:l.length=3):∃a b c,l=[a,b,c]:=by
 match l,h with
 |[a,b,c],_=>exact⟨a,b,c,rfl⟩
theorem ak'{α:Type}{l:List α}(h:l.length=2):∃a b,l=[a,b]:=by
 match l,h with
 |[a,b],_=>exact⟨a,b,rfl⟩
theorem MX{x:DataW H×List MemPlace}(h:DataW.trod enc prog W 0 (fun _=>true) true fuel 32 cs=some x) :
  ∃o:gG,cs=o.cells/\(Lit.int .i64 o.port).wf=true/\(pI prog 32 x.1->o.MW):=by
 obtain⟨hl,n,hf⟩:=om underlying32 h;rw[BP]at hl;obtain⟨c0,c1,c2,rfl⟩:=aqQ hl;obtain⟨y0,h0,l0⟩:=hf 0 4 0 _ rfl vr;obtain⟨y1,h1,l1⟩:=hf 1 9 1 _ rfl jc;obtain⟨y2,h2,l2⟩:=hf 2 3 2 _ rfl qe;simp only[List.drop,List.take]at h0 h1 h2;obtain⟨b0,e0⟩:=nV underlying4 h0;obtain⟨b1,e1,w1⟩:=fA underlying9 h1;obtain⟨b2,e2,w2⟩:=kQ underlying3 h2;simp at e0 e1 e2;subst e0 e1 e2
 exact⟨⟨b0,b1,b2⟩,rfl,w2,fun hL=>w1 (l1 hL)⟩
theorem MY{P:Program}{ts:List TypeId}{ds:List (DataW H)}(xS:(DataW.weightsEach P ts ds).all (· <=reachBytes)=true){d:DataW H}(ht:ts[j]?=some t)(hd:ds[j]?=some d):pI P t d:=fun n hn=>by
 have:=gH.1 xS n (DataW.weights_mem_each ht hd n hn);simpa using this
theorem wm{p:UInt8->Bool}{t:aH}(ht:∀c,t.head?=some c->p c=false):t.dropWhile p=t:=by
 cases t with
 |nil=>rfl
 |cons c t=>rw[List.dropWhile_cons_of_neg (by simp[ht c rfl])]
theorem jE.isOk(h:jE s w e w')(hl:ia s.data.toList=.ok ws)(hn:ws.length<=40) :
  ∃v,e=.returned (.tuple #[v,.nilIface])/\Strs w.heap.size w' v (dT ws)/\Fr aS w w':=by
 obtain⟨v,er,he,hf,hm⟩:=h;rw[hl]at hm;have CA:if 40<ws.length then v=.slice none 0 0/\Gf w' er (some (4,none))else Strs w.heap.size w' v (dT ws)/\er=.nilIface:=hm
 rw[aq (show¬40<ws.length from ab)]at CA;obtain⟨hv,hr⟩:=CA;exact⟨v,by rw[he,hr],hv,hf⟩
theorem ik.isOk{a:aH}(h:ik b s i w e w')(hq:gR s.data.toList i=Option.some (a,j)) :
  e=.returned (.tuple #[.string ⟨a.toArray⟩,.bool true])/\dz w' b s j/\Fr (one b) w w':=by
 obtain⟨he,hc,hf⟩:=h;rw[hq]at he;have h1:nX s.data.toList i=a:=by simp[nX,hq]
 have h2:pO s.data.toList i=j:=by simp[pO,hq]
 rw[h1]at he;rw[h2]at hc;exact⟨he,hc,hf⟩
theorem ik.isNone(h:ik b s i w e w')(hq:gR s.data.toList i=Option.none) :
  e=.returned (.tuple #[.string ⟨#[]⟩,.bool false])/\dz w' b s i/\Fr (one b) w w':=by
 obtain⟨he,hc,hf⟩:=h;rw[hq]at he;have h1:nX s.data.toList i=[]:=by simp[nX,hq]
 have h2:pO s.data.toList i=i:=by simp[pO,hq]
 rw[h1]at he;rw[h2]at hc;exact⟨he,hc,hf⟩
def Dt:aH:=[34,40,41,58,60,62,63,64,91,92,93,123,125]
def kr(c:UInt8):Bool:=(decide (c.toNat<32)&&!decide (c.toNat=9))||decide (c.toNat=127)||decide (0<=Lib.indexByte Dt c)
theorem ND(c:UInt8)(w:World) :
  aB 219 #[.int .u8 (c.toNat:Int)] w fun e w'=>e=.returned (.bool (kr c))/\w'=w:=by
 by_cases h1:c.toNat<32/\¬c.toNat=9
 ·obtain⟨h1,h2⟩:=h1;have hb:=O (show kr c=true by unfold kr;rw[bJ h1,bj h2];rfl);have i1:(c.toNat:Int)<32:=ab;have i2:¬(c.toNat:Int)=9:=ab;go_enter func219,ntmps219;go_wp2;go_ret;exact⟨fF hb.o.symm,rfl⟩
 ·by_cases h3:c.toNat=127
  ·have hb:=O (show kr c=true by unfold kr;rw[bJ h3];simp);have i1:¬(c.toNat:Int)<32:=ab;have i3:(c.toNat:Int)=127:=ab;go_enter func219,ntmps219;go_wp2;go_ret;exact⟨fF hb.o.symm,rfl⟩
  ·have hb:=O (show kr c=decide (0<=Lib.indexByte Dt c)by
    unfold kr;rw[bj h3];by_cases h4:c.toNat<32
    ·have h9:c.toNat=9:=ab;rw[bJ h4,bJ h9];rfl
    ·rw[bj h4];rfl)
   have HI:=O (show aB 202 #[.string ⟨#[34,40,41,58,60,62,63,64,91,92,93,123,125]⟩,.int .u8 (c.toNat:Int)] w fun e w'=>e=.returned (.int .i64 (Lib.indexByte Dt c))/\w'=w from
    (strings_IndexByte ⟨#[34,40,41,58,60,62,63,64,91,92,93,123,125]⟩ c.toNat w).mono fun e w' ⟨he,hw⟩=>⟨by
     have hc:((c.toNat:Int).toNat.toUInt8)=c:=aR;rw[hc]at he;rw[he];rfl,hw⟩)
   by_cases h4:c.toNat<32
   ·have i1:(c.toNat:Int)<32:=ab;have i2:(c.toNat:Int)=9:=ab;have hi9:=HI.o;rw[i2]at hi9;have HI9:=O hi9;clear hi9;have i3:((c.toNat:Int)==127)=false:=by rw[aO];omega
    go_enter func219,ntmps219;go_wp2_with fail
    refine HI9.o.mono ?_;rintro e u⟨rfl,rfl⟩;go_wp2;go_ret
    first|exact⟨fF hb.o.symm,rfl⟩|exact⟨fF (show(((c.toNat:Int)==127)||decide (0<=Lib.indexByte Dt c))=kr c by rw[i3,hb.o];rfl),rfl⟩
   ·have i1:¬(c.toNat:Int)<32:=ab;have i2:¬(c.toNat:Int)=127:=ab;have i3:((c.toNat:Int)==127)=false:=by rw[aO];exact i2
    go_enter func219,ntmps219;go_wp2_with fail
    refine HI.o.mono ?_;rintro e u⟨rfl,rfl⟩;go_wp2;go_ret
    first|exact⟨fF hb.o.symm,rfl⟩|exact⟨fF (show(((c.toNat:Int)==127)||decide (0<=Lib.indexByte Dt c))=kr c by rw[i3,hb.o];rfl),rfl⟩
def sX:aH:=[32,42,44,45,46,59,61]
def qX(c:UInt8):Bool:=oN c||decide (0<=Lib.indexByte sX c)
def wD(s:aj):Bool:=s.data.toList.all qX
def ahD(s:aj)(w:World)(i:Value)(wr:World):Prop:=∃k:Nat,k<=s.size/\i=.int .i64 k/\(s.data.toList.take k).all qX=true/\Fr aS w wr
theorem zD(s:aj)(w:World)(hs:s.size<100000) :
  aB 220 #[.string s] w fun e w'=>e=.returned (.bool (wD s))/\Fr aS w w':=by
 go_enter func220,ntmps220;go_wp2;go_loopw[7] (ahD s w) (fun i _=>s.size-(intOf i).toNat)
 case atStart=>exact⟨0,ab,rfl,rfl,ae _ _⟩
 case round =>
  obtain⟨k,hk,rfl,iI,cP⟩:=hrel;by_cases fe:k<s.size
  ·have pE:(k:Int)<(s.size:Int):=ab;have rj:=byte_at s k fe;have HI:=O (show aB 202 #[.string ⟨#[32,42,44,45,46,59,61]⟩,.int .u8 (s[k].toNat:Int)] wr fun e w'=>e=.returned (.int .i64 (Lib.indexByte sX s[k]))/\w'=wr from
    (strings_IndexByte ⟨#[32,42,44,45,46,59,61]⟩ s[k].toNat wr).mono fun e w' ⟨he,hw⟩=>⟨by
     have hc:((s[k].toNat:Int).toNat.toUInt8)=s[k]:=aR;rw[hc]at he;rw[he];rfl,hw⟩)
   have NF:=O (show qX s[k]=true->(s.data.toList.take (k+1)).all qX=true from fun h=>by rw[cj,rj,ki,iI];simp[h]);have HNO:=O (show qX s[k]=false->wD s=false from fun h=>by unfold wD;rw[jt];exact⟨s[k],bQ rj,by simp[h]⟩);have sS:=s[k].toNat_lt;by_cases g0:s[k].toNat<=47
   ·have q1:(s[k].toNat:Int)<48:=ab;have q2:¬57<(s[k].toNat:Int):=ab;have q3:(s[k].toNat:Int)<97:=ab;have q4:¬122<(s[k].toNat:Int):=ab;have q5:(s[k].toNat:Int)<65:=ab;have q6:¬90<(s[k].toNat:Int):=ab;have CB:oN s[k]=false:=by unfold oN;simp;omega
    have Bg:=O CB;clear CB rj iI;go_wp2_with fail
    refine HI.o.mono ?_;rintro e u⟨rfl,rfl⟩;by_cases xu:0<=Lib.indexByte sX s[k]
    ·have NG:¬Lib.indexByte sX s[k]<0:=ab;have HY:=O (NF.o (by unfold qX;rw[Bg.o,bJ xu];rfl));go_wp2;go_roundw
     case rel=>exact⟨k+1,ab,bg,HY.o,cP⟩
     case measure=>simp[intOf];omega
    ·have NG:Lib.indexByte sX s[k]<0:=ab;have HN:=O (HNO.o (by unfold qX;rw[Bg.o,bj xu];rfl));go_wp2;go_ret;exact⟨by rw[HN.o];rfl,cP⟩
   ·skip
    by_cases g1:s[k].toNat<=57
    ·have q1:¬(s[k].toNat:Int)<48:=ab;have q2:¬57<(s[k].toNat:Int):=ab;have q3:(s[k].toNat:Int)<97:=ab;have q4:¬122<(s[k].toNat:Int):=ab;have q5:(s[k].toNat:Int)<65:=ab;have q6:¬90<(s[k].toNat:Int):=ab;have hy:=NF.o (by unfold qX oN;simp;omega);have HY:=O hy;clear hy iI rj;go_wp2;go_roundw
     case rel=>exact⟨k+1,ab,bg,HY.o,cP⟩
     case measure=>simp[intOf];omega
    ·skip
     by_cases g2:s[k].toNat<=64
     ·have q1:¬(s[k].toNat:Int)<48:=ab;have q2:57<(s[k].toNat:Int):=ab;have q3:(s[k].toNat:Int)<97:=ab;have q4:¬122<(s[k].toNat:Int):=ab;have q5:(s[k].toNat:Int)<65:=ab;have q6:¬90<(s[k].toNat:Int):=ab;have CB:oN s[k]=false:=by unfold oN;simp;omega
      have Bg:=O CB;clear CB rj iI;go_wp2_with fail
      refine HI.o.mono ?_;rintro e u⟨rfl,rfl⟩;by_cases xu:0<=Lib.indexByte sX s[k]
      ·have NG:¬Lib.indexByte sX s[k]<0:=ab;have HY:=O (NF.o (by unfold qX;rw[Bg.o,bJ xu];rfl));go_wp2;go_roundw
       case rel=>exact⟨k+1,ab,bg,HY.o,cP⟩
       case measure=>simp[intOf];omega
      ·have NG:Lib.indexByte sX s[k]<0:=ab;have HN:=O (HNO.o (by unfold qX;rw[Bg.o,bj xu];rfl));go_wp2;go_ret;exact⟨by rw[HN.o];rfl,cP⟩
     ·skip
      by_cases g3:s[k].toNat<=90
      ·have q1:¬(s[k].toNat:Int)<48:=ab;have q2:57<(s[k].toNat:Int):=ab;have q3:(s[k].toNat:Int)<97:=ab;have q4:¬122<(s[k].toNat:Int):=ab;have q5:¬(s[k].toNat:Int)<65:=ab;have q6:¬90<(s[k].toNat:Int):=ab;have hy:=NF.o (by unfold qX oN;simp;omega);have HY:=O hy;clear hy iI rj;go_wp2;go_roundw
       case rel=>exact⟨k+1,ab,bg,HY.o,cP⟩
       case measure=>simp[intOf];omega
      ·skip
       by_cases g4:s[k].toNat<=96
       ·have q1:¬(s[k].toNat:Int)<48:=ab;have q2:57<(s[k].toNat:Int):=ab;have q3:(s[k].toNat:Int)<97:=ab;have q4:¬122<(s[k].toNat:Int):=ab;have q5:¬(s[k].toNat:Int)<65:=ab;have q6:90<(s[k].toNat:Int):=ab;have CB:oN s[k]=false:=by unfold oN;simp;omega
        have Bg:=O CB;clear CB rj iI;go_wp2_with fail
        refine HI.o.mono ?_;rintro e u⟨rfl,rfl⟩;by_cases xu:0<=Lib.indexByte sX s[k]
        ·have NG:¬Lib.indexByte sX s[k]<0:=ab;have HY:=O (NF.o (by unfold qX;rw[Bg.o,bJ xu];rfl));go_wp2;go_roundw
         case rel=>exact⟨k+1,ab,bg,HY.o,cP⟩
         case measure=>simp[intOf];omega
        ·have NG:Lib.indexByte sX s[k]<0:=ab;have HN:=O (HNO.o (by unfold qX;rw[Bg.o,bj xu];rfl));go_wp2;go_ret;exact⟨by rw[HN.o];rfl,cP⟩
       ·skip
        by_cases g5:s[k].toNat<=122
        ·have q1:¬(s[k].toNat:Int)<48:=ab;have q2:57<(s[k].toNat:Int):=ab;have q3:¬(s[k].toNat:Int)<97:=ab;have q4:¬122<(s[k].toNat:Int):=ab;have q5:¬(s[k].toNat:Int)<65:=ab;have q6:90<(s[k].toNat:Int):=ab;have hy:=NF.o (by unfold qX oN;simp;omega);have HY:=O hy;clear hy iI rj;go_wp2;go_roundw
         case rel=>exact⟨k+1,ab,bg,HY.o,cP⟩
         case measure=>simp[intOf];omega
        ·skip
         have q1:¬(s[k].toNat:Int)<48:=ab;have q2:57<(s[k].toNat:Int):=ab;have q3:¬(s[k].toNat:Int)<97:=ab;have q4:122<(s[k].toNat:Int):=ab;have q5:¬(s[k].toNat:Int)<65:=ab;have q6:90<(s[k].toNat:Int):=ab;have CB:oN s[k]=false:=by unfold oN;simp;omega
         have Bg:=O CB;clear CB rj iI;go_wp2_with fail
         refine HI.o.mono ?_;rintro e u⟨rfl,rfl⟩;by_cases xu:0<=Lib.indexByte sX s[k]
         ·have NG:¬Lib.indexByte sX s[k]<0:=ab;have HY:=O (NF.o (by unfold qX;rw[Bg.o,bJ xu];rfl));go_wp2;go_roundw
          case rel=>exact⟨k+1,ab,bg,HY.o,cP⟩
          case measure=>simp[intOf];omega
         ·have NG:Lib.indexByte sX s[k]<0:=ab;have HN:=O (HNO.o (by unfold qX;rw[Bg.o,bj xu];rfl));go_wp2;go_ret;exact⟨by rw[HN.o];rfl,cP⟩
  ·have pE:¬(k:Int)<(s.size:Int):=ab;have fl:=O (show wD s=true by
    unfold wD;rw[aD bH]at iI;exact iI)
   clear iI;go_wp2;go_ret;exact⟨by rw[fl.o];rfl,cP⟩
