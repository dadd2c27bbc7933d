/- IdxS, List, QuotePure, Token5, Fetch1. -/
import Derived.Test.YtjdmjbdkdmbaiaaGreatDoorPk5
set_option maxRecDepth 100000
set_option maxHeartbeats 16000000
set_option linter.unusedSimpArgs false
namespace Go.Proofs.YtjdmjbdkdmbaiaaGreatDoor
open Go.RowKit
def JW(I:World->Prop)(g:Nat)(cap:Array Value)(p:ByteArray->Bool)(ss:List ByteArray):Prop :=
 ∀x,x∈ss->∀u,I u->Calls Tryz.prog g (#[.string x]++cap) u fun e u'=>e=.returned (.bool (p x))/\Fr ay u u'/\I u'
def aoX(w:World)(I:World->Prop)(p:ByteArray->Bool)(ss:List ByteArray)(i:Value)(wr:World):Prop :=
 ∃k:Nat,k<=ss.length/\i=.int .i64 k/\(ss.take k).any p=false/\Fr ay w wr/\I wr
theorem yQ(I:World->Prop)(g:Nat)(cap:Array Value)(p:ByteArray->Bool)(v:Value)(ss:List ByteArray)(w:World)(eg:∀args w,(callFunc g args).run Tryz.prog w=.ok (.enter g args) w)(hI:I w)(hp:JW I g cap p ss)(hv:cX w v ss)(hl:ss.length<=maxLen) :
  Calls Tryz.prog 248 #[v,.func (.func g) #[] cap] w fun e w'=>e=.returned (.int .i64 (gT p ss 0))/\Fr ay w w'/\I w':=by
 unfold maxLen at hl;obtain⟨av,cv,cA⟩:=hv.form;subst cA;go_enter Tryz.func248,Tryz.ntmps248;go_wp2;go_loopw[8] (aoX w I p ss) (fun i _=>ss.length-(intOf i).toNat)
 case atStart=>exact⟨0,Nat.zero_le _,rfl,rfl,Fr.refl _ _,hI⟩
 case round =>
  obtain⟨k,hk,rfl,hn,aW,hIr⟩:=hrel;have HN:=O hn;clear hn;by_cases cG:k<ss.length
  ·have hvr:=hv.bu aW;rcases hvr with ⟨_,_,_,e,_⟩|⟨bk,o,c,hf,h1,h2,h3,h4⟩
   ·rw[e]at cG;exact absurd cG (Nat.not_lt_zero _)
   ·cases hf;have bC:=O (List.getElem?_eq_getElem cG);have hc:=h4 k _ bC.out;have ed:=O (List.getElem_mem cG);generalize ss[k]=x at bC hc ed;have cF:=O (hp x ed.out wr hIr);clear h4;cases ml:p x
    ·have kT:=O (any_take_succ bC.out HN.out ml);go_wp2_with fail
     refine cF.out.mono ?_;rintro e w1⟨rfl,bt,Zy⟩;rw[ml];go_wp2;go_roundw
     case rel=>exact⟨k+1,by omega,by go_num,kT.out,aW.trans bt,Zy⟩
     case measure=>simp[intOf];omega
    ·have bR:=O (kL (i:=0) bC.out ml HN.out);go_wp2_with fail
     refine cF.out.mono ?_;rintro e w1⟨rfl,bt,Zy⟩;rw[ml];go_wp2;go_ret;rw[bR.out,Nat.zero_add];exact⟨rfl,aW.trans bt,Zy⟩
  ·have bR:=O (show gT p ss 0= -1 from fD (by have h:=HN.out;rw[List.take_of_length_le (by omega)]at h;exact h));go_wp2;go_ret;rw[bR.out];exact⟨rfl,aW,hIr⟩
theorem uu(I:World->Prop)(g:Nat)(cap:Array Value)(p:ByteArray->Bool)(v:Value)(ss:List ByteArray)(w:World)(eg:∀args w,(callFunc g args).run Tryz.prog w=.ok (.enter g args) w)(hI:I w)(hp:JW I g cap p ss)(hv:cX w v ss)(hl:ss.length<=maxLen) :
  Calls Tryz.prog 212 #[v,.func (.func g) #[] cap] w fun e w'=>e=.returned (.bool (ss.any p))/\Fr ay w w'/\I w':=by
 have hb:=O (lX p ss 0);go_enter Tryz.func212,Tryz.ntmps212;go_wp2_with fail
 refine(yQ I g cap p v ss w eg hI hp hv hl).mono ?_;rintro e w1⟨rfl,bt,Zy⟩;go_wp2;go_ret;exact⟨cJ hb.out,bt,Zy⟩
def zQ(w:World)(v:Value):Option (Nat×Option Nat)->Prop
 |none=>v=.nilIface
 |some (n,none)=>v=.iface 116 (.int .i64 n)
 |some (n,some p)=>∃g,v=.iface 122 (.pointer (some ⟨g,0,none⟩))/\w.heap[g]?=some (.cells #[.int .i64 n,.int .i64 p] 124 (0,0))
def gy:Nat->List UInt8->Except Nat (List (List UInt8))
 |0,_=>.ok []
 |f+1,r =>
  let r1:=r.dropWhile bh
  let w:=r1.takeWhile cP
  let r3:=(r1.dropWhile cP).dropWhile bh
  let ws:=if w.isEmpty then []else [w]
  match r3 with
  |[]=>.ok ws
  |c :: r4=>if c==44 then(gy f r4).map (ws++ ·)else .error (r4.length+1)
def dz(l:List UInt8):Except Nat (List (List UInt8)):=gy (l.length+1) l
theorem jI(p:UInt8->Bool)(l:List UInt8):l.dropWhile p=l.drop (l.takeWhile p).length:=by
 induction l with
 |nil=>rfl
 |cons a t ih=>by_cases h:p a<;>simp[h,ih]
theorem eO(p:UInt8->Bool)(l:List UInt8)(i:Nat):l.drop (aQ p l i)=(l.drop i).dropWhile p:=by
 rw[jI,List.drop_drop,aQ]
theorem sU(p:UInt8->Bool)(l:List UInt8):l.takeWhile p=l.take (l.takeWhile p).length:=by
 induction l with
 |nil=>rfl
 |cons a t ih=>by_cases h:p a<;>simp[h];exact ih
theorem sV(p:UInt8->Bool)(s:ByteArray)(i:Nat):(s.extract i (aQ p s.data.toList i))=⟨((s.data.toList.drop i).takeWhile p).toArray⟩:=by
 apply Go.WideShapes.bytes_inj;rw[Lib.extract_data,sU,List.take_drop];rw[aQ,List.drop_take];generalize (List.takeWhile p (List.drop i s.data.toList)).length=n;rw[show i+(i+n-i)-i=n from by omega]
def bw(l:List (List UInt8)):List ByteArray:=l.map fun w=>⟨w.toArray⟩
def SH(l:List UInt8)(k:Nat):Nat:=aQ bh l k
def Nt(l:List UInt8)(k:Nat):Nat:=aQ cP l (SH l k)
def o_(l:List UInt8)(k:Nat):Nat:=aQ bh l (Nt l k)
def ri(l:List UInt8)(k:Nat):List UInt8:=(l.drop (SH l k)).takeWhile cP
def SI(l:List UInt8)(k:Nat):List (List UInt8):=if(ri l k).isEmpty then []else [ri l k]
theorem pE(f:Nat)(l:List UInt8)(k:Nat):gy (f+1) (l.drop k) =
  match l.drop (o_ l k)with
  |[]=>.ok (SI l k)
  |c :: r4=>if c==44 then(gy f r4).map (SI l k++ ·)else .error (r4.length+1):=by
 rw[gy];simp only[o_,Nt,SH,eO,SI,ri]
theorem zR{f:Nat}{l:List UInt8}{k:Nat}(h:l.length<=o_ l k):gy (f+1) (l.drop k)=.ok (SI l k):=by
 rw[pE,List.drop_eq_nil_of_le h]
theorem vL{f:Nat}{l:List UInt8}{k:Nat}(h:l[o_ l k]?=some 44):gy (f+1) (l.drop k)=(gy f (l.drop (o_ l k+1))).map (SI l k++ ·):=by
 rw[pE,drop_at h];rfl
theorem zS{f:Nat}{l:List UInt8}{k:Nat}{c:UInt8}(h:l[o_ l k]?=some c)(hc:(c==44)=false):gy (f+1) (l.drop k)=.error (l.length-o_ l k):=by
 rw[pE,drop_at h];simp only[hc,Bool.false_eq_true,if_false];have:=(List.getElem?_eq_some_iff.1 h).1;simp;omega
theorem TF(l:List UInt8)(k:Nat):k<=SH l k/\SH l k<=Nt l k/\Nt l k<=o_ l k:=⟨f_,f_,f_⟩
theorem afs{l:List UInt8}{k:Nat}(h:k<=l.length):SH l k<=l.length/\Nt l k<=l.length/\o_ l k<=l.length :=
 ⟨dC h,dC (dC h),dC (dC (dC h))⟩
theorem zT(p:UInt8->Bool)(l:List UInt8)(k:Nat):aQ p l (aQ p l k)=aQ p l k:=by
 unfold aQ;have h:(l.drop (k+((l.drop k).takeWhile p).length)).takeWhile p=[]:=by
  rw[<-List.drop_drop, <-jI];cases hd:(l.drop k).dropWhile p with
  |nil=>rfl
  |cons a t =>
   have:=List.head_dropWhile_not p (l:=l.drop k) (by rw[hd];simp);simp only[hd,List.head_cons]at this;simp[this]
 rw[h];rfl
theorem Dp{l:List UInt8}{k:Nat}(h:ri l k=[]):Nt l k=SH l k/\o_ l k=SH l k:=by
 have h1:Nt l k=SH l k:=by unfold Nt aQ;rw[show(l.drop (SH l k)).takeWhile cP=[]from h];rfl
 exact⟨h1,by unfold o_;rw[h1];exact zT _ _ _⟩
theorem kk:∀(f:Nat) {r:List UInt8},r.length<f->gy f r=gy (r.length+1) r
 |0,_,h=>absurd h (Nat.not_lt_zero _)
 |f+1,r,h=>by
  have key:∀(c:UInt8) (r4:List UInt8),((r.dropWhile bh).dropWhile cP).dropWhile bh=c :: r4->r4.length<r.length:=by
   intro c r4 e;have h1:=((List.dropWhile_suffix (p:=bh) (l:=(r.dropWhile bh).dropWhile cP))).length_le;have h2:=((List.dropWhile_suffix (p:=cP) (l:=r.dropWhile bh))).length_le;have h3:=((List.dropWhile_suffix (p:=bh) (l:=r))).length_le;rw[e]at h1;simp at h1;omega
  rw[gy,gy];cases e:((r.dropWhile bh).dropWhile cP).dropWhile bh with
  |nil=>rfl
  |cons c r4 =>
   have hk:=key c r4 e;simp only;rw[kk f (show r4.length<f by omega),kk r.length hk]
def ep(s:ByteArray)(w:World)(e:Ending)(w':World):Prop :=
 ∃v er,e=.returned (.tuple #[v,er])/\Fr ay w w' /\
  match dz s.data.toList with
  | .ok ws=>if 40<ws.length then v=.slice none 0 0/\zQ w' er (some (4,none))else Strs w.heap.size w' v (bw ws)/\er=.nilIface
  | .error m=>v=.slice none 0 0/\zQ w' er (some (3,some (s.size-m)))
theorem ep.ok{s:ByteArray}{w w':World}{v:Value}{ws:List (List UInt8)}(h:dz s.data.toList=.ok ws)(hn:ws.length<=40)(hv:Strs w.heap.size w' v (bw ws))(hf:Fr ay w w') :
  ep s w (.returned (.tuple #[v,.nilIface])) w':=⟨v,_,rfl,hf,by rw[h];show(if 40<ws.length then _ else _);rw[if_neg (show¬40<ws.length by omega)];exact⟨hv,rfl⟩⟩
theorem ep.long{s:ByteArray}{w w':World}{ws:List (List UInt8)}(h:dz s.data.toList=.ok ws)(hn:40<ws.length)(hf:Fr ay w w') :
  ep s w (.returned (.tuple #[.slice none 0 0,.iface 116 (.int .i64 4)])) w':=⟨_,_,rfl,hf,by rw[h];show(if 40<ws.length then _ else _);rw[if_pos hn];exact⟨rfl,rfl⟩⟩
theorem ep.bad{s:ByteArray}{w w':World}{m g:Nat}(h:dz s.data.toList=.error m)(hg:w'.heap[g]?=some (.cells #[.int .i64 3,.int .i64 (s.size-m:Nat)] 124 (0,0)))(hf:Fr ay w w') :
  ep s w (.returned (.tuple #[.slice none 0 0,.iface 122 (.pointer (some ⟨g,0,none⟩))])) w':=⟨_,_,rfl,hf,by rw[h];exact⟨rfl,g,rfl,hg⟩⟩
def am2(s:ByteArray)(w:World)(v:Value)(wr:World):Prop :=
 ∃k acc,k<=s.size/\acc.length<=k/\aU wr w.heap.size s k/\Strs (w.heap.size+1) wr v (bw acc)/\Fr ay w wr /\
  dz s.data.toList=(gy (s.size-k+1) (s.data.toList.drop k)).map (acc++ ·)
theorem Fr.rJ{w wr w1:World}{c:Nat}(h:Fr ay w wr)(g:Fr (one c) wr w1)(hc:w.heap.size<=c):Fr ay w w1:=h.step g (fun k hk e=>by have e':k=c:=e;omega)
theorem Dq(a:List (List UInt8))(x:List UInt8):bw (a++[x])=bw a++[⟨x.toArray⟩]:=by simp[bw]
theorem kl(a:List (List UInt8)):(bw a).length=a.length:=by simp[bw]
theorem IU{l:List UInt8}{k:Nat}(h:ri l k≠ []):SI l k=[ri l k]:=by unfold SI;rw[if_neg (by simpa using h)]
theorem Dr{l:List UInt8}{k:Nat}(h:ri l k=[]):SI l k=[]:=by unfold SI;rw[h];rfl
theorem Nu{a b:List (List UInt8)}{r:Except Nat (List (List UInt8))}(h:r=.ok b):r.map (a++ ·)=.ok (a++b):=by rw[h];rfl
theorem zU{a:List (List UInt8)}{m:Nat}{r:Except Nat (List (List UInt8))}(h:r=.error m):r.map (a++ ·)=.error m:=by rw[h];rfl
theorem map_map{a b:List (List UInt8)}(r:Except Nat (List (List UInt8))):(r.map (b++ ·)).map (a++ ·)=r.map ((a++b)++ ·):=by cases r<;>simp[Except.map]
theorem rK{b b':Nat}{w:World}{v:Value}{ss:List ByteArray}(h:Strs b' w v ss)(hb:b<=b'):Strs b w v ss:=by
 obtain⟨h1,h2⟩:=h;refine⟨h1,?_⟩;rcases h2 with h2|⟨g,cap,cur,hv,hg,r⟩
 ·exact Or.inl h2
 ·exact Or.inr ⟨g,cap,cur,hv,Nat.le_trans hb hg,r⟩
theorem Ds(s:ByteArray)(w:World)(hs:s.size<4398046511104) :
  Calls Tryz.prog 86 #[.string s] w (ep s w):=by
 have hm:s.size<=maxLen:=by unfold maxLen;omega
 go_enter Tryz.func86,Tryz.ntmps86;go_wp2_with (go_at_call 88;refine(Nj _ _).mono ?_;rintro e w1 ⟨rfl,rfl⟩)
 go_loopw[4] (am2 s w) (fun _ wr=>s.size-ki wr w.heap.size)
 case atStart=>exact⟨0,[],Nat.zero_le _,Nat.le_refl _,af _ _,Strs.nil _ _,(Fr.refl _ _).alloc _,by rw[List.drop_zero];cases h:gy (s.size-0+1) s.data.toList<;>simp[dz,Except.map]<;>simpa using h⟩
 case round =>
  obtain⟨k,acc,hk,aft,hc,a_,aW,o8⟩:=hrel;have di:=O o8;clear o8;have eI:w.heap.size+1<=wr.heap.size:=hc.lt;have afu:=TF s.data.toList k;have hle:=afs (l:=s.data.toList) (k:=k) (by simpa using hk);have mz:s.data.toList.length=s.size:=by simp
  rw[mz]at hle;obtain⟨m1,m2,m3⟩:=afu;obtain⟨q1,q2,q3⟩:=hle;have mA:=O hc.pos;obtain⟨km,xp⟩:∃x,x=acc++SI s.data.toList k:=⟨_,rfl⟩;have zm:=O xp;clear xp;go_wp2_with fail
  refine(gY _ s k wr hc hm hk).mono ?_;rintro e w1⟨rfl,kS,bt⟩;have gV:=aW.rJ bt (Nat.le_refl _);have oQ:=a_.fr bt (fun k hk=>by have e:k=w.heap.size:=hk;omega);have zo:w.heap.size+1<=w1.heap.size:=kS.lt;go_wp2_with fail
  refine(pC _ s _ w1 kS hm q1).mono ?_;rintro e w2⟨rfl,nW,bq⟩;have dk:=gV.rJ bq (Nat.le_refl _);have bV:=oQ.fr bq (fun k hk=>by have e:k=w.heap.size:=hk;omega);have Kp:w.heap.size+1<=w2.heap.size:=nW.lt;have TG:aU w2 w.heap.size s (Nt s.data.toList k):=nW;rw[sV];have hW:((s.data.toList.drop (aQ bh s.data.toList k)).takeWhile cP)=ri s.data.toList k:=rfl;rw[hW];clear hW nW kS bt bq
  generalize Wu:ri s.data.toList k=W;have HW:=O Wu;clear Wu;cases W with
  |nil =>
   have hem:=O (Dp HW.out);have nX:aU w2 w.heap.size s (o_ s.data.toList k):=by have h:=TG;rw[hem.out.1, <-hem.out.2]at h;exact h
   have xr:Strs (w.heap.size+1) w2 u4 (bw km):=by rw[zm.out,Dr HW.out,List.append_nil];exact bV
   clear TG bV oQ a_;have hlen:km.length<=k+1:=by have e:=zm.out;rw[Dr HW.out,List.append_nil]at e;rw[e];omega
   obtain⟨av,cv,hv⟩:=xr.form;subst hv;go_wp2_with fail
   by_cases uO:s.size<=o_ s.data.toList k
   ·have bR:=O (show dz s.data.toList=.ok km by rw[di.out,Nu (zR (by simpa using uO)),zm.out]);have hd:decide (s.size<=o_ s.data.toList k)=true:=by simpa using uO
    refine(qz _ s _ w2 nX).mono ?_;rintro e w4⟨rfl,n4,rfl⟩;rw[hd];by_cases Bv:40<(bw km).length
    ·have YU:((40:Int)<((bw km).length:Int)):=by omega
     go_wp2;go_ret2;exact ep.long bR.out (by rw[kl]at Bv;exact Bv) (dk.drewN _)
    ·have YU:¬((40:Int)<((bw km).length:Int)):=by omega
     go_wp2;go_ret2;exact ep.ok bR.out (by rw[kl]at Bv;omega) (rK xr (Nat.le_succ _)) (dk.drewN _)
   ·have hd:decide (s.size<=o_ s.data.toList k)=false:=by simpa using uO
    refine(qz _ s _ w2 nX).mono ?_;rintro e w4⟨rfl,n4,rfl⟩;rw[hd];have nU:aU (w2.drewN n4) w.heap.size s (o_ s.data.toList k):=nX;have SJ:Strs (w.heap.size+1) (w2.drewN n4) _ (bw km):=xr;have fu:=dk.drewN n4;go_wp2_with fail
    refine(kF _ s _ 44 _ nU hm).mono ?_;rintro e w5⟨rfl,nV,gH⟩;have rj:=fu.rJ gH (Nat.le_refl _);have hv5:=SJ.fr gH (fun k hk=>by have e:k=w.heap.size:=hk;omega);have pD:o_ s.data.toList k<s.data.toList.length:=by simpa using uO
    have bC:=O (List.getElem?_eq_getElem pD);cases e1:eT s (o_ s.data.toList k) 44
    ·have bR:=O (show dz s.data.toList=.error (s.data.toList.length-o_ s.data.toList k)by
      rw[di.out,zU (zS bC.out (by have h:=e1;unfold eT at h;rw[bC.out]at h;simpa using h))])
     rw[kh e1]at nV;have c1:=nV.dM;have zd:=O (show s.size-(s.data.toList.length-o_ s.data.toList k)=o_ s.data.toList k by rw[mz]at pD ⊢; omega);go_wp2
     go_region
     all_goals
      go_wp2;go_ret2;exact ep.bad bR.out (by rw[zd.out];exact af w5 _) ((rj.alloc _).drew)
    ·have bR:=O (show dz s.data.toList=(gy (s.size-(o_ s.data.toList k+1)+1) (s.data.toList.drop (o_ s.data.toList k+1))).map (km++ ·)by
      rw[di.out,zm.out,vL (by have h:=e1;unfold eT at h;simpa using h),map_map];rw[kk (f:=s.size-k) (by simp;omega),kk (f:=s.size-(o_ s.data.toList k+1)+1) (by simp)])
     rw[kg e1]at nV;go_wp2;go_roundw
     case rel=>exact⟨_,km,by omega,by omega,nV,hv5,rj,bR.out⟩
     case measure=>rw[mA.out,nV.pos];omega
  |cons x W' =>
   have hne:ri s.data.toList k≠ []:=by rw[HW.out];simp
   have wY:=O hne;clear hne;have zV:=O (show bw km=bw acc++[⟨(x :: W').toArray⟩]by rw[zm.out,IU wY.out,HW.out,Dq]);have hlen:km.length<=k+1:=by have e:=zm.out;rw[IU wY.out]at e;rw[e];simp;omega
   obtain⟨av,cv,hv⟩:=bV.form;subst hv;have hlA:acc.length<4398046511104:=by omega
   have zW:=O (kl acc);clear oQ a_;go_wp2_with (at_builtin;refine jb rfl _ _ rfl (w.heap.size+1) (.slice av _ cv) (bw acc) rfl (by apply Strs.alloc;exact bV) ⟨w2.heap.size,0,none⟩ 1 ⟨(x :: W').toArray⟩ rfl (eo _ _ _ _) (by rw[zW.out];exact hlA) (by simp;omega) ?_;intro v' w3 cz wZ)
   have YV:aU w3 w.heap.size s (Nt s.data.toList k):=by
    have h2:aU (w2.alloc (.cells #[.string ⟨(x :: W').toArray⟩] 9)) w.heap.size s (Nt s.data.toList k):=TG.alloc;unfold aU at h2 ⊢;rw[wZ.block _ (aj h2) (fun e=>by have:=bV.block _ e.symm;omega)];exact h2
   have dV:=(dk.alloc (.cells #[.string ⟨(x :: W').toArray⟩] 9)).cK wZ (fun k hk=>by have:=bV.block k hk;omega);rw[<-zV.out]at cz;clear bV wZ TG;have Nv:w.heap.size+1<=w3.heap.size:=YV.lt;go_wp2_with fail
   refine(gY _ s _ w3 YV hm q2).mono ?_;rintro e w6⟨rfl,nX,jz⟩;have nX:aU w6 w.heap.size s (o_ s.data.toList k):=nX;have uE:=dV.rJ jz (Nat.le_refl _);have xr:=cz.fr jz (fun k hk=>by have e:k=w.heap.size:=hk;omega);clear cz jz YV;have hs6:w.heap.size+1<=w6.heap.size:=nX.lt;obtain⟨av3,cv3,hv⟩:=xr.form;subst hv;go_wp2_with fail
   by_cases uO:s.size<=o_ s.data.toList k
   ·have bR:=O (show dz s.data.toList=.ok km by rw[di.out,Nu (zR (by simpa using uO)),zm.out]);have hd:decide (s.size<=o_ s.data.toList k)=true:=by simpa using uO
    refine(qz _ s _ w6 nX).mono ?_;rintro e w4⟨rfl,n4,rfl⟩;rw[hd];by_cases Bv:40<(bw km).length
    ·have YU:((40:Int)<((bw km).length:Int)):=by omega
     go_wp2;go_ret2;exact ep.long bR.out (by rw[kl]at Bv;exact Bv) (uE.drewN _)
    ·have YU:¬((40:Int)<((bw km).length:Int)):=by omega
     go_wp2;go_ret2;exact ep.ok bR.out (by rw[kl]at Bv;omega) (rK xr (Nat.le_succ _)) (uE.drewN _)
   ·have hd:decide (s.size<=o_ s.data.toList k)=false:=by simpa using uO
    refine(qz _ s _ w6 nX).mono ?_;rintro e w4⟨rfl,n4,rfl⟩;rw[hd];have nU:aU (w6.drewN n4) w.heap.size s (o_ s.data.toList k):=nX;have SJ:Strs (w.heap.size+1) (w6.drewN n4) _ (bw km):=xr;have fu:=uE.drewN n4;go_wp2_with fail
    refine(kF _ s _ 44 _ nU hm).mono ?_;rintro e w5⟨rfl,nV,gH⟩;have rj:=fu.rJ gH (Nat.le_refl _);have hv5:=SJ.fr gH (fun k hk=>by have e:k=w.heap.size:=hk;omega);have pD:o_ s.data.toList k<s.data.toList.length:=by simpa using uO
    have bC:=O (List.getElem?_eq_getElem pD);cases e1:eT s (o_ s.data.toList k) 44
    ·have bR:=O (show dz s.data.toList=.error (s.data.toList.length-o_ s.data.toList k)by
      rw[di.out,zU (zS bC.out (by have h:=e1;unfold eT at h;rw[bC.out]at h;simpa using h))])
     rw[kh e1]at nV;have c1:=nV.dM;have zd:=O (show s.size-(s.data.toList.length-o_ s.data.toList k)=o_ s.data.toList k by rw[mz]at pD ⊢; omega);go_wp2
     go_region
     all_goals
      go_wp2;go_ret2;exact ep.bad bR.out (by rw[zd.out];exact af w5 _) ((rj.alloc _).drew)
    ·have bR:=O (show dz s.data.toList=(gy (s.size-(o_ s.data.toList k+1)+1) (s.data.toList.drop (o_ s.data.toList k+1))).map (km++ ·)by
      rw[di.out,zm.out,vL (by have h:=e1;unfold eT at h;simpa using h),map_map];rw[kk (f:=s.size-k) (by simp;omega),kk (f:=s.size-(o_ s.data.toList k+1)+1) (by simp)])
     rw[kg e1]at nV;go_wp2;go_roundw
     case rel=>exact⟨_,km,by omega,by omega,nV,hv5,rj,bR.out⟩
     case measure=>rw[mA.out,nV.pos];omega
theorem Bw:∀(f:Nat) (r a z:List UInt8),r.length<=f->pq r=some (a,z)->a.length+z.length+1<=r.length
 |0,r,a,z,hf,h=>by
  have:r=[]:=List.eq_nil_of_length_eq_zero (by omega);subst this;rw[pq.eq_def]at h;simp at h
 |f+1,[],a,z,hf,h=>by rw[pq.eq_def]at h;simp at h
 |f+1,x :: r,a,z,hf,h=>by
  rw[pq.eq_def]at h;simp only at h;by_cases h1:(x==34)=true
  ·rw[if_pos h1]at h;cases h;simp
  ·rw[if_neg h1]at h;by_cases h2:(x==92)=true
   ·rw[if_pos h2]at h;cases r with
    |nil=>simp at h
    |cons y r' =>
     simp only at h;by_cases h3:iL y=true
     ·rw[if_pos h3]at h;cases hq:pq r' with
      |none=>rw[hq]at h;simp at h
      |some p =>
       rw[hq]at h;simp at h;obtain⟨rfl,rfl⟩:=h;have:=Bw f r' p.1 p.2 (by simp at hf;omega) hq;simp;omega
     ·rw[if_neg h3]at h;simp at h
   ·rw[if_neg h2]at h;by_cases h3:iL x=true
    ·rw[if_pos h3]at h;cases hq:pq r with
     |none=>rw[hq]at h;simp at h
     |some p =>
      rw[hq]at h;simp at h;obtain⟨rfl,rfl⟩:=h;have:=Bw f r p.1 p.2 (by simp at hf;omega) hq;simp;omega
    ·rw[if_neg h3]at h;simp at h
def Nw(k:Int)(n:Nat):Nat:=(max 0 (min k n)).toNat
theorem rL(b:Nat)(s:ByteArray)(i:Nat)(k:Int)(w:World)(h:aU w b s i)(hs:s.size<=maxLen) :
  Calls Tryz.prog 216 #[.pointer (some ⟨b,0,none⟩),.int .i64 k] w fun e w'=>e=.returned (.tuple #[])/\aU w' b s (Nw k s.size)/\Fr (one b) w w':=by
 have h0:=h.cell0;have h1:=h.dM;have hf:=h.free 1;unfold maxLen at hs;go_enter Tryz.func216,Tryz.ntmps216;go_wp2;go_end0;rw[show max 0 (min k (s.size:Int))=((Nw k s.size:Nat):Int)from by unfold Nw;omega];exact⟨rfl,h.setCell,Fr.one_set w b _ 0⟩
def Bx(l:List UInt8):Bool:=uN l||jk l
def dP:List ByteArray:=[⟨#[68,69,76,69,84,69]⟩,⟨#[71,69,84]⟩,⟨#[72,69,65,68]⟩,⟨#[79,80,84,73,79,78,83]⟩,⟨#[80,79,83,84]⟩,⟨#[80,85,84]⟩]
def iM:List ByteArray->ByteArray->ByteArray
 |[],s=>s
 |m :: l,s=>if bf s.data.toList m.data.toList then m else iM l s
def eD(s:ByteArray):ByteArray:=iM dP s
def lp(s:ByteArray):Bool:=s.toList== [71,69,84]||s.toList== [72,69,65,68]||s.toList== [80,79,83,84]
theorem tj:∀(l:List ByteArray) (s:ByteArray),(iM l s∈l/\bf s.data.toList (iM l s).data.toList=true)\/iM l s=s
 |[],s=>.inr rfl
 |m :: l,s=>by
  unfold iM;by_cases h:bf s.data.toList m.data.toList=true
  ·rw[if_pos h];exact .inl ⟨List.mem_cons_self .., h⟩
  ·rw[if_neg h];rcases tj l s with ⟨h1,h2⟩|h1
   ·exact .inl ⟨List.mem_cons_of_mem _ h1,h2⟩
   ·exact .inr h1
theorem F9(s:ByteArray)(w:World) :
  Calls Tryz.prog 146 #[.string s] w fun e w'=>e=.returned (.bool (lp s))/\w=w':=by
 by_cases h1:s.toList=[71,69,84]
 ·have hb:=O (show lp s=true by unfold lp;rw[h1];rfl);go_enter Tryz.func146,Tryz.ntmps146;go_wp2;go_ret;exact⟨cJ hb.out.symm,rfl⟩
 ·by_cases h2:s.toList=[72,69,65,68]
  ·have hb:=O (show lp s=true by unfold lp;rw[h2];rfl);go_enter Tryz.func146,Tryz.ntmps146;go_wp2;go_ret;exact⟨cJ hb.out.symm,rfl⟩
  ·have hb:=O (show lp s=(s.toList== [71,69,84]||s.toList== [72,69,65,68]||s.toList== [80,79,83,84])from rfl);go_enter Tryz.func146,Tryz.ntmps146;go_wp2;go_ret;exact⟨cJ hb.out.symm,rfl⟩
def afx(s:ByteArray)(w:World)(i:Value)(wr:World):Prop:=∃k:Nat,k<=6/\i=.int .i64 k/\eD s=iM (dP.drop k) s/\Fr ay w wr
theorem rP(s:ByteArray)(w:World)(hs:s.size<100000) :
  Calls Tryz.prog 109 #[.string s] w fun e w'=>e=.returned (.string (eD s))/\Fr ay w w':=by
 have HC:=O (show∀U,Fr ay (w.alloc (.cells (dP.map Value.string).toArray 9)) U->∀(k:Nat) x,dP[k]?=some x->U.cell? ⟨w.heap.size,k,none⟩=some (.string x)from fun U hU k x hx=>by
  have h:=hU.keep (af w (.cells (dP.map Value.string).toArray 9)) (fun h=>h);have e:(dP.map Value.string)[k]?=some (.string x):=by rw[List.getElem?_map,hx];rfl
  simp only[World.cell?,h];simpa using e)
 have fa:Fr ay w (w.alloc (.cells (dP.map Value.string).toArray 9)):=(Fr.refl ay w).alloc _;have gS:=O fa;obtain⟨wb,eQ⟩:∃wb,wb=w.alloc (.cells (dP.map Value.string).toArray 9):=⟨_,rfl⟩;rw[<-eQ]at HC gS
 have lq:=O (show wb=w.alloc (.cells #[.string ⟨#[68,69,76,69,84,69]⟩,.string ⟨#[71,69,84]⟩,.string ⟨#[72,69,65,68]⟩,.string ⟨#[79,80,84,73,79,78,83]⟩,.string ⟨#[80,79,83,84]⟩,.string ⟨#[80,85,84]⟩] 9)from eQ);clear eQ fa;go_enter Tryz.func109,Tryz.ntmps109;go_wp2;rw[<-lq.out];go_loopw[7] (afx s wb) (fun i _=>6-(intOf i).toNat)
 case atStart=>exact⟨0,by omega,rfl,rfl,Fr.refl _ _⟩
 case round =>
  obtain⟨k,hk,rfl,hm,aW⟩:=hrel;by_cases hk6:k<6
  ·have lf:(k:Int)<6:=by omega
   obtain⟨m,I2⟩:∃m,dP[k]?=some m:=⟨_,List.getElem?_eq_getElem (by show k<6;exact hk6)⟩;have hcell:=HC.out wr aW k m I2;have hmz:m.size<=10:=(show∀x∈dP,x.size<=10 by decide) m (List.mem_of_getElem? I2);have HD:=O (show eD s=if bf s.data.toList m.data.toList then m else iM (dP.drop (k+1)) s by
    rw[hm,List.drop_eq_getElem_cons (show k<dP.length from hk6)];have e:dP[k]'(show k<dP.length from hk6)=m:=by rw[List.getElem?_eq_getElem (show k<dP.length from hk6)]at I2;exact Option.some.inj I2
    rw[e];rfl)
   clear hm I2;have HSA:=O (gX s m wr (by omega) (by omega));go_wp2_with fail
   refine HSA.out.mono ?_;rintro e w5⟨rfl,gH⟩;clear HSA;cases kz:bf s.data.toList m.data.toList
   ·have Wx:=O (show eD s=iM (dP.drop (k+1)) s by rw[HD.out,kz];rfl);clear kz;go_wp2;go_roundw
    case rel=>exact⟨k+1,by omega,by go_num,Wx.out,aW.trans gH⟩
    case measure=>simp[intOf];omega
   ·have Wx:=O (show eD s=m by rw[HD.out,kz];rfl);clear kz;go_wp2;go_ret;exact⟨by rw[Wx.out];rfl,gS.out.trans (aW.trans gH)⟩
  ·have lf:¬(k:Int)<6:=by omega
   have Wx:=O (show eD s=s by rw[hm,List.drop_eq_nil_of_le (by show 6<=k;omega)];rfl);clear hm;go_wp2;go_ret;exact⟨by rw[Wx.out];rfl,gS.out.trans aW⟩
end Go.Proofs.YtjdmjbdkdmbaiaaGreatDoor
