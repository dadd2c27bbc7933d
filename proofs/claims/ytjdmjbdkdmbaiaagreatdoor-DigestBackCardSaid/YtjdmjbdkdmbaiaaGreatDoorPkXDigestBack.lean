/- Shelf, Strs, ListPlain, QuotePure, AskLaw, Types, DigPure, WordedP, DigT, Digest, Proved0, Blind, AskRes0, AskOk, OpenA, Worded, DbMap, DbMap2, DbPure, DbW, LiftDigestBack. -/
import Derived.Test.YtjdmjbdkdmbaiaaGreatDoorPk35
import Derived.Test.YtjdmjbdkdmbaiaaGreatDoorTie
import Derived.Test.YtjdmjbdkdmbaiaaGreatDoorCards
import Derived.LaidMore
import Derived.Lay
set_option maxRecDepth 100000
set_option maxHeartbeats 16000000
set_option linter.unusedSimpArgs false
namespace Go.Proofs
open Go.Shelf
def Tryz.agh:Go.Shelf.Ren:=⟨fun|193=>90|n=>n,fun|31=>45|9=>9|4=>4|3=>3|0=>0|n=>n,fun|n=>n⟩
theorem Tryz.afe:Go.Proofs.Lays.n193 Tryz.prog Tryz.agh:={
 mixed:=by kernel_rfl
 f193:=Tryz.func90.trans (congrArg some (by kernel_rfl))
 t0:=Tryz.underlying0
 a0:=Tryz.isAgg0
 z0:=Tryz.sizeOf0
 v0:=Tryz.zeroValue0
 t3:=Tryz.underlying3
 a3:=Tryz.isAgg3
 z3:=Tryz.sizeOf3
 v3:=Tryz.zeroValue3
 t4:=Tryz.underlying4
 a4:=Tryz.isAgg4
 z4:=Tryz.sizeOf4
 v4:=Tryz.zeroValue4
 t9:=Tryz.underlying9
 a9:=Tryz.isAgg9
 z9:=Tryz.sizeOf9
 v9:=Tryz.zeroValue9
 t31:=Tryz.underlying45
 a31:=Tryz.isAgg45
 z31:=Tryz.sizeOf45
 v31:=Tryz.zeroValue45}
open Go.RowKit Go.Lib in
theorem Tryz.slices_Equal_string(b1 o1 n c b2 o2 m d:Nat)(xs ys:List ByteArray)(w:World)(hx:n<=xs.length)(hy:m<=ys.length)(YR:n<=9223372036854775807)(ahu:m<=9223372036854775807)(kS:∀j,j<xs.length->w.cell? ⟨b1,o1+j,none⟩=some (.string (xs.getD j ByteArray.empty)))(nW:∀j,j<ys.length->w.cell? ⟨b2,o2+j,none⟩=some (.string (ys.getD j ByteArray.empty))) :
  Calls Tryz.prog 90 #[.slice (some ⟨b1,o1,none⟩) n c,.slice (some ⟨b2,o2,none⟩) m d] w fun e w'=>e=.returned (.bool (decide (xs.take n=ys.take m)))/\∃q,w'=w.drewN q:=Any.slices_Equal_string Tryz.afe b1 o1 n c b2 o2 m d xs ys w hx hy YR ahu kS nW
open Go.RowKit Go.Lib in
theorem Tryz.slices_Equal_string_empty(a1 a2:Option Addr)(c m d:Nat)(w:World)(ahu:m<=9223372036854775807) :
  Calls Tryz.prog 90 #[.slice a1 0 c,.slice a2 m d] w fun e w'=>e=.returned (.bool (decide (m=0)))/\w'=w:=Any.slices_Equal_string_empty Tryz.afe a1 a2 c m d w ahu
open Go.RowKit Go.Lib in
theorem Tryz.slices_Equal_string_lens(a1 a2:Option Addr)(n c m d:Nat)(w:World)(SW:n≠m) :
  Calls Tryz.prog 90 #[.slice a1 n c,.slice a2 m d] w fun e w'=>e=.returned (.bool false)/\w'=w:=Any.slices_Equal_string_lens Tryz.afe a1 a2 n c m d w SW
end Go.Proofs
namespace Go.Proofs.YtjdmjbdkdmbaiaaGreatDoor
open Go.RowKit
section
variable {base : Nat} {w w' : World} {v : Value} {ss : List ByteArray}
end
theorem agG(v1 v2:Value)(xs ys:List ByteArray)(w:World)(h1:cX w v1 xs)(h2:cX w v2 ys)(hl:ys.length<=maxLen) :
  Calls Tryz.prog 90 #[v1,v2] w fun e w'=>e=.returned (.bool (decide (xs=ys)))/\∃q,w'=w.drewN q:=by
 unfold maxLen at hl;obtain⟨a1,c1,f1⟩:=h1.form;obtain⟨a2,c2,f2⟩:=h2.form;by_cases hn:xs.length=ys.length
 ·by_cases h0:xs.length=0
  ·have e1:xs=[]:=List.eq_nil_of_length_eq_zero h0;have e2:ys=[]:=List.eq_nil_of_length_eq_zero (by omega);subst e1;subst e2;rw[f1,f2];exact(Tryz.slices_Equal_string_empty a1 a2 c1 0 c2 w (by omega)).mono fun e w' ⟨he,hw⟩=>⟨by rw[he];simp,0,hw⟩
  ·rcases h1 with ⟨_,_,_,e,_⟩|⟨b1,o1,d1,g1,k1,k2,k3,k4⟩
   ·rw[e]at h0;exact absurd rfl h0
   rcases h2 with ⟨_,_,_,e,_⟩|⟨b2,o2,d2,g2,l1,l2,l3,l4⟩
   ·rw[e]at hn;exact absurd (hn.trans rfl) h0
   rw[g1,g2];have hcx:∀j,j<xs.length->w.cell? ⟨b1,o1+j,none⟩=some (.string (xs.getD j ByteArray.empty)):=fun j hj=>k4 j _ (by simp[List.getD,hj]);have hcy:∀j,j<ys.length->w.cell? ⟨b2,o2+j,none⟩=some (.string (ys.getD j ByteArray.empty)):=fun j hj=>l4 j _ (by simp[List.getD,hj])
   refine(Tryz.slices_Equal_string b1 o1 xs.length d1 b2 o2 ys.length d2 xs ys w (Nat.le_refl _) (Nat.le_refl _) (by omega) (by omega) hcx hcy).mono fun e w' ⟨he,hw⟩=>⟨?_,hw⟩;rw[he];simp
 ·rw[f1,f2];refine(Tryz.slices_Equal_string_lens a1 a2 xs.length c1 ys.length c2 w hn).mono fun e w' ⟨he,hw⟩=>⟨?_,0,hw⟩;rw[he,decide_eq_false (fun e=>hn (by rw[e]))]
theorem agH{c:UInt8}(h:bh c=true):cP c=false:=by
 unfold bh at h;simp only[Bool.or_eq_true,beq_iff_eq]at h;rcases h with rfl|rfl<;>decide
theorem agI{c:UInt8}(h:cP c=true):bh c=false:=by
 cases hb:bh c
 ·rfl
 ·rw[agH hb]at h;cases h
theorem abk{w:List UInt8}(h:uN w=true):w.all cP=true/\∃c w',w=c :: w':=by
 unfold uN at h;simp only[Bool.and_eq_true,Bool.not_eq_true']at h;refine⟨h.1,?_⟩;cases w with
 |nil=>simp at h
 |cons c w'=>exact⟨c,w',rfl⟩
theorem ai_{w t:List UInt8}(h:w.all cP=true)(ht:∀c,t.head?=some c->cP c=false):(w++t).takeWhile cP=w:=by
 rw[List.takeWhile_append_of_pos (by simpa[List.all_eq_true]using h)];cases t with
 |nil=>simp
 |cons c t=>rw[List.takeWhile_cons_of_neg (by simp[ht c rfl])];simp
theorem alE{w t:List UInt8}(h:w.all cP=true)(ht:∀c,t.head?=some c->cP c=false):(w++t).dropWhile cP=t:=by
 rw[jI,ai_ h ht];simp
theorem afo(p:UInt8->Bool)(l t:List UInt8):(l++t).dropWhile p=if(l.dropWhile p).isEmpty then t.dropWhile p else l.dropWhile p++t:=by
 rw[List.dropWhile_append]
theorem agx:∀(l m:List UInt8),l.all iL=true->pq (na l++34 :: m)=some (l,m)
 |[],m,_=>by rw[pq.eq_def];simp[na]
 |c :: l,m,h=>by
  simp only[List.all_cons,Bool.and_eq_true]at h;have ih:=agx l m h.2;by_cases hc:(c==34||c==92)=true
  ·have e:na (c :: l)++34 :: m=92 :: c :: (na l++34 :: m):=by simp only[na,List.flatMap_cons,hc,if_true];rfl
   rw[e,pq.eq_def];simp only[show((92:UInt8)==34)=false from rfl,show((92:UInt8)==92)=true from rfl,h.1,ih,Bool.false_eq_true,if_false,if_true];rfl
  ·have hc':(c==34||c==92)=false:=by simpa using hc
   have e:na (c :: l)++34 :: m=c :: (na l++34 :: m):=by simp only[na,List.flatMap_cons,hc',Bool.false_eq_true,if_false];rfl
   simp only[Bool.or_eq_false_iff]at hc';rw[e,pq.eq_def];simp only[hc'.1,hc'.2,h.1,ih,Bool.false_eq_true,if_false,if_true];rfl
def aeB(v x:Bs):Prop:=(uN v=true/\x=v)\/(jk v=true/\x=cL v)
def aeE(t:Bs):Prop:=∀c,t.head?=some c->cP c=false
theorem aeG{c:UInt8}(h:cP c=true):c≠44/\c≠61/\c≠34/\c≠32/\bh c=false:=by
 refine⟨?_,?_,?_,?_,agI h⟩<;>intro e<;>subst e<;>revert h<;>decide
theorem abq{w t:Bs}(h:uN w=true)(ht:aeE t):dB (w++t)=w/\dJ (w++t)=t :=
 ⟨ai_ (abk h).1 ht,alE (abk h).1 ht⟩
theorem abj{c:UInt8}{t:Bs}(h:bh c=false):bS (c :: t)=c :: t:=by
 unfold bS;rw[List.dropWhile_cons_of_neg (by simp[h])]
theorem aeA{c:UInt8}{t:Bs}(h:bh c=true):bS (c :: t)=bS t:=by
 unfold bS;rw[List.dropWhile_cons_of_pos h]
theorem afb{v x t:Bs}(h:aeB v x):∃c y,x++t=c :: y/\(cP c=true\/c=34):=by
 rcases h with ⟨h,rfl⟩|⟨h,rfl⟩
 ·obtain⟨h1,c,w,rfl⟩:=abk h;exact⟨c,w++t,rfl,Or.inl (by simp at h1;exact h1.1)⟩
 ·exact⟨34,_,rfl,Or.inr rfl⟩
theorem afG{c:UInt8}(h:cP c=true\/c=34):c≠44/\c≠61/\bh c=false:=by
 rcases h with h|rfl
 ·have:=aeG h;exact⟨this.1,this.2.1,this.2.2.2.2⟩
 ·decide
theorem afC{v x t:Bs}(h:aeB v x)(ht:aeE t):kn (x++t)=some (v,t):=by
 rcases h with ⟨h,rfl⟩|⟨h,rfl⟩
 ·obtain⟨e1,e2⟩:=abq h ht;unfold kn;rw[e1,e2];obtain⟨_,c,w,rfl⟩:=abk h;rfl
 ·have e:cL v++t=34 :: (na v++34 :: t):=by simp[cL]
  unfold kn;rw[e];have:dB (34 :: (na v++34 :: t))=[]:=by unfold dB;rw[List.takeWhile_cons_of_neg (by decide)]
  rw[this];show(if(34:UInt8)==34 then pq (na v++34 :: t)else none)=_;rw[if_pos (show((34:UInt8)==34)=true from rfl),agx v t h]
theorem afh(t:Bs):aeE (61 :: t):=by intro c hc;simp at hc;subst hc;decide
theorem aeW{p:ew}{x t:Bs}(h:uN p.1=true):gi (KB p x++t)=true:=by
 have e:KB p x++t=p.1++61 :: (x++t):=by simp[KB]
 rw[e];obtain⟨e1,e2⟩:=abq h (afh (x++t));unfold gi;rw[e1,e2,abj (by decide)];obtain⟨_,c,w,hw⟩:=abk h;rw[hw];rfl
theorem afc{ps:List ew}{p:ew}{x t:Bs}(h:uN p.1=true)(hx:aeB p.2 x)(ht:aeE t)(h2:nY ps p.1=false)(h3:ps.length≠16):fK ps (KB p x++t)=.ok (p,t):=by
 have hn:=aeW (t:=t) (x:=x) h;have e:KB p x++t=p.1++61 :: (x++t):=by simp[KB]
 rw[e]at hn ⊢;obtain⟨e1,e2⟩:=abq h (afh (x++t));obtain⟨c,y,ec,hc⟩:=afb (t:=t) hx;have ev:iY (p.1++61 :: (x++t))=x++t:=by
  unfold iY;rw[e2,abj (by decide),List.drop_succ_cons,List.drop_zero,ec,abj (afG hc).2.2]
 unfold fK;rw[hn,ev,afC hx ht,e1,h2];simp only[Bool.not_true,Bool.false_eq_true,if_false];rw[if_neg h3]
theorem aeX{w t:Bs}(h:uN w=true):dN (w++t)=w++t:=by
 obtain⟨h1,c,w',rfl⟩:=abk h;have hb:=aeG (c:=c) (by simp at h1;exact h1.1);unfold dN;rw[List.cons_append,List.dropWhile_cons_of_neg (by simp[jA,hb.1,hb.2.2.2.2])]
theorem aeP(t:Bs):jl (44 :: t)=true:=by unfold jl;rw[abj (by decide)];rfl
theorem aeR(t:Bs):dN (44 :: 32 :: t)=dN t:=by
 unfold dN;rw[List.dropWhile_cons_of_pos (by decide),List.dropWhile_cons_of_pos (by decide)]
theorem aeS(p:ew×Bs)(l:List (ew×Bs))(t:Bs):∃y,rp (p :: l)++t=p.1.1++y:=by
 cases l with
 |nil=>exact⟨61 :: (p.2++t),by simp[rp,KB]⟩
 |cons q l=>exact⟨61 :: (p.2++(44 :: 32 :: (rp (q :: l)++t))),by simp[rp,KB]⟩
structure aeT (t:Bs):Prop where
 over:jl t=true
 named:gi (dN t)=false
 word:aeE t
theorem aeT.nil:aeT []:=⟨rfl,rfl,fun _ h=>by cases h⟩
def ae2(ps:List ew):List (ew×Bs)->Prop
 |[]=>True
 |p :: l=>nY ps p.1.1=false/\ae2 (ps++[p.1]) l
theorem aeU:∀(l:List (ew×Bs)) (p:ew×Bs) (f:Nat) (ps:List ew) (t:Bs),aeT t->(∀q∈p :: l,uN q.1.1=true/\aeB q.1.2 q.2)->ae2 ps (p :: l)->ps.length+l.length+1<=16->l.length<f ->
  du f ps (rp (p :: l)++t)=.ok (ps++(p :: l).map (·.1),dN t)
 |l,p,0,ps,t,_,_,_,_,hf=>absurd hf (Nat.not_lt_zero _)
 |[],p,f+1,ps,t,ht,hq,aW,hn,_=>by
  obtain⟨h1,h2⟩:=hq p (by simp);rw[du,show rp [p]=KB p.1 p.2 from rfl,afc h1 h2 ht.word aW.1 (by simp at hn;omega)];simp only[ht.over,ht.named,if_true,Bool.false_eq_true,if_false];rfl
 |q :: l,p,f+1,ps,t,ht,hq,aW,hn,hf=>by
  obtain⟨h1,h2⟩:=hq p (by simp);have e:rp (p :: q :: l)++t=KB p.1 p.2++(44 :: 32 :: (rp (q :: l)++t)):=by simp[rp]
  have hw:aeE (44 :: 32 :: (rp (q :: l)++t)):=by intro c hc;simp at hc;subst hc;decide
  obtain⟨g1,_⟩:=hq q (by simp);obtain⟨y,aac⟩:=aeS q l t;have eg:dN (44 :: 32 :: (rp (q :: l)++t))=rp (q :: l)++t:=by rw[aeR,aac,aeX g1]
  have aah:gi (rp (q :: l)++t)=true:=by
   cases l with
   |nil=>exact aeW g1
   |cons a l =>
    have e2:rp (q :: a :: l)++t=KB q.1 q.2++(44 :: 32 :: (rp (a :: l)++t)):=by simp[rp]
    rw[e2];exact aeW g1
  rw[du,e,afc h1 h2 hw aW.1 (by simp at hn;omega)];simp only[aeP,eg,aah,if_true];rw[aeU l q f (ps++[p.1]) t ht (fun x hx=>hq x (List.mem_cons_of_mem _ hx)) aW.2 (by simp at hn ⊢; omega) (by simp at hf;omega)];simp
def aez(s tok:Bs)(l:List (ew×Bs)):Bs:=s++((if tok.isEmpty then []else 32 :: tok)++(if l.isEmpty then []else 32 :: rp l))
theorem afJ{n:Bs}(h:n≠ [])(ht:n.all zp=true):∃c y,n=c :: y/\zp c=true:=by
 cases n with
 |nil=>exact absurd rfl h
 |cons c y=>exact⟨c,y,rfl,by simp at ht;exact ht.1⟩
theorem aln:∀n:Fin 256,zp n.val.toUInt8=true->bh n.val.toUInt8=false/\n.val.toUInt8≠44/\n.val.toUInt8≠61:=by decide +kernel
theorem alq(c:UInt8):∃n:Fin 256,c=n.val.toUInt8:=⟨⟨c.toNat,c.toNat_lt⟩,by simp⟩
theorem afK{c:UInt8}(h:zp c=true):bh c=false/\c≠44/\c≠61:=by
 obtain⟨n,rfl⟩:=alq c;exact aln n h
theorem aeY{t:Bs}(h:jl t=true):∀c,t.head?=some c->bh c=true\/c=44:=by
 intro c hc;cases t with
 |nil=>cases hc
 |cons d t =>
  simp at hc;subst hc;cases hb:bh d
  ·unfold jl at h;rw[abj hb]at h;exact Or.inr (by simpa[Ny]using h)
  ·exact Or.inl rfl
theorem ae8{c:UInt8}(h:bh c=true\/c=44):cP c=false/\zp c=false/\eN c=false:=by
 have h':c=32\/c=9\/c=44:=by
  rcases h with h|h
  ·unfold bh at h;simp at h;rcases h with h|h
   ·exact Or.inl h
   ·exact Or.inr (Or.inl h)
  ·exact Or.inr (Or.inr h)
 rcases h' with rfl|rfl|rfl<;>decide
theorem agy{p:UInt8->Bool}{w t:Bs}(h:w.all p=true)(ht:∀c,t.head?=some c->p c=false):(w++t).takeWhile p=w/\(w++t).dropWhile p=t:=by
 constructor
 ·rw[List.takeWhile_append_of_pos (by simpa[List.all_eq_true]using h)];cases t with
  |nil=>simp
  |cons c t=>rw[List.takeWhile_cons_of_neg (by simp[ht c rfl])];simp
 ·rw[List.dropWhile_append_of_pos (by simpa[List.all_eq_true]using h)];exact pF ht
theorem agn{n m t:Bs}(h1:n≠ [])(h2:n.all zp=true)(h3:m.all eN=true)(ht:jl t=true):singleR (n++m++t)=some (n++m,bS t):=by
 have hmt:∀c,(m++t).head?=some c->zp c=false:=by
  intro c hc;cases m with
  |nil=>exact(ae8 (aeY ht c hc)).2.1
  |cons d m =>
   simp at hc;subst hc;have:d=61:=by simp[eN]at h3;exact h3.1
   subst this;decide
 obtain⟨e1,e2⟩:=agy h2 hmt;obtain⟨e3,e4⟩:=agy (p:=eN) h3 (fun c hc=>(ae8 (aeY ht c hc)).2.2);rw[List.append_assoc];unfold singleR gN iX mI;rw[e1,e2,e3,e4,ht];cases n with
 |nil=>exact absurd rfl h1
 |cons c n=>rfl
theorem ae3{p:ew}{x t:Bs}(h:uN p.1=true)(hx:aeB p.2 x):singleR (KB p x++t)=none:=by
 have e:KB p x++t=p.1++61 :: (x++t):=by simp[KB]
 rw[e];obtain⟨h1,_⟩:=abk h;obtain⟨c,y,ec,hc⟩:=afb (t:=t) hx;obtain⟨kS,nW,nX⟩:=afG hc;unfold singleR;have key:jl (mI (p.1++61 :: (x++t)))=false:=by
  unfold mI;rw[afo];split
  ·rw[List.dropWhile_cons_of_neg (by decide),List.dropWhile_cons_of_pos (by decide),ec,List.dropWhile_cons_of_neg (by simp[eN,nW])];unfold jl;rw[abj nX];simpa[Ny]using kS
  ·rename_i hne;cases hd:p.1.dropWhile zp with
   |nil=>rw[hd]at hne;exact absurd rfl hne
   |cons d z =>
    have hm:d∈p.1:=(List.dropWhile_sublist zp).subset (by rw[hd];exact List.mem_cons_self ..);have hb:=aeG (List.all_eq_true.1 h1 d hm);rw[List.cons_append,List.dropWhile_cons_of_neg (by simp[eN,hb.2.1])];unfold jl;rw[abj hb.2.2.2.2];simpa[Ny]using hb.1
 rw[key,Bool.and_false];rfl
theorem afV{s:Bs}(h:uN s=true):s.isEmpty=false:=by
 obtain⟨_,c,w,rfl⟩:=abk h;rfl
theorem ahH{k:Nat}{s tok:Bs}{l:List (ew×Bs)}{t:Bs}(hk:k≠8)(hs:uN s=true)(afW:tok=[]\/(l=[]/\I7 tok))(hl:l.length<=16)(hq:∀q∈l,uN q.1.1=true/\aeB q.1.2 q.2)(aW:ae2 [] l)(ht:aeT t) :
  ∃z,j9 k (aez s tok l++t)=.ok (⟨s,tok,l.map (·.1)⟩,z)/\dN z=dN t:=by
 rcases afW with rfl|⟨rfl,afW⟩
 ·cases l with
  |nil =>
   have e:aez s [] []++t=s++t:=by simp[aez]
   obtain⟨e1,e2⟩:=abq hs ht.word;refine⟨bS t,?_,n9 t⟩;unfold j9;rw[e,e1,e2,afV hs,ht.over];simp only[Bool.false_eq_true,if_false,if_true];rw[if_neg hk];rfl
  |cons p l =>
   have e:aez s [] (p :: l)++t=s++32 :: (rp (p :: l)++t):=by simp[aez]
   obtain⟨e1,e2⟩:=abq (t:=32 :: (rp (p :: l)++t)) hs (by intro c hc;simp at hc;subst hc;decide);obtain⟨g1,g2⟩:=hq p (by simp);obtain⟨y,aac⟩:=aeS p l t;obtain⟨w1,c,w,hw⟩:=abk g1;have hb:=aeG (c:=c) (by rw[hw]at w1;simp at w1;exact w1.1);have eb:bS (32 :: (rp (p :: l)++t))=rp (p :: l)++t:=by
    rw[aeA (by decide),aac,hw,List.cons_append,abj hb.2.2.2.2]
   have aaj:jl (32 :: (rp (p :: l)++t))=false:=by
    unfold jl;rw[eb,aac,hw];simpa[Ny]using hb.1
   have es:singleR (rp (p :: l)++t)=none:=by
    cases l with
    |nil=>exact ae3 g1 g2
    |cons a l =>
     have e2:rp (p :: a :: l)++t=KB p.1 p.2++(44 :: 32 :: (rp (a :: l)++t)):=by simp[rp]
     rw[e2];exact ae3 g1 g2
   have hlen:l.length<(rp (p :: l)++t).length+1:=by
    have:∀(m:List (ew×Bs)),m.length<=(rp m).length:=by
     intro m
     induction m with
     |nil=>simp
     |cons a m ih =>
      cases m with
      |nil=>simp[rp,KB];omega
      |cons b m=>simp[rp,KB]at ih ⊢; omega
    have:=this (p :: l);simp at this ⊢; omega
   refine⟨dN t,?_,mJ t⟩;unfold j9;rw[e,e1,e2,afV hs,aaj,eb,es,aeU l p _ [] t ht hq aW (by simp at hl ⊢; omega) hlen];simp only[Bool.false_eq_true,if_false];rw[if_neg hk];rfl
 ·obtain⟨n,m,rfl,h1,h2,h3⟩:=afW;obtain⟨c,y,hcy,hc⟩:=afJ h1 h2;have hne:(n++m).isEmpty=false:=by rw[hcy];rfl
  have e:aez s (n++m) []++t=s++32 :: (n++m++t):=by unfold aez;rw[hne];simp
  obtain⟨e1,e2⟩:=abq (t:=32 :: (n++m++t)) hs (by intro d hd;simp at hd;subst hd;decide);obtain⟨b1,b2,b3⟩:=afK hc;have eb:bS (32 :: (n++m++t))=n++m++t:=by
   rw[aeA (by decide),hcy,List.cons_append,List.cons_append,abj b1]
  have aaj:jl (32 :: (n++m++t))=false:=by
   unfold jl;rw[eb,hcy];simpa[Ny]using b2
  refine⟨bS t,?_,n9 t⟩;unfold j9;rw[e,e1,e2,afV hs,aaj,eb,agn h1 h2 h3 ht.over];simp only[Bool.false_eq_true,if_false];rw[if_neg hk];rfl
abbrev Told:=Bs×Bs×List (ew×Bs)
def Told.T(x:Told):Bs:=aez x.1 x.2.1 x.2.2
def Told.vq(x:Told):iI:=⟨x.1,x.2.1,x.2.2.map (·.1)⟩
structure Told.Ok (x:Told):Prop where
 scheme:uN x.1=true
 token:x.2.1=[]\/(x.2.2=[]/\I7 x.2.1)
 xc:x.2.2.length<=16
 tB:∀q∈x.2.2,uN q.1.1=true/\aeB q.1.2 q.2
 fresh:ae2 [] x.2.2
theorem afi(x:Told)(t:Bs):∃y,x.T++t=x.1++y:=⟨_,by unfold Told.T aez;rw[List.append_assoc]⟩
theorem aeT.next{x:Told}(h:x.Ok)(t:Bs)(ht:jl t=true):aeT (44 :: 32 :: (x.T++t)):=by
 obtain⟨y,aac⟩:=afi x t;refine⟨aeP _,?_,by intro c hc;simp at hc;subst hc;decide⟩;rw[aeR,aac,aeX h.scheme, <-aac];have go:∀z,aeE z->FZ 61 (bS z)=false->gi (x.1++z)=false:=by
  intro z h1 h2;obtain⟨e1,e2⟩:=abq h.scheme h1;unfold gi;rw[e1,e2,h2,Bool.and_false]
 unfold Told.T aez;rw[List.append_assoc];have Zx:∀z:Bs,aeE (32 :: z):=by intro z c hc;simp at hc;subst hc;decide
 rcases h.token with Uo|⟨D',afW⟩
 ·rw[Uo];cases hl:x.2.2 with
  |nil =>
   simp only[List.isEmpty_nil,if_true,List.append_nil,List.nil_append];refine go t (fun c hc=>(ae8 (aeY ht c hc)).1) ?_;have h2:=ht;unfold jl at h2;cases hb:bS t with
   |nil=>rfl
   |cons c z =>
    rw[hb]at h2;have:c=44:=by simpa[Ny]using h2
    subst this;rfl
  |cons p l =>
   have g1:=(h.tB p (by rw[hl];simp)).1;obtain⟨y2,ey2⟩:=aeS p l t;obtain⟨w1,c,w,hw⟩:=abk g1;have hb:=aeG (c:=c) (by rw[hw]at w1;simp at w1;exact w1.1);have e:(if([]:Bs).isEmpty then []else 32 :: [])++(if(p :: l).isEmpty then []else 32 :: rp (p :: l))++t=32 :: (rp (p :: l)++t):=rfl;rw[e];refine go _ (Zx _) ?_;rw[aeA (by decide),ey2,hw,List.cons_append,abj hb.2.2.2.2];simpa[FZ]using hb.2.1
 ·rw[D'];obtain⟨n,m,SW,h1,h2,h3⟩:=afW;obtain⟨c,y3,hcy,hc⟩:=afJ h1 h2;obtain⟨b1,b2,b3⟩:=afK hc;have e:(if x.2.1.isEmpty then []else 32 :: x.2.1)++(if([]:List (ew×Bs)).isEmpty then []else 32 :: rp [])++t=32 :: (c :: (y3++m++t)):=by
   rw[SW,hcy];simp
  rw[e];refine go _ (Zx _) ?_;rw[aeA (by decide),abj b1];simpa[FZ]using b3
def abl:List Told->Bs
 |[]=>[]
 |[x]=>x.T
 |x :: y :: l=>x.T++44 :: 32 :: abl (y :: l)
theorem agr(y:Told)(l:List Told):∃t,jl t=true/\abl (y :: l)=y.T++t:=by
 cases l with
 |nil=>exact⟨[],rfl,by simp[abl]⟩
 |cons z l=>exact⟨44 :: 32 :: abl (z :: l),aeP _,rfl⟩
theorem ae4:∀(l:List Told) (f:Nat) (acc:List iI) (r:Bs),dN r=dN (abl l)->(∀x∈l,x.Ok)->acc.length+l.length<=8->l.length<f->eP f acc r=.ok (acc++l.map Told.vq)
 |l,0,acc,r,_,_,_,hf=>absurd hf (Nat.not_lt_zero _)
 |[],f+1,acc,r,hr,_,_,_=>by
  rw[eP,hr];rw[if_pos (show(dN (abl [])).isEmpty=true from rfl)];simp
 |x :: l,f+1,acc,r,hr,ho,hl,hf=>by
  have hx:=ho x (by simp);have hk:acc.length≠8:=by simp at hl;omega
  obtain⟨t,et,alF,hgt⟩:∃t,abl (x :: l)=x.T++t/\aeT t/\dN t=dN (abl l):=by
   cases l with
   |nil=>exact⟨[],by simp[abl],aeT.nil,rfl⟩
   |cons y l =>
    obtain⟨t,lr,e⟩:=agr y l;refine⟨44 :: 32 :: abl (y :: l),rfl,?_,aeR _⟩;rw[e];exact aeT.next (ho y (by simp)) t lr
  obtain⟨y,aac⟩:=afi x t;have eg:dN r=x.T++t:=by rw[hr,et,aac,aeX hx.scheme]
  obtain⟨z,aak,hz⟩:=ahH (k:=acc.length) (t:=t) hk hx.scheme hx.token hx.xc hx.tB hx.fresh alF;have ez':j9 acc.length (x.T++t)=.ok (x.vq,z):=aak;have hne:(x.T++t).isEmpty=false:=by
   rw[aac];obtain⟨_,c,w,hw⟩:=abk hx.scheme;rw[hw];rfl
  rw[eP,eg,hne,ez'];simp only[Bool.false_eq_true,if_false];rw[ae4 l f (acc++[x.vq]) z (hz.trans hgt) (fun y hy=>ho y (List.mem_cons_of_mem _ hy)) (by simp at hl ⊢; omega) (by simp at hf;omega)];simp
theorem afd:∀(l:List Told),(∀x∈l,x.Ok)->l.length<=(abl l).length
 |[],_=>by simp
 |[x],h=>by
  obtain⟨_,c,w,hw⟩:=abk (h x (by simp)).scheme;simp[abl,Told.T,aez,hw]
 |x :: y :: l,h=>by
  have:=afd (y :: l) (fun z hz=>h z (List.mem_cons_of_mem _ hz));simp[abl]at this ⊢; omega
theorem agL(l:List Told)(h:∀x∈l,x.Ok)(hl:l.length<=8)(hn:(abl l).length<=3000):g_ (abl l)=.ok (l.map Told.vq):=by
 unfold g_;rw[if_neg (by omega)];have:=afd l h;rw[ae4 l _ [] _ rfl h (by simpa using hl) (by omega)];simp
abbrev ae0(w:World)(v:Value)(ss:List ByteArray):Prop:=cX w v ss
def cE.told(d:cE):Told:=(TT,[],d.tB)
structure cE.Ok (d:cE):Prop where
 scheme:d.scheme=2\/d.scheme=3
 bU:d.bU=[]\/d.bU=gO\/d.bU=kI
 count:uN d.count=true
 fair:d.fair=true
theorem agU(k:Int)(b:Bool):uN (kd k b)=true:=by
 unfold kd;split<;>cases b<;>decide
theorem cE.Ok.tells{d:cE}(h:d.Ok):∀q∈d.tB,uN q.1.1=true/\aeB q.1.2 q.2:=by
 have hf:=h.fair;unfold cE.fair at hf;simp only[Bool.and_eq_true]at hf;obtain⟨f1,f2,f3,f4,f5,f6,f7⟩:=hf;have hq:∀n v,uN n=true->jk v=true->uN (qP n v).1.1=true/\aeB (qP n v).1.2 (qP n v).2:=fun n v h1 h2=>⟨h1,Or.inr ⟨h2,rfl⟩⟩;have hp:∀n v,uN n=true->uN v=true->uN (pP n v).1.1=true/\aeB (pP n v).1.2 (pP n v).2:=fun n v h1 h2=>⟨h1,Or.inl ⟨h2,rfl⟩⟩;intro q hq';unfold cE.tB at hq'
 rcases List.mem_append.1 hq' with g|g
 ·unfold cE.head at g;simp only[List.mem_cons,List.not_mem_nil,or_false]at g;rcases g with rfl|rfl|rfl|rfl|rfl|rfl
  ·exact hq _ _ (by decide) f1
  ·exact hq _ _ (by decide) f2
  ·exact hq _ _ (by decide) f3
  ·exact hq _ _ (by decide) f4
  ·exact hq _ _ (by decide) f5
  ·exact hp _ _ (by decide) (agU _ _)
 rcases List.mem_append.1 g with g|g
 ·unfold cE.two at g;split at g
  ·cases g
  ·rename_i hne;simp only[List.mem_cons,List.not_mem_nil,or_false]at g;rcases g with rfl|rfl
   ·refine hp _ _ (by decide) ?_;rcases h.bU with e|e|e
    ·rw[e]at hne;exact absurd rfl hne
    ·rw[e];decide
    ·rw[e];decide
   ·exact hp _ _ (by decide) h.count
 rcases List.mem_append.1 g with g|g
 ·unfold cE.cn at g;split at g
  ·rename_i hc;simp only[List.mem_cons,List.not_mem_nil,or_false]at g;subst g;rw[hc]at f6;exact hq _ _ (by decide) (by simpa using f6)
  ·cases g
 ·unfold cE.op at g;split at g
  ·cases g
  ·rename_i hc;simp only[List.mem_cons,List.not_mem_nil,or_false]at g;subst g;exact hq _ _ (by decide) (by simpa[hc]using f7)
theorem cE.fresh(d:cE):ae2 [] d.tB:=by
 unfold cE.tB cE.head cE.two cE.cn cE.op;cases d.bU.isEmpty<;>cases d.aL<;>cases d.aK.isEmpty<;>simp only[Bool.not_true,Bool.not_false,Bool.true_or,Bool.false_or,Bool.false_eq_true,if_true,if_false,List.nil_append,List.append_nil,List.cons_append,ae2,nY,qP,pP,List.any_cons,List.any_nil,Bool.or_false]<;>decide
theorem cE.xc(d:cE):d.tB.length<=16:=by
 unfold cE.tB cE.head cE.two cE.cn cE.op;simp only[List.length_append];split<;>split<;>split<;>simp
theorem cE.Ok.told{d:cE}(h:d.Ok):d.told.Ok:=⟨show uN TT=true by decide,Or.inl rfl,d.xc,h.tells,d.fresh⟩
def cE.vq(d:cE):iI:=⟨TT,[],d.tB.map (·.1)⟩
theorem cE.ahI(d:cE):abl [d.told]=d.text:=by
 show aez TT [] d.tB=_;unfold aez cE.text;have:d.tB.isEmpty=false:=by unfold cE.tB cE.head;rfl
 rw[this];rfl
theorem afE{d:cE}(h:d.Ok)(hl:d.text.length<=3000):g_ d.text=.ok [d.vq]:=by
 rw[<-d.ahI]at hl ⊢;rw[agL [d.told] (fun x hx=>by simp at hx;subst hx;exact h.told) (by simp) hl];rfl
theorem cE.get(d:cE):eZ d.vq.params I_=some d.user/\eZ d.vq.params pH=some d.ar/\eZ d.vq.params pI=some d.aE/\eZ d.vq.params TS=some d.uri/\eZ d.vq.params I'=some d.KC/\eZ d.vq.params sY=some (kd d.scheme d.aL) /\
  eZ d.vq.params Dt=(if d.bU.isEmpty then none else some d.bU)/\eZ d.vq.params nNc=(if d.bU.isEmpty then none else some d.count)/\eZ d.vq.params xd=(if !d.bU.isEmpty||d.aL then some d.aB else none) /\
  eZ d.vq.params gP=(if d.aK.isEmpty then none else some d.aK)/\eZ d.vq.params uQ=none/\eZ d.vq.params lo=none:=by
 have e:d.vq.params=d.tB.map (·.1):=rfl;rw[e];unfold cE.tB cE.head cE.two cE.cn cE.op;have hs:∀a b:Bs,bf a b=(iK a==iK b):=fun _ _=>rfl;cases d.bU.isEmpty<;>cases d.aL<;>cases d.aK.isEmpty<;>(refine⟨?_,?_,?_,?_,?_,?_,?_,?_,?_,?_,?_,?_⟩<;>rfl)
theorem Kn.isOk{s:ByteArray}{w w':World}{e:Ending}(h:Kn s w e w')(ht:jk s.data.toList=true) :
  e=.returned (.tuple #[.string ⟨(cL s.data.toList).toArray⟩,.nilIface])/\Fr ay w w':=by
 obtain⟨he,hf⟩:=h;rw[if_pos ht]at he;exact⟨he,hf⟩
theorem ahM(w:World)(x y:ByteArray):cX (w.alloc (.cells #[.string x,.string y] 9)) (.slice (some ⟨w.heap.size,0,none⟩) 2 2) [x,y]:=by
 refine Or.inr ⟨w.heap.size,0,2,rfl,Nat.le_refl _,by simp[maxLen],by simp,fun j z hj=>?_⟩;rw[Nat.zero_add,World.cell?_alloc_mark]
 match j,hj with
 |0,hj=>simp at hj;subst hj;rfl
 |1,hj=>simp at hj;subst hj;rfl
theorem aio:∀x:Fin 16,cP (xO x.val.toUInt8)=true:=by decide +kernel
theorem ae5:∀k n,(fA k n).all cP=true
 |0,n=>rfl
 |k+1,n=>by
  rw[<-vV k n];rw[List.all_cons,ae5 k n,Bool.and_true];exact aio ⟨n/16^k%16,Nat.mod_lt _ (by decide)⟩
theorem agV(n:Nat):uN (ez n)=true:=by
 unfold uN ez;have h:=jd 8 n;rw[ae5];cases e:fA 8 n with
 |nil=>rw[e]at h;cases h
 |cons a l=>rfl
theorem ahN:I_.length=8/\pH.length=5/\pI.length=5/\TS.length=3/\I'.length=8/\sY.length=9/\Dt.length=3/\nNc.length=2/\xd.length=6/\gP.length=6/\TT.length=6:=by decide
def abi(l:List Item):Nat:=(l.map fun i=>i.1.length+2*i.2.1.length+5).sum
theorem air(l:List Item):(pT l).length<=7+abi l:=by
 suffices h:∀(k:Nat) (l:List Item),l.length=k->(pT l).length<=7+abi l from h _ l rfl
 intro k
 induction k with
 |zero=>intro l h;rw[List.length_eq_zero_iff.1 h];decide
 |succ k ih =>
  intro l h;obtain⟨m,⟨nm,v,q⟩,rfl⟩:∃m a,l=m++[a]:=⟨l.dropLast,l.getLast (by intro e;rw[e]at h;cases h),(List.dropLast_concat_getLast _).symm⟩;have hm:=ih m (by simp at h;exact h);rw[<-DU];have h1:=N3 (pT m) nm (uU q v);have h2:=N2 q v;have h3:abi (m++[(nm,v,q)])=abi m+(nm.length+2*v.length+5):=by unfold abi;simp
  omega
theorem alo{d:cE}(h:d.fair=true)(hr:d.KC.length<=64)(hc:d.count.length<=8)(hs:d.user.length+d.ar.length+d.aE.length+d.uri.length+d.bU.length+d.aB.length+d.aK.length<=500):d.text.length<=3000:=by
 rw[<-cE.qH h];have h1:=air d.items;obtain⟨l1,l2,l3,l4,l5,l6,l7,l8,l9,l10,_⟩:=ahN;have hn:(kd d.scheme d.aL).length<=12:=by unfold kd;split<;>cases d.aL<;>decide
 have h2:abi d.items<=abi (pU d.user d.ar d.aE d.uri d.KC (kd d.scheme d.aL))+(abi [(Dt,d.bU,false),(nNc,d.count,false)]+(abi [(xd,d.aB,true)]+abi [(gP,d.aK,true)])):=by
  have ha:∀a b:List Item,abi (a++b)=abi a+abi b:=fun a b=>by unfold abi;simp
  unfold cE.items;rw[ha,ha,ha];have e1:abi (xR d.bU d.count)<=abi [(Dt,d.bU,false),(nNc,d.count,false)]:=by
   unfold xR;split
   ·exact Nat.zero_le _
   ·exact Nat.le_refl _
  have e2:abi (N4 d.bU d.aL d.aB)<=abi [(xd,d.aB,true)]:=by
   unfold N4;split
   ·exact Nat.le_refl _
   ·exact Nat.zero_le _
  have e3:abi (xS d.aK)<=abi [(gP,d.aK,true)]:=by
   unfold xS;split
   ·exact Nat.zero_le _
   ·exact Nat.le_refl _
  omega
 unfold pU abi at h2;simp only[List.map_cons,List.map_nil,List.sum_cons,List.sum_nil]at h2;unfold abi at h1;omega
def aiu(cH:Int)(aK:ByteArray)(x:je)(w:World)(e:Ending)(w':World):Prop :=
 Fr ay w w'/\((∃t v,e=.returned (.tuple #[.string ⟨#[]⟩,.iface t v]))\/((tP cH aK x).Ok/\1<=x.n/\x.n<=4294967295/\e=.returned (.tuple #[.string (bA (tP cH aK x).text),.nilIface])))
theorem agW(cH:Int)(ar aE aK bU user pass method target body aB:ByteArray)(aL aX:Bool)(dom:Value)(n:Int)(w:World)(bG:dom.oneCell'=true)
  (x1:ar.size<=5000)(x2:aE.size<=5000)(x3:aK.size<=5000)(x4:user.size<=5000)(x5:pass.size<=5000)(x6:method.size<=5000)(x7:target.size<=5000)(x8:body.size<=5000)(x9:aB.size<=5000)
  (Gs:iu w 9 .u8 Gr)(hh:ni cH w) :
  Calls Tryz.prog 44 #[.agg #[.int .i64 cH,.string ar,.string aE,.string aK,.bool aL,.string bU,.bool aX,dom],.agg #[.string user,.string pass],.string method,.string target,.string body,.string aB,.int .i64 n] w (aiu cH aK ⟨decide (cH=3),aL,ar,aE,bU,user,pass,method,target,body,aB,n.toNat⟩ w):=by
 refine(LR cH ar aE aK bU user pass method target body aB aL aX dom n w bG x1 x2 x3 x4 x5 x6 x7 x8 x9 Gs hh).mono ?_;rintro e w'⟨hf,h⟩;refine⟨hf,?_⟩;rcases h with ⟨_,h⟩|⟨⟨⟨h1,h2⟩,⟨h3,h4⟩,h5⟩,h6⟩
 ·exact Or.inl h
 ·exact Or.inr ⟨⟨h1,h2,agV _,h5⟩,by show 1<=n.toNat;omega,by show n.toNat<=4294967295;omega,h6⟩
def ahv:je:=⟨false,false,⟨#[116,101,115,116,114,101,97,108,109,64,104,111,115,116,46,99,111,109]⟩,⟨#[100,99,100,57,56,98,55,49,48,50,100,100,50,102,48,101,56,98,49,49,100,48,102,54,48,48,98,102,98,48,99,48,57,51]⟩,⟨#[97,117,116,104]⟩,⟨#[77,117,102,97,115,97]⟩,⟨#[67,105,114,99,108,101,32,79,102,32,76,105,102,101]⟩,⟨#[71,69,84]⟩,⟨#[47,100,105,114,47,105,110,100,101,120,46,104,116,109,108]⟩,⟨#[]⟩,⟨#[48,97,52,102,49,49,51,98]⟩,1⟩
theorem aix:js ahv=⟨#[54,54,50,57,102,97,101,52,57,51,57,51,97,48,53,51,57,55,52,53,48,57,55,56,53,48,55,99,52,101,102,49]⟩:=by decide +kernel
theorem ahO:yh ⟨#[65,108,97,100,100,105,110]⟩ ⟨#[111,112,101,110,32,115,101,115,97,109,101]⟩=⟨#[66,97,115,105,99,32,81,87,120,104,90,71,82,112,98,106,112,118,99,71,86,117,73,72,78,108,99,50,70,116,90,81,61,61]⟩:=by decide +kernel
theorem aiz:(fY ⟨#[65,108,97,100,100,105,110]⟩&&fY ⟨#[111,112,101,110,32,115,101,115,97,109,101]⟩)=true:=by decide +kernel
theorem ahP:¬0<=Lib.indexByte (⟨#[65,108,97,100,100,105,110]⟩:ByteArray).data.toList 58:=by decide +kernel
theorem ahR:(⟨(ez 255).toArray⟩:ByteArray)=⟨#[48,48,48,48,48,48,102,102]⟩:=by decide +kernel
theorem ahS:ahv.Small:=⟨by decide,by decide,by decide,by decide,by decide,by decide,by decide,by decide,by decide,by decide⟩
theorem ahT{w:World}{g:Nat}(h:w.heap[g]?=some (.cells #[.int .i64 2,.string ⟨#[116,101,115,116,114,101,97,108,109,64,104,111,115,116,46,99,111,109]⟩,.string ⟨#[100,99,100,57,56,98,55,49,48,50,100,100,50,102,48,101,56,98,49,49,100,48,102,54,48,48,98,102,98,48,99,48,57,51]⟩,.string ⟨#[]⟩,.bool false,.string ⟨#[97,117,116,104]⟩,.bool false,.slice none 0 0] 47 (0,0))) :
  w.cell? ⟨g,0,none⟩=some (.int .i64 2)/\w.cell? ⟨g,1,none⟩=some (.string ⟨#[116,101,115,116,114,101,97,108,109,64,104,111,115,116,46,99,111,109]⟩)/\w.cell? ⟨g,2,none⟩=some (.string ⟨#[100,99,100,57,56,98,55,49,48,50,100,100,50,102,48,101,56,98,49,49,100,48,102,54,48,48,98,102,98,48,99,48,57,51]⟩)/\w.cell? ⟨g,3,none⟩=some (.string ⟨#[]⟩)/\w.cell? ⟨g,4,none⟩=some (.bool false)/\w.cell? ⟨g,5,none⟩=some (.string ⟨#[97,117,116,104]⟩)/\w.cell? ⟨g,6,none⟩=some (.bool false)/\w.cell? ⟨g,7,none⟩=some (.slice none 0 0):=by
 simp[World.cell?,h]
theorem agX(w:World)(ht:kX w)(Gs:iu w 9 .u8 Gr) :
  Calls Tryz.prog 40 #[] w fun e w'=>e=.returned (.bool true)/\Fr ay w w':=by
 have HT:=O (And.intro ht Gs);have dF:Fr ay w (w.alloc (.cells #[.int .i64 2,.string ⟨#[116,101,115,116,114,101,97,108,109,64,104,111,115,116,46,99,111,109]⟩,.string ⟨#[100,99,100,57,56,98,55,49,48,50,100,100,50,102,48,101,56,98,49,49,100,48,102,54,48,48,98,102,98,48,99,48,57,51]⟩,.string ⟨#[]⟩,.bool false,.string ⟨#[97,117,116,104]⟩,.bool false,.slice none 0 0] 47)):=(Fr.refl ay w).alloc _
 have nj:=O dF;have HBK:=O (af w (.cells #[.int .i64 2,.string ⟨#[116,101,115,116,114,101,97,108,109,64,104,111,115,116,46,99,111,109]⟩,.string ⟨#[100,99,100,57,56,98,55,49,48,50,100,100,50,102,48,101,56,98,49,49,100,48,102,54,48,48,98,102,98,48,99,48,57,51]⟩,.string ⟨#[]⟩,.bool false,.string ⟨#[97,117,116,104]⟩,.bool false,.slice none 0 0] 47));clear dF;clear ht Gs
 go_enter Tryz.func40,Tryz.ntmps40;go_wp2_with fail
 refine(Az _ _ _ (by decide) (by decide)).mono ?_;rintro e u1⟨hp,bt⟩;have he:e=.returned (.tuple #[.string ⟨#[66,97,115,105,99,32,81,87,120,104,90,71,82,112,98,106,112,118,99,71,86,117,73,72,78,108,99,50,70,116,90,81,61,61]⟩,.nilIface]):=by
  unfold im at hp;rw[if_neg ahP,if_pos aiz,ahO]at hp;exact hp
 subst he;clear hp;have iw:=O (bt.keep HBK.out (fun h=>h));have gV:=O (nj.out.trans bt);clear bt;go_wp2_with fail
 refine(lK 255 u1 (by decide) (HT.out.2.fr gV.out)).mono ?_;rintro e u2⟨rfl,bq⟩;rw[ahR];obtain⟨c0,c1,c2,c3,c4,c5,c6,c7⟩:=ahT (bq.keep iw.out (fun h=>h));have dk:=O (gV.out.trans bq);clear bq
 have HR:=O (tO ⟨2,⟨#[116,101,115,116,114,101,97,108,109,64,104,111,115,116,46,99,111,109]⟩,⟨#[100,99,100,57,56,98,55,49,48,50,100,100,50,102,48,101,56,98,49,49,100,48,102,54,48,48,98,102,98,48,99,48,57,51]⟩,⟨#[]⟩,false,⟨#[97,117,116,104]⟩,false,.slice none 0 0⟩ ahv u2 ahS rfl rfl rfl rfl rfl rfl (HT.out.2.fr dk.out) (Ul 2 (by decide) u2 (HT.out.1.fr dk.out)));go_wp2_with fail
 refine HR.out.mono ?_;rintro e u3⟨rfl,dv⟩;rw[aix];go_wp2;go_ret;exact⟨rfl,dk.out.trans dv⟩
def abm(ss:List ByteArray):Nat:=(ss.map ByteArray.size).sum
theorem agZ(ss:List ByteArray)(k:Nat)(h:k<ss.length):abm (ss.take (k+1))=abm (ss.take k)+ss[k].size:=by
 unfold abm;rw[List.take_add_one,List.getElem?_eq_getElem h,List.map_append,List.sum_append];simp only[Option.toList,List.map_cons,List.map_nil,List.sum_cons,List.sum_nil,Nat.add_zero]
theorem afL(ss:List ByteArray)(b:Nat)(h:∀s∈ss,s.size<=b):abm ss<=ss.length*b:=by
 induction ss with
 |nil=>simp[abm]
 |cons a l ih =>
  have:=ih (fun s hs=>h s (List.mem_cons_of_mem _ hs));have ha:=h a (List.mem_cons_self ..);unfold abm at this ⊢;rw[List.map_cons,List.sum_cons,List.length_cons,Nat.succ_mul];omega
def aeQ(ar aE aK bU user pass:ByteArray):Nat:=ar.size+aE.size+aK.size+bU.size+user.size+pass.size
def alG(n0:Nat)(ss:List ByteArray)(w:World)(n i:Value)(wr:World):Prop:=∃k:Nat,k<=ss.length/\i=.int .i64 k/\n=.int .i64 ((n0+abm (ss.take k):Nat):Int)/\Fr ay w wr
theorem ah1(r:cQ Value)(user pass:ByteArray)(bk o c:Nat)(ss:List ByteArray)(w:World)(bG:r.dom.oneCell'=true)
  (z1:r.ar.size<=140737488351232)(z2:r.aE.size<=140737488351232)(z3:r.aK.size<=140737488351232)(z4:r.bU.size<=140737488351232)(z5:user.size<=140737488351232)(z6:pass.size<=140737488351232)
  (hb:bk<w.heap.size)(hc:∀(j:Nat) x,ss[j]?=some x->w.cell? ⟨bk,o+j,none⟩=some (.string x))(hl:ss.length<=1000)(hz:∀s∈ss,s.size<=140737488351232) :
  Calls Tryz.prog 43 #[.agg #[.int .i64 r.scheme,.string r.ar,.string r.aE,.string r.aK,.bool r.aL,.string r.bU,.bool r.aX,r.dom],.agg #[.string user,.string pass],.slice (some ⟨bk,o,none⟩) ss.length c] w
   fun e w'=>e=.returned (.bool (decide (aeQ r.ar r.aE r.aK r.bU user pass+abm ss<=500)))/\Fr ay w w':=by
 obtain⟨cH,ar,aE,aK,aL,bU,aX,dom⟩:=r;simp only at bG z1 z2 z3 z4 ⊢;have hbd:=afL ss 140737488351232 hz;obtain⟨wb,eQ⟩:∃wb,wb=(w.alloc (.cells #[.int .i64 cH,.string ar,.string aE,.string aK,.bool aL,.string bU,.bool aX,dom] 47)).alloc (.cells #[.string user,.string pass] 31):=⟨_,rfl⟩;have fa:Fr ay w wb:=by rw[eQ];exact((Fr.refl ay w).alloc _).alloc _
 have gS:=O fa;have lq:=O eQ;obtain⟨n0,Jd⟩:∃n0,n0=aeQ ar aE aK bU user pass:=⟨_,rfl⟩;have HN0:=O (show n0=ar.size+aE.size+aK.size+bU.size+user.size+pass.size by rw[Jd];rfl);rw[<-Jd];have amb:n0<=844424930107392:=by rw[HN0.out];omega
 have HC:=O hc;have HZ:=O hz;clear Jd eQ fa hc hz;go_enter Tryz.func43,Tryz.ntmps43;go_wp2;rw[<-lq.out];go_loopw[7,8] (alG n0 ss wb) (fun _ i _=>ss.length-(intOf i).toNat)
 case atStart=>exact⟨0,Nat.zero_le _,rfl,by rw[HN0.out];simp[abm];try omega,Fr.refl _ _⟩
 case round =>
  obtain⟨k,hk,rfl,rfl,aW⟩:=hrel;by_cases ng:k<ss.length
  ·have lf:(k:Int)<(ss.length:Int):=by omega
   have bC:=List.getElem?_eq_getElem ng;have hcell:wr.cell? ⟨bk,o+k,none⟩=some (.string ss[k]):=((gS.out.trans aW).cell (p:=⟨bk,o+k,none⟩) hb (fun h=>h)).trans (HC.out k _ bC);have fR:=O (agZ ss k ng);have KK:=HZ.out _ (List.getElem_mem ng);have hsb:=afL (ss.take k) 140737488351232 (fun s hs=>HZ.out s (List.mem_of_mem_take hs));rw[List.length_take]at hsb
   have amc:abm (ss.take k)<=140737488351232000:=by omega
   clear bC hsb;generalize ss[k]=x at *
   generalize abm (ss.take k)=y at *
   go_wp2;go_roundw
   case rel=>exact⟨k+1,by omega,by go_num,by rw[fR.out];congr 1;push_cast;omega,aW⟩
   case measure=>simp[intOf];omega
  ·have lf:¬(k:Int)<(ss.length:Int):=by omega
   have bR:=O (show abm (ss.take k)=abm ss by rw[List.take_of_length_le (by omega)]);rw[bR.out];obtain⟨y,hy⟩:∃y,y=abm ss:=⟨_,rfl⟩;rw[<-hy]at hbd ⊢;have HY:=O hy;clear hy;have alx:decide (n0+y<=500)=decide ((n0:Int)+(y:Int)<=500):=by
    by_cases h:n0+y<=500
    ·rw[decide_eq_true h,decide_eq_true (by omega)]
    ·rw[decide_eq_false h,decide_eq_false (by omega)]
   have HD:=O alx;clear alx;go_wp2;go_ret;exact⟨by rw[<-HY.out];exact congrArg (fun b=>Ending.returned (.bool b)) HD.out.symm,gS.out.trans aW⟩
theorem afO{s:ByteArray}{w:World}{l:List iI}(hs:s.size<=140737488351232)(h:g_ s.data.toList=.ok l) :
  Calls Tryz.prog 45 #[.string s] w fun e w'=>∃a c,e=.returned (.tuple #[.slice a l.length c,.nilIface])/\oF w' (.slice a l.length c) l/\Fr ay w w':=by
 refine(LC s w hs).mono ?_;rintro e w'⟨hf,hm⟩;rw[h]at hm;obtain⟨v,rfl,hv⟩:=hm;obtain⟨a,c,rfl⟩:=hv.form;exact⟨a,c,rfl,hv.at,hf⟩
def aie:Bs:=[66,97,115,105,99,32,114,101,97,108,109,61,34,114,34,44,32,44,32,68,105,103,101,115,116,32,110,111,110,99,101,32,61,32,110,44,114,101,97,108,109,61,115,44,78,101,103,111,116,105,97,116,101,32,97,98,99,61,61]
def abv:List iI:=[⟨[66,97,115,105,99],[],[(pH,[114])]⟩,⟨[68,105,103,101,115,116],[],[(pI,[110]),(pH,[115])]⟩,⟨[78,101,103,111,116,105,97,116,101],[97,98,99,61,61],[]⟩]
theorem ag0:g_ aie=.ok abv:=by kernel_rfl
theorem ae6:(d_ abv).scheme=2:=by kernel_rfl
theorem ags:(d_ abv).ar=⟨#[115]⟩:=by kernel_rfl
theorem agu:(d_ abv).aE=⟨#[110]⟩:=by kernel_rfl
theorem ah4:∀x∈abv,x.Fit:=by
 intro x hx;simp only[abv,List.mem_cons,List.not_mem_nil,or_false]at hx;rcases hx with rfl|rfl|rfl<;>exact⟨by decide,by decide,by decide,by decide⟩
theorem ah5(w:World):Calls Tryz.prog 41 #[] w fun e w'=>e=.returned (.bool true)/\Fr ay w w':=by
 go_enter Tryz.func41,Tryz.ntmps41;go_wp2_with fail
 refine(afO (s:=⟨aie.toArray⟩) (l:=abv) (by decide) ag0).mono ?_;rintro e w1⟨a,c,rfl,hc,bt⟩;go_wp2_with fail
 refine(PT _ abv w1 hc (by decide) ah4).mono ?_;rintro e w2⟨bq,r,hr,rfl⟩;have bG:=Cp r (Reads.apd hr);have e0:r.scheme=2:=hr.1.trans ae6;have e1:r.ar=⟨#[115]⟩:=hr.2.1.trans ags;have e2:r.aE=⟨#[110]⟩:=hr.2.2.1.trans agu;obtain⟨y,hy⟩:∃y,y=r.cells.toArray:=⟨_,rfl⟩;have FH:y.size=8:=by rw[hy];rfl
 have Ut:y.all (·.oneCell')=true:=by rw[hy];exact bG
 have sg:(Tryz.prog.info? 47).map (·.size)=some y.size:=by rw[FH];kernel_rfl
 have hyz:dr.size=y.size:=by rw[FH];rfl
 obtain⟨w3,Oa⟩:∃w3,w3=w2.alloc (.cells y 47):=⟨_,rfl⟩;have jQ:cM w3 w2.heap.size r:=by rw[Oa,hy];exact af _ _
 have dv:Fr ay w1 w3:=by rw[Oa];exact bq.alloc _
 have dV:=O (bt.trans dv);have n0:w3.cell? ⟨w2.heap.size,0,none⟩=some (.int .i64 2):=by rw[<-e0];exact jQ.cell rfl
 have n1:w3.cell? ⟨w2.heap.size,1,none⟩=some (.string ⟨#[115]⟩):=by rw[<-e1];exact jQ.cell rfl
 have n2:w3.cell? ⟨w2.heap.size,2,none⟩=some (.string ⟨#[110]⟩):=by rw[<-e2];exact jQ.cell rfl
 obtain⟨bk,of,pv,rfl,g1,g2,_,_,c2,hp⟩:=(hc.bu dv).cells (k:=0) (x:=⟨[66,97,115,105,99],[],[(pH,[114])]⟩) rfl;obtain⟨ZE,of',zu,o5,_,_,_,d1,_,_⟩:=(hc.bu dv).cells (k:=2) (x:=⟨[78,101,103,111,116,105,97,116,101],[97,98,99,61,61],[]⟩) rfl;injection o5 with o5
 injection o5 with o9 fC
 subst o9 fC;obtain⟨pa,pc,rfl⟩:=hp.form;unfold maxLen at g2;have g1':(3:Int)<=(c:Int):=by have:3<=c:=g1;omega
 have JV:=O Oa;have c2':w3.cell? ⟨bk,of+2,none⟩=some (.slice pa 1 pc):=by simpa using c2
 have d1':w3.cell? ⟨bk,of+7,none⟩=some (.string ⟨#[97,98,99,61,61]⟩):=d1;have amd:w3.cell? ⟨bk,of+6+1,none⟩=some (.string ⟨#[97,98,99,61,61]⟩):=d1;rw[show abv.length=3 from rfl];rw[show(d_ abv).scheme=2 from ae6];rw[<-hy];clear hy Oa hr bq dv jQ hc bG e0 e1 e2 hp d1
 go_wp2_with (first|((with_reducible refine ag ⟨none,.store 47 (.tmp 3) (.tmp 19),_,_,_,_⟩ ?_);go_must(refine ks rfl 47 (.tmp 3) (.tmp 19) rfl dr y rfl rfl sg hyz Ut ?_);rw[<-JV.out])|fail)
 go_ret;exact⟨rfl,dV.out⟩
open Go.ChangeShapes Go.WideShapes Go.ChangeAt Go.RowKit Go.Deep
section
variable {H : Type} {enc : TypeId × Value → H} {P : Program} {W : World}
end
variable {H : Type} {enc : TypeId × Value → H} {W : World}
theorem ae'{fuel:Nat}{cs:List Value}{x:DataW H×List MemPlace}(h:DataW.trod enc Tryz.prog W 0 (fun _=>true) true fuel 45 cs=some x) :
  ∃v ss,cs=[v]/\ae0 W v ss/\(kf Tryz.prog 45 x.1->ss.length*16<=reachBytes/\∀s∈ss,s.size<=reachBytes):=by
 rcases open_strs Tryz.underlying45 Tryz.underlying9 (by kernel_rfl) h with ⟨rfl,rfl⟩|⟨a,len,cap,m,aan,rfl,_,hl,hm,hme,rfl,hc⟩
 ·exact⟨_,[],rfl,cX.nil _,fun _=>⟨by simp,by simp⟩⟩
 simp only[if_true]at hme;subst hme;have alr:kf Tryz.prog 45 (DataW.slice ((List.range len).map fun i=>(DataW.lit (.string (aan i).data.toList):DataW H)) ((List.range (m-len)).map fun j=>.lit (.string (aan (len+j)).data.toList)))->len*16<=reachBytes/\∀s∈(List.range len).map aan,s.size<=reachBytes:=by
  intro hL;unfold kf at hL;simp only[DataW.weights,Tryz.underlying45]at hL;refine⟨?_,fun s hs=>?_⟩
  ·have:=hL _ (List.mem_cons_self ..);simp only[List.length_map,List.length_range,show Tryz.prog.bytesOf 9=16 from by kernel_rfl]at this;have e:(len+(m-len))*16=m*16:=by congr 1;omega
   rw[e]at this;have:len*16<=m*16:=Nat.mul_le_mul_right _ hl;omega
  ·obtain⟨i,hi,rfl⟩:=List.mem_map.1 hs;have:=hL (aan i).data.toList.length (List.mem_cons_of_mem _ (List.mem_append_left _ (rG (d:=.lit (.string (aan i).data.toList)) (List.mem_map.2 ⟨i,hi,rfl⟩) _ (by simp[DataW.weights]))));simpa using this
 by_cases h0:len=0
 ·subst h0;refine⟨_,[],rfl,Or.inl ⟨_,_,rfl,rfl,fun e=>by cases e⟩,fun hL=>⟨by simp,by simp⟩⟩
 ·obtain⟨b,off,spot⟩:=a;have hc0:=(hc 0 (by omega)).1;have aiV:spot=none:=by simpa[Addr.add]using World.cell?_spot hc0
  subst aiV;have Fb:∀j,(Addr.add ⟨b,off,none⟩ j)=⟨b,off+j,none⟩:=by intro j;unfold Addr.add;split<;>simp_all
  have WI:b<W.heap.size:=World.block_lt_of_cell? _ _ hc0;refine⟨_,(List.range len).map aan,rfl,Or.inr ⟨b,off,m,by simp,by simpa using hl,hm,WI,fun j y hj=>?_⟩,fun hL=>by simpa using alr hL⟩
  ·rw[List.getElem?_map]at hj;obtain⟨i,hi,rfl⟩:=Option.map_eq_some_iff.1 hj;obtain⟨Xn,rfl⟩:=List.getElem?_eq_some_iff.1 hi;simp at Xn ⊢;have:=(hc j (by omega)).1
   rwa [Fb]at this
theorem ag5:Tryz.prog.cellsOf 45=1:=by kernel_rfl
theorem agv:Tryz.prog.cellsOf 31=2:=by kernel_rfl
theorem ah_:Tryz.prog.cellsOf 47=8:=by kernel_rfl
def cQ.Ft(a:cQ aF):Prop:=a.ar.size<=reachBytes/\a.aE.size<=reachBytes/\a.aK.size<=reachBytes/\a.bU.size<=reachBytes/\a.dom.length*16<=reachBytes/\∀s∈a.dom,s.size<=reachBytes
theorem len8{α:Type}{l:List α}(h:l.length=8):∃a b c d e f g i,l=[a,b,c,d,e,f,g,i]:=by
 match l,h with
 |[a,b,c,d,e,f,g,i],_=>exact⟨a,b,c,d,e,f,g,i,rfl⟩
theorem aiB{fuel:Nat}{cs:List Value}{x:DataW H×List MemPlace}(h:DataW.trod enc Tryz.prog W 0 (fun _=>true) true fuel 47 cs=some x) :
  ∃(r:cQ Value) (a:cQ aF),cs=r.cells/\r.Reads (ae0 W) a/\(Lit.int .i64 a.scheme).wf=true/\(kf Tryz.prog 47 x.1->a.Ft):=by
 obtain⟨hl,n,hf⟩:=ky Tryz.underlying47 h;rw[ah_]at hl;obtain⟨c0,c1,c2,c3,c4,c5,c6,c7,rfl⟩:=len8 hl;obtain⟨y0,h0,l0⟩:=hf 0 3 0 _ rfl nS;obtain⟨y1,h1,l1⟩:=hf 1 9 1 _ rfl dT;obtain⟨y2,h2,l2⟩:=hf 2 9 2 _ rfl dT;obtain⟨y3,h3,l3⟩:=hf 3 9 3 _ rfl dT;obtain⟨y4,h4,l4⟩:=hf 4 4 4 _ rfl oL;obtain⟨y5,h5,l5⟩:=hf 5 9 5 _ rfl dT;obtain⟨y6,h6,l6⟩:=hf 6 4 6 _ rfl oL;obtain⟨y7,h7,l7⟩:=hf 7 45 7 _ rfl ag5
 simp only[List.drop,List.take]at h0 h1 h2 h3 h4 h5 h6 h7;obtain⟨b0,e0,w0⟩:=ig Tryz.underlying3 h0;obtain⟨b1,e1,w1⟩:=b_ Tryz.underlying9 h1;obtain⟨b2,e2,w2⟩:=b_ Tryz.underlying9 h2;obtain⟨b3,e3,w3⟩:=b_ Tryz.underlying9 h3;obtain⟨b4,e4⟩:=i_ Tryz.underlying4 h4;obtain⟨b5,e5,w5⟩:=b_ Tryz.underlying9 h5;obtain⟨b6,e6⟩:=i_ Tryz.underlying4 h6;obtain⟨v7,ss7,e7,s7,w7⟩:=ae' h7
 simp at e0 e1 e2 e3 e4 e5 e6 e7;subst e0 e1 e2 e3 e4 e5 e6 e7;exact⟨⟨b0,b1,b2,b3,b4,b5,b6,c7⟩,⟨b0,b1,b2,b3,b4,b5,b6,ss7⟩,rfl,⟨rfl,rfl,rfl,rfl,rfl,rfl,rfl,s7⟩,w0,fun hL=>⟨w1 (l1 hL),w2 (l2 hL),w3 (l3 hL),w5 (l5 hL),w7 (l7 hL)⟩⟩
theorem agw{base:Nat}{v:Value}{d:DataW H}{p:List MemPlace}(hv:Value.okWide Tryz.prog W .any base 47 v)(h:DataW.Trod enc Tryz.prog W 0 (fun _=>true) true 47 v d p)(hL:kf Tryz.prog 47 d) :
  ∃(r:cQ Value) (a:cQ aF),v=.agg r.cells.toArray/\r.Reads (ae0 W) a/\a.Ft/\(Lit.int .i64 a.scheme).wf=true:=by
 obtain⟨cs,rfl,_⟩:=okWide_struct Tryz.underlying47 hv;obtain⟨fuel,hf⟩:=h;obtain⟨r,a,e,hr,hw,hs⟩:=aiB hf;simp only[Value.cells]at e;exact⟨r,a,by rw[<-e],hr,hs hL,hw⟩
theorem afB{base:Nat}{v:Value}{d:DataW H}{p:List MemPlace}(hv:Value.okWide Tryz.prog W .any base 31 v)(h:DataW.Trod enc Tryz.prog W 0 (fun _=>true) true 31 v d p)(hL:kf Tryz.prog 31 d) :
  ∃user pass:ByteArray,v=.agg #[.string user,.string pass]/\user.size<=reachBytes/\pass.size<=reachBytes:=by
 obtain⟨cs,rfl,_⟩:=okWide_struct Tryz.underlying31 hv;obtain⟨fuel,hf⟩:=h;simp only[Value.cells]at hf;obtain⟨hl,n2,bq⟩:=ky Tryz.underlying31 hf;rw[agv]at hl;obtain⟨c0,c1,e⟩:=aiU hl;rw[e]at bq;obtain⟨z0,j0,m0⟩:=bq 0 9 0 _ rfl dT;obtain⟨z1,j1,m1⟩:=bq 1 9 1 _ rfl dT;simp only[List.drop,List.take]at j0 j1;obtain⟨u,eu,wu⟩:=b_ Tryz.underlying9 j0;obtain⟨q,eq,wq⟩:=b_ Tryz.underlying9 j1
 simp only[List.cons.injEq,and_true]at eu eq;subst eu eq;refine⟨u,q,?_,wu (m0 hL),wq (m1 hL)⟩
 congr 1
 apply Array.ext';rw[e]
theorem ag9(w:World) :
  Calls Tryz.prog 42 #[] w fun e w'=>e=.returned (.bool true)/\Fr ay w w':=by
 go_enter Tryz.func42,Tryz.ntmps42;go_wp2_with fail
 refine(Ds _ w (by decide)).mono ?_;intro e w1 hp;obtain⟨v,rfl,hv,bt⟩:=hp.isOk (ws:=[[97],[98]]) (by kernel_rfl) (by decide);clear hp;go_wp2_with fail
 refine(zP _ w1 (by decide)).mono ?_;intro e w2 hp;obtain⟨rfl,bq⟩:=hp.isOk (by kernel_rfl);clear hp;rw[show cL (ByteArray.mk #[97,34,98]).data.toList=[34,97,92,34,98,34]from by kernel_rfl];go_wp2_with fail
 refine(Nj _ w2).mono ?_;rintro e w3⟨rfl,Oa⟩;have nX:aU w3 w2.heap.size ⟨#[34,120,92,121,34,122]⟩ 0:=by rw[Oa];exact af w2 _
 have dv:Fr ay w w3:=by rw[Oa];exact(bt.trans bq).alloc _
 have hv2:=(hv.at).bu bq;have Vs:Fr ay w2 w3:=by rw[Oa];exact(Fr.refl _ _).alloc _
 have hz:=O (show w.heap.size<=w2.heap.size from(bt.trans bq).size);clear Oa bt bq hv;go_wp2_with fail
 refine(FY _ _ _ w3 nX (by decide)).mono ?_;intro e w4 hp;obtain⟨rfl,nU,bT⟩:=hp.isOk (a:=[120,121]) (j:=5) (by kernel_rfl);clear hp nX;have fu:=dv.rJ bT hz.out;have SJ:=hv2.bu (Vs.rJ bT (Nat.le_refl _));clear dv bT hv2 Vs;go_wp2_with fail
 refine(agG _ _ _ _ _ (SJ.bu ((Fr.refl _ _).alloc _)) (ahM _ _ _) (by decide)).mono ?_;rintro e w5⟨rfl,n5,hw5⟩;rw[show decide (bw [[97],[98]]=[⟨#[97]⟩,⟨#[98]⟩])=true from by decide];have rj:Fr ay w w5:=by rw[hw5];exact(fu.alloc _).drewN _
 have nV:aU w5 w2.heap.size ⟨#[34,120,92,121,34,122]⟩ 5:=by rw[hw5];exact(nU.alloc).drewN _
 clear hw5 nU fu;go_wp2_with fail
 refine(uM _ _ _ w5 nV).mono ?_;rintro e w6⟨rfl,rfl⟩;go_wp2_with fail
 refine(gX _ _ w5 (by decide) (by decide)).mono ?_;rintro e w7⟨rfl,jC⟩;rw[show bf (ByteArray.mk #[97,66]).data.toList (ByteArray.mk #[65,98]).data.toList=true from by kernel_rfl];go_wp2_with fail
 refine(xo _ w7 (by decide)).mono ?_;rintro e w8⟨rfl,rfl⟩;rw[show uN (ByteArray.mk #[120,45,49]).data.toList=true from by kernel_rfl];go_wp2;go_ret;exact⟨rfl,rj.trans jC⟩
open Go.ChangeMaps Go.MapKept
open Go.WideElems (Fit)
open Go.Maps (string_keyed fit_store)
def abn(w:World)(b:Nat)(E:List (ByteArray×ByteArray)):Prop :=
 ∃es clock,w.heap[b]?=some (.map es clock)/\Fit (H:=Unit) Tryz.prog 9 (plainElem Tryz.prog 9) es clock/\∀e∈es.toList,∃p∈E,e.key=.string p.1/\e.val=.string p.2
theorem afj{α:Type}:∀(l m:List α),l.Nodup->(∀x∈l,x∈m)->l.length<=m.length
 |[],_,_,_=>Nat.zero_le _
 |x :: l,m,hl,h=>by
  classical
  obtain⟨h1,h2⟩:=List.nodup_cons.1 hl;have hx:=h x (List.mem_cons_self ..);have:=afj l (m.erase x) h2 (fun y hy=>(List.mem_erase_of_ne (fun e=>h1 (by rw[<-e];exact hy))).2 (h y (List.mem_cons_of_mem _ hy)));rw[List.length_erase_of_mem hx]at this;have hp:=List.length_pos_of_mem hx;simp only[List.length_cons];omega
theorem abn.xc{E:List (ByteArray×ByteArray)}{es:Array MapEntry}{clock:Nat}(F:Fit (H:=Unit) Tryz.prog 9 (plainElem Tryz.prog 9) es clock)(h:∀e∈es.toList,∃p∈E,e.key=.string p.1/\e.val=.string p.2):es.size<=E.length:=by
 have:=afj (es.toList.map (·.key)) (E.map fun p=>Value.string p.1) F.stamped.2.2 (fun x hx=>by
  obtain⟨e,he,rfl⟩:=List.mem_map.1 hx;obtain⟨p,hp,h1,_⟩:=h e he;exact List.mem_map.2 ⟨p,hp,h1.symm⟩)
 simpa using this
theorem abn.made(w:World)(E:List (ByteArray×ByteArray)):abn (w.alloc (.map #[] 0)) w.heap.size E :=
 ⟨#[],0,af _ _,⟨by decide,⟨by simp,by simp,by simp⟩,by simp⟩,by simp⟩
theorem abn.fr{S:Nat->Prop}{w w':World}{b:Nat}{E:List (ByteArray×ByteArray)}(h:abn w b E)(hf:Fr S w w')(hn:¬S b):abn w' b E:=by
 obtain⟨es,clock,hb,F,he⟩:=h;exact⟨es,clock,hf.keep hb hn,F,he⟩
theorem abn.bd{w w':World}{b:Nat}{E:List (ByteArray×ByteArray)}(h:abn w b E)(hf:Fr ay w w'):abn w' b E:=h.fr hf (fun h=>h)
theorem abn.store{w:World}{b:Nat}{E:List (ByteArray×ByteArray)}(h:abn w b E)(t:TypeId)(ht:Tryz.prog.underlying t=some (.map 9 9))(hl:E.length<1000){k v:ByteArray}(hk:(k,v)∈E)(cG:k.size<=maxLen)(hvs:v.size<=maxLen) :
  ∃w',(Instr.mapUpdate t (.map (some b)) (.string k) (.string v)).run Tryz.prog w=.ok () w'/\abn w' b E/\w.grownBy w' (some b):=by
 obtain⟨es,clock,hb,F,he⟩:=h;have Ma:=abn.xc F he;obtain⟨es',als,rU,aaq,_,_,_,alV⟩:=fit_store (R':=plainElem Tryz.prog 9) (string_keyed Tryz.underlying9) ht hb F (by unfold maxLen;omega) (fun _ _ _ _ hz=>hz) (Go.WideMaps.keyOf_string_mk Tryz.underlying9 cG) (plainElem_string Tryz.underlying9 hvs)
 refine⟨_,rU,⟨es',als,heap_setBlock_same hb _,aaq,fun e hm=>?_⟩,⟨rfl,rfl,rfl,by simp[setBlock],fun i _ hi=>heap_setBlock_other hb _ (fun e=>hi (by rw[e]))⟩⟩;rcases alV e hm with ⟨h1,_⟩|⟨h1,h2⟩
 ·exact he e h1
 ·exact⟨(k,v),hk,h1,h2⟩
def afY(b3 b6 b9 U4 b19 b20:Bool):Array Bool:= #[true,true,true,b3,true,true,b6,true,true,b9,true,U4,true,true,true,true,true,true,true,b19,b20,false,false]
def rsD(b3 b6 b9 U4 b19 b20:Bool):List Nat :=
 (if b3 then []else [3])++((if b6 then []else [6])++((if b9 then []else [9])++((if U4 then []else [11])++((if b19 then []else [19])++(if b19&&!b20 then [20]else [])))))
def aeC(b3 b6 b9 U4 b19 b20:Bool):Nat:=(if b3 then 0 else 1)+((if b6 then 0 else 1)+((if b9 then 0 else 1)+((if U4 then 0 else 1)+((if b19 then 0 else 1)+(if b20 then 0 else 1)))))
theorem alW{P:Program}{ops:Array Oper}{Q:Exit->Act->World->Prop}{S:World->Prop}{A B:Act}(J:World->Prop)
  (aiS:∀b3 b6 b9 U4 b19 b20:Bool,(b20=true->b19=true)->0<aeC b3 b6 b9 U4 b19 b20->Region.ready .any ops (afY b3 b6 b9 U4 b19 b20)=rsD b3 b6 b9 U4 b19 b20)
  (aff:∀i,i=3\/i=6\/i=9\/i=11->∀a,a=A\/a=B->∀w K,J w->(∀w',J w'->K a w')->wpOp P ops Q i K a w)
  (cF:∀w K,J w->(∀w',J w'->K B w')->wpOp P ops Q 19 K A w)
  (h20:∀w K,J w->(∀w',J w'->K B w')->wpOp P ops Q 20 K B w)
  (hJS:∀w,J w->S w)
  (uO:∀w,J w->wpAnyH P .any ops Q S 2 (afY true true true true true true) B w) :
  ∀(n:Nat) (b3 b6 b9 U4 b19 b20:Bool) (w:World),(b20=true->b19=true)->aeC b3 b6 b9 U4 b19 b20=n->J w->wpAnyH P .any ops Q S (n+2) (afY b3 b6 b9 U4 b19 b20) (if b19 then B else A) w:=by
 intro n
 induction n with
 |zero =>
  intro b3 b6 b9 U4 b19 b20 w hv hn hJ;have:b3=true/\b6=true/\b9=true/\U4=true/\b19=true/\b20=true:=by
   revert hn;cases b3<;>cases b6<;>cases b9<;>cases U4<;>cases b19<;>cases b20<;>decide
  obtain⟨rfl,rfl,rfl,rfl,rfl,rfl⟩:=this;exact uO w hJ
 |succ n ih =>
  intro b3 b6 b9 U4 b19 b20 w hv hn hJ;have hAB:(if b19 then B else A)=A\/(if b19 then B else A)=B:=by cases b19<;>simp
  refine wpAnyH_all (fuel:=n+2) (aiS b3 b6 b9 U4 b19 b20 hv (by omega)) ?_ (fun i hi=>?_)
  ·revert hn hv;cases b3<;>cases b6<;>cases b9<;>cases U4<;>cases b19<;>cases b20<;>simp[rsD,aeC]
  ·unfold rsD at hi;simp only[List.mem_append]at hi;rcases hi with hi|hi|hi|hi|hi|hi
   ·cases b3
    ·obtain rfl:i=3:=by simpa using hi
     exact aff 3 (by simp) _ hAB w _ hJ (fun w' h=>⟨hJS w' h,ih true b6 b9 U4 b19 b20 w' hv (by unfold aeC at hn ⊢; simp at hn ⊢; omega) h⟩)
    ·cases hi
   ·cases b6
    ·obtain rfl:i=6:=by simpa using hi
     exact aff 6 (by simp) _ hAB w _ hJ (fun w' h=>⟨hJS w' h,ih b3 true b9 U4 b19 b20 w' hv (by unfold aeC at hn ⊢; simp at hn ⊢; omega) h⟩)
    ·cases hi
   ·cases b9
    ·obtain rfl:i=9:=by simpa using hi
     exact aff 9 (by simp) _ hAB w _ hJ (fun w' h=>⟨hJS w' h,ih b3 b6 true U4 b19 b20 w' hv (by unfold aeC at hn ⊢; simp at hn ⊢; omega) h⟩)
    ·cases hi
   ·cases U4
    ·obtain rfl:i=11:=by simpa using hi
     exact aff 11 (by simp) _ hAB w _ hJ (fun w' h=>⟨hJS w' h,ih b3 b6 b9 true b19 b20 w' hv (by unfold aeC at hn ⊢; simp at hn ⊢; omega) h⟩)
    ·cases hi
   ·cases b19
    ·obtain rfl:i=19:=by simpa using hi
     exact cF w _ hJ (fun w' h=>⟨hJS w' h,ih b3 b6 b9 U4 true b20 w' (fun _=>rfl) (by unfold aeC at hn ⊢; simp at hn ⊢; omega) h⟩)
    ·cases hi
   ·cases b19
    ·cases hi
    ·cases b20
     ·obtain rfl:i=20:=by simpa using hi
      exact h20 w _ hJ (fun w' h=>⟨hJS w' h,ih b3 b6 b9 U4 true true w' (fun _=>rfl) (by unfold aeC at hn ⊢; simp at hn ⊢; omega) h⟩)
     ·cases hi
theorem ae9{w U:World}{p:Addr}{u:Value}(h:w.cell? p=some u)(hf:Fr ay w U):U.cell? p=some u:=by
 unfold World.cell? at h ⊢;cases hb:w.heap[p.block]? with
 |none=>rw[hb]at h;cases h
 |some o=>rw[hb]at h;rw[hf.keep hb (fun h=>h)];exact h
theorem abu{P:Program}{ops:Array Oper}{Q:Exit->Act->World->Prop}{i:Nat}{K:Act->World->Prop}{a:Act}{w w':World}{o:Oper}(ho:ops[i]?=some o)(hg:o.guard=none)(hd:o.dst=none){t:TypeId}{m x v:Operand}(PI:o.op=Op.insert t m x v)
  {b:Nat}{k s:ByteArray}(hm:a.eval m=.map (some b))(hx:a.eval x=.string k)(hv:a.eval v=.string s)(rU:(Instr.mapUpdate t (.map (some b)) (.string k) (.string s)).run P w=.ok () w')(hK:K a w'):wpOp P ops Q i K a w:=by
 refine wpOp_step ho (fun aar h=>?_);have hw:Region.wanted o (yielded ops a.tmps)=true:=by simp[Region.wanted,hg]
 rw[if_pos hw];unfold Oper.wp;simp[execOp,PI,hm,hx,hv,rU,Result.andThen];exact h _ _ (by rw[hd];exact hK)
theorem aeV{P:Program}{Q:Exit->Act->World->Prop}{K:Act->World->Prop}{a:Act}{w w':World}{o:Oper}(hd:o.dst=none){t:TypeId}{m x v:Operand}(PI:o.op=Op.mapUpdate t m x v)
  {b:Nat}{k s:ByteArray}(hm:a.eval m=.map (some b))(hx:a.eval x=.string k)(hv:a.eval v=.string s)(rU:(Instr.mapUpdate t (.map (some b)) (.string k) (.string s)).run P w=.ok () w')(hK:K a w'):Oper.wp P o a w K Q:=by
 unfold Oper.wp;simp[execOp,PI,hm,hx,hv,rU,Result.andThen];show K (a.put o.dst undef) w';rw[hd];exact hK
theorem aey{P:Program}{ops:Array Oper}{Q:Exit->Act->World->Prop}{K:Act->World->Prop}{E:Prop}{a:Act}{w w':World}{o:Oper}(hg:o.guard=none)(hd:o.dst=none){t:TypeId}{m x v:Operand}(PI:o.op=Op.mapUpdate t m x v)
  {b:Nat}{k s:ByteArray}(hm:a.eval m=.map (some b))(hx:a.eval x=.string k)(hv:a.eval v=.string s)(rU:(Instr.mapUpdate t (.map (some b)) (.string k) (.string s)).run P w=.ok () w')(hK:K a w'):if Region.wanted o (yielded ops a.tmps)=true then Oper.wp P o a w K Q else E:=by
 have hw:Region.wanted o (yielded ops a.tmps)=true:=by simp[Region.wanted,hg]
 rw[if_pos hw];exact aeV hd PI hm hx hv rU hK
theorem wpList_mapUpdate_in{P:Program}{ops:Array Oper}{rest:List Oper}{Q:Exit->Act->World->Prop}{a:Act}{w w':World}{o:Oper}(hg:o.guard=none)(hd:o.dst=none){t:TypeId}{m x v:Operand}(PI:o.op=Op.mapUpdate t m x v)
  {b:Nat}{k s:ByteArray}(hm:a.eval m=.map (some b))(hx:a.eval x=.string k)(hv:a.eval v=.string s)(rU:(Instr.mapUpdate t (.map (some b)) (.string k) (.string s)).run P w=.ok () w')(hK:wpList P ops Q rest a w'):wpList P ops Q (o :: rest) a w :=
 wpList_plain hg fun _ hK'=>aeV hd PI hm hx hv rU (hK' _ _ hK)
theorem alp{P:Program}{md:Region.Mode}{ops:Array Oper}{Q:Exit->Act->World->Prop}{S:World->Prop}{fuel:Nat}{listed:Array Bool}{a:Act}{w:World}(h:∀A,A=a->wpAnyH P md ops Q S fuel listed A w):wpAnyH P md ops Q S fuel listed a w:=h a rfl
theorem put_comm(a:Act){i j:Nat}(h:i≠j)(u v:Value):(a.put (some i) u).put (some j) v=(a.put (some j) v).put (some i) u:=by
 unfold Act.put;show Act.mk _ _=Act.mk _ _
 congr 1
 exact Array.setIfInBounds_comm _ _ h
theorem abh(a:Act){i j:Nat}(h:i≠j)(v:Value):(a.put (some i) v).eval (.tmp j)=a.eval (.tmp j):=by
 show(a.tmps.setIfInBounds i v).getD j undef=a.tmps.getD j undef;simp only[Array.getD_eq_getD_getElem?,Array.getElem?_setIfInBounds_ne h]
theorem aet(a:Act){i:Nat}(h:i<a.tmps.size)(v:Value):(a.put (some i) v).eval (.tmp i)=v:=by
 show(a.tmps.setIfInBounds i v).getD i undef=v;simp[Array.getD_eq_getD_getElem?,h]
theorem size_put(a:Act)(i:Nat)(v:Value):(a.put (some i) v).tmps.size=a.tmps.size:=by
 show(a.tmps.setIfInBounds i v).size=_;simp
open Go.ChangeMaps (setBlock) in
theorem aeN{w:World}{r:Nat}{o:Obj}(hr:w.heap[r]?=some o)(o':Obj):(setBlock w r o').heap[r]?=some o':=by
 have hl:=aj hr;simp[setBlock,hl]
open Go.ChangeMaps (setBlock) in
theorem aew{w:World}{r:Nat}{o:Obj}(_hr:w.heap[r]?=some o)(o':Obj){i:Nat}(h:i≠r):(setBlock w r o').heap[i]?=w.heap[i]?:=by
 simp[setBlock,Array.getElem?_setIfInBounds_ne (Ne.symm h)]
open Go.ChangeMaps (setBlock) in
theorem ae1{a w:World}{r:Nat}{o:Obj}(hr:w.heap[r]?=some o)(hf:Fr ay a w)(hn:a.heap.size<=r)(o':Obj):Fr ay a (setBlock w r o') :=
 ⟨hf.os,hf.tape,hf.output,by simpa[setBlock]using hf.size,fun k hk hS=>(aew hr o' (by omega)).trans (hf.block k hk hS)⟩
def aeO(a:World)(M R:Nat)(es:Array MapEntry)(clock:Nat)(_v:Value)(wr:World):Prop :=
 ∃(seen:Array Nat) (c:Nat),wr.heap[R]?=some (.mapIter (some M) clock seen c)/\wr.heap[M]?=some (.map es clock)/\clock<=c/\Fr ay a wr
theorem afk(a:Act)(f:FuncId)(x0 x1 x2 x3 x4 x5 x6:Operand)(ts:Array TypeId)(ty:TypeId)(dst:Option Tmp)(pos:String)(after:Array Edge)(guard:Option (Nat×Bool))(w:World)(hf:∀args w,(callFunc f args).run Tryz.prog w=.ok (.enter f args) w) :
  (execOp a.eval ⟨dst,.call ⟨.value (.func f), #[x0,x1,x2,x3,x4,x5,x6],ts⟩,ty,pos,after,guard⟩).run Tryz.prog w=.ok (.enter f #[a.eval x0,a.eval x1,a.eval x2,a.eval x3,a.eval x4,a.eval x5,a.eval x6]) w:=by
 go_simp
theorem alu{P G:Nat->World->Prop}{T:Prop}(main:(∀M W,P M W->G M W)->T)(rest:∀M W,P M W->G M W):T:=main rest
def ahw(b19:Bool):Array Bool:= #[false,true,true,false,true,true,false,true,true,false,true,false,true,true,true,true,true,true,true,b19,false,false,false]
theorem alX{P:Program}{ops:Array Oper}{Q:Exit->Act->World->Prop}{S:World->Prop}{A0:Act}{r:Value}(J:Nat->World->Prop){w:World}
  (hr0:Region.ready .any ops (ahw false)=[0,19])(sL:Region.ready .any ops (ahw true)=[0])
  (aiS:∀b3 b6 b9 U4 b19 b20:Bool,(b20=true->b19=true)->0<aeC b3 b6 b9 U4 b19 b20->Region.ready .any ops (afY b3 b6 b9 U4 b19 b20)=rsD b3 b6 b9 U4 b19 b20)
  (ajQ:∀a w (K:Act->World->Prop),K (a.put (some 76) (.map (some w.heap.size))) (w.alloc (.map #[] 0))->wpOp P ops Q 0 K a w)
  (hJ0:∀w,S w->J w.heap.size (w.alloc (.map #[] 0)))
  (aff:∀M i,i=3\/i=6\/i=9\/i=11->∀a,a=A0.put (some 76) (.map (some M))\/a=(A0.put (some 76) (.map (some M))).put (some 91) r->∀w K,J M w->(∀w',J M w'->K a w')->wpOp P ops Q i K a w)
  (cF:∀M w K,J M w->(∀w',J M w'->K ((A0.put (some 76) (.map (some M))).put (some 91) r) w')->wpOp P ops Q 19 K (A0.put (some 76) (.map (some M))) w)
  (alv:∀w K,S w->(∀w',S w'->K (A0.put (some 91) r) w')->wpOp P ops Q 19 K A0 w)
  (h20:∀M w K,J M w->(∀w',J M w'->K ((A0.put (some 76) (.map (some M))).put (some 91) r) w')->wpOp P ops Q 20 K ((A0.put (some 76) (.map (some M))).put (some 91) r) w)
  (hJS:∀M w,J M w->S w)
  (uO:∀M w,J M w->wpAnyH P .any ops Q S 2 (afY true true true true true true) ((A0.put (some 76) (.map (some M))).put (some 91) r) w)(hw:S w):wpAnyH P .any ops Q S 9 (ahw false) A0 w:=by
 have FAM:=fun M=>alW (S:=S) (A:=A0.put (some 76) (.map (some M))) (B:=(A0.put (some 76) (.map (some M))).put (some 91) r) (J M) aiS (aff M) (cF M) (h20 M) (hJS M) (uO M);refine wpAnyH_all (fuel:=8) hr0 (by simp) (fun i hi=>?_);simp only[List.mem_cons,List.not_mem_nil,or_false]at hi;rcases hi with rfl|rfl
 ·exact ajQ A0 w _ ⟨hJS _ _ (hJ0 w hw),FAM w.heap.size 6 false false false false false false _ (by simp) rfl (hJ0 w hw)⟩
 ·refine alv w _ hw (fun w' hw'=>⟨hw',wpAnyH_all (fuel:=7) sL (by simp) (fun i hi=>?_)⟩);simp only[List.mem_cons,List.not_mem_nil,or_false]at hi;subst hi;refine ajQ _ w' _ ⟨hJS _ _ (hJ0 w' hw'),?_⟩;rw[put_comm A0 (by decide:(91:Nat)≠76)];exact FAM w'.heap.size 5 false false false false true false _ (by simp) rfl (hJ0 w' hw')
def aeD(user ar aE target rsp bU cnt aB aK:ByteArray):List (ByteArray×ByteArray) :=
 [(bA I_,user),(bA pH,ar),(bA pI,aE),(bA TS,target),(bA I',rsp)] ++
  ((if bU.size=0 then []else [(bA Dt,bU),(bA nNc,cnt),(bA xd,aB)])++(if aK.size=0 then []else [(bA gP,aK)]))
theorem aiF(user ar aE target rsp bU cnt aB aK:ByteArray):(aeD user ar aE target rsp bU cnt aB aK).length<1000:=by
 unfold aeD;split<;>split<;>simp
theorem abo(s:ByteArray):s.data.toList.isEmpty=(s.size==0):=by
 cases h:s.data.toList.isEmpty
 ·have:s.data.toList≠ []:=fun e=>by rw[e]at h;cases h
  have h2:s.data.toList.length≠0:=fun e=>this (List.length_eq_zero_iff.1 e);have h3:s.size=s.data.toList.length:=(Array.length_toList (xs:=s.data)).symm;exact(beq_eq_false_iff_ne.2 (by rw[h3];exact h2)).symm
 ·have:s.data.toList=[]:=List.isEmpty_iff.1 h;have h3:s.size=s.data.toList.length:=(Array.length_toList (xs:=s.data)).symm;rw[h3,this];rfl
theorem aiK(cH:Int)(aK:ByteArray)(x:je):∀p∈aeD x.user x.ar x.aE x.target (js x) x.bU (bA (ez x.n)) x.aB aK,eZ (tP cH aK x).vq.params p.1.data.toList=some p.2.data.toList:=by
 intro p hp;obtain⟨g1,g2,g3,g4,g5,_,g7,g8,g9,g10,_⟩:=(tP cH aK x).get;have e1:(tP cH aK x).bU.isEmpty=(x.bU.size==0):=abo x.bU;have e2:(tP cH aK x).aK.isEmpty=(aK.size==0):=abo aK;rw[e1]at g7 g8 g9;rw[e2]at g10;unfold aeD at hp;simp only[List.mem_append,List.mem_cons,List.not_mem_nil,or_false]at hp;rcases hp with (rfl|rfl|rfl|rfl|rfl)|hp|hp
 ·exact g1
 ·exact g2
 ·exact g3
 ·exact g4
 ·exact g5
 ·by_cases hq:x.bU.size=0
  ·rw[if_pos hq]at hp;cases hp
  ·rw[if_neg hq]at hp;have hb:(x.bU.size==0)=false:=beq_eq_false_iff_ne.2 hq;rw[hb]at g7 g8 g9;simp only[List.mem_cons,List.not_mem_nil,or_false]at hp;rcases hp with rfl|rfl|rfl
   ·exact g7
   ·rw[cN,cN];exact g8
   ·exact g9
 ·by_cases hq:aK.size=0
  ·rw[if_pos hq]at hp;cases hp
  ·rw[if_neg hq]at hp;have hb:(aK.size==0)=false:=beq_eq_false_iff_ne.2 hq;rw[hb]at g10;simp only[List.mem_cons,List.not_mem_nil,or_false]at hp;subst hp;exact g10
theorem alw(cH:Int)(aK:ByteArray)(x:je):(eZ (tP cH aK x).vq.params nNc).isSome=!(x.bU.size==0):=by
 obtain⟨_,_,_,_,_,_,_,g8,_⟩:=(tP cH aK x).get;have e1:(tP cH aK x).bU.isEmpty=(x.bU.size==0):=abo x.bU;rw[e1]at g8;rw[g8];cases(x.bU.size==0)<;>rfl
theorem ahg(user ar aE target rsp bU cnt aB aK:ByteArray)(h1:user.size<=5000)(h2:ar.size<=5000)(h3:aE.size<=5000)(h4:target.size<=5000)(h5:rsp.size<=5000)(h6:bU.size<=5000)(h7:cnt.size<=5000)(h8:aB.size<=5000)(h9:aK.size<=5000) :
  ∀p∈aeD user ar aE target rsp bU cnt aB aK,p.1.size<=100/\p.2.size<=5000:=by
 intro p hp;unfold aeD at hp;simp only[List.mem_append,List.mem_cons,List.not_mem_nil,or_false]at hp;rcases hp with (rfl|rfl|rfl|rfl|rfl)|hp|hp
 ·exact⟨Nat.le_of_ble_eq_true rfl,h1⟩
 ·exact⟨Nat.le_of_ble_eq_true rfl,h2⟩
 ·exact⟨Nat.le_of_ble_eq_true rfl,h3⟩
 ·exact⟨Nat.le_of_ble_eq_true rfl,h4⟩
 ·exact⟨Nat.le_of_ble_eq_true rfl,h5⟩
 ·split at hp
  ·cases hp
  ·simp only[List.mem_cons,List.not_mem_nil,or_false]at hp;rcases hp with rfl|rfl|rfl
   ·exact⟨Nat.le_of_ble_eq_true rfl,h6⟩
   ·exact⟨Nat.le_of_ble_eq_true rfl,h7⟩
   ·exact⟨Nat.le_of_ble_eq_true rfl,h8⟩
 ·split at hp
  ·cases hp
  ·simp only[List.mem_cons,List.not_mem_nil,or_false]at hp;subst hp;exact⟨Nat.le_of_ble_eq_true rfl,h9⟩
open Go.ChangeMaps (setBlock)
theorem afa(r:cQ Value)(a:cQ aF)(user pass method target body aB:ByteArray)(n:Int)(z2:method.size<=140737488351232)(z3:target.size<=140737488351232)(aaw:body.size<=140737488351232)(z4:aB.size<=140737488351232)
  (w:World)(sO:r.Reads (ae0 w) a/\a.Ft/\(Lit.int .i64 a.scheme).wf=true)(vD:user.size<=reachBytes/\pass.size<=reachBytes)(ht:kX w)(hs:kZ w)(Gs:iu w 9 .u8 Gr) :
  Calls Tryz.prog 13 #[.agg r.cells.toArray,.agg #[.string user,.string pass],.string method,.string target,.string body,.string aB,.int .i64 n] w fun e w'=>e=.returned (.bool true)/\Below w.heap.size w w':=by
 obtain⟨⟨e0,e1,e2,e3,e4,e5,e6,u_⟩,⟨y1,y2,y3,y5,y7⟩,y8⟩:=sO;have bG:r.dom.oneCell'=true:=by obtain⟨a',c',h⟩:=cX.form u_;rw[h];rfl
 have x1:r.ar.size<=140737488351232:=by rw[e1];exact y1
 have x2:r.aE.size<=140737488351232:=by rw[e2];exact y2
 have x3:r.aK.size<=140737488351232:=by rw[e3];exact y3
 have x5:r.bU.size<=140737488351232:=by rw[e5];exact y5
 have x6:user.size<=140737488351232:=vD.1;have x7:pass.size<=140737488351232:=vD.2;clear e0 e1 e2 e3 e4 e5 e6 u_ y1 y2 y3 y5 y7 y8 vD;obtain⟨cH,ar,aE,aK,aL,bU,aX,dom⟩:=r;simp only at bG x1 x2 x3 x5
 show Calls Tryz.prog 13 #[.agg #[.int .i64 cH,.string ar,.string aE,.string aK,.bool aL,.string bU,.bool aX,dom],.agg #[.string user,.string pass],.string method,.string target,.string body,.string aB,.int .i64 n] w _;obtain⟨wb,eQ⟩:∃wb,wb=(w.alloc (.cells #[.int .i64 cH,.string ar,.string aE,.string aK,.bool aL,.string bU,.bool aX,dom] 47)).alloc (.cells #[.string user,.string pass] 31):=⟨_,rfl⟩
 have fa:Fr ay w wb:=by rw[eQ];exact((Fr.refl ay w).alloc _).alloc _
 have hsb:wb.heap.size=w.heap.size+2:=by rw[eQ];simp
 have gZ:wb.heap[w.heap.size]?=some (.cells #[.int .i64 cH,.string ar,.string aE,.string aK,.bool aL,.string bU,.bool aX,dom] 47 (0,0)):=by rw[eQ];exact((Fr.refl ay _).alloc _).keep (af _ _) (fun h=>h)
 have ng:wb.heap[w.heap.size+1]?=some (.cells #[.string user,.string pass] 31 (0,0)):=by
  have h:=af (w.alloc (.cells #[.int .i64 cH,.string ar,.string aE,.string aK,.bool aL,.string bU,.bool aX,dom] 47)) (.cells #[.string user,.string pass] 31);rw[World.size_alloc]at h;rw[eQ];exact h
 have HC:=O (show∀U,Fr ay wb U->(U.cell? ⟨w.heap.size,0,none⟩=some (.int .i64 cH)/\U.cell? ⟨w.heap.size,1,none⟩=some (.string ar)/\U.cell? ⟨w.heap.size,2,none⟩=some (.string aE)/\U.cell? ⟨w.heap.size,3,none⟩=some (.string aK)/\U.cell? ⟨w.heap.size,4,none⟩=some (.bool aL)/\U.cell? ⟨w.heap.size,5,none⟩=some (.string bU)/\U.cell? ⟨w.heap.size,6,none⟩=some (.bool aX)/\U.cell? ⟨w.heap.size,7,none⟩=some dom)/\U.cell? ⟨w.heap.size+1,0,none⟩=some (.string user)/\U.cell? ⟨w.heap.size+1,1,none⟩=some (.string pass)from fun U hU=>by
  have j1:=hU.keep gZ (fun h=>h);have j2:=hU.keep ng (fun h=>h);exact⟨by simp[World.cell?,j1],by simp[World.cell?,j2]⟩)
 have HT:=O (And.intro (ht.fr fa) (And.intro (hs.fr fa) (Gs.fr fa)));have gS:=O fa;have lq:=O eQ;clear ht hs Gs fa eQ gZ ng;go_enter Tryz.func13,Tryz.ntmps13;go_wp2_with fail
 rw[<-lq.out];refine(agX wb HT.out.1 HT.out.2.2).mono ?_;rintro e u1⟨rfl,bt⟩;go_wp2_with fail
 refine(ah5 u1).mono ?_;rintro e u2⟨rfl,bq⟩;go_wp2_with fail
 refine(ag9 u2).mono ?_;rintro e u3⟨rfl,dv⟩;have hf:=(bt.trans bq).trans dv;have gV:=O hf;obtain⟨⟨c0,c1,c2,c3,c4,c5,c6,c7⟩,d0,d1⟩:=HC.out u3 hf;have HSM:=O (ah1 ⟨cH,ar,aE,aK,aL,bU,aX,dom⟩ user pass u3.heap.size 0 4 [method,target,body,aB] (u3.alloc (.cells #[.string method,.string target,.string body,.string aB] 9)) bG x1 x2 x3 x5 x6 x7 (by simp)
  (fun j x hj=>by
   have h:=af u3 (.cells ([method,target,body,aB].map Value.string).toArray 9);show(u3.alloc (.cells ([method,target,body,aB].map Value.string).toArray 9)).cell? ⟨u3.heap.size,0+j,none⟩=_;rw[Nat.zero_add];have e:([method,target,body,aB].map Value.string)[j]?=some (.string x):=by rw[List.getElem?_map,hj];rfl
   simp only[World.cell?,h];simpa using e) (Nat.le_of_ble_eq_true rfl) (fun s hs=>by
   simp only[List.mem_cons,List.not_mem_nil,or_false]at hs;rcases hs with rfl|rfl|rfl|rfl<;>assumption))
 have HSZ:=O (show aeQ ar aE aK bU user pass+abm [method,target,body,aB]<=500->ar.size+aE.size+aK.size+bU.size+user.size+pass.size+method.size+target.size+body.size+aB.size<=500 from fun h=>by
  simp[aeQ,abm]at h;omega)
 clear hf bt bq dv;go_wp2_with fail
 refine HSM.out.mono ?_;rintro e v1⟨rfl,Ko⟩;have dk:=O (gV.out.trans (((Fr.refl ay u3).alloc _).trans Ko));clear HSM Ko c0 c1 c2 c3 c4 c5 c6 c7 d0 d1;by_cases kz:aeQ ar aE aK bU user pass+abm [method,target,body,aB]<=500
 ·have Ue:=HSZ.out kz;rw[decide_eq_true kz];clear kz HSZ x1 x2 x3 x5 x6 x7 z2 z3 aaw z4;obtain⟨⟨c0,c1,c2,c3,c4,c5,c6,c7⟩,d0,d1⟩:=HC.out v1 dk.out;obtain⟨x,hx⟩:∃x:je,x=⟨decide (cH=3),aL,ar,aE,bU,user,pass,method,target,body,aB,n.toNat⟩:=⟨_,rfl⟩
  have ai2:=agW cH ar aE aK bU user pass method target body aB aL aX dom n v1 bG (by omega) (by omega) (by omega) (by omega) (by omega) (by omega) (by omega) (by omega) (by omega) (HT.out.2.2.fr dk.out) (PN cH v1 (HT.out.1.fr dk.out) (HT.out.2.1.fr dk.out));rw[<-hx]at ai2;have aly:=O ai2;have HX:=O hx;clear ai2 hx;go_wp2_with fail
  refine aly.out.mono ?_;rintro e v2⟨wG,hm⟩;have dV:=O (dk.out.trans wG);clear c0 c1 c2 c3 c4 c5 c6 c7 d0 d1 wG aly;rcases hm with ⟨t,v,rfl⟩|⟨FQ,CV,SW,rfl⟩
  ·go_wp2;go_ret;exact⟨rfl,(gS.out.trans dV.out).bQ⟩
  ·have hlen:(tP cH aK x).text.length<=3000:=by
    refine alo FQ.fair (by have:=yd x;exact this) (by show(ez _).length<=8;unfold ez;rw[jd];exact Nat.le_refl _) ?_;rw[HX.out];show user.size+ar.size+aE.size+target.size+bU.size+aB.size+aK.size<=500;omega
   have ai3:=afE FQ hlen;have akd:=LF ai3;have uI:=O (akd _ (List.mem_cons_self ..));clear akd;have hz:(bA (tP cH aK x).text).size<=140737488351232:=by show(tP cH aK x).text.length<=_;omega
   have HP:=O (fun U=>afO (w:=U) hz (by rw[cN];exact ai3));have hxn:x.n=n.toNat:=by rw[HX.out]
   rw[hxn]at CV SW;clear hxn;have WG:x.Small:=by
    rw[HX.out];exact⟨by show ar.size<=5000;omega,by show aE.size<=5000;omega,by show bU.size<=5000;omega,by show user.size<=5000;omega,by show pass.size<=5000;omega,by show method.size<=5000;omega,by show target.size<=5000;omega,by show body.size<=5000;omega,by show aB.size<=5000;omega,by show n.toNat<4294967296;omega⟩
   obtain⟨cnt,ahx⟩:∃c,c=bA (ez n.toNat):=⟨_,rfl⟩;obtain⟨rsp,ahy⟩:∃r,r=js x:=⟨_,rfl⟩;obtain⟨E,hE⟩:∃E,E=aeD user ar aE target rsp bU cnt aB aK:=⟨_,rfl⟩;have ai7:=aiK cH aK x;rw[<-ahy]at ai7;have akf:∀p∈E,eZ (tP cH aK x).vq.params p.1.data.toList=some p.2.data.toList:=by
    rw[hE,ahx];intro p hp;have h:=ai7 p (by rw[HX.out];exact hp);exact h
   have kz:=ahg user ar aE target rsp bU cnt aB aK (by omega) (by omega) (by omega) (by omega) (by rw[ahy];exact Nat.le_trans (yd x) (by decide)) (by omega) (by rw[ahx];show(ez _).length<=_;unfold ez;rw[jd];decide) (by omega) (by omega);rw[<-hE]at kz;have alj:E.length<1000:=by rw[hE];exact aiF ..
   have alz:=alw cH aK x;have ahF:=O akf;have afg:=O kz;have HL9:=O alj;have HEE:=O hE;have HNC:=O (show(eZ (tP cH aK x).vq.params nNc).isSome=!(bU.size==0)by rw[alz,HX.out])
   have HRS:=O (show∀U,Fr ay v2 U->Calls Tryz.prog 46 #[.agg #[.int .i64 cH,.string ar,.string aE,.string aK,.bool aL,.string bU,.bool aX,dom],.agg #[.string user,.string pass],.string method,.string target,.string body,.string aB,.int .i64 n] U (fun e w'=>e=.returned (.string rsp)/\Fr ay U w')from fun U hU=>by
    have h:=tO ⟨cH,ar,aE,aK,aL,bU,aX,dom⟩ x U WG (by rw[HX.out]) (by rw[HX.out]) (by rw[HX.out]) (by rw[HX.out]) (by rw[HX.out]) bG (HT.out.2.2.fr (dV.out.trans hU)) (PN cH U (HT.out.1.fr (dV.out.trans hU)) (HT.out.2.1.fr (dV.out.trans hU)));rw[<-ahy,HX.out]at h;simp only at h;rw[show((n.toNat:Nat):Int)=n from by omega]at h;exact h)
   have HCT:=O (show∀U,Fr ay v2 U->Calls Tryz.prog 47 #[.int .i64 n] U (fun e w'=>e=.returned (.string cnt)/\Fr ay U w')from fun U hU=>by
    have h:=lK n.toNat U (by omega) (HT.out.2.2.fr (dV.out.trans hU));rw[show((n.toNat:Nat):Int)=n from by omega]at h;rw[ahx];exact h)
   clear ai3 hz FQ hlen ai7 akf kz alj alz WG ahx ahy hE CV SW;go_wp2_with fail
   refine(HP.out v2).mono ?_;rintro e v3⟨aax,rc,rfl,XI,wZ⟩;have fu:=O (dV.out.trans wZ);have Pp:=O wZ;clear wZ;obtain⟨bk,of,pv,he,g1,g2,k0,k1,k2,hp⟩:=XI.cells (k:=0) rfl;unfold maxLen at g2;simp only[Nat.zero_mul,Nat.add_zero]at k0 k1 k2;cases he;obtain⟨a1,c1',e1⟩:=hp.form;subst e1;have Ww:bA (tP cH aK x).vq.scheme=⟨#[68,105,103,101,115,116]⟩:=rfl;rw[Ww]at k0
   have HK:=O (show∀U,Fr ay v3 U->U.cell? ⟨bk,of,none⟩=some (.string ⟨#[68,105,103,101,115,116]⟩)/\U.cell? ⟨bk,of+1,none⟩=some (.string (bA (tP cH aK x).vq.token))/\U.cell? ⟨bk,of+2,none⟩=some (.slice a1 (tP cH aK x).vq.params.length c1')from fun U hU=>⟨ae9 k0 hU,ae9 k1 hU,ae9 k2 hU⟩)
   have HGT:=O (show∀U (nm:ByteArray),Fr ay v3 U->nm.size<=100->Calls Tryz.prog 48 #[.agg #[.string ⟨#[68,105,103,101,115,116]⟩,.string (bA (tP cH aK x).vq.token),.slice a1 (tP cH aK x).vq.params.length c1'],.string nm] U (fun e w'=>e=.returned (aag (tP cH aK x).vq.params nm.data.toList)/\Fr ay U w')from fun U nm hU hn=>U2 _ _ _ _ nm U (aN.bu hp hU) ⟨by have:=uI.out.xc;omega,fun p hq=>by have:=uI.out.tB p hq;omega⟩ (by omega))
   have SV:=O (show∀U,Fr ay v3 U->(fun U=>(U.cell? ⟨w.heap.size,0,none⟩=some (.int .i64 cH)/\U.cell? ⟨w.heap.size,1,none⟩=some (.string ar)/\U.cell? ⟨w.heap.size,2,none⟩=some (.string aE)/\U.cell? ⟨w.heap.size,3,none⟩=some (.string aK)/\U.cell? ⟨w.heap.size,4,none⟩=some (.bool aL)/\U.cell? ⟨w.heap.size,5,none⟩=some (.string bU)/\U.cell? ⟨w.heap.size,6,none⟩=some (.bool aX)/\U.cell? ⟨w.heap.size,7,none⟩=some dom)/\U.cell? ⟨w.heap.size+1,0,none⟩=some (.string user)/\U.cell? ⟨w.heap.size+1,1,none⟩=some (.string pass)) U from fun U hU=>HC.out U (fu.out.trans hU))
   generalize (tP cH aK x).vq.token=tok at *
   generalize (tP cH aK x).vq.params=ps at *
   clear k1 k2 hp Ww HP;go_wp2_with fail
   obtain⟨aay,hJJ⟩:∃J:Nat->World->Prop,J=fun M U=>v3.heap.size<=M/\abn U M E/\Fr ay v3 U:=⟨_,rfl⟩;have HJJ:=O hJJ;have jn:=O (show∀M U k s,(k,s)∈E->aay M U->∃U',(Instr.mapUpdate 90 (.map (some M)) (.string k) (.string s)).run Tryz.prog U=.ok () U'/\aay M U' from fun M U k s hm hj=>by
    rw[HJJ.out]at hj ⊢;obtain⟨j1,j2,j3⟩:=hj;obtain⟨U',h1,h2,h3⟩:=j2.store 90 Tryz.underlying90 HL9.out hm (by have:=(afg.out _ hm).1;simp only at this;unfold maxLen;omega) (by have:=(afg.out _ hm).2;simp only at this;unfold maxLen;omega);exact⟨U',h1,j1,h2,j3.cK h3 (fun k hk=>by cases hk;exact j1)⟩)
   have HJF:=O (show∀M U U',aay M U->Fr ay U U'->aay M U' from fun M U U' hj hf=>by
    rw[HJJ.out]at hj ⊢;exact⟨hj.1,hj.2.1.bd hf,hj.2.2.trans hf⟩)
   have HJR:=O (show∀M U,aay M U->Fr ay v3 U from fun M U hj=>by rw[HJJ.out]at hj;exact hj.2.2);have HJM:=O (show∀M U,aay M U->abn U M E from fun M U hj=>by rw[HJJ.out]at hj;exact hj.2.1);have HJ0:=O (show∀U,Fr ay v3 U->aay U.heap.size (U.alloc (.map #[] 0))from fun U hf=>by
    rw[HJJ.out];exact⟨hf.size,abn.made U E,hf.alloc _⟩)
   have HE5:=O (show(⟨#[117,115,101,114,110,97,109,101]⟩,user)∈E/\(⟨#[114,101,97,108,109]⟩,ar)∈E/\(⟨#[110,111,110,99,101]⟩,aE)∈E/\(⟨#[117,114,105]⟩,target)∈E/\(⟨#[114,101,115,112,111,110,115,101]⟩,rsp)∈E from by
    rw[HEE.out];unfold aeD
    exact⟨List.mem_append_left _ (List.Mem.head _),List.mem_append_left _ (List.Mem.tail _ (List.Mem.head _)),List.mem_append_left _ (List.Mem.tail _ (List.Mem.tail _ (List.Mem.head _))),List.mem_append_left _ (List.Mem.tail _ (List.Mem.tail _ (List.Mem.tail _ (List.Mem.head _)))),List.mem_append_left _ (List.Mem.tail _ (List.Mem.tail _ (List.Mem.tail _ (List.Mem.tail _ (List.Mem.head _)))))⟩)
   have HE3:=O (show¬bU.size=0->(⟨#[113,111,112]⟩,bU)∈E/\(⟨#[110,99]⟩,cnt)∈E/\(⟨#[99,110,111,110,99,101]⟩,aB)∈E from fun hq=>by
    rw[HEE.out];unfold aeD;rw[if_neg hq];exact⟨List.mem_append_right _ (List.mem_append_left _ (List.Mem.head _)),List.mem_append_right _ (List.mem_append_left _ (List.Mem.tail _ (List.Mem.head _))),List.mem_append_right _ (List.mem_append_left _ (List.Mem.tail _ (List.Mem.tail _ (List.Mem.head _))))⟩)
   have HE1:=O (show¬aK.size=0->(⟨#[111,112,97,113,117,101]⟩,aK)∈E from fun hq=>by
    rw[HEE.out];unfold aeD;rw[if_neg hq];exact List.mem_append_right _ (List.mem_append_right _ (List.Mem.head _)))
   clear hJJ k0;apply alu (P:=aay)
   ·intro hJ;have HJ:=O hJ;clear hJ
    refine wp_region_held_drew (S:=(fun U=>((U.cell? ⟨w.heap.size,0,none⟩=some (.int .i64 cH)/\U.cell? ⟨w.heap.size,1,none⟩=some (.string ar)/\U.cell? ⟨w.heap.size,2,none⟩=some (.string aE)/\U.cell? ⟨w.heap.size,3,none⟩=some (.string aK)/\U.cell? ⟨w.heap.size,4,none⟩=some (.bool aL)/\U.cell? ⟨w.heap.size,5,none⟩=some (.string bU)/\U.cell? ⟨w.heap.size,6,none⟩=some (.bool aX)/\U.cell? ⟨w.heap.size,7,none⟩=some dom)/\U.cell? ⟨w.heap.size+1,0,none⟩=some (.string user)/\U.cell? ⟨w.heap.size+1,1,none⟩=some (.string pass))/\Fr ay v3 U)) (by kernel_rfl) (⟨SV.out _ (Fr.drew (Fr.refl ay _)),Fr.drew (Fr.refl ay _)⟩) ?_
    intro cW;refine tk 1 ⟨some 77,_,_,_,_,_⟩ (v:=?_) rfl (by rfl) ?hy ?_
    case hy=>(intro w hSw;(try dsimp only at hSw);go_simp<;>with_reducible rfl)
    try simp only[Act.put,sA,sB,sC]
    refine tk 2 ⟨some 78,_,_,_,_,_⟩ (v:=?_) rfl (by rfl) ?hy ?_
    case hy=>(intro w hSw;(try dsimp only at hSw);go_simp<;>with_reducible rfl)
    try simp only[Act.put,sA,sB,sC]
    refine tk 4 ⟨some 79,_,_,_,_,_⟩ (v:=?_) rfl (by rfl) ?hy ?_
    case hy=>(intro w hSw;(try dsimp only at hSw);go_simp<;>with_reducible rfl)
    try simp only[Act.put,sA,sB,sC]
    refine tk 5 ⟨some 80,_,_,_,_,_⟩ (v:=?_) rfl (by rfl) ?hy ?_
    case hy=>(intro w hSw;(try dsimp only at hSw);go_simp<;>with_reducible rfl)
    try simp only[Act.put,sA,sB,sC]
    refine tk 7 ⟨some 81,_,_,_,_,_⟩ (v:=?_) rfl (by rfl) ?hy ?_
    case hy=>(intro w hSw;(try dsimp only at hSw);go_simp<;>with_reducible rfl)
    try simp only[Act.put,sA,sB,sC]
    refine tk 8 ⟨some 82,_,_,_,_,_⟩ (v:=?_) rfl (by rfl) ?hy ?_
    case hy=>(intro w hSw;(try dsimp only at hSw);go_simp<;>with_reducible rfl)
    try simp only[Act.put,sA,sB,sC]
    refine tk 10 ⟨some 83,_,_,_,_,_⟩ (v:=?_) rfl (by rfl) ?hy ?_
    case hy=>(intro w hSw;(try dsimp only at hSw);go_simp<;>with_reducible rfl)
    try simp only[Act.put,sA,sB,sC]
    refine tk 12 ⟨some 84,_,_,_,_,_⟩ (v:=?_) rfl (by rfl) ?hy ?_
    case hy=>(intro w hSw;(try dsimp only at hSw);go_simp<;>with_reducible rfl)
    try simp only[Act.put,sA,sB,sC]
    refine tk 13 ⟨some 85,_,_,_,_,_⟩ (v:=?_) rfl (by rfl) ?hy ?_
    case hy=>(intro w hSw;(try dsimp only at hSw);go_simp<;>with_reducible rfl)
    try simp only[Act.put,sA,sB,sC]
    refine tk 14 ⟨some 86,_,_,_,_,_⟩ (v:=?_) rfl (by rfl) ?hy ?_
    case hy=>(intro w hSw;(try dsimp only at hSw);go_simp<;>with_reducible rfl)
    try simp only[Act.put,sA,sB,sC]
    refine tk 15 ⟨some 87,_,_,_,_,_⟩ (v:=?_) rfl (by rfl) ?hy ?_
    case hy=>(intro w hSw;(try dsimp only at hSw);go_simp<;>with_reducible rfl)
    try simp only[Act.put,sA,sB,sC]
    refine tk 16 ⟨some 88,_,_,_,_,_⟩ (v:=?_) rfl (by rfl) ?hy ?_
    case hy=>(intro w hSw;(try dsimp only at hSw);go_simp<;>with_reducible rfl)
    try simp only[Act.put,sA,sB,sC]
    refine tk 17 ⟨some 89,_,_,_,_,_⟩ (v:=?_) rfl (by rfl) ?hy ?_
    case hy=>(intro w hSw;(try dsimp only at hSw);go_simp<;>with_reducible rfl)
    try simp only[Act.put,sA,sB,sC]
    refine tk 18 ⟨some 90,_,_,_,_,_⟩ (v:=?_) rfl (by rfl) ?hy ?_
    case hy=>(intro w hSw;(try dsimp only at hSw);go_simp<;>with_reducible rfl)
    try simp only[Act.put,sA,sB,sC]
    refine alp ?_;intro A0 Qz;have v76:76<A0.tmps.size:=by rw[Qz];exact(by decide:76<144)
    have v91:91<A0.tmps.size:=by rw[Qz];exact(by decide:91<144)
    have v78:A0.eval (.tmp 78)=.string user:=by rw[Qz];rfl
    have v80:A0.eval (.tmp 80)=.string ar:=by rw[Qz];rfl
    have v82:A0.eval (.tmp 82)=.string aE:=by rw[Qz];rfl
    have v83:A0.eval (.tmp 83)=.string target:=by rw[Qz];rfl
    have v84:A0.eval (.tmp 84)=.agg #[.int .i64 cH,.string ar,.string aE,.string aK,.bool aL,.string bU,.bool aX,dom]:=by rw[Qz];rfl
    have v85:A0.eval (.tmp 85)=.agg #[.string user,.string pass]:=by rw[Qz];rfl
    have v86:A0.eval (.tmp 86)=.string method:=by rw[Qz];rfl
    have v87:A0.eval (.tmp 87)=.string target:=by rw[Qz];rfl
    have v88:A0.eval (.tmp 88)=.string body:=by rw[Qz];rfl
    have v89:A0.eval (.tmp 89)=.string aB:=by rw[Qz];rfl
    have v90:A0.eval (.tmp 90)=.int .i64 n:=by rw[Qz];rfl
    have HA0:=O Qz;clear Qz;have ev:∀(M:Nat) a,a=A0.put (some 76) (.map (some M))\/a=(A0.put (some 76) (.map (some M))).put (some 91) (.string rsp)->a.eval (.tmp 76)=.map (some M)/\a.eval (.tmp 78)=.string user/\a.eval (.tmp 80)=.string ar/\a.eval (.tmp 82)=.string aE/\a.eval (.tmp 83)=.string target:=by
     rintro M a(rfl|rfl)
     ·exact⟨aet _ v76 _,(abh _ (by decide) _).trans v78,(abh _ (by decide) _).trans v80,(abh _ (by decide) _).trans v82,(abh _ (by decide) _).trans v83⟩
     ·exact⟨(abh _ (by decide) _).trans (aet _ v76 _),(abh _ (by decide) _).trans ((abh _ (by decide) _).trans v78),(abh _ (by decide) _).trans ((abh _ (by decide) _).trans v80),(abh _ (by decide) _).trans ((abh _ (by decide) _).trans v82),(abh _ (by decide) _).trans ((abh _ (by decide) _).trans v83)⟩
    have Jc:=O (show∀U a0 a1 a2 a3 a4 a5 a6,Fr ay v3 U->a0=.agg #[.int .i64 cH,.string ar,.string aE,.string aK,.bool aL,.string bU,.bool aX,dom]->a1=.agg #[.string user,.string pass]->a2=.string method->a3=.string target->a4=.string body->a5=.string aB->a6=.int .i64 n->Calls Tryz.prog 46 #[a0,a1,a2,a3,a4,a5,a6] U (fun e w'=>e=.returned (.string rsp)/\Fr ay U w')from fun U a0 a1 a2 a3 a4 a5 a6 hU h0 h1 h2 h3 h4 h5 h6=>by
     subst h0 h1 h2 h3 h4 h5 h6;exact HRS.out U (Pp.out.trans hU))
    refine alX (r:=.string rsp) aay (by kernel_rfl) (by kernel_rfl) (fun b3 b6 b9 U4 b19 b20 hv hl=>?_) (fun a U K hK=>?_) (fun U hS=>HJ0.out U hS.2) (fun M i hi a ha U K hj hK=>?_) (fun M U K hj hK=>?_) (fun U K hS hK=>?_) (fun M U K hj hK=>?_) (fun M U hj=>⟨SV.out U (HJR.out M U hj),HJR.out M U hj⟩) (fun M U hj=>?_) cW
    ·cases b3<;>cases b6<;>cases b9<;>cases U4<;>cases b19<;>cases b20<;>first|exact absurd hl (by decide)|exact absurd (hv rfl) (by decide)|kernel_rfl
    ·exact wpOp_step rfl (fun aar h=>by
      rw[if_pos (by simp[Region.wanted])];unfold Oper.wp;simp[execOp,run_makeMap,Result.andThen];exact h _ _ hK)
    ·obtain⟨e76,e78,e80,e82,e83⟩:=ev M a ha;rcases hi with rfl|rfl|rfl|rfl
     ·obtain⟨U',hr,Wz⟩:=jn.out M U _ _ HE5.out.1 hj;exact abu (o:=⟨none,.insert 90 (.tmp 76) (.const (.string ⟨#[117,115,101,114,110,97,109,101]⟩)) (.tmp 78),_,_,_,_⟩) rfl rfl rfl rfl e76 rfl e78 hr (hK _ Wz)
     ·obtain⟨U',hr,Wz⟩:=jn.out M U _ _ HE5.out.2.1 hj;exact abu (o:=⟨none,.insert 90 (.tmp 76) (.const (.string ⟨#[114,101,97,108,109]⟩)) (.tmp 80),_,_,_,_⟩) rfl rfl rfl rfl e76 rfl e80 hr (hK _ Wz)
     ·obtain⟨U',hr,Wz⟩:=jn.out M U _ _ HE5.out.2.2.1 hj;exact abu (o:=⟨none,.insert 90 (.tmp 76) (.const (.string ⟨#[110,111,110,99,101]⟩)) (.tmp 82),_,_,_,_⟩) rfl rfl rfl rfl e76 rfl e82 hr (hK _ Wz)
     ·obtain⟨U',hr,Wz⟩:=jn.out M U _ _ HE5.out.2.2.2.1 hj;exact abu (o:=⟨none,.insert 90 (.tmp 76) (.const (.string ⟨#[117,114,105]⟩)) (.tmp 83),_,_,_,_⟩) rfl rfl rfl rfl e76 rfl e83 hr (hK _ Wz)
    ·refine wpOp_step (o:=⟨some 91,_,_,_,_,_⟩) rfl (fun aar h=>?_)
     refine uS rfl 46 #[(A0.put (some 76) (.map (some M))).eval (.tmp 84),(A0.put (some 76) (.map (some M))).eval (.tmp 85),(A0.put (some 76) (.map (some M))).eval (.tmp 86),(A0.put (some 76) (.map (some M))).eval (.tmp 87),(A0.put (some 76) (.map (some M))).eval (.tmp 88),(A0.put (some 76) (.map (some M))).eval (.tmp 89),(A0.put (some 76) (.map (some M))).eval (.tmp 90)] (afk _ _ _ _ _ _ _ _ _ _ _ _ _ _ _ _ Tryz.call46) (Jc.out U _ _ _ _ _ _ _ (HJR.out M U hj) ((abh _ (by decide) _).trans v84) ((abh _ (by decide) _).trans v85) ((abh _ (by decide) _).trans v86) ((abh _ (by decide) _).trans v87) ((abh _ (by decide) _).trans v88) ((abh _ (by decide) _).trans v89) ((abh _ (by decide) _).trans v90)) (fun e w' hh=>?_)
     obtain⟨rfl,hf⟩:=hh;exact⟨_,rfl,h _ _ (hK w' (HJF.out M U w' hj hf))⟩
    ·refine wpOp_step (o:=⟨some 91,_,_,_,_,_⟩) rfl (fun aar h=>?_);refine uS rfl 46 #[A0.eval (.tmp 84),A0.eval (.tmp 85),A0.eval (.tmp 86),A0.eval (.tmp 87),A0.eval (.tmp 88),A0.eval (.tmp 89),A0.eval (.tmp 90)] (afk _ _ _ _ _ _ _ _ _ _ _ _ _ _ _ _ Tryz.call46) (Jc.out U _ _ _ _ _ _ _ hS.2 v84 v85 v86 v87 v88 v89 v90) (fun e w' hh=>?_);obtain⟨rfl,hf⟩:=hh
     exact⟨_,rfl,h _ _ (hK w' ⟨SV.out w' (hS.2.trans hf),hS.2.trans hf⟩)⟩
    ·obtain⟨e76,_⟩:=ev M _ (Or.inr rfl);have e91:((A0.put (some 76) (.map (some M))).put (some 91) (.string rsp)).eval (.tmp 91)=.string rsp:=aet _ (by rw[size_put];exact v91) _;obtain⟨U',hr,Wz⟩:=jn.out M U _ _ HE5.out.2.2.2.2 hj;exact abu (o:=⟨none,.insert 90 (.tmp 76) (.const (.string ⟨#[114,101,115,112,111,110,115,101]⟩)) (.tmp 91),_,_,_,_⟩) rfl rfl rfl rfl e76 rfl e91 hr (hK _ Wz)
    ·obtain⟨e76,_⟩:=ev M _ (Or.inr rfl);refine wpAnyH_take (i:=21) (oi:=⟨some 92,_,_,_,_,_⟩) (v:=.map (some M)) rfl (by kernel_rfl) (by kernel_rfl) (by kernel_rfl) (fun _ _ _ h=>h) (Or.inl ⟨by rfl,fun w _=>by simp[execOp,e76]⟩) (⟨SV.out U (HJR.out M U hj),HJR.out M U hj⟩) ?_
     have e92:(((A0.put (some 76) (.map (some M))).put (some 91) (.string rsp)).put (some 92) (.map (some M))).eval (.tmp 92)=.map (some M):=aet _ (by rw[size_put,size_put,HA0.out];exact(by decide:92<144)) _
     refine wpAnyH_take (i:=22) (oi:=⟨some 18,_,_,_,_,_⟩) (v:=.map (some M)) rfl (by kernel_rfl) (by kernel_rfl) (by kernel_rfl) (fun _ _ _ h=>h) (Or.inl ⟨by rfl,fun w _=>by simp[execOp,e92]⟩) (⟨SV.out U (HJR.out M U hj),HJR.out M U hj⟩) ?_;refine wpAnyH_done (by kernel_rfl) ?_ _;rw[HA0.out];simp only[Act.put,sA,sB,sC];exact HJ.out M U hj
   ·intro M U hj;have HJ1:=O hj;clear hj;obtain⟨⟨c0,c1,c2,c3,c4,c5,c6,c7⟩,d0,d1⟩:=SV.out U (HJR.out M U HJ1.out);by_cases hq:bU.data.toList.isEmpty=true
    ·have q1:bU.toList=[]:=by rw[ByteArray.toList_eq];exact List.isEmpty_iff.1 hq
     have q2:(bU.toList== [])=true:=by rw[q1];rfl
     have q3:bU.toList.isEmpty=true:=by rw[q1];rfl
     have aaA:=O (show(bU.size==0)=true by rw[<-abo];exact hq);clear hq;by_cases ho:aK.data.toList.isEmpty=true
     ·have o1:aK.toList=[]:=by rw[ByteArray.toList_eq];exact List.isEmpty_iff.1 ho
      have o2:(aK.toList== [])=true:=by rw[o1];rfl
      have o3:aK.toList.isEmpty=true:=by rw[o1];rfl
      clear ho;obtain⟨es,clock,hmb,Gb,aeH⟩:=HJM.out M U HJ1.out;have ae_:=O aeH;have aeI:=O Gb;have hrg:=run_range_map (P:=Tryz.prog) U 90 9 9 M es clock Tryz.underlying90 hmb;obtain⟨R,hR⟩:∃R,R=U.heap.size:=⟨_,rfl⟩;obtain⟨aaB,hUR⟩:∃W,W=U.alloc (.mapIter (some M) clock #[] clock):=⟨_,rfl⟩;rw[<-hR, <-hUR]at hrg;have sy:Fr ay v3 aaB:=by rw[hUR];exact(HJR.out M U HJ1.out).alloc _
      have vr:aaB.heap[R]?=some (.mapIter (some M) clock #[] clock):=by rw[hUR,hR];exact af _ _
      have aeJ:aaB.heap[M]?=some (.map es clock):=by rw[hUR];exact((Fr.refl ay U).alloc _).keep hmb (fun h=>h)
      have HRN:=O (show v3.heap.size<=R by rw[hR];exact(HJR.out M U HJ1.out).size);have HMR:=O (show M≠R by rw[hR];exact Nat.ne_of_lt (aj hmb));have LS:=O (show aeO v3 M R es clock (.string ⟨#[]⟩) aaB from⟨#[],clock,vr,aeJ,Nat.le_refl _,sy⟩);clear hmb vr aeJ sy hR hUR aeH Gb HJM HJF jn HJ0;go_wp2_with fail
      go_loopw[19] (fun _ wr=>aeO v3 M R es clock (.string ⟨#[]⟩) wr) (fun _ wr=>(leftOf es (wr.iterSeen R)).size)
      case atStart=>exact LS.out
      case round =>
       obtain⟨seen,c,vr,hmb,Nk,aW⟩:=hrel;rcases run_next_at (P:=Tryz.prog) wr 0 R M clock c seen es clock vr hmb aeI.out.stamped.1 Nk with ⟨h0,rU⟩|⟨e,he,w1,wI,rU⟩
       ·have kT:∀ty,(Instr.next (.pointer (some ⟨R,0,none⟩)) false ty).run Tryz.prog wr=_:=fun _=>rU;have py:=O aW;obtain⟨k0,k1,k2⟩:=HK.out wr aW;clear rU h0 vr hmb aW;go_wp2_with fail
        refine(HGT.out wr ⟨#[110,99]⟩ py.out (by decide)).mono ?_;rintro e u9⟨rfl,Wi⟩;have hnv:aag ps (⟨#[110,99]⟩:ByteArray).data.toList=.tuple #[.string (bA ((eZ ps nNc).getD [])),.bool false]:=by
         have h:=HNC.out;unfold aag;rw[show(⟨#[110,99]⟩:ByteArray).data.toList=nNc from rfl,h];rw[aaA.out];rfl
        rw[hnv];obtain⟨⟨c0,c1,c2,c3,c4,c5,c6,c7⟩,d0,d1⟩:=SV.out u9 (py.out.trans Wi);have FO:=O (py.out.trans Wi);clear Wi hnv k0 k1 k2 kT;go_wp2_with fail
        go_ret;exact⟨rfl,((gS.out.trans fu.out).trans FO.out).bQ⟩
       ·obtain⟨hem,hes⟩:=mem_left he;obtain⟨p,hpE,gZ,FG⟩:=ae_.out e hem;have kT:∀ty,(Instr.next (.pointer (some ⟨R,0,none⟩)) false ty).run Tryz.prog wr=_:=fun _=>rU;obtain⟨w2,bK⟩:∃w2,w2=setBlock w1 R (.mapIter (some M) clock (seen.push e.born) clock):=⟨_,rfl⟩;have abp:w1.heap[R]?=some (.mapIter (some M) clock seen c):=by rcases wI with rfl|rfl<;>exact vr
        have aeK:w1.heap[M]?=some (.map es clock):=by rcases wI with rfl|rfl<;>exact hmb
        have aeL:Fr ay v3 w1:=by rcases wI with rfl|rfl;exact aW;exact aW.drew
        have aeu:w2.heap[R]?=some (.mapIter (some M) clock (seen.push e.born) clock):=by rw[bK];exact aeN abp _
        have aev:w2.heap[M]?=some (.map es clock):=by rw[bK];exact(aew abp _ HMR.out).trans aeK
        have fe:Fr ay v3 w2:=by rw[bK];exact ae1 abp aeL HRN.out _
        have hen:=run_entry_at (P:=Tryz.prog) w2 R M clock seen es clock e aeu aev hem aeI.out.stamped.2.1;rw[<-bK]at kT;rw[gZ,FG]at kT hen;have HG:=O (HGT.out w2 p.1 fe (afg.out p hpE).1);have hgv:aag ps p.1.data.toList=.tuple #[.string p.2,.bool true]:=by
         unfold aag;rw[ahF.out p hpE];show Value.tuple #[.string (bA p.2.data.toList),.bool true]=_;rw[NA]
        rw[hgv]at HG;obtain⟨k0,k1,k2⟩:=HK.out w2 fe;have mj:=O aeu;have HM2:=O aev;have dk:=O fe;have HMS:=O (show(leftOf es (seen.push e.born)).size<(leftOf es (wr.iterSeen R)).size by
         have h:wr.iterSeen R=seen:=by unfold World.iterSeen;rw[vr]
         rw[h];exact left_shrinks es seen e he)
        obtain⟨aaC,hpk⟩:∃x,x=p.1:=⟨_,rfl⟩;obtain⟨aaG,ml⟩:∃x,x=p.2:=⟨_,rfl⟩;rw[<-hpk, <-ml]at kT hen HG;clear rU vr hmb aW abp aeK aeL aeu aev fe bK wI gZ FG hgv hpk ml he hem hes hpE;go_wp2_with fail
        refine HG.out.mono ?_;rintro aaH u8⟨rfl,hu8⟩;have HB8:=O (hu8.keep mj.out (fun h=>h));have HM8:=O (hu8.keep HM2.out (fun h=>h));have KI:=O (dk.out.trans hu8);clear hu8 k0 k1 k2 kT hen;go_wp2_with fail
        go_roundw
        case rel=>exact⟨_,_,HB8.out,HM8.out,Nat.le_refl _,KI.out⟩
        case measure =>
         have h:u8.iterSeen R=seen.push e.born:=by unfold World.iterSeen;rw[HB8.out]
         rw[h];exact HMS.out
     ·have FJ:aK.data.toList.isEmpty=false:=by simpa using ho
      have o1:¬aK.toList=[]:=by rw[ByteArray.toList_eq];intro h;rw[h]at FJ;cases FJ
      have o2:(aK.toList== [])=false:=beq_eq_false_iff_ne.2 o1;have o3:aK.toList.isEmpty=false:=by rw[ByteArray.toList_eq];exact FJ
      obtain⟨aaI,hr,hj5⟩:=jn.out M U _ _ (HE1.out (fun h=>by have g:=abo aK;rw[h,FJ]at g;cases g)) HJ1.out;have HJV:=O hj5;clear ho FJ hj5;obtain⟨es,clock,hmb,Gb,aeH⟩:=HJM.out M aaI HJV.out;have ae_:=O aeH;have aeI:=O Gb;have hrg:=run_range_map (P:=Tryz.prog) aaI 90 9 9 M es clock Tryz.underlying90 hmb;obtain⟨R,hR⟩:∃R,R=aaI.heap.size:=⟨_,rfl⟩
      obtain⟨aaB,hUR⟩:∃W,W=aaI.alloc (.mapIter (some M) clock #[] clock):=⟨_,rfl⟩;rw[<-hR, <-hUR]at hrg;have sy:Fr ay v3 aaB:=by rw[hUR];exact(HJR.out M aaI HJV.out).alloc _
      have vr:aaB.heap[R]?=some (.mapIter (some M) clock #[] clock):=by rw[hUR,hR];exact af _ _
      have aeJ:aaB.heap[M]?=some (.map es clock):=by rw[hUR];exact((Fr.refl ay aaI).alloc _).keep hmb (fun h=>h)
      have HRN:=O (show v3.heap.size<=R by rw[hR];exact(HJR.out M aaI HJV.out).size);have HMR:=O (show M≠R by rw[hR];exact Nat.ne_of_lt (aj hmb));have LS:=O (show aeO v3 M R es clock (.string ⟨#[]⟩) aaB from⟨#[],clock,vr,aeJ,Nat.le_refl _,sy⟩);clear hmb vr aeJ sy hR hUR aeH Gb HJM HJF jn HJ0
      go_wp2_with (first|(at_mapUpdate;go_must(refine wpList_mapUpdate_in (t:=90) (m:=.tmp 107) (x:=.const (.string ⟨#[111,112,97,113,117,101]⟩)) (v:=.tmp 109) rfl rfl rfl rfl rfl rfl hr ?_))|fail)
      go_loopw[19] (fun _ wr=>aeO v3 M R es clock (.string ⟨#[]⟩) wr) (fun _ wr=>(leftOf es (wr.iterSeen R)).size)
      case atStart=>exact LS.out
      case round =>
       obtain⟨seen,c,vr,hmb,Nk,aW⟩:=hrel;rcases run_next_at (P:=Tryz.prog) wr 0 R M clock c seen es clock vr hmb aeI.out.stamped.1 Nk with ⟨h0,rU⟩|⟨e,he,w1,wI,rU⟩
       ·have kT:∀ty,(Instr.next (.pointer (some ⟨R,0,none⟩)) false ty).run Tryz.prog wr=_:=fun _=>rU;have py:=O aW;obtain⟨k0,k1,k2⟩:=HK.out wr aW;clear rU h0 vr hmb aW;go_wp2_with fail
        refine(HGT.out wr ⟨#[110,99]⟩ py.out (by decide)).mono ?_;rintro e u9⟨rfl,Wi⟩;have hnv:aag ps (⟨#[110,99]⟩:ByteArray).data.toList=.tuple #[.string (bA ((eZ ps nNc).getD [])),.bool false]:=by
         have h:=HNC.out;unfold aag;rw[show(⟨#[110,99]⟩:ByteArray).data.toList=nNc from rfl,h];rw[aaA.out];rfl
        rw[hnv];obtain⟨⟨c0,c1,c2,c3,c4,c5,c6,c7⟩,d0,d1⟩:=SV.out u9 (py.out.trans Wi);have FO:=O (py.out.trans Wi);clear Wi hnv k0 k1 k2 kT;go_wp2_with fail
        go_ret;exact⟨rfl,((gS.out.trans fu.out).trans FO.out).bQ⟩
       ·obtain⟨hem,hes⟩:=mem_left he;obtain⟨p,hpE,gZ,FG⟩:=ae_.out e hem;have kT:∀ty,(Instr.next (.pointer (some ⟨R,0,none⟩)) false ty).run Tryz.prog wr=_:=fun _=>rU;obtain⟨w2,bK⟩:∃w2,w2=setBlock w1 R (.mapIter (some M) clock (seen.push e.born) clock):=⟨_,rfl⟩;have abp:w1.heap[R]?=some (.mapIter (some M) clock seen c):=by rcases wI with rfl|rfl<;>exact vr
        have aeK:w1.heap[M]?=some (.map es clock):=by rcases wI with rfl|rfl<;>exact hmb
        have aeL:Fr ay v3 w1:=by rcases wI with rfl|rfl;exact aW;exact aW.drew
        have aeu:w2.heap[R]?=some (.mapIter (some M) clock (seen.push e.born) clock):=by rw[bK];exact aeN abp _
        have aev:w2.heap[M]?=some (.map es clock):=by rw[bK];exact(aew abp _ HMR.out).trans aeK
        have fe:Fr ay v3 w2:=by rw[bK];exact ae1 abp aeL HRN.out _
        have hen:=run_entry_at (P:=Tryz.prog) w2 R M clock seen es clock e aeu aev hem aeI.out.stamped.2.1;rw[<-bK]at kT;rw[gZ,FG]at kT hen;have HG:=O (HGT.out w2 p.1 fe (afg.out p hpE).1);have hgv:aag ps p.1.data.toList=.tuple #[.string p.2,.bool true]:=by
         unfold aag;rw[ahF.out p hpE];show Value.tuple #[.string (bA p.2.data.toList),.bool true]=_;rw[NA]
        rw[hgv]at HG;obtain⟨k0,k1,k2⟩:=HK.out w2 fe;have mj:=O aeu;have HM2:=O aev;have dk:=O fe;have HMS:=O (show(leftOf es (seen.push e.born)).size<(leftOf es (wr.iterSeen R)).size by
         have h:wr.iterSeen R=seen:=by unfold World.iterSeen;rw[vr]
         rw[h];exact left_shrinks es seen e he)
        obtain⟨aaC,hpk⟩:∃x,x=p.1:=⟨_,rfl⟩;obtain⟨aaG,ml⟩:∃x,x=p.2:=⟨_,rfl⟩;rw[<-hpk, <-ml]at kT hen HG;clear rU vr hmb aW abp aeK aeL aeu aev fe bK wI gZ FG hgv hpk ml he hem hes hpE;go_wp2_with fail
        refine HG.out.mono ?_;rintro aaH u8⟨rfl,hu8⟩;have HB8:=O (hu8.keep mj.out (fun h=>h));have HM8:=O (hu8.keep HM2.out (fun h=>h));have KI:=O (dk.out.trans hu8);clear hu8 k0 k1 k2 kT hen;go_wp2_with fail
        go_roundw
        case rel=>exact⟨_,_,HB8.out,HM8.out,Nat.le_refl _,KI.out⟩
        case measure =>
         have h:u8.iterSeen R=seen.push e.born:=by unfold World.iterSeen;rw[HB8.out]
         rw[h];exact HMS.out
    ·have hq':bU.data.toList.isEmpty=false:=by simpa using hq
     have q1:¬bU.toList=[]:=by rw[ByteArray.toList_eq];intro h;rw[h]at hq';cases hq'
     have q2:(bU.toList== [])=false:=beq_eq_false_iff_ne.2 q1;have q3:bU.toList.isEmpty=false:=by rw[ByteArray.toList_eq];exact hq'
     have aaA:=O (show(bU.size==0)=false by rw[<-abo];exact hq');have HQN:=O (show¬bU.size=0 from fun h=>by have g:=aaA.out;rw[h]at g;cases g);clear hq hq';go_wp2_with fail
     refine wp_region_held_drew (S:=(fun U=>(U.cell? ⟨w.heap.size,0,none⟩=some (.int .i64 cH)/\U.cell? ⟨w.heap.size,1,none⟩=some (.string ar)/\U.cell? ⟨w.heap.size,2,none⟩=some (.string aE)/\U.cell? ⟨w.heap.size,3,none⟩=some (.string aK)/\U.cell? ⟨w.heap.size,4,none⟩=some (.bool aL)/\U.cell? ⟨w.heap.size,5,none⟩=some (.string bU)/\U.cell? ⟨w.heap.size,6,none⟩=some (.bool aX)/\U.cell? ⟨w.heap.size,7,none⟩=some dom)/\U.cell? ⟨w.heap.size+1,0,none⟩=some (.string user)/\U.cell? ⟨w.heap.size+1,1,none⟩=some (.string pass))) (by kernel_rfl) (SV.out _ (Fr.drew (HJR.out M U HJ1.out))) ?_
     intro cW;refine tk 0 ⟨some 96,_,_,_,_,_⟩ (v:=?_) rfl (by rfl) ?hy ?_
     case hy=>(intro w hSw;(try dsimp only at hSw);go_simp<;>with_reducible rfl)
     try simp only[Act.put,sA,sB,sC]
     refine tk 1 ⟨some 97,_,_,_,_,_⟩ (v:=?_) rfl (by rfl) ?hy ?_
     case hy=>(intro w hSw;(try dsimp only at hSw);go_simp<;>with_reducible rfl)
     try simp only[Act.put,sA,sB,sC]
     refine tk 2 ⟨some 98,_,_,_,_,_⟩ (v:=?_) rfl (by rfl) ?hy ?_
     case hy=>(intro w hSw;(try dsimp only at hSw);go_simp<;>with_reducible rfl)
     try simp only[Act.put,sA,sB,sC]
     refine tk 3 ⟨some 99,_,_,_,_,_⟩ (v:=?_) rfl (by rfl) ?hy ?_
     case hy=>(intro w hSw;(try dsimp only at hSw);go_simp<;>with_reducible rfl)
     try simp only[Act.put,sA,sB,sC]
     refine tk 4 ⟨some 100,_,_,_,_,_⟩ (v:=?_) rfl (by rfl) ?hy ?_
     case hy=>(intro w hSw;(try dsimp only at hSw);go_simp<;>with_reducible rfl)
     try simp only[Act.put,sA,sB,sC]
     refine tk 5 ⟨some 101,_,_,_,_,_⟩ (v:=?_) rfl (by rfl) ?hy ?_
     case hy=>(intro w hSw;(try dsimp only at hSw);go_simp<;>with_reducible rfl)
     try simp only[Act.put,sA,sB,sC]
     refine tk 7 ⟨some 103,_,_,_,_,_⟩ (v:=?_) rfl (by rfl) ?hy ?_
     case hy=>(intro w hSw;(try dsimp only at hSw);go_simp<;>with_reducible rfl)
     try simp only[Act.put,sA,sB,sC]
     refine wpAnyH_ready (rs:=[6]) (by kernel_rfl) (by simp) ?_;refine AllReadyH.cons rfl (fun K hK=>?_) AllReadyH.nil;go_simp;refine(HCT.out _ (Fr.drew (Pp.out.trans (HJR.out M U HJ1.out)))).mono ?_;rintro e aaU⟨rfl,jZ⟩;have HJ2:=O (HJF.out M _ aaU HJ1.out ((Fr.drew (Fr.refl ay U)).trans jZ));clear jZ;refine hK.out _ _ (SV.out aaU (HJR.out M aaU HJ2.out)) ?_;intro ct;clear hK cW K;have cW:=ct;clear ct
     try simp only[Act.put,sA,sB,sC]
     refine wpAnyH_ready (rs:=[8]) (by kernel_rfl) (by simp) ?_;refine AllReadyH.cons rfl (fun K hK=>?_) AllReadyH.nil;obtain⟨abb,hr,hj⟩:=jn.out M aaU _ _ (HE3.out HQN.out |>.1) HJ2.out;have HJ3:=O hj;clear hj;refine aey (o:=⟨none,.mapUpdate 90 (.tmp 96) (.const (.string ⟨#[113,111,112]⟩)) (.tmp 100),_,_,_,_⟩) rfl rfl rfl rfl rfl rfl hr ?_;refine hK.out _ _ (SV.out abb (HJR.out M abb HJ3.out)) ?_
     intro ct;clear hK cW K hr;have cW:=ct;clear ct
     try simp only[Act.put,sA,sB,sC]
     refine wpAnyH_ready (rs:=[9]) (by kernel_rfl) (by simp) ?_;refine AllReadyH.cons rfl (fun K hK=>?_) AllReadyH.nil;obtain⟨abe,hr,hj⟩:=jn.out M abb _ _ (HE3.out HQN.out |>.2.1) HJ3.out;have HJ4:=O hj;clear hj;refine aey (o:=⟨none,.mapUpdate 90 (.tmp 97) (.const (.string ⟨#[110,99]⟩)) (.tmp 102),_,_,_,_⟩) rfl rfl rfl rfl rfl rfl hr ?_;refine hK.out _ _ (SV.out abe (HJR.out M abe HJ4.out)) ?_;intro ct
     clear hK cW K hr;have cW:=ct;clear ct
     try simp only[Act.put,sA,sB,sC]
     refine wpAnyH_ready (rs:=[10]) (by kernel_rfl) (by simp) ?_;refine AllReadyH.cons rfl (fun K hK=>?_) AllReadyH.nil;obtain⟨abg,hr,hj⟩:=jn.out M abe _ _ (HE3.out HQN.out |>.2.2) HJ4.out;have HJ5:=O hj;clear hj;refine aey (o:=⟨none,.mapUpdate 90 (.tmp 98) (.const (.string ⟨#[99,110,111,110,99,101]⟩)) (.tmp 103),_,_,_,_⟩) rfl rfl rfl rfl rfl rfl hr ?_
     refine hK.out _ _ (SV.out abg (HJR.out M abg HJ5.out)) ?_;intro ct;clear hK cW K hr;have cW:=ct;clear ct
     try simp only[Act.put,sA,sB,sC]
     clear cW;refine wpAnyH_done (by kernel_rfl) ?_ _;obtain⟨⟨c0,c1,c2,c3,c4,c5,c6,c7⟩,d0,d1⟩:=SV.out abg (HJR.out M abg HJ5.out);by_cases ho:aK.data.toList.isEmpty=true
     ·have o1:aK.toList=[]:=by rw[ByteArray.toList_eq];exact List.isEmpty_iff.1 ho
      have o2:(aK.toList== [])=true:=by rw[o1];rfl
      have o3:aK.toList.isEmpty=true:=by rw[o1];rfl
      clear ho;obtain⟨es,clock,hmb,Gb,aeH⟩:=HJM.out M abg HJ5.out;have ae_:=O aeH;have aeI:=O Gb;have hrg:=run_range_map (P:=Tryz.prog) abg 90 9 9 M es clock Tryz.underlying90 hmb;obtain⟨R,hR⟩:∃R,R=abg.heap.size:=⟨_,rfl⟩;obtain⟨aaB,hUR⟩:∃W,W=abg.alloc (.mapIter (some M) clock #[] clock):=⟨_,rfl⟩;rw[<-hR, <-hUR]at hrg;have sy:Fr ay v3 aaB:=by rw[hUR];exact(HJR.out M abg HJ5.out).alloc _
      have vr:aaB.heap[R]?=some (.mapIter (some M) clock #[] clock):=by rw[hUR,hR];exact af _ _
      have aeJ:aaB.heap[M]?=some (.map es clock):=by rw[hUR];exact((Fr.refl ay abg).alloc _).keep hmb (fun h=>h)
      have HRN:=O (show v3.heap.size<=R by rw[hR];exact(HJR.out M abg HJ5.out).size);have HMR:=O (show M≠R by rw[hR];exact Nat.ne_of_lt (aj hmb));have LS:=O (show aeO v3 M R es clock (.string ⟨#[]⟩) aaB from⟨#[],clock,vr,aeJ,Nat.le_refl _,sy⟩);clear hmb vr aeJ sy hR hUR aeH Gb HJM HJF jn HJ0;go_wp2_with fail
      go_loopw[19] (fun _ wr=>aeO v3 M R es clock (.string ⟨#[]⟩) wr) (fun _ wr=>(leftOf es (wr.iterSeen R)).size)
      case atStart=>exact LS.out
      case round =>
       obtain⟨seen,c,vr,hmb,Nk,aW⟩:=hrel;rcases run_next_at (P:=Tryz.prog) wr 0 R M clock c seen es clock vr hmb aeI.out.stamped.1 Nk with ⟨h0,rU⟩|⟨e,he,w1,wI,rU⟩
       ·have kT:∀ty,(Instr.next (.pointer (some ⟨R,0,none⟩)) false ty).run Tryz.prog wr=_:=fun _=>rU;have py:=O aW;obtain⟨k0,k1,k2⟩:=HK.out wr aW;clear rU h0 vr hmb aW;go_wp2_with fail
        refine(HGT.out wr ⟨#[110,99]⟩ py.out (by decide)).mono ?_;rintro e u9⟨rfl,Wi⟩;have hnv:aag ps (⟨#[110,99]⟩:ByteArray).data.toList=.tuple #[.string (bA ((eZ ps nNc).getD [])),.bool true]:=by
         have h:=HNC.out;unfold aag;rw[show(⟨#[110,99]⟩:ByteArray).data.toList=nNc from rfl,h];rw[aaA.out];rfl
        rw[hnv];obtain⟨⟨c0,c1,c2,c3,c4,c5,c6,c7⟩,d0,d1⟩:=SV.out u9 (py.out.trans Wi);have FO:=O (py.out.trans Wi);clear Wi hnv k0 k1 k2 kT;go_wp2_with fail
        go_ret;exact⟨rfl,((gS.out.trans fu.out).trans FO.out).bQ⟩
       ·obtain⟨hem,hes⟩:=mem_left he;obtain⟨p,hpE,gZ,FG⟩:=ae_.out e hem;have kT:∀ty,(Instr.next (.pointer (some ⟨R,0,none⟩)) false ty).run Tryz.prog wr=_:=fun _=>rU;obtain⟨w2,bK⟩:∃w2,w2=setBlock w1 R (.mapIter (some M) clock (seen.push e.born) clock):=⟨_,rfl⟩;have abp:w1.heap[R]?=some (.mapIter (some M) clock seen c):=by rcases wI with rfl|rfl<;>exact vr
        have aeK:w1.heap[M]?=some (.map es clock):=by rcases wI with rfl|rfl<;>exact hmb
        have aeL:Fr ay v3 w1:=by rcases wI with rfl|rfl;exact aW;exact aW.drew
        have aeu:w2.heap[R]?=some (.mapIter (some M) clock (seen.push e.born) clock):=by rw[bK];exact aeN abp _
        have aev:w2.heap[M]?=some (.map es clock):=by rw[bK];exact(aew abp _ HMR.out).trans aeK
        have fe:Fr ay v3 w2:=by rw[bK];exact ae1 abp aeL HRN.out _
        have hen:=run_entry_at (P:=Tryz.prog) w2 R M clock seen es clock e aeu aev hem aeI.out.stamped.2.1;rw[<-bK]at kT;rw[gZ,FG]at kT hen;have HG:=O (HGT.out w2 p.1 fe (afg.out p hpE).1);have hgv:aag ps p.1.data.toList=.tuple #[.string p.2,.bool true]:=by
         unfold aag;rw[ahF.out p hpE];show Value.tuple #[.string (bA p.2.data.toList),.bool true]=_;rw[NA]
        rw[hgv]at HG;obtain⟨k0,k1,k2⟩:=HK.out w2 fe;have mj:=O aeu;have HM2:=O aev;have dk:=O fe;have HMS:=O (show(leftOf es (seen.push e.born)).size<(leftOf es (wr.iterSeen R)).size by
         have h:wr.iterSeen R=seen:=by unfold World.iterSeen;rw[vr]
         rw[h];exact left_shrinks es seen e he)
        obtain⟨aaC,hpk⟩:∃x,x=p.1:=⟨_,rfl⟩;obtain⟨aaG,ml⟩:∃x,x=p.2:=⟨_,rfl⟩;rw[<-hpk, <-ml]at kT hen HG;clear rU vr hmb aW abp aeK aeL aeu aev fe bK wI gZ FG hgv hpk ml he hem hes hpE;go_wp2_with fail
        refine HG.out.mono ?_;rintro aaH u8⟨rfl,hu8⟩;have HB8:=O (hu8.keep mj.out (fun h=>h));have HM8:=O (hu8.keep HM2.out (fun h=>h));have KI:=O (dk.out.trans hu8);clear hu8 k0 k1 k2 kT hen;go_wp2_with fail
        go_roundw
        case rel=>exact⟨_,_,HB8.out,HM8.out,Nat.le_refl _,KI.out⟩
        case measure =>
         have h:u8.iterSeen R=seen.push e.born:=by unfold World.iterSeen;rw[HB8.out]
         rw[h];exact HMS.out
     ·have FJ:aK.data.toList.isEmpty=false:=by simpa using ho
      have o1:¬aK.toList=[]:=by rw[ByteArray.toList_eq];intro h;rw[h]at FJ;cases FJ
      have o2:(aK.toList== [])=false:=beq_eq_false_iff_ne.2 o1;have o3:aK.toList.isEmpty=false:=by rw[ByteArray.toList_eq];exact FJ
      obtain⟨aaI,hr,hj5⟩:=jn.out M abg _ _ (HE1.out (fun h=>by have g:=abo aK;rw[h,FJ]at g;cases g)) HJ5.out;have HJV:=O hj5;clear ho FJ hj5;obtain⟨es,clock,hmb,Gb,aeH⟩:=HJM.out M aaI HJV.out;have ae_:=O aeH;have aeI:=O Gb;have hrg:=run_range_map (P:=Tryz.prog) aaI 90 9 9 M es clock Tryz.underlying90 hmb;obtain⟨R,hR⟩:∃R,R=aaI.heap.size:=⟨_,rfl⟩
      obtain⟨aaB,hUR⟩:∃W,W=aaI.alloc (.mapIter (some M) clock #[] clock):=⟨_,rfl⟩;rw[<-hR, <-hUR]at hrg;have sy:Fr ay v3 aaB:=by rw[hUR];exact(HJR.out M aaI HJV.out).alloc _
      have vr:aaB.heap[R]?=some (.mapIter (some M) clock #[] clock):=by rw[hUR,hR];exact af _ _
      have aeJ:aaB.heap[M]?=some (.map es clock):=by rw[hUR];exact((Fr.refl ay aaI).alloc _).keep hmb (fun h=>h)
      have HRN:=O (show v3.heap.size<=R by rw[hR];exact(HJR.out M aaI HJV.out).size);have HMR:=O (show M≠R by rw[hR];exact Nat.ne_of_lt (aj hmb));have LS:=O (show aeO v3 M R es clock (.string ⟨#[]⟩) aaB from⟨#[],clock,vr,aeJ,Nat.le_refl _,sy⟩);clear hmb vr aeJ sy hR hUR aeH Gb HJM HJF jn HJ0
      go_wp2_with (first|(at_mapUpdate;go_must(refine wpList_mapUpdate_in (t:=90) (m:=.tmp 107) (x:=.const (.string ⟨#[111,112,97,113,117,101]⟩)) (v:=.tmp 109) rfl rfl rfl rfl rfl rfl hr ?_))|fail)
      go_loopw[19] (fun _ wr=>aeO v3 M R es clock (.string ⟨#[]⟩) wr) (fun _ wr=>(leftOf es (wr.iterSeen R)).size)
      case atStart=>exact LS.out
      case round =>
       obtain⟨seen,c,vr,hmb,Nk,aW⟩:=hrel;rcases run_next_at (P:=Tryz.prog) wr 0 R M clock c seen es clock vr hmb aeI.out.stamped.1 Nk with ⟨h0,rU⟩|⟨e,he,w1,wI,rU⟩
       ·have kT:∀ty,(Instr.next (.pointer (some ⟨R,0,none⟩)) false ty).run Tryz.prog wr=_:=fun _=>rU;have py:=O aW;obtain⟨k0,k1,k2⟩:=HK.out wr aW;clear rU h0 vr hmb aW;go_wp2_with fail
        refine(HGT.out wr ⟨#[110,99]⟩ py.out (by decide)).mono ?_;rintro e u9⟨rfl,Wi⟩;have hnv:aag ps (⟨#[110,99]⟩:ByteArray).data.toList=.tuple #[.string (bA ((eZ ps nNc).getD [])),.bool true]:=by
         have h:=HNC.out;unfold aag;rw[show(⟨#[110,99]⟩:ByteArray).data.toList=nNc from rfl,h];rw[aaA.out];rfl
        rw[hnv];obtain⟨⟨c0,c1,c2,c3,c4,c5,c6,c7⟩,d0,d1⟩:=SV.out u9 (py.out.trans Wi);have FO:=O (py.out.trans Wi);clear Wi hnv k0 k1 k2 kT;go_wp2_with fail
        go_ret;exact⟨rfl,((gS.out.trans fu.out).trans FO.out).bQ⟩
       ·obtain⟨hem,hes⟩:=mem_left he;obtain⟨p,hpE,gZ,FG⟩:=ae_.out e hem;have kT:∀ty,(Instr.next (.pointer (some ⟨R,0,none⟩)) false ty).run Tryz.prog wr=_:=fun _=>rU;obtain⟨w2,bK⟩:∃w2,w2=setBlock w1 R (.mapIter (some M) clock (seen.push e.born) clock):=⟨_,rfl⟩;have abp:w1.heap[R]?=some (.mapIter (some M) clock seen c):=by rcases wI with rfl|rfl<;>exact vr
        have aeK:w1.heap[M]?=some (.map es clock):=by rcases wI with rfl|rfl<;>exact hmb
        have aeL:Fr ay v3 w1:=by rcases wI with rfl|rfl;exact aW;exact aW.drew
        have aeu:w2.heap[R]?=some (.mapIter (some M) clock (seen.push e.born) clock):=by rw[bK];exact aeN abp _
        have aev:w2.heap[M]?=some (.map es clock):=by rw[bK];exact(aew abp _ HMR.out).trans aeK
        have fe:Fr ay v3 w2:=by rw[bK];exact ae1 abp aeL HRN.out _
        have hen:=run_entry_at (P:=Tryz.prog) w2 R M clock seen es clock e aeu aev hem aeI.out.stamped.2.1;rw[<-bK]at kT;rw[gZ,FG]at kT hen;have HG:=O (HGT.out w2 p.1 fe (afg.out p hpE).1);have hgv:aag ps p.1.data.toList=.tuple #[.string p.2,.bool true]:=by
         unfold aag;rw[ahF.out p hpE];show Value.tuple #[.string (bA p.2.data.toList),.bool true]=_;rw[NA]
        rw[hgv]at HG;obtain⟨k0,k1,k2⟩:=HK.out w2 fe;have mj:=O aeu;have HM2:=O aev;have dk:=O fe;have HMS:=O (show(leftOf es (seen.push e.born)).size<(leftOf es (wr.iterSeen R)).size by
         have h:wr.iterSeen R=seen:=by unfold World.iterSeen;rw[vr]
         rw[h];exact left_shrinks es seen e he)
        obtain⟨aaC,hpk⟩:∃x,x=p.1:=⟨_,rfl⟩;obtain⟨aaG,ml⟩:∃x,x=p.2:=⟨_,rfl⟩;rw[<-hpk, <-ml]at kT hen HG;clear rU vr hmb aW abp aeK aeL aeu aev fe bK wI gZ FG hgv hpk ml he hem hes hpE;go_wp2_with fail
        refine HG.out.mono ?_;rintro aaH u8⟨rfl,hu8⟩;have HB8:=O (hu8.keep mj.out (fun h=>h));have HM8:=O (hu8.keep HM2.out (fun h=>h));have KI:=O (dk.out.trans hu8);clear hu8 k0 k1 k2 kT hen;go_wp2_with fail
        go_roundw
        case rel=>exact⟨_,_,HB8.out,HM8.out,Nat.le_refl _,KI.out⟩
        case measure =>
         have h:u8.iterSeen R=seen.push e.born:=by unfold World.iterSeen;rw[HB8.out]
         rw[h];exact HMS.out
 ·rw[decide_eq_false kz];go_wp2;go_ret;exact⟨rfl,(gS.out.trans dk.out).bQ⟩
end Go.Proofs.YtjdmjbdkdmbaiaaGreatDoor
namespace Go.Proofs.YtjdmjbdkdmbaiaaGreatDoor.digestBack
open Go.ChangeShapes Go.WideShapes Go.ChangeAt Go.RowKit
open Go.ChangeMaps (open_string shut_string)
theorem own:ownKnob Tryz.prog.godebug=none:=by kernel_rfl
theorem laidOut:laidOutB Tryz.prog=true:=by kernel_rfl
theorem lifted(os:Os)(started:os.Started)(H:Type)(enc:TypeId×Value->H) :
  ReturnsInHanded {} Tryz.checked os 13 .any (fun w args=>(Rows.digestBackSpec.pre enc Tryz.prog Tryz.f13 Rows.digestBackRow.domain false w args/\laidMetH Tryz.prog Rows.digestBackRow.laid w)/\sizedMet enc Tryz.prog Tryz.f13 (OpenSpec.ofChange Rows.digestBackSpec) false w args)
   (Rows.digestBackSpec.post enc Tryz.prog Tryz.f13 false true false false):=by
 refine returnsInHanded_of_change_and (C:=Tryz.checked) (X:=fun w _=>laidMetH Tryz.prog Rows.digestBackRow.laid w) (fun _ _ _ hh h=>h.of_heap hh) own started (by kernel_rfl) Tryz.func13
  (ChangeSpec.witness_shaped (enc:=enc) (C:=Tryz.checked) (os:=os) (X:=fun w _=>laidMetH Tryz.prog Rows.digestBackRow.laid w) false (World.laidAll Tryz.prog os Rows.digestBackRow.laid) #[.agg #[.int .i64 0,.string ByteArray.empty,.string ByteArray.empty,.string ByteArray.empty,.bool false,.string ByteArray.empty,.bool false,.slice none 0 0],.agg #[.string ByteArray.empty,.string ByteArray.empty],.string ByteArray.empty,.string ByteArray.empty,.string ByteArray.empty,.string ByteArray.empty,.int .i64 0] 8 (World.laidAll_os _ _ _)
   (World.shaped_of_ZipB (by kernel_rfl) (by kernel_rfl)) (by kernel_rfl) (by kernel_rfl) (by kernel_rfl)
   (by rw[MakeChecks.laidMetH_plain _ _ _ (by kernel_rfl)];exact laidMet_laidAll _ (by kernel_rfl) (by kernel_rfl))) ?_
 intro W base args ds gs before qx hW _ qw hL _;have mz:(DataW.weightsEach Tryz.prog (Tryz.f13.params.toList++Rows.digestBackSpec.plain.varTypes Tryz.prog) (ds++gs)).all (· <=reachBytes)=true:=qw;clear qw;have hval:∀(j:Nat) t v,Tryz.f13.params[j]?=some t->args[j]?=some v->Value.okWide Tryz.prog W .any base t v:=qx;have hW':=hW;obtain⟨p,q,Qz,hV,rfl,_,_⟩:=hW
 have hA:DataW.TrodAll enc Tryz.prog W 0 (fun _=>true) true Tryz.f13.params.toList args.toList ds p:=Qz;rw[Tryz.params13]at hA hval mz;obtain⟨v0,vs0,d0,ds0,p0,q0,QA,rfl,rfl,h0,r0⟩:=trodAll_cons hA;obtain⟨v1,vs1,d1,ds1,p1,q1,rfl,rfl,rfl,h1,r1⟩:=trodAll_cons r0;obtain⟨v2,vs2,d2,ds2,p2,q2,rfl,rfl,rfl,h2,r2⟩:=trodAll_cons r1;obtain⟨v3,vs3,d3,ds3,p3,q3,rfl,rfl,rfl,h3,r3⟩:=trodAll_cons r2
 obtain⟨v4,vs4,d4,ds4,p4,q4,rfl,rfl,rfl,h4,r4⟩:=trodAll_cons r3;obtain⟨v5,vs5,d5,ds5,p5,q5,rfl,rfl,rfl,h5,r5⟩:=trodAll_cons r4;obtain⟨v6,vs6,d6,ds6,p6,q6,rfl,rfl,rfl,h6,r6⟩:=trodAll_cons r5;obtain⟨rfl,rfl,rfl⟩:=trodAll_nil r6;obtain rfl:args= #[v0,v1,v2,v3,v4,v5,v6]:=by cases args;simp_all
 obtain⟨rfl,rfl⟩:=trodVars_none hV;have k0:=h0;have lt0:∀x∈p0,x.block<W.heap.size:=by obtain⟨m,hm⟩:=k0;exact DataW.trod_lt m _ _ _ hm
 obtain⟨o0,ss0,rfl,sO⟩:=agw (hval 0 47 v0 rfl rfl) h0 (jY mz (j:=0) (t:=47) rfl rfl);have k1:=h1;have lt1:∀x∈p1,x.block<W.heap.size:=by obtain⟨m,hm⟩:=k1;exact DataW.trod_lt m _ _ _ hm
 obtain⟨u1,p1w,rfl,vD⟩:=afB (hval 1 31 v1 rfl rfl) h1 (jY mz (j:=1) (t:=31) rfl rfl);obtain⟨a2,rfl,rfl,rfl,w2⟩:=open_string Tryz.underlying9 (hval 2 9 v2 rfl rfl) h2;obtain⟨a3,rfl,rfl,rfl,w3⟩:=open_string Tryz.underlying9 (hval 3 9 v3 rfl rfl) h3;obtain⟨a4,rfl,rfl,rfl,w4⟩:=open_string Tryz.underlying9 (hval 4 9 v4 rfl rfl) h4
 obtain⟨a5,rfl,rfl,rfl,w5⟩:=open_string Tryz.underlying9 (hval 5 9 v5 rfl rfl) h5;obtain⟨a6,rfl,rfl,rfl,w6⟩:=open_int Tryz.underlying3 (hval 6 3 v6 rfl rfl) h6;clear Qz qx;rw[MakeChecks.laidMetH_plain _ _ _ (by kernel_rfl)]at hL;have tb0:=mR hL (by refine⟨?_,?_⟩<;>repeat(first|exact True.intro|exact List.Mem.head _|refine List.Mem.tail _ ?_))
 have tb1:=mS hL (by refine⟨?_,?_⟩<;>repeat(first|exact True.intro|exact List.Mem.head _|refine List.Mem.tail _ ?_));have tb2:=om hL (by refine⟨?_,?_⟩<;>repeat(first|exact True.intro|exact List.Mem.head _|refine List.Mem.tail _ ?_));have z2:a2.size<=140737488351232:=by
  have:=sized_string mz (j:=2) (t:=9) rfl rfl;simpa[reachBytes]using this
 have z3:a3.size<=140737488351232:=by
  have:=sized_string mz (j:=3) (t:=9) rfl rfl;simpa[reachBytes]using this
 have z4:a4.size<=140737488351232:=by
  have:=sized_string mz (j:=4) (t:=9) rfl rfl;simpa[reachBytes]using this
 have z5:a5.size<=140737488351232:=by
  have:=sized_string mz (j:=5) (t:=9) rfl rfl;simpa[reachBytes]using this
 refine(afa o0 ss0 u1 p1w a2 a3 a4 a5 a6 z2 z3 z4 z5 W sO vD tb0 tb1 tb2).mono fun e W' ⟨he,jE⟩=>?_;subst he
 exact⟨_,rfl,_,_,_,[],_,[],hW',trodAll_mk1 (shut_bool Tryz.underlying4 _),(trodAll_cons_mk (Below.trod laidOut (by kernel_rfl) (of_decide_eq_true (by kernel_rfl)) k0 jE lt0) (trodAll_cons_mk (Below.trod laidOut (by kernel_rfl) (of_decide_eq_true (by kernel_rfl)) k1 jE lt1) (trodAll_cons_mk (shut_string Tryz.underlying9 w2) (trodAll_cons_mk (shut_string Tryz.underlying9 w3) (trodAll_cons_mk (shut_string Tryz.underlying9 w4) (trodAll_cons_mk (shut_string Tryz.underlying9 w5) (trodAll_cons_mk (shut_int Tryz.underlying3 w6) trodAll_mk0))))))),rfl,jE.frame _,fun h=>by cases h⟩
end Go.Proofs.YtjdmjbdkdmbaiaaGreatDoor.digestBack
