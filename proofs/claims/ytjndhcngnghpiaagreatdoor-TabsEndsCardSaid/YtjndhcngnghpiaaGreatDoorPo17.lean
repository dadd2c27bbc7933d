/- Lemmas for the law's walk. -/
import Derived.Test.YtjndhcngnghpiaaGreatDoorPo26
import Derived.Test.YtjndhcngnghpiaaGreatDoorPo25
import Derived.Test.YtjndhcngnghpiaaGreatDoorPo27
set_option maxRecDepth 100000
set_option maxHeartbeats 16000000
set_option linter.unusedSimpArgs false
namespace Go.Proofs.YtjndhcngnghpiaaGreatDoor
open Go.Proofs.Tryz
open Go.RowKit
variable {w:World} {i n base B b k:Nat} {c:bS} {t:TypeId} {p:eB} {x:d_} {o:kn} {pv:Nat->dm} {l:List (gy×Int)}
structure kL (w:World):Prop where
 Ya:wL w
 pw:xh w
theorem kL.fr{w':World}(h:kL w)(hf:Fr aW w w'):kL w':=⟨h.Ya.fr hf,h.pw.fr hf⟩
def jG(base:Nat)(w:World)(B:Nat)(pv:Nat->dm)(r:d_×ky)(e:Ending)(w':World):Prop :=
 e=.returned r.2.val/\dy base w B pv r.1 w'
section
variable {base : Nat} {a w w' : World} {B : Nat} {pv : Nat → dm} {x : d_}
theorem dy.after(hf:Fr aW a w)(h:dy base w B pv x w'):dy base a B pv x w':=by
 obtain⟨Jr,h1,h2,h3⟩:=h;refine⟨Jr,h1,fL (S:=mr B pv) (hf.mono (fun _ _ h=>absurd h id)) h2 (fun _ _ h=>h),fun k hk=>?_⟩;rcases h3 k hk with h|h
 ·exact Or.inl h
 ·exact Or.inr (aE hf.size h)
theorem dy.then(h:dy base a B pv x w)(hf:Fr aW w w'):dy base a B pv x w':=by
 obtain⟨Jr,h1,h2,h3⟩:=h;exact⟨Jr,h1.dt hf,h2.step (T:=aW) hf (fun _ _ h=>absurd h id),h3⟩
theorem dy.row(h:dy base w B pv x w'){n:Nat}{old:bS}{t:TypeId}(o8:base<=w.heap.size)(hB:B<w.heap.size)(hn:w.heap.size<=n)(hr:w'.heap[n]?=some (.cells old t (0,0)))
  (ht:fi t)(hs:t≠9)(new:bS):dy base w B pv x (w'.setRow n new):=by
 obtain⟨Jr,h1,h2,h3⟩:=h;have kx:Fr (one n) w' (w'.setRow n new):=(ae (one n) w').setRow (fun _=>rfl) _;have mK:rL base w' (one n):=by
  rintro k rfl _;exact⟨ab,fun c f e=>by rw[hr]at e;cases e;exact hs rfl⟩
 refine⟨Jr,h1.fr kx mK (fun i hi e=>?_),h2.step kx (fun k hk e=>?_),h3⟩
 ·have e':i=n:=e;subst e';rcases hi with rfl|⟨j,hj,hi⟩
  ·omega
  ·exact(h1.part j hj).fa hr ht hi
 ·have e':k=n:=e;omega
theorem nO(h:df base w B pv x)(hi:i<4)(hp:cX base w B (iz pv x.now) (i*3) (pv i) p w')(hn:w.heap[n]?=some (.cells c t (0,0)))(ht:fi t)(hB:n≠B):w'.heap[n]?=some (.cells c t (0,0)):=by
 obtain⟨v',h1,h2,h3,h4⟩:=hp;exact eF (h.part i hi) h2 hn ht hB
end
theorem pV(hr:o.right=true)(hi:o.part=(i:Int))(hw:o.what≠10):mX x o=(x.set i (wF (x.part i) x.now o).1,(wF (x.part i) x.now o).2):=by
 rw[Ds hr hw,hi];rfl
theorem U1{n:Int}(h:o.what=8\/o.what=9):wF p n o=rE p o:=by
 unfold wF;rcases h with h|h<;>rw[h]<;>rfl
theorem df.DJ(h:df base w B pv x)(hn:w.heap[n]?=some (.cells c t (0,0)))(ht:fi t)(hw:t≠97):¬mr B pv n:=fun hk=>by
 rcases hk with rfl|⟨i,hi,hk⟩
 ·rw[h.eG]at hn;cases hn;exact hw rfl
 ·exact(h.part i hi).fa hn ht hk
abbrev cF := @dy.after
abbrev eo := @dy.row
def zy(k:Nat):Value:=if k=0 then .nilIface else .iface 82 (.int .i64 k)
section
variable {U : World} {T B : Nat} {g : Nat → qo} {sv : Value} {t : gB}
theorem Ca{n:Int}(h:vX n=true):∃i:Nat,n=(i:Int)/\i<6:=by
 unfold vX at h;simp only[cy,dx]at h;exact⟨n.toNat,ab,ab⟩
theorem Ng(U:World)(T:Nat)(hi:i<6) :
  aC 28 #[.pointer (some ⟨T,0,none⟩),.int .i64 i] U fun e w'=>e=.returned (.tuple #[.pointer (some ⟨T,17+i*45,none⟩),.nilIface])/\w'=U:=by
 have h1:(i:Int)<6:=ab;have h0:¬(i:Int)<0:=ab;have h2:¬(6:Int)<=(i:Int):=ab;have h3:(0:Int)<=(i:Int):=ab;go_enter func28,ntmps28;go_wp2;go_ret2;exact⟨rfl,rfl⟩
theorem Hh(U:World)(T:Nat){n:Int}(hn:vX n=false) :
  aC 28 #[.pointer (some ⟨T,0,none⟩),.int .i64 n] U fun e w'=>e=.returned (.tuple #[.pointer none,zy 2])/\w'=U:=by
 have hh:¬(0<=n/\n<6):=by
  intro hh;unfold vX at hn;simp[hh.1,hh.2]at hn
 clear hn;by_cases h0:n<0
 ·have h1:¬(0:Int)<=n:=ab;clear hh;go_enter func28,ntmps28;go_wp2;go_ret2;exact⟨rfl,rfl⟩
 ·have h1:(0:Int)<=n:=ab;have h4:(6:Int)<=n:=ab;have h5:¬n<6:=ab;clear hh;go_enter func28,ntmps28;go_wp2;go_ret2;exact⟨rfl,rfl⟩
end
def xp(base:Nat)(U:World)(ws:Nat->Option (Nat×d_)):Prop :=
 ∃pv:Nat->Nat->dm,(∀i B x,ws i=some (B,x)->df base U B (pv i) x)/\∀i j B x C y,i≠j->ws i=some (B,x)->ws j=some (C,y)->∀k,mr B (pv i) k->¬mr C (pv j) k
section
variable {base : Nat} {a U U' : World} {ws : Nat → Option (Nat × d_)}
theorem xp.dt(h:xp base U ws)(hf:Fr aW U U'):xp base U' ws:=by
 obtain⟨pv,h1,h2⟩:=h;exact⟨pv,fun i B x hi=>(h1 i B x hi).dt hf,h2⟩
theorem xp.sub{ws':Nat->Option (Nat×d_)}(h:xp base U ws)(hs:∀i p,ws' i=some p->ws i=some p):xp base U ws':=by
 obtain⟨pv,h1,h2⟩:=h;exact⟨pv,fun i B x hi=>h1 i B x (hs _ _ hi),fun i j B x C y Px hi hj=>h2 i j B x C y Px (hs _ _ hi) (hs _ _ hj)⟩
theorem xp.one(h:xp base U ws)(o8:base<=n)(hb:U.heap[n]?=some (.cells c t (0,0)))(ht:fi t)(hw:t≠97)(hs:t≠9)(hf:Fr (one n) U U'):xp base U' ws:=by
 obtain⟨pv,h1,h2⟩:=h;refine⟨pv,fun i B x hi=>(h1 i B x hi).fr hf ?_ (fun k hk e=>?_),h2⟩
 ·rintro k rfl _;exact⟨o8,fun c f e=>by rw[hb]at e;cases e;exact hs rfl⟩
 ·cases(show k=n from e);exact(h1 i B x hi).DJ hb ht hw hk
theorem xp.at(h:xp base U ws)(hi:ws i=some (B,x)):∃pv,df base U B pv x:=by
 obtain⟨pv,h1,_⟩:=h;exact⟨pv i,h1 i B x hi⟩
def Kept(U U':World):Prop:=∃S:dz,Fr S U U'/\∀(n:Nat) (c:bS) (t:TypeId),U.heap[n]?=some (.cells c t (0,0))->fi t->t≠97->¬S n
theorem Kept.YT(h:Fr aW U U'):Kept U U':=⟨aW,h,fun _ _ _ _ _ _ h=>h⟩
theorem Kept.rows(h:Kept U U'){e:TypeId}{v:Value}{xs:cU}(hr:OwnRows b e k U v xs)(ht:fi e)(hw:e≠97):OwnRows b e k U' v xs:=by
 obtain⟨S,hf,hs⟩:=h;refine hr.fr hf fun g hg=>?_;obtain⟨c,hc⟩:=hr.AY hg;exact hs g c e hc ht hw
theorem Kept.eG(h:Kept U U'){T:Nat}{g:Nat->qo}{sv:Value}{t:gB}(hb:fU U T B g sv t):fU U' T B g sv t:=by
 obtain⟨S,hf,hs⟩:=h;obtain⟨c,hc,_⟩:=hb.eG;exact hb.fr hf (hs T c _ hc (by unfold fi;decide) ag)
theorem xp.act{f:FuncId}{args:bS}{R:Ending->Prop}(h:xp base U ws)(hf:Fr aW a U)(rN:a.heap.size<=base){i B:Nat}{x x':d_}(hi:ws i=some (B,x))
  (hc:∀pv,df base U B pv x->aC f args U fun e w'=>R e/\dy base U B pv x' w') :
  aC f args U fun e w'=>R e/\xp base w' (fun j=>if j=i then some (B,x')else ws j)/\Fr aW a w'/\Kept U w':=by
 obtain⟨pv,h1,h2⟩:=h;have g:=h1 i B x hi;refine(hc (pv i) g).mono fun e w' hh=>⟨hh.1,?_,hh.2.frame g hf rN,?_⟩
 ·obtain⟨Jr,g1,g2,g3⟩:=hh.2;refine⟨fun j=>if j=i then Jr else pv j,fun j C y hj=>?_,fun j k C y D z hjk hj hk q hq FX=>?_⟩
  ·by_cases e:j=i
   ·simp only[aA e,eh,iB]at hj ⊢;obtain⟨rfl,rfl⟩:=hj;exact g1
   ·simp only[ar e]at hj ⊢;exact(h1 j C y hj).fr g2 g.off (fun k hk=>h2 j i C y B x e hj hi k hk)
  ·by_cases e:j=i
   ·have e':¬k=i:=fun e'=>hjk (e.trans e'.symm);simp only[aA e,ar e',eh,iB]at hj hk hq FX;obtain⟨rfl,rfl⟩:=hj;rcases g3 q hq with r|r
    ·exact h2 k i D z B x e' hk hi q FX r
    ·have:=(h1 k D z hk).ja FX;omega
   ·by_cases e':k=i
    ·simp only[aA e',ar e,eh,iB]at hj hk hq FX;obtain⟨rfl,rfl⟩:=hk;rcases g3 q FX with r|r
     ·exact h2 j i C y B x e hj hi q hq r
     ·have:=(h1 j C y hj).ja hq;omega
    ·simp only[ar e',ar e]at hj hk hq FX;exact h2 j k C y D z hjk hj hk q hq FX
 ·obtain⟨Jr,g1,g2,g3⟩:=hh.2;exact⟨_,g2,fun n c t hn ht hw=>g.DJ hn ht hw⟩
theorem xp.add(h:xp base U ws)(hf:Fr aW U U'){C:Nat}{qv:Nat->dm}{y:d_}(hc:df base U' C qv y)(hn:∀j,mr C qv j->U.heap.size<=j):xp base U' (fun j=>if j=i then some (C,y)else ws j):=by
 obtain⟨pv,h1,h2⟩:=h;refine⟨fun j=>if j=i then qv else pv j,fun j D z hj=>?_,fun j k D z E z' hjk hj hk q hq FX=>?_⟩
 ·by_cases e:j=i
  ·simp only[aA e,eh,iB]at hj ⊢;obtain⟨rfl,rfl⟩:=hj;exact hc
  ·simp only[ar e]at hj ⊢;exact(h1 j D z hj).dt hf
 ·by_cases e:j=i
  ·have e':¬k=i:=fun e'=>hjk (e.trans e'.symm);simp only[aA e,ar e',eh,iB]at hj hk hq FX;obtain⟨rfl,rfl⟩:=hj;have a1:=hn q hq;have a2:=(h1 k E z' hk).ja FX;omega
  ·by_cases e':k=i
   ·simp only[aA e',ar e,eh,iB]at hj hk hq FX;obtain⟨rfl,rfl⟩:=hk;have a1:=hn q FX;have a2:=(h1 j D z hj).ja hq;omega
   ·simp only[ar e',ar e]at hj hk hq FX;exact h2 j k D z E z' hjk hj hk q hq FX
end
abbrev kO := @Kept.YT
theorem adb(base:Nat)(w:World)(B:Nat)(pv:Nat->dm)(x:d_)(o:jB)(hs:List gU)(h:df base w B pv x)(hf:gL w o hs)(hi:nr x)(a:World)(sP:kL a)(rN:a.heap.size<=base)(sQ:Fr aW a w)(hr:(o.dP hs).right=false) :
  aC 30 #[.pointer (some ⟨B,0,none⟩),.agg o.cells.toArray] w (jG base w B pv (mX x (o.dP hs))):=by
 have uo:B<w.heap.size:=h.lt;have o8:=h.low;obtain⟨ah,ch,gq⟩:=hf.gO;obtain⟨w2,ez⟩:∃w2,w2=(w.alloc (.cells o.cells.toArray 33)).alloc (.cells bQ 46):=⟨_,rfl⟩;have dD:Fr aW w w2:=by rw[ez];exact((ae aW w).alloc _).alloc _
 have k1:w2.heap[w.heap.size]?=some (.cells o.cells.toArray 33 (0,0)):=by rw[ez];exact((ae aW _).alloc _).keep (aB _ _) id
 have k2:w2.heap[w.heap.size+1]?=some (.cells bQ 46 (0,0)):=by
  have h:=aB (w.alloc (.cells o.cells.toArray 33)) (.cells bQ 46);rw[bM]at h;rw[ez];exact h
 have sR:=O (kY o hs w2 (hf.dt dD));have HH:=O (h.dt dD);have HF:=O (hf.dt dD);have lg:=O gq;have HI:=O hi;have fS:=O dD;have mE:=O k1;have qx:=O k2;have pU:=O (show base<=w.heap.size from ab);have wR:=O o8;have oM:=O uo;have QQ:=O sP;have QP:=O (sQ.trans dD);have Wv:=O rN;rw[ez]at k1;rw[dV gq]at ez sR k1 ⊢;unfold bQ at ez k1;have oz:=O ez;have u_:=O k1;clear ez gq dD k1 k2 h hf hi sP rN sQ
 have HR:=O (show mX x (o.dP hs)=(x,rep 7)from G7 hr);rw[hr]at sR;clear hr;go_enter func30,ntmps30;go_wp2_with (first|((with_reducible refine dv 8 ?_);refine aJ rfl 33 (.tmp 3) rfl w.heap.size rfl _ _ (0,0) _ u_.o underlying33 rfl af ?_)|fail)
 rw[<-oz.o];refine sR.o.mono ?_;rintro e u⟨rfl,hu⟩;have HU:=O hu;have HP:=O (show dy base w B pv x u from cF fS.o (fq HH.o hu));have oU:=O (hu.keep qx.o id);clear hu u_;go_wp2_with (first|((with_reducible refine cP 46 ?_);refine aF rfl 46 (.tmp 4) (.tmp 11) rfl (w.heap.size+1) #[.int .i64 7,.string ⟨#[]⟩,.int .i64 0] rfl rfl _ bQ oU.o (bd _ rfl) rfl bX ?_)|fail)
 refine aR (bh bw _ _ (w.heap.size+1) 46 #[.int .i64 7,.string ⟨#[]⟩,.int .i64 0] (0,0) _ rfl (aY _ (w.heap.size+1) _ _ _ _ oU.o) underlying46 rfl (bd _ rfl)) rfl ?_;unfold jG;rw[HR.o];exact⟨rfl,eo HP.o pU.o oM.o (bT _) oU.o dR ag _⟩
theorem QW(base:Nat)(w:World)(B:Nat)(pv:Nat->dm)(x:d_)(o:jB)(hs:List gU)(h:df base w B pv x)(hf:gL w o hs)(hi:nr x)(a:World)(sP:kL a)(rN:a.heap.size<=base)(sQ:Fr aW a w)(hr:(o.dP hs).right=true)(hw:o.what=1) :
  aC 30 #[.pointer (some ⟨B,0,none⟩),.agg o.cells.toArray] w (jG base w B pv (mX x (o.dP hs))):=by
 have uo:B<w.heap.size:=h.lt;have o8:=h.low;obtain⟨ah,ch,gq⟩:=hf.gO;obtain⟨w2,ez⟩:∃w2,w2=(w.alloc (.cells o.cells.toArray 33)).alloc (.cells bQ 46):=⟨_,rfl⟩;have dD:Fr aW w w2:=by rw[ez];exact((ae aW w).alloc _).alloc _
 have k1:w2.heap[w.heap.size]?=some (.cells o.cells.toArray 33 (0,0)):=by rw[ez];exact((ae aW _).alloc _).keep (aB _ _) id
 have k2:w2.heap[w.heap.size+1]?=some (.cells bQ 46 (0,0)):=by
  have h:=aB (w.alloc (.cells o.cells.toArray 33)) (.cells bQ 46);rw[bM]at h;rw[ez];exact h
 have sR:=O (kY o hs w2 (hf.dt dD));have HH:=O (h.dt dD);have HF:=O (hf.dt dD);have lg:=O gq;have HI:=O hi;have fS:=O dD;have mE:=O k1;have qx:=O k2;have pU:=O (show base<=w.heap.size from ab);have wR:=O o8;have oM:=O uo;have QQ:=O sP;have QP:=O (sQ.trans dD);have Wv:=O rN;rw[ez]at k1;rw[dV gq]at ez sR k1 ⊢;unfold bQ at ez k1;have oz:=O ez;have u_:=O k1;clear ez gq dD k1 k2 h hf hi sP rN sQ
 obtain⟨i,vg,zS⟩:∃i:Nat,o.aI.part=(i:Int)/\i<4:=by
  obtain⟨h0,h1⟩:=ko hr;have RW:0<=o.aI.part:=h0;have P':o.aI.part<4:=h1;exact⟨o.aI.part.toNat,ab,ab⟩
 have Sk:(i:Int)<4:=ab;have ri:¬(i:Int)<0:=ab;have Tp:¬(4:Int)<=(i:Int):=ab;have P1:(0:Int)<=(i:Int):=ab;have sy:=O zS;have zT:=O vg;obtain⟨r,BH⟩:∃r,r=lu (x.part i) (o.dP hs):=⟨_,rfl⟩;have HR:=O (show mX x (o.dP hs)=(x.set i r.1,r.2)by rw[pV hr vg (by show o.what≠10;omega),BH,anc (show(o.dP hs).what=1 from hw)]);rw[hr]at sR
 have HM:=O (show∀U,Fr aW w2 U->aC 42 #[.pointer (some ⟨B,i*3,none⟩),.agg o.cells.toArray] U (eD base U B (iz pv x.now) (i*3) (pv i) r)from fun U hU=>by
  have h:=M9 base U B (i*3) (iz pv x.now) (pv i) (x.part i) o hs ((HH.o.dt hU).part i sy.o) ((HH.o.dt hU).partAt sy.o) wR.o (HF.o.dt hU) (HI.o.ok.part i) (HI.o.sm i) a QQ.o.Ya Wv.o (QP.o.trans hU);rw[<-BH]at h;exact h)
 rw[dV lg.o]at HM;have HW:=O hw;clear hr hw BH zS vg;go_enter func30,ntmps30;go_wp2_with (first|((with_reducible refine dv 8 ?_);refine aJ rfl 33 (.tmp 3) rfl w.heap.size rfl _ _ (0,0) _ u_.o underlying33 rfl af ?_)|fail)
 rw[<-oz.o];refine sR.o.mono ?_;rintro e u⟨rfl,hu⟩;obtain⟨a0,a1,a2,a3,a4,a5,a6,a7,a8,a9,jr,js,a12,jq,jt,i_,jD,jE,jF,jN,a20,a21⟩:=ed (hu.keep mE.o id) lg.o;rw[zT.o]at a1;clear a0 a2 a3 a4 a5 a6 a7 a8 a9 jr js a12 jq jt i_ jD jE jF jN a20 a21;have pY:=O (show∀n,Fr aW w2 (u.drewN n)from fun n=>dE n hu);clear hu u_;go_wp2_with fail
 go_quiet (fail);clear a1;have mC:=pY.o nq;generalize u.drewN nq=u1 at mC ⊢;have sS:=O mC;clear mC pY;have Ed:=O (sS.o.keep mE.o id);rw[dV lg.o]at Ed;obtain⟨a0,a1,a2,a3,a4,a5,a6,a7,a8,a9,jr,js,a12,jq,jt,i_,jD,jE,jF,jN,a20,a21⟩:=ed (sS.o.keep mE.o id) lg.o;rw[zT.o]at a1;have wV:=HW.o;rw[wV]at a0;clear wV;clear a1 a2 a3 a4 a5 a6 a7 a8 a9 jr js a12 jq jt i_ jD jE jF jN a20 a21
 go_wp2_with (first|((with_reducible refine dv 24 ?_);refine aJ rfl 33 (.tmp 3) rfl w.heap.size rfl _ _ (0,0) _ Ed.o underlying33 rfl af ?_)|fail)
 have sT:=sS.o;refine(HM.o _ sT).mono ?_;rintro e u5⟨rfl,hp⟩;unfold ky.val;have KB:=sT.keep qx.o id;have oU:=O (nO (HH.o.dt sT) sy.o hp KB dR ab);have HP:=O (show dy base w B pv (x.set i r.1) u5 from cF fS.o (cF sT (j9 (HH.o.dt sT) sy.o hp)));clear hp KB sT HM
 go_wp2_with (first|((with_reducible refine cP 46 ?_);refine aF rfl 46 (.tmp 4) (.tmp 25) rfl (w.heap.size+1) #[.int .i64 r.2.what,.string r.2.head,.int .i64 r.2.cert] rfl rfl _ bQ oU.o (bd _ rfl) rfl bX ?_)|fail)
 refine aR (bh bw _ _ (w.heap.size+1) 46 #[.int .i64 r.2.what,.string r.2.head,.int .i64 r.2.cert] (0,0) _ rfl (aY _ (w.heap.size+1) _ _ _ _ oU.o) underlying46 rfl (bd _ rfl)) rfl ?_;unfold jG;rw[HR.o];exact⟨rfl,eo HP.o pU.o oM.o (bT _) oU.o dR ag _⟩
theorem Nr(base:Nat)(w:World)(B:Nat)(pv:Nat->dm)(x:d_)(o:jB)(hs:List gU)(h:df base w B pv x)(hf:gL w o hs)(hi:nr x)(a:World)(sP:kL a)(rN:a.heap.size<=base)(sQ:Fr aW a w)(hr:(o.dP hs).right=true)(hw:o.what=2) :
  aC 30 #[.pointer (some ⟨B,0,none⟩),.agg o.cells.toArray] w (jG base w B pv (mX x (o.dP hs))):=by
 have uo:B<w.heap.size:=h.lt;have o8:=h.low;obtain⟨ah,ch,gq⟩:=hf.gO;obtain⟨w2,ez⟩:∃w2,w2=(w.alloc (.cells o.cells.toArray 33)).alloc (.cells bQ 46):=⟨_,rfl⟩;have dD:Fr aW w w2:=by rw[ez];exact((ae aW w).alloc _).alloc _
 have k1:w2.heap[w.heap.size]?=some (.cells o.cells.toArray 33 (0,0)):=by rw[ez];exact((ae aW _).alloc _).keep (aB _ _) id
 have k2:w2.heap[w.heap.size+1]?=some (.cells bQ 46 (0,0)):=by
  have h:=aB (w.alloc (.cells o.cells.toArray 33)) (.cells bQ 46);rw[bM]at h;rw[ez];exact h
 have sR:=O (kY o hs w2 (hf.dt dD));have HH:=O (h.dt dD);have HF:=O (hf.dt dD);have lg:=O gq;have HI:=O hi;have fS:=O dD;have mE:=O k1;have qx:=O k2;have pU:=O (show base<=w.heap.size from ab);have wR:=O o8;have oM:=O uo;have QQ:=O sP;have QP:=O (sQ.trans dD);have Wv:=O rN;rw[ez]at k1;rw[dV gq]at ez sR k1 ⊢;unfold bQ at ez k1;have oz:=O ez;have u_:=O k1;clear ez gq dD k1 k2 h hf hi sP rN sQ
 obtain⟨i,vg,zS⟩:∃i:Nat,o.aI.part=(i:Int)/\i<4:=by
  obtain⟨h0,h1⟩:=ko hr;have RW:0<=o.aI.part:=h0;have P':o.aI.part<4:=h1;exact⟨o.aI.part.toNat,ab,ab⟩
 have Sk:(i:Int)<4:=ab;have ri:¬(i:Int)<0:=ab;have Tp:¬(4:Int)<=(i:Int):=ab;have P1:(0:Int)<=(i:Int):=ab;have sy:=O zS;have zT:=O vg;obtain⟨r,BH⟩:∃r,r=jo (x.part i) (o.dP hs):=⟨_,rfl⟩;have HR:=O (show mX x (o.dP hs)=(x.set i r.1,r.2)by rw[pV hr vg (by show o.what≠10;omega),BH,ane (show(o.dP hs).what=2 from hw)]);rw[hr]at sR
 have HM:=O (show∀U,Fr aW w2 U->aC 43 #[.pointer (some ⟨B,i*3,none⟩),.agg o.cells.toArray] U (eD base U B (iz pv x.now) (i*3) (pv i) r)from fun U hU=>by
  have h:=KK base U B (i*3) (iz pv x.now) (pv i) (x.part i) o hs ((HH.o.dt hU).part i sy.o) ((HH.o.dt hU).partAt sy.o) wR.o (HF.o.dt hU) (HI.o.ok.part i);rw[<-BH]at h;exact h)
 rw[dV lg.o]at HM;have HW:=O hw;clear hr hw BH zS vg;go_enter func30,ntmps30;go_wp2_with (first|((with_reducible refine dv 8 ?_);refine aJ rfl 33 (.tmp 3) rfl w.heap.size rfl _ _ (0,0) _ u_.o underlying33 rfl af ?_)|fail)
 rw[<-oz.o];refine sR.o.mono ?_;rintro e u⟨rfl,hu⟩;obtain⟨a0,a1,a2,a3,a4,a5,a6,a7,a8,a9,jr,js,a12,jq,jt,i_,jD,jE,jF,jN,a20,a21⟩:=ed (hu.keep mE.o id) lg.o;rw[zT.o]at a1;clear a0 a2 a3 a4 a5 a6 a7 a8 a9 jr js a12 jq jt i_ jD jE jF jN a20 a21;have pY:=O (show∀n,Fr aW w2 (u.drewN n)from fun n=>dE n hu);clear hu u_;go_wp2_with fail
 go_quiet (fail);clear a1;have mC:=pY.o nq;generalize u.drewN nq=u1 at mC ⊢;have sS:=O mC;clear mC pY;have Ed:=O (sS.o.keep mE.o id);rw[dV lg.o]at Ed;obtain⟨a0,a1,a2,a3,a4,a5,a6,a7,a8,a9,jr,js,a12,jq,jt,i_,jD,jE,jF,jN,a20,a21⟩:=ed (sS.o.keep mE.o id) lg.o;rw[zT.o]at a1;have wV:=HW.o;rw[wV]at a0;clear wV;clear a1 a2 a3 a4 a5 a6 a7 a8 a9 jr js a12 jq jt i_ jD jE jF jN a20 a21
 go_wp2_with (first|((with_reducible refine dv 29 ?_);refine aJ rfl 33 (.tmp 3) rfl w.heap.size rfl _ _ (0,0) _ Ed.o underlying33 rfl af ?_)|fail)
 have sT:=sS.o;refine(HM.o _ sT).mono ?_;rintro e u5⟨rfl,hp⟩;unfold ky.val;have KB:=sT.keep qx.o id;have oU:=O (nO (HH.o.dt sT) sy.o hp KB dR ab);have HP:=O (show dy base w B pv (x.set i r.1) u5 from cF fS.o (cF sT (j9 (HH.o.dt sT) sy.o hp)));clear hp KB sT HM
 go_wp2_with (first|((with_reducible refine cP 46 ?_);refine aF rfl 46 (.tmp 4) (.tmp 30) rfl (w.heap.size+1) #[.int .i64 r.2.what,.string r.2.head,.int .i64 r.2.cert] rfl rfl _ bQ oU.o (bd _ rfl) rfl bX ?_)|fail)
 refine aR (bh bw _ _ (w.heap.size+1) 46 #[.int .i64 r.2.what,.string r.2.head,.int .i64 r.2.cert] (0,0) _ rfl (aY _ (w.heap.size+1) _ _ _ _ oU.o) underlying46 rfl (bd _ rfl)) rfl ?_;unfold jG;rw[HR.o];exact⟨rfl,eo HP.o pU.o oM.o (bT _) oU.o dR ag _⟩
theorem KS(base:Nat)(w:World)(B:Nat)(pv:Nat->dm)(x:d_)(o:jB)(hs:List gU)(h:df base w B pv x)(hf:gL w o hs)(hi:nr x)(a:World)(sP:kL a)(rN:a.heap.size<=base)(sQ:Fr aW a w)(hr:(o.dP hs).right=true)(hw:o.what=3) :
  aC 30 #[.pointer (some ⟨B,0,none⟩),.agg o.cells.toArray] w (jG base w B pv (mX x (o.dP hs))):=by
 have uo:B<w.heap.size:=h.lt;have o8:=h.low;obtain⟨ah,ch,gq⟩:=hf.gO;obtain⟨w2,ez⟩:∃w2,w2=(w.alloc (.cells o.cells.toArray 33)).alloc (.cells bQ 46):=⟨_,rfl⟩;have dD:Fr aW w w2:=by rw[ez];exact((ae aW w).alloc _).alloc _
 have k1:w2.heap[w.heap.size]?=some (.cells o.cells.toArray 33 (0,0)):=by rw[ez];exact((ae aW _).alloc _).keep (aB _ _) id
 have k2:w2.heap[w.heap.size+1]?=some (.cells bQ 46 (0,0)):=by
  have h:=aB (w.alloc (.cells o.cells.toArray 33)) (.cells bQ 46);rw[bM]at h;rw[ez];exact h
 have sR:=O (kY o hs w2 (hf.dt dD));have HH:=O (h.dt dD);have HF:=O (hf.dt dD);have lg:=O gq;have HI:=O hi;have fS:=O dD;have mE:=O k1;have qx:=O k2;have pU:=O (show base<=w.heap.size from ab);have wR:=O o8;have oM:=O uo;have QQ:=O sP;have QP:=O (sQ.trans dD);have Wv:=O rN;rw[ez]at k1;rw[dV gq]at ez sR k1 ⊢;unfold bQ at ez k1;have oz:=O ez;have u_:=O k1;clear ez gq dD k1 k2 h hf hi sP rN sQ
 obtain⟨i,vg,zS⟩:∃i:Nat,o.aI.part=(i:Int)/\i<4:=by
  obtain⟨h0,h1⟩:=ko hr;have RW:0<=o.aI.part:=h0;have P':o.aI.part<4:=h1;exact⟨o.aI.part.toNat,ab,ab⟩
 have Sk:(i:Int)<4:=ab;have ri:¬(i:Int)<0:=ab;have Tp:¬(4:Int)<=(i:Int):=ab;have P1:(0:Int)<=(i:Int):=ab;have sy:=O zS;have zT:=O vg;obtain⟨r,BH⟩:∃r,r=kV (x.part i) (o.dP hs):=⟨_,rfl⟩;have HR:=O (show mX x (o.dP hs)=(x.set i r.1,r.2)by rw[pV hr vg (by show o.what≠10;omega),BH,anf (show(o.dP hs).what=3 from hw)]);rw[hr]at sR
 have HM:=O (show∀U,Fr aW w2 U->aC 44 #[.pointer (some ⟨B,i*3,none⟩),.agg o.cells.toArray] U (eD base U B (iz pv x.now) (i*3) (pv i) r)from fun U hU=>by
  have h:=Hk base U B (i*3) (iz pv x.now) (pv i) (x.part i) o hs ((HH.o.dt hU).part i sy.o) ((HH.o.dt hU).partAt sy.o) wR.o (HF.o.dt hU) (HI.o.ok.part i) (HI.o.path i);rw[<-BH]at h;exact h)
 rw[dV lg.o]at HM;have HW:=O hw;clear hr hw BH zS vg;go_enter func30,ntmps30;go_wp2_with (first|((with_reducible refine dv 8 ?_);refine aJ rfl 33 (.tmp 3) rfl w.heap.size rfl _ _ (0,0) _ u_.o underlying33 rfl af ?_)|fail)
 rw[<-oz.o];refine sR.o.mono ?_;rintro e u⟨rfl,hu⟩;obtain⟨a0,a1,a2,a3,a4,a5,a6,a7,a8,a9,jr,js,a12,jq,jt,i_,jD,jE,jF,jN,a20,a21⟩:=ed (hu.keep mE.o id) lg.o;rw[zT.o]at a1;clear a0 a2 a3 a4 a5 a6 a7 a8 a9 jr js a12 jq jt i_ jD jE jF jN a20 a21;have pY:=O (show∀n,Fr aW w2 (u.drewN n)from fun n=>dE n hu);clear hu u_;go_wp2_with fail
 go_quiet (fail);clear a1;have mC:=pY.o nq;generalize u.drewN nq=u1 at mC ⊢;have sS:=O mC;clear mC pY;have Ed:=O (sS.o.keep mE.o id);rw[dV lg.o]at Ed;obtain⟨a0,a1,a2,a3,a4,a5,a6,a7,a8,a9,jr,js,a12,jq,jt,i_,jD,jE,jF,jN,a20,a21⟩:=ed (sS.o.keep mE.o id) lg.o;rw[zT.o]at a1;have wV:=HW.o;rw[wV]at a0;clear wV;clear a1 a2 a3 a4 a5 a6 a7 a8 a9 jr js a12 jq jt i_ jD jE jF jN a20 a21
 go_wp2_with (first|((with_reducible refine dv 34 ?_);refine aJ rfl 33 (.tmp 3) rfl w.heap.size rfl _ _ (0,0) _ Ed.o underlying33 rfl af ?_)|fail)
 have sT:=sS.o;refine(HM.o _ sT).mono ?_;rintro e u5⟨rfl,hp⟩;unfold ky.val;have KB:=sT.keep qx.o id;have oU:=O (nO (HH.o.dt sT) sy.o hp KB dR ab);have HP:=O (show dy base w B pv (x.set i r.1) u5 from cF fS.o (cF sT (j9 (HH.o.dt sT) sy.o hp)));clear hp KB sT HM
 go_wp2_with (first|((with_reducible refine cP 46 ?_);refine aF rfl 46 (.tmp 4) (.tmp 35) rfl (w.heap.size+1) #[.int .i64 r.2.what,.string r.2.head,.int .i64 r.2.cert] rfl rfl _ bQ oU.o (bd _ rfl) rfl bX ?_)|fail)
 refine aR (bh bw _ _ (w.heap.size+1) 46 #[.int .i64 r.2.what,.string r.2.head,.int .i64 r.2.cert] (0,0) _ rfl (aY _ (w.heap.size+1) _ _ _ _ oU.o) underlying46 rfl (bd _ rfl)) rfl ?_;unfold jG;rw[HR.o];exact⟨rfl,eo HP.o pU.o oM.o (bT _) oU.o dR ag _⟩
theorem Vf(base:Nat)(w:World)(B:Nat)(pv:Nat->dm)(x:d_)(o:jB)(hs:List gU)(h:df base w B pv x)(hf:gL w o hs)(hi:nr x)(a:World)(sP:kL a)(rN:a.heap.size<=base)(sQ:Fr aW a w)(hr:(o.dP hs).right=true)(hw:o.what=4) :
  aC 30 #[.pointer (some ⟨B,0,none⟩),.agg o.cells.toArray] w (jG base w B pv (mX x (o.dP hs))):=by
 have uo:B<w.heap.size:=h.lt;have o8:=h.low;obtain⟨ah,ch,gq⟩:=hf.gO;obtain⟨w2,ez⟩:∃w2,w2=(w.alloc (.cells o.cells.toArray 33)).alloc (.cells bQ 46):=⟨_,rfl⟩;have dD:Fr aW w w2:=by rw[ez];exact((ae aW w).alloc _).alloc _
 have k1:w2.heap[w.heap.size]?=some (.cells o.cells.toArray 33 (0,0)):=by rw[ez];exact((ae aW _).alloc _).keep (aB _ _) id
 have k2:w2.heap[w.heap.size+1]?=some (.cells bQ 46 (0,0)):=by
  have h:=aB (w.alloc (.cells o.cells.toArray 33)) (.cells bQ 46);rw[bM]at h;rw[ez];exact h
 have sR:=O (kY o hs w2 (hf.dt dD));have HH:=O (h.dt dD);have HF:=O (hf.dt dD);have lg:=O gq;have HI:=O hi;have fS:=O dD;have mE:=O k1;have qx:=O k2;have pU:=O (show base<=w.heap.size from ab);have wR:=O o8;have oM:=O uo;have QQ:=O sP;have QP:=O (sQ.trans dD);have Wv:=O rN;rw[ez]at k1;rw[dV gq]at ez sR k1 ⊢;unfold bQ at ez k1;have oz:=O ez;have u_:=O k1;clear ez gq dD k1 k2 h hf hi sP rN sQ
 obtain⟨i,vg,zS⟩:∃i:Nat,o.aI.part=(i:Int)/\i<4:=by
  obtain⟨h0,h1⟩:=ko hr;have RW:0<=o.aI.part:=h0;have P':o.aI.part<4:=h1;exact⟨o.aI.part.toNat,ab,ab⟩
 have Sk:(i:Int)<4:=ab;have ri:¬(i:Int)<0:=ab;have Tp:¬(4:Int)<=(i:Int):=ab;have P1:(0:Int)<=(i:Int):=ab;have sy:=O zS;have zT:=O vg;have Ip:=O (show mX x (o.dP hs)=(x,rep (if mj (x.part i).book (o.aI.dP hs) x.now then 5 else 4))by
  rw[pV hr vg (by show o.what≠10;omega),ang (show(o.dP hs).what=4 from hw),d_.Kb];rfl)
 rw[hr]at sR
 have wT:=O (show∀U,Fr aW w2 U->aC 45 #[.pointer (some ⟨(pv i).k,0,none⟩),.agg #[.int .i64 (i:Int),.bool o.aI.cQ.aG,.string o.aI.cQ.host,.int .i64 o.aI.cQ.port,.bool o.aI.o.aG,.string o.aI.o.host,.int .i64 o.aI.o.port,.string o.aI.path,.string o.aI.query,.string o.aI.method,.slice ah hs.length ch,.bool o.aI.fF,.string o.aI.body],.int .i64 x.now] U fun e w'=>e=.returned (.bool (mj (x.part i).book (o.aI.dP hs) x.now))/\Fr aW U w' from fun U hU=>by
  have h:=KH base U (pv i).k (pv i).kv (x.part i).book o.aI hs x.now ((HH.o.dt hU).part i sy.o).book (ix (HI.o.ok.part i).rf.2.2.1 ag) (HF.o.dt hU).ef HF.o.aI;rw[zt lg.o,zT.o]at h;exact h)
 have HC:=O (show∀U,Fr aW w2 U->(U.cell? ⟨B,i*3+1,none⟩=some (.pointer (some ⟨(pv i).k,0,none⟩))/\U.cell? ⟨B,12,none⟩=some (.int .i64 x.now)/\U.cell? ⟨w.heap.size,1,none⟩=some (.int .i64 (i:Int))/\U.cell? ⟨w.heap.size,2,none⟩=some (.bool o.aI.cQ.aG)/\U.cell? ⟨w.heap.size,3,none⟩=some (.string o.aI.cQ.host)/\U.cell? ⟨w.heap.size,4,none⟩=some (.int .i64 o.aI.cQ.port)/\U.cell? ⟨w.heap.size,5,none⟩=some (.bool o.aI.o.aG)/\U.cell? ⟨w.heap.size,6,none⟩=some (.string o.aI.o.host)/\U.cell? ⟨w.heap.size,7,none⟩=some (.int .i64 o.aI.o.port)/\U.cell? ⟨w.heap.size,8,none⟩=some (.string o.aI.path)/\U.cell? ⟨w.heap.size,9,none⟩=some (.string o.aI.query)/\U.cell? ⟨w.heap.size,10,none⟩=some (.string o.aI.method)/\U.cell? ⟨w.heap.size,11,none⟩=some (.slice ah hs.length ch)/\U.cell? ⟨w.heap.size,12,none⟩=some (.bool o.aI.fF)/\U.cell? ⟨w.heap.size,13,none⟩=some (.string o.aI.body))from fun U hU=>by
  have j1:=(HH.o.dt hU).partAt sy.o;have j2:=(HH.o.dt hU).eG;obtain⟨a0,a1,a2,a3,a4,a5,a6,a7,a8,a9,jr,js,a12,jq,jt,i_,jD,jE,jF,jN,a20,a21⟩:=ed (hU.keep mE.o id) lg.o;rw[zT.o]at a1;exact⟨j1.gV,by simp only[World.cell?,j2];rfl,a1,a2,a3,a4,a5,a6,a7,a8,a9,jr,js,a12,jq⟩)
 have HW:=O hw;clear hr hw zS vg;go_enter func30,ntmps30;go_wp2_with (first|((with_reducible refine dv 8 ?_);refine aJ rfl 33 (.tmp 3) rfl w.heap.size rfl _ _ (0,0) _ u_.o underlying33 rfl af ?_)|fail)
 rw[<-oz.o];refine sR.o.mono ?_;rintro e u⟨rfl,hu⟩;obtain⟨a0,a1,a2,a3,a4,a5,a6,a7,a8,a9,jr,js,a12,jq,jt,i_,jD,jE,jF,jN,a20,a21⟩:=ed (hu.keep mE.o id) lg.o;rw[zT.o]at a1;clear a0 a2 a3 a4 a5 a6 a7 a8 a9 jr js a12 jq jt i_ jD jE jF jN a20 a21;have pY:=O (show∀n,Fr aW w2 (u.drewN n)from fun n=>dE n hu);clear hu u_;go_wp2_with fail
 go_quiet (fail);clear a1;have mC:=pY.o nq;generalize u.drewN nq=u1 at mC ⊢;have sS:=O mC;clear mC pY;have Ed:=O (sS.o.keep mE.o id);rw[dV lg.o]at Ed;obtain⟨a0,a1,a2,a3,a4,a5,a6,a7,a8,a9,jr,js,a12,jq,jt,i_,jD,jE,jF,jN,a20,a21⟩:=ed (sS.o.keep mE.o id) lg.o;rw[zT.o]at a1;have wV:=HW.o;rw[wV]at a0;clear wV;clear a1 a2 a3 a4 a5 a6 a7 a8 a9 jr js a12 jq jt i_ jD jE jF jN a20 a21
 cases hb:mj (x.part i).book (o.aI.dP hs) x.now
 ·skip
  have HR:=O (Ip.o.trans (by rw[hb];rfl:_=(x,rep 4)));rw[hb]at wT;clear hb Ip;go_wp2_with fail
  go_region_held3 (fun U=>Fr aW w2 U/\U.cell? ⟨B,i*3+1,none⟩=some (.pointer (some ⟨(pv i).k,0,none⟩))/\U.cell? ⟨B,12,none⟩=some (.int .i64 x.now)/\U.cell? ⟨w.heap.size,1,none⟩=some (.int .i64 (i:Int))/\U.cell? ⟨w.heap.size,2,none⟩=some (.bool o.aI.cQ.aG)/\U.cell? ⟨w.heap.size,3,none⟩=some (.string o.aI.cQ.host)/\U.cell? ⟨w.heap.size,4,none⟩=some (.int .i64 o.aI.cQ.port)/\U.cell? ⟨w.heap.size,5,none⟩=some (.bool o.aI.o.aG)/\U.cell? ⟨w.heap.size,6,none⟩=some (.string o.aI.o.host)/\U.cell? ⟨w.heap.size,7,none⟩=some (.int .i64 o.aI.o.port)/\U.cell? ⟨w.heap.size,8,none⟩=some (.string o.aI.path)/\U.cell? ⟨w.heap.size,9,none⟩=some (.string o.aI.query)/\U.cell? ⟨w.heap.size,10,none⟩=some (.string o.aI.method)/\U.cell? ⟨w.heap.size,11,none⟩=some (.slice ah hs.length ch)/\U.cell? ⟨w.heap.size,12,none⟩=some (.bool o.aI.fF)/\U.cell? ⟨w.heap.size,13,none⟩=some (.string o.aI.body)) ((refine(fun hU=>⟨hU,HC.o _ hU⟩) ?_;first|exact az sS.o|assumption))
   ((first
    |(go_at_call 45;refine(wT.o _ (az sS.o)).mono ?_;rintro e u5 ⟨rfl,lC⟩;have tJ:Fr aW w2 u5:=(az sS.o).trans lC)))
  have HP:=O (show dy base w B pv x u5 from cF fS.o (fq HH.o tJ));have oU:=O (tJ.keep qx.o id);clear lC tJ HC wT;go_wp2_with (first|((with_reducible refine cP 46 ?_);refine aF rfl 46 (.tmp 4) (.tmp 50) rfl (w.heap.size+1) #[.int .i64 4,.string ⟨#[]⟩,.int .i64 0] rfl rfl _ bQ oU.o (bd _ rfl) rfl bX ?_)|fail)
  refine aR (bh bw _ _ (w.heap.size+1) 46 #[.int .i64 4,.string ⟨#[]⟩,.int .i64 0] (0,0) _ rfl (aY _ (w.heap.size+1) _ _ _ _ oU.o) underlying46 rfl (bd _ rfl)) rfl ?_;unfold jG;rw[HR.o];exact⟨rfl,eo HP.o pU.o oM.o (bT _) oU.o dR ag _⟩
 ·skip
  have HR:=O (Ip.o.trans (by rw[hb];rfl:_=(x,rep 5)));rw[hb]at wT;clear hb Ip;go_wp2_with fail
  go_region_held3 (fun U=>Fr aW w2 U/\U.cell? ⟨B,i*3+1,none⟩=some (.pointer (some ⟨(pv i).k,0,none⟩))/\U.cell? ⟨B,12,none⟩=some (.int .i64 x.now)/\U.cell? ⟨w.heap.size,1,none⟩=some (.int .i64 (i:Int))/\U.cell? ⟨w.heap.size,2,none⟩=some (.bool o.aI.cQ.aG)/\U.cell? ⟨w.heap.size,3,none⟩=some (.string o.aI.cQ.host)/\U.cell? ⟨w.heap.size,4,none⟩=some (.int .i64 o.aI.cQ.port)/\U.cell? ⟨w.heap.size,5,none⟩=some (.bool o.aI.o.aG)/\U.cell? ⟨w.heap.size,6,none⟩=some (.string o.aI.o.host)/\U.cell? ⟨w.heap.size,7,none⟩=some (.int .i64 o.aI.o.port)/\U.cell? ⟨w.heap.size,8,none⟩=some (.string o.aI.path)/\U.cell? ⟨w.heap.size,9,none⟩=some (.string o.aI.query)/\U.cell? ⟨w.heap.size,10,none⟩=some (.string o.aI.method)/\U.cell? ⟨w.heap.size,11,none⟩=some (.slice ah hs.length ch)/\U.cell? ⟨w.heap.size,12,none⟩=some (.bool o.aI.fF)/\U.cell? ⟨w.heap.size,13,none⟩=some (.string o.aI.body)) ((refine(fun hU=>⟨hU,HC.o _ hU⟩) ?_;first|exact az sS.o|assumption))
   ((first
    |(go_at_call 45;refine(wT.o _ (az sS.o)).mono ?_;rintro e u5 ⟨rfl,lC⟩;have tJ:Fr aW w2 u5:=(az sS.o).trans lC)))
  have HP:=O (show dy base w B pv x u5 from cF fS.o (fq HH.o tJ));have oU:=O (tJ.keep qx.o id);clear lC tJ HC wT;go_wp2_with (first|((with_reducible refine cP 46 ?_);refine aF rfl 46 (.tmp 4) (.tmp 49) rfl (w.heap.size+1) #[.int .i64 5,.string ⟨#[]⟩,.int .i64 0] rfl rfl _ bQ oU.o (bd _ rfl) rfl bX ?_)|fail)
  refine aR (bh bw _ _ (w.heap.size+1) 46 #[.int .i64 5,.string ⟨#[]⟩,.int .i64 0] (0,0) _ rfl (aY _ (w.heap.size+1) _ _ _ _ oU.o) underlying46 rfl (bd _ rfl)) rfl ?_;unfold jG;rw[HR.o];exact⟨rfl,eo HP.o pU.o oM.o (bT _) oU.o dR ag _⟩
theorem Q5{cs:aX}(h:w.heap[b]?=some (.cells cs.toArray t (0,0))):w.rangeAt b 0 cs:=fun j v hv=>by
 simp only[World.cell?,h];simpa using hv
theorem Ns(base:Nat)(w:World)(B:Nat)(pv:Nat->dm)(x:d_)(o:jB)(hs:List gU)(h:df base w B pv x)(hf:gL w o hs)(hi:nr x)(a:World)(sP:kL a)(rN:a.heap.size<=base)(sQ:Fr aW a w)(hr:(o.dP hs).right=true)(hw:o.what=5) :
  aC 30 #[.pointer (some ⟨B,0,none⟩),.agg o.cells.toArray] w (jG base w B pv (mX x (o.dP hs))):=by
 have uo:B<w.heap.size:=h.lt;have o8:=h.low;obtain⟨ah,ch,gq⟩:=hf.gO;obtain⟨w2,ez⟩:∃w2,w2=(w.alloc (.cells o.cells.toArray 33)).alloc (.cells bQ 46):=⟨_,rfl⟩;have dD:Fr aW w w2:=by rw[ez];exact((ae aW w).alloc _).alloc _
 have k1:w2.heap[w.heap.size]?=some (.cells o.cells.toArray 33 (0,0)):=by rw[ez];exact((ae aW _).alloc _).keep (aB _ _) id
 have k2:w2.heap[w.heap.size+1]?=some (.cells bQ 46 (0,0)):=by
  have h:=aB (w.alloc (.cells o.cells.toArray 33)) (.cells bQ 46);rw[bM]at h;rw[ez];exact h
 have sR:=O (kY o hs w2 (hf.dt dD));have HH:=O (h.dt dD);have HF:=O (hf.dt dD);have lg:=O gq;have HI:=O hi;have fS:=O dD;have mE:=O k1;have qx:=O k2;have pU:=O (show base<=w.heap.size from ab);have wR:=O o8;have oM:=O uo;have QQ:=O sP;have QP:=O (sQ.trans dD);have Wv:=O rN;rw[ez]at k1;rw[dV gq]at ez sR k1 ⊢;unfold bQ at ez k1;have oz:=O ez;have u_:=O k1;clear ez gq dD k1 k2 h hf hi sP rN sQ
 obtain⟨i,vg,zS⟩:∃i:Nat,o.aI.part=(i:Int)/\i<4:=by
  obtain⟨h0,h1⟩:=ko hr;have RW:0<=o.aI.part:=h0;have P':o.aI.part<4:=h1;exact⟨o.aI.part.toNat,ab,ab⟩
 have Sk:(i:Int)<4:=ab;have ri:¬(i:Int)<0:=ab;have Tp:¬(4:Int)<=(i:Int):=ab;have P1:(0:Int)<=(i:Int):=ab;have sy:=O zS;have zT:=O vg;obtain⟨r,BH⟩:∃r,r=kX (x.part i) x.now (o.dP hs):=⟨_,rfl⟩;have HR:=O (show mX x (o.dP hs)=(x.set i r.1,r.2)by rw[pV hr vg (by show o.what≠10;omega),BH,anh (show(o.dP hs).what=5 from hw)]);rw[hr]at sR
 have HM:=O (show∀U,Fr aW w2 U->aC 46 #[.pointer (some ⟨B,i*3,none⟩),.agg o.cells.toArray,.int .i64 x.now] U (eD base U B (iz pv x.now) (i*3) (pv i) r)from fun U hU=>by
  have h:=KI base U B (i*3) (iz pv x.now) (pv i) (x.part i) o hs x.now ((HH.o.dt hU).part i sy.o) ((HH.o.dt hU).partAt sy.o) wR.o (HF.o.dt hU) (HI.o.ok.part i) (QQ.o.pw.fr (QP.o.trans hU)) HI.o.ok.now.1 HI.o.ok.now.2;rw[<-BH]at h;exact h)
 rw[dV lg.o]at HM
 have HC:=O (show∀U,Fr aW w2 U->(U.heap[w.heap.size]?=some (.cells #[.int .i64 o.what,.int .i64 o.aI.part,.bool o.aI.cQ.aG,.string o.aI.cQ.host,.int .i64 o.aI.cQ.port,.bool o.aI.o.aG,.string o.aI.o.host,.int .i64 o.aI.o.port,.string o.aI.path,.string o.aI.query,.string o.aI.method,.slice ah hs.length ch,.bool o.aI.fF,.string o.aI.body,.bool o.proxy,.string o.text,.string o.user,.string o.pass,.string o.bI,.int .i64 o.cert,.bool o.all,.int .i64 o.n] 33 (0,0))/\U.cell? ⟨B,12,none⟩=some (.int .i64 x.now))from fun U hU=>by
  have j2:=(HH.o.dt hU).eG;exact⟨by rw[<-dV lg.o];exact hU.keep mE.o id,by simp only[World.cell?,j2];rfl⟩)
 have HW:=O hw;clear hr hw BH zS vg;go_enter func30,ntmps30;go_wp2_with (first|((with_reducible refine dv 8 ?_);refine aJ rfl 33 (.tmp 3) rfl w.heap.size rfl _ _ (0,0) _ u_.o underlying33 rfl af ?_)|fail)
 rw[<-oz.o];refine sR.o.mono ?_;rintro e u⟨rfl,hu⟩;obtain⟨a0,a1,a2,a3,a4,a5,a6,a7,a8,a9,jr,js,a12,jq,jt,i_,jD,jE,jF,jN,a20,a21⟩:=ed (hu.keep mE.o id) lg.o;rw[zT.o]at a1;clear a0 a2 a3 a4 a5 a6 a7 a8 a9 jr js a12 jq jt i_ jD jE jF jN a20 a21;have pY:=O (show∀n,Fr aW w2 (u.drewN n)from fun n=>dE n hu);clear hu u_;go_wp2_with fail
 go_quiet (fail);clear a1;have mC:=pY.o nq;generalize u.drewN nq=u1 at mC ⊢;have sS:=O mC;clear mC pY;have Ed:=O (sS.o.keep mE.o id);rw[dV lg.o]at Ed;obtain⟨a0,a1,a2,a3,a4,a5,a6,a7,a8,a9,jr,js,a12,jq,jt,i_,jD,jE,jF,jN,a20,a21⟩:=ed (sS.o.keep mE.o id) lg.o;rw[zT.o]at a1;have wV:=HW.o;rw[wV]at a0;clear wV;clear a1 a2 a3 a4 a5 a6 a7 a8 a9 jr js a12 jq jt i_ jD jE jF jN a20 a21;go_wp2_with fail
 refine wp_region_held_drew (S:=(fun U=>U.heap[w.heap.size]?=some (.cells #[.int .i64 o.what,.int .i64 o.aI.part,.bool o.aI.cQ.aG,.string o.aI.cQ.host,.int .i64 o.aI.cQ.port,.bool o.aI.o.aG,.string o.aI.o.host,.int .i64 o.aI.o.port,.string o.aI.path,.string o.aI.query,.string o.aI.method,.slice ah hs.length ch,.bool o.aI.fF,.string o.aI.body,.bool o.proxy,.string o.text,.string o.user,.string o.pass,.string o.bI,.int .i64 o.cert,.bool o.all,.int .i64 o.n] 33 (0,0))/\U.cell? ⟨B,12,none⟩=some (.int .i64 x.now))) af (HC.o _ (az sS.o)) ?_
 intro yl;refine aO 0 53 rfl ?_
 refine uz 1 54 rfl (fR bw 33 (.tmp 3) rfl w.heap.size 0 rfl [.int .i64 o.what,.int .i64 o.aI.part,.bool o.aI.cQ.aG,.string o.aI.cQ.host,.int .i64 o.aI.cQ.port,.bool o.aI.o.aG,.string o.aI.o.host,.int .i64 o.aI.o.port,.string o.aI.path,.string o.aI.query,.string o.aI.method,.slice ah hs.length ch,.bool o.aI.fF,.string o.aI.body,.bool o.proxy,.string o.text,.string o.user,.string o.pass,.string o.bI,.int .i64 o.cert,.bool o.all,.int .i64 o.n] _ (fun U hU=>Q5 hU.1) underlying33 rfl af) ?_
 try simp only[Act.put,sA,sB,sC]
 refine aO 2 55 rfl ?_;refine aO 3 56 rfl ?_;refine aO 4 57 rfl ?_;refine aO 5 58 rfl ?_;refine eK 6 rfl fun K hK=>?_;go_simp;have sT:=az sS.o;refine(HM.o _ sT).mono ?_;rintro e u5⟨rfl,hp⟩;unfold ky.val;have KB:=sT.keep qx.o id;have oU:=O (nO (HH.o.dt sT) sy.o hp KB dR ab);have hko:=nO (HH.o.dt sT) sy.o hp (HC.o _ sT).1 kZ ab
 have HP:=O (show dy base w B pv (x.set i r.1) u5 from cF fS.o (cF sT (j9 (HH.o.dt sT) sy.o hp)));have YR:u5.cell? ⟨B,12,none⟩=some (.int .i64 x.now):=by
  obtain⟨v',_,_,_,h4⟩:=hp;rw[yb pv x.now sy.o]at h4;simp only[World.cell?,h4];rfl
 have HS5:=O (And.intro hko YR);have HB5:=O (show B<u5.heap.size by obtain⟨v',_,_,_,h4⟩:=hp;exact bg h4);clear hp KB sT HM hko YR;refine hK.out _ _ HS5.o ?_;intro wU;clear hK yl K
 try simp only[Act.put,sA,sB,sC]
 refine eK 7 rfl fun K hK=>?_;refine jC rfl 46 (.tmp 4) (.tmp 59) rfl (w.heap.size+1) #[.int .i64 r.2.what,.string r.2.head,.int .i64 r.2.cert] rfl rfl 46 bQ oU.o (bd _ rfl) rfl bX ?_;have cN:=(ae (one (w.heap.size+1)) u5).setRow (fun _=>rfl) #[.int .i64 r.2.what,.string r.2.head,.int .i64 r.2.cert]
 refine hK.out _ _ ⟨cN.keep HS5.o.1 (fun e=>by have e':w.heap.size=w.heap.size+1:=e;omega),(cN.cell (p:=⟨B,12,none⟩) HB5.o (fun e=>by have e':B=w.heap.size+1:=e;have:=oM.o;omega)).trans HS5.o.2⟩ ?_;intro Bj;clear hK wU K Bj cN
 try simp only[Act.put,sA,sB,sC]
 refine wpAnyH_done af ?_ _;go_wp2_with fail
 refine aR (bh bw _ _ (w.heap.size+1) 46 #[.int .i64 r.2.what,.string r.2.head,.int .i64 r.2.cert] (0,0) _ rfl (aY _ (w.heap.size+1) _ _ _ _ oU.o) underlying46 rfl (bd _ rfl)) rfl ?_;unfold jG;rw[HR.o];exact⟨rfl,eo HP.o pU.o oM.o (bT _) oU.o dR ag _⟩
def ail(w:World)(l:List (gy×Int))(o:gy)(i:Value)(wr:World):Prop :=
 ∃k:Nat,k<=l.length/\i=.int .i64 k/\(l.take k).find? (fun c=>c.1.kQ o)=none/\Fr aW w wr
theorem Q7{o:gy}{c:gy×Int}(h:l[k]?=some c)(hn:(l.take k).find? (fun c=>c.1.kQ o)=none)(hc:c.1.kQ o=false):(l.take (k+1)).find? (fun c=>c.1.kQ o)=none:=by
 rw[dT h,List.find?_append,hn];simp[hc]
theorem Vh{o:gy}{c:gy×Int}(h:l[k]?=some c)(hn:(l.take k).find? (fun c=>c.1.kQ o)=none)(hc:c.1.kQ o=true):l.find? (fun c=>c.1.kQ o)=some c:=by
 have e:l=l.take (k+1)++l.drop (k+1):=(fE _ _).symm;rw[e,dT h,List.find?_append,List.find?_append,hn];simp[hc]
theorem Y2(base:Nat)(w:World)(B:Nat)(pv:Nat->dm)(x:d_)(o:jB)(hs:List gU)(h:df base w B pv x)(hf:gL w o hs)(hi:nr x)(a:World)(sP:kL a)(rN:a.heap.size<=base)(sQ:Fr aW a w)(hr:(o.dP hs).right=true)(hw:o.what=6) :
  aC 30 #[.pointer (some ⟨B,0,none⟩),.agg o.cells.toArray] w (jG base w B pv (mX x (o.dP hs))):=by
 have uo:B<w.heap.size:=h.lt;have o8:=h.low;obtain⟨ah,ch,gq⟩:=hf.gO;obtain⟨w2,ez⟩:∃w2,w2=(w.alloc (.cells o.cells.toArray 33)).alloc (.cells bQ 46):=⟨_,rfl⟩;have dD:Fr aW w w2:=by rw[ez];exact((ae aW w).alloc _).alloc _
 have k1:w2.heap[w.heap.size]?=some (.cells o.cells.toArray 33 (0,0)):=by rw[ez];exact((ae aW _).alloc _).keep (aB _ _) id
 have k2:w2.heap[w.heap.size+1]?=some (.cells bQ 46 (0,0)):=by
  have h:=aB (w.alloc (.cells o.cells.toArray 33)) (.cells bQ 46);rw[bM]at h;rw[ez];exact h
 have sR:=O (kY o hs w2 (hf.dt dD));have HH:=O (h.dt dD);have HF:=O (hf.dt dD);have lg:=O gq;have HI:=O hi;have fS:=O dD;have mE:=O k1;have qx:=O k2;have pU:=O (show base<=w.heap.size from ab);have wR:=O o8;have oM:=O uo;have QQ:=O sP;have QP:=O (sQ.trans dD);have Wv:=O rN;rw[ez]at k1;rw[dV gq]at ez sR k1 ⊢;unfold bQ at ez k1;have oz:=O ez;have u_:=O k1;clear ez gq dD k1 k2 h hf hi sP rN sQ
 obtain⟨i,vg,zS⟩:∃i:Nat,o.aI.part=(i:Int)/\i<4:=by
  obtain⟨h0,h1⟩:=ko hr;have RW:0<=o.aI.part:=h0;have P':o.aI.part<4:=h1;exact⟨o.aI.part.toNat,ab,ab⟩
 have Sk:(i:Int)<4:=ab;have ri:¬(i:Int)<0:=ab;have Tp:¬(4:Int)<=(i:Int):=ab;have P1:(0:Int)<=(i:Int):=ab;have sy:=O zS;have zT:=O vg;have HR:=O (show mX x (o.dP hs)=(x,OP (x.part i) (o.dP hs))by
  rw[pV hr vg (by show o.what≠10;omega),ani (show(o.dP hs).what=6 from hw),d_.Kb])
 rw[hr]at sR;obtain⟨l,hl⟩:∃l,l=(x.part i).eH:=⟨_,rfl⟩;obtain⟨cv,hcv⟩:∃cv,cv=(pv i).cv:=⟨_,rfl⟩;have lY:eb 4 w2 cv (l.map lW):=by rw[hl,hcv];exact(HH.o.part i sy.o).eH.at
 have hl8:l.length<=1000000:=by rw[hl];exact aE (HI.o.ok.part i).rf.2.2.2 ag
 obtain⟨av,cc,fT⟩:=lY.form;rw[aj]at fT;subst fT;have anT:=O lY;have hpk:OP (x.part i) (o.dP hs)=match l.find? (fun c=>c.1.kQ o.aI.o)with|some c=>⟨1,.empty,c.2⟩|none=>rep 3:=by rw[hl];rfl
 rw[hpk]at HR;have wT:=O hcv;have HW:=O hw;clear hr hw zS vg hl hpk lY hcv;go_enter func30,ntmps30;go_wp2_with (first|((with_reducible refine dv 8 ?_);refine aJ rfl 33 (.tmp 3) rfl w.heap.size rfl _ _ (0,0) _ u_.o underlying33 rfl af ?_)|fail)
 rw[<-oz.o];refine sR.o.mono ?_;rintro e u⟨rfl,hu⟩;obtain⟨a0,a1,a2,a3,a4,a5,a6,a7,a8,a9,jr,js,a12,jq,jt,i_,jD,jE,jF,jN,a20,a21⟩:=ed (hu.keep mE.o id) lg.o;rw[zT.o]at a1;clear a0 a2 a3 a4 a5 a6 a7 a8 a9 jr js a12 jq jt i_ jD jE jF jN a20 a21;have pY:=O (show∀n,Fr aW w2 (u.drewN n)from fun n=>dE n hu);clear hu u_;go_wp2_with fail
 go_quiet (fail);clear a1;have mC:=pY.o nq;generalize u.drewN nq=u1 at mC ⊢;have sS:=O mC;clear mC pY;have Ed:=O (sS.o.keep mE.o id);rw[dV lg.o]at Ed;obtain⟨a0,a1,a2,a3,a4,a5,a6,a7,a8,a9,jr,js,a12,jq,jt,i_,jD,jE,jF,jN,a20,a21⟩:=ed (sS.o.keep mE.o id) lg.o;rw[zT.o]at a1;have wV:=HW.o;rw[wV]at a0;clear wV;clear a1 a2 a3 a4 a8 a9 jr js a12 jq jt i_ jD jE jF jN a20 a21
 have HP1:=O (show u1.cell? ⟨B,i*3+2,none⟩=some (.slice av l.length cc)from by rw[wT.o];exact((HH.o.dt sS.o).partAt sy.o).lU);have p1:=HP1.o;go_wp2_with fail
 go_loopw[67] (ail u1 l o.aI.o) (fun i _=>l.length-(intOf i).toNat)
 case atStart=>exact⟨0,aS _,rfl,rfl,ae _ _⟩
 case round =>
  obtain⟨k,hk,rfl,hn,cN⟩:=hrel;have HN:=O hn;have uf:=O (sS.o.trans cN);have Uu:=O cN;clear hn;by_cases fx:k<l.length
  ·have qp:(k:Int)<(l.length:Int):=ab;rcases(anT.o.iY uf.o).2 with ⟨_,_,_,e,_⟩|⟨bk,of,c,hf,h1,h2,h3,h4⟩
   ·have RM:=aq List.length e;rw[aj,List.length_nil]at RM;omega
   ·rw[aj]at hf;cases hf;rw[aj]at h1;unfold maxLen at h2;obtain⟨q,dL⟩:∃q,l[k]?=some q:=⟨_,List.getElem?_eq_getElem fx⟩;have hcell:=h4 k (lW q) (by rw[List.getElem?_map,dL];rfl);have UX:=O dL;have lr:(lW q).length=4:=rfl;have heq:=jW q.1 o.aI.o;obtain⟨a0,a1,a2,a3,a4,a5,a6,a7,a8,a9,jr,js,a12,jq,jt,i_,jD,jE,jF,jN,a20,a21⟩:=ed (uf.o.keep mE.o id) lg.o
    have HB8:=O (aB wr (.cells #[.bool q.1.aG,.string q.1.host,.int .i64 q.1.port,.int .i64 q.2] 105));have iv:Fr aW wr (wr.alloc (.cells #[.bool q.1.aG,.string q.1.host,.int .i64 q.1.port,.int .i64 q.2] 105)):=(ae aW wr).alloc _;have g5:=(iv.keep (uf.o.keep mE.o id) id);obtain⟨b0,b1,b2,b3,b4,b5,b6,b7,b8,b9,Ym,Yn,Yo,b13,b14,b15,b16,b17,b18,b19,b20,b21⟩:=ed g5 lg.o;have sk:=O (uf.o.trans iv)
    have lZ:=O (Uu.o.trans iv);have oU:=O (sk.o.keep qx.o id);clear h4 dL iv g5 a0 a1 a2 a3 a4 a5 a6 a7 a8 a9 jr js a12 jq jt i_ jD jE jF jN a20 a21 b0 b1 b2 b3 b4 b8 b9 Ym Yn Yo b13 b14 b15 b16 b17 b18 b19 b20 b21 cN;unfold lW at hcell lr;cases hq:q.1.kQ o.aI.o
    ·have Lu:=O (Q7 UX.o HN.o hq);rw[hq]at heq;clear hq;go_wp2_with (first|((with_reducible refine dv 70 ?_);refine a_ rfl 105 (.tmp 69) rfl bk (of+k*4) rfl _ _ hcell underlying105 rfl af ?_)|fail)
     go_roundw
     case rel=>exact⟨k+1,ab,bf,Lu.o,lZ.o⟩
     case measure=>simp[intOf];omega
    ·have DQ:=O (Vh UX.o HN.o hq);rw[DQ.o]at HR;rw[hq]at heq;have HP:=O (show dy base w B pv x _ from cF fS.o (fq HH.o sk.o));clear hq
     go_wp2_with (first|((with_reducible refine dv 70 ?_);refine a_ rfl 105 (.tmp 69) rfl bk (of+k*4) rfl _ _ hcell underlying105 rfl af ?_)|((with_reducible refine cP 46 ?_);refine aF rfl 46 (.tmp 4) (.tmp 80) rfl (w.heap.size+1) #[.int .i64 1,.string ⟨#[]⟩,.int .i64 q.2] rfl rfl _ bQ oU.o (bd _ rfl) rfl bX ?_)|fail)
     refine aR (bh bw _ _ (w.heap.size+1) 46 #[.int .i64 1,.string ⟨#[]⟩,.int .i64 q.2] (0,0) _ rfl (aY _ (w.heap.size+1) _ _ _ _ oU.o) underlying46 rfl (bd _ rfl)) rfl ?_;unfold jG;rw[HR.o];exact⟨rfl,eo HP.o pU.o oM.o (bT _) oU.o dR ag _⟩
  ·have hke:k=l.length:=ab;subst hke;have HHN:=O (show l.find? (fun c=>c.1.kQ o.aI.o)=none by have h:=HN.o;rw[List.take_length]at h;exact h);rw[HHN.o]at HR;have HP:=O (show dy base w B pv x wr from cF fS.o (fq HH.o uf.o));have oU:=O (uf.o.keep qx.o id);clear cN
   go_wp2_with (first|((with_reducible refine cP 46 ?_);refine aF rfl 46 (.tmp 4) (.tmp 82) rfl (w.heap.size+1) #[.int .i64 3,.string ⟨#[]⟩,.int .i64 0] rfl rfl _ bQ oU.o (bd _ rfl) rfl bX ?_)|fail)
   refine aR (bh bw _ _ (w.heap.size+1) 46 #[.int .i64 3,.string ⟨#[]⟩,.int .i64 0] (0,0) _ rfl (aY _ (w.heap.size+1) _ _ _ _ oU.o) underlying46 rfl (bd _ rfl)) rfl ?_;unfold jG;rw[HR.o];exact⟨rfl,eo HP.o pU.o oM.o (bT _) oU.o dR ag _⟩
theorem Q9(base:Nat)(w:World)(B:Nat)(pv:Nat->dm)(x:d_)(o:jB)(hs:List gU)(h:df base w B pv x)(hf:gL w o hs)(hi:nr x)(a:World)(sP:kL a)(rN:a.heap.size<=base)(sQ:Fr aW a w)(hr:(o.dP hs).right=true)(hw:o.what=7) :
  aC 30 #[.pointer (some ⟨B,0,none⟩),.agg o.cells.toArray] w (jG base w B pv (mX x (o.dP hs))):=by
 have uo:B<w.heap.size:=h.lt;have o8:=h.low;obtain⟨ah,ch,gq⟩:=hf.gO;obtain⟨w2,ez⟩:∃w2,w2=(w.alloc (.cells o.cells.toArray 33)).alloc (.cells bQ 46):=⟨_,rfl⟩;have dD:Fr aW w w2:=by rw[ez];exact((ae aW w).alloc _).alloc _
 have k1:w2.heap[w.heap.size]?=some (.cells o.cells.toArray 33 (0,0)):=by rw[ez];exact((ae aW _).alloc _).keep (aB _ _) id
 have k2:w2.heap[w.heap.size+1]?=some (.cells bQ 46 (0,0)):=by
  have h:=aB (w.alloc (.cells o.cells.toArray 33)) (.cells bQ 46);rw[bM]at h;rw[ez];exact h
 have sR:=O (kY o hs w2 (hf.dt dD));have HH:=O (h.dt dD);have HF:=O (hf.dt dD);have lg:=O gq;have HI:=O hi;have fS:=O dD;have mE:=O k1;have qx:=O k2;have pU:=O (show base<=w.heap.size from ab);have wR:=O o8;have oM:=O uo;have QQ:=O sP;have QP:=O (sQ.trans dD);have Wv:=O rN;rw[ez]at k1;rw[dV gq]at ez sR k1 ⊢;unfold bQ at ez k1;have oz:=O ez;have u_:=O k1;clear ez gq dD k1 k2 h hf hi sP rN sQ
 obtain⟨i,vg,zS⟩:∃i:Nat,o.aI.part=(i:Int)/\i<4:=by
  obtain⟨h0,h1⟩:=ko hr;have RW:0<=o.aI.part:=h0;have P':o.aI.part<4:=h1;exact⟨o.aI.part.toNat,ab,ab⟩
 have Sk:(i:Int)<4:=ab;have ri:¬(i:Int)<0:=ab;have Tp:¬(4:Int)<=(i:Int):=ab;have P1:(0:Int)<=(i:Int):=ab;have sy:=O zS;have zT:=O vg;obtain⟨r,BH⟩:∃r,r=oI (x.part i) (o.dP hs):=⟨_,rfl⟩;have HR:=O (show mX x (o.dP hs)=(x.set i r.1,r.2)by rw[pV hr vg (by show o.what≠10;omega),BH,anj (show(o.dP hs).what=7 from hw)]);rw[hr]at sR
 have HM:=O (show∀U,Fr aW w2 U->aC 47 #[.pointer (some ⟨B,i*3,none⟩),.agg o.cells.toArray] U (eD base U B (iz pv x.now) (i*3) (pv i) r)from fun U hU=>by
  have h:=Nv base U B (i*3) (iz pv x.now) (pv i) (x.part i) o hs ((HH.o.dt hU).part i sy.o) ((HH.o.dt hU).partAt sy.o) wR.o (HF.o.dt hU) (HI.o.ok.part i);rw[<-BH]at h;exact h)
 rw[dV lg.o]at HM;have HW:=O hw;clear hr hw BH zS vg;go_enter func30,ntmps30;go_wp2_with (first|((with_reducible refine dv 8 ?_);refine aJ rfl 33 (.tmp 3) rfl w.heap.size rfl _ _ (0,0) _ u_.o underlying33 rfl af ?_)|fail)
 rw[<-oz.o];refine sR.o.mono ?_;rintro e u⟨rfl,hu⟩;obtain⟨a0,a1,a2,a3,a4,a5,a6,a7,a8,a9,jr,js,a12,jq,jt,i_,jD,jE,jF,jN,a20,a21⟩:=ed (hu.keep mE.o id) lg.o;rw[zT.o]at a1;clear a0 a2 a3 a4 a5 a6 a7 a8 a9 jr js a12 jq jt i_ jD jE jF jN a20 a21;have pY:=O (show∀n,Fr aW w2 (u.drewN n)from fun n=>dE n hu);clear hu u_;go_wp2_with fail
 go_quiet (fail);clear a1;have mC:=pY.o nq;generalize u.drewN nq=u1 at mC ⊢;have sS:=O mC;clear mC pY;have Ed:=O (sS.o.keep mE.o id);rw[dV lg.o]at Ed;obtain⟨a0,a1,a2,a3,a4,a5,a6,a7,a8,a9,jr,js,a12,jq,jt,i_,jD,jE,jF,jN,a20,a21⟩:=ed (sS.o.keep mE.o id) lg.o;rw[zT.o]at a1;have wV:=HW.o;rw[wV]at a0;clear wV;clear a1 a2 a3 a4 a5 a6 a7 a8 a9 jr js a12 jq jt i_ jD jE jF jN a20 a21
 go_wp2_with (first|((with_reducible refine dv 86 ?_);refine aJ rfl 33 (.tmp 3) rfl w.heap.size rfl _ _ (0,0) _ Ed.o underlying33 rfl af ?_)|fail)
 have sT:=sS.o;refine(HM.o _ sT).mono ?_;rintro e u5⟨rfl,hp⟩;unfold ky.val;have KB:=sT.keep qx.o id;have oU:=O (nO (HH.o.dt sT) sy.o hp KB dR ab);have HP:=O (show dy base w B pv (x.set i r.1) u5 from cF fS.o (cF sT (j9 (HH.o.dt sT) sy.o hp)));clear hp KB sT HM
 go_wp2_with (first|((with_reducible refine cP 46 ?_);refine aF rfl 46 (.tmp 4) (.tmp 87) rfl (w.heap.size+1) #[.int .i64 r.2.what,.string r.2.head,.int .i64 r.2.cert] rfl rfl _ bQ oU.o (bd _ rfl) rfl bX ?_)|fail)
 refine aR (bh bw _ _ (w.heap.size+1) 46 #[.int .i64 r.2.what,.string r.2.head,.int .i64 r.2.cert] (0,0) _ rfl (aY _ (w.heap.size+1) _ _ _ _ oU.o) underlying46 rfl (bd _ rfl)) rfl ?_;unfold jG;rw[HR.o];exact⟨rfl,eo HP.o pU.o oM.o (bT _) oU.o dR ag _⟩
theorem df.adv(h:df base w B pv x)(n:Int):df base (w.setCell ⟨B,12,none⟩ (.int .i64 n)) B pv {x with now:=n}/\Fr (one B) w (w.setCell ⟨B,12,none⟩ (.int .i64 n)):=by
 have kx:Fr (one B) w (w.setCell ⟨B,12,none⟩ (.int .i64 n)):=(ae (one B) w).setCell (p:=⟨B,12,none⟩) (fun _=>rfl) _;refine⟨⟨h.low,?_,fun i hi=>(h.part i hi).fr kx h.Qw (fun k hk e=>h.zq hi (by have e':k=B:=e;rw[<-e'];exact hk)),h.apart⟩,kx⟩;rw[b_ h.eG 12 (.int .i64 n)];rfl
theorem O5(base:Nat)(w:World)(B:Nat)(pv:Nat->dm)(x:d_)(o:jB)(hs:List gU)(h:df base w B pv x)(hf:gL w o hs)(hi:nr x)(a:World)(sP:kL a)(rN:a.heap.size<=base)(sQ:Fr aW a w)(hr:(o.dP hs).right=true)(hw:o.what=10) :
  aC 30 #[.pointer (some ⟨B,0,none⟩),.agg o.cells.toArray] w (jG base w B pv (mX x (o.dP hs))):=by
 have uo:B<w.heap.size:=h.lt;have o8:=h.low;obtain⟨ah,ch,gq⟩:=hf.gO;obtain⟨w2,ez⟩:∃w2,w2=(w.alloc (.cells o.cells.toArray 33)).alloc (.cells bQ 46):=⟨_,rfl⟩;have dD:Fr aW w w2:=by rw[ez];exact((ae aW w).alloc _).alloc _
 have k1:w2.heap[w.heap.size]?=some (.cells o.cells.toArray 33 (0,0)):=by rw[ez];exact((ae aW _).alloc _).keep (aB _ _) id
 have k2:w2.heap[w.heap.size+1]?=some (.cells bQ 46 (0,0)):=by
  have h:=aB (w.alloc (.cells o.cells.toArray 33)) (.cells bQ 46);rw[bM]at h;rw[ez];exact h
 have sR:=O (kY o hs w2 (hf.dt dD));have HH:=O (h.dt dD);have HF:=O (hf.dt dD);have lg:=O gq;have HI:=O hi;have fS:=O dD;have mE:=O k1;have qx:=O k2;have pU:=O (show base<=w.heap.size from ab);have wR:=O o8;have oM:=O uo;have QQ:=O sP;have QP:=O (sQ.trans dD);have Wv:=O rN;rw[ez]at k1;rw[dV gq]at ez sR k1 ⊢;unfold bQ at ez k1;have oz:=O ez;have u_:=O k1;clear ez gq dD k1 k2 h hf hi sP rN sQ
 obtain⟨i,vg,zS⟩:∃i:Nat,o.aI.part=(i:Int)/\i<4:=by
  obtain⟨h0,h1⟩:=ko hr;have RW:0<=o.aI.part:=h0;have P':o.aI.part<4:=h1;exact⟨o.aI.part.toNat,ab,ab⟩
 have Sk:(i:Int)<4:=ab;have ri:¬(i:Int)<0:=ab;have Tp:¬(4:Int)<=(i:Int):=ab;have P1:(0:Int)<=(i:Int):=ab;have sy:=O zS;have zT:=O vg;have Ip:=O (show mX x (o.dP hs)=if o.n<0\/1099511627776-x.now<o.n then(x,rep 7)else({x with now:=x.now+o.n},rep 1)from Dt hr hw);rw[hr]at sR;have n0:=HI.o.ok.now.1;have n1:=HI.o.ok.now.2;have on:=HF.o.n;have HW:=O hw;clear hr hw zS vg;go_enter func30,ntmps30
 go_wp2_with (first|((with_reducible refine dv 8 ?_);refine aJ rfl 33 (.tmp 3) rfl w.heap.size rfl _ _ (0,0) _ u_.o underlying33 rfl af ?_)|fail)
 rw[<-oz.o];refine sR.o.mono ?_;rintro e u⟨rfl,hu⟩;obtain⟨a0,a1,a2,a3,a4,a5,a6,a7,a8,a9,jr,js,a12,jq,jt,i_,jD,jE,jF,jN,a20,a21⟩:=ed (hu.keep mE.o id) lg.o;rw[zT.o]at a1;clear a0 a2 a3 a4 a5 a6 a7 a8 a9 jr js a12 jq jt i_ jD jE jF jN a20 a21;have pY:=O (show∀n,Fr aW w2 (u.drewN n)from fun n=>dE n hu);clear hu u_;go_wp2_with fail
 go_quiet (fail);clear a1;have mC:=pY.o nq;generalize u.drewN nq=u1 at mC ⊢;have sS:=O mC;clear mC pY;have Ed:=O (sS.o.keep mE.o id);rw[dV lg.o]at Ed;obtain⟨a0,a1,a2,a3,a4,a5,a6,a7,a8,a9,jr,js,a12,jq,jt,i_,jD,jE,jF,jN,a20,a21⟩:=ed (sS.o.keep mE.o id) lg.o;rw[zT.o]at a1;have wV:=HW.o;rw[wV]at a0;clear wV;clear a1 a2 a3 a4 a5 a6 a7 a8 a9 jr js a12 jq jt i_ jD jE jF jN a20
 have p1:u1.cell? ⟨B,12,none⟩=some (.int .i64 x.now):=by
  have j2:=(HH.o.dt sS.o).eG;simp only[World.cell?,j2];rfl
 have p_:=O (show∀n,Fr aW w2 (u1.drewN n)from fun n=>dE n sS.o);by_cases hn:o.n<0
 ·have hd:decide (o.n<0)=true:=bK hn;have HR:=O (Ip.o.trans (aA (Or.inl hn)));go_wp2_with fail
  go_quiet (fail);have lD:=p_.o nq;generalize u1.drewN nq=u2 at lD ⊢;have oU:=O (lD.keep qx.o id);have Yi:=O (show dy base w B pv x u2 from cF fS.o (fq HH.o lD));go_wp2_with (first|((with_reducible refine cP 46 ?_);refine aF rfl 46 (.tmp 4) (.tmp 103) rfl (w.heap.size+1) #[.int .i64 7,.string ⟨#[]⟩,.int .i64 0] rfl rfl _ bQ oU.o (bd _ rfl) rfl bX ?_)|fail)
  refine aR (bh bw _ _ (w.heap.size+1) 46 #[.int .i64 7,.string ⟨#[]⟩,.int .i64 0] (0,0) _ rfl (aY _ (w.heap.size+1) _ _ _ _ oU.o) underlying46 rfl (bd _ rfl)) rfl ?_;unfold jG;rw[HR.o];exact⟨rfl,eo Yi.o pU.o oM.o (bT _) oU.o dR ag _⟩
 ·have hd:decide (o.n<0)=false:=bB hn;by_cases hm:1099511627776-x.now<o.n
  ·have tO:decide (1099511627776-x.now<o.n)=true:=bK hm;have HR:=O (Ip.o.trans (aA (Or.inr hm)));go_wp2_with fail
   go_quiet (fail);have lD:=p_.o nq;generalize u1.drewN nq=u2 at lD ⊢;have oU:=O (lD.keep qx.o id);have Yi:=O (show dy base w B pv x u2 from cF fS.o (fq HH.o lD));go_wp2_with (first|((with_reducible refine cP 46 ?_);refine aF rfl 46 (.tmp 4) (.tmp 103) rfl (w.heap.size+1) #[.int .i64 7,.string ⟨#[]⟩,.int .i64 0] rfl rfl _ bQ oU.o (bd _ rfl) rfl bX ?_)|fail)
   refine aR (bh bw _ _ (w.heap.size+1) 46 #[.int .i64 7,.string ⟨#[]⟩,.int .i64 0] (0,0) _ rfl (aY _ (w.heap.size+1) _ _ _ _ oU.o) underlying46 rfl (bd _ rfl)) rfl ?_;unfold jG;rw[HR.o];exact⟨rfl,eo Yi.o pU.o oM.o (bT _) oU.o dR ag _⟩
  ·have tO:decide (1099511627776-x.now<o.n)=false:=bB hm;have HR:=O (Ip.o.trans (ar ab));go_wp2_with fail
   go_quiet (fail);have lD:=p_.o nq;generalize u1.drewN nq=u2 at lD ⊢;have oU:=O (lD.keep qx.o id);have Yi:=O (show dy base w B pv x u2 from cF fS.o (fq HH.o lD));go_wp2_with fail
   have q1:u2.cell? ⟨B,12,none⟩=some (.int .i64 x.now):=by
    have j2:=(HH.o.dt lD).eG;simp only[World.cell?,j2];rfl
   have q2:u2.frozen? ⟨B,12,none⟩=false:=by
    have j2:=(HH.o.dt lD).eG;simp[World.frozen?,j2]
   obtain⟨a0,a1,a2,a3,a4,a5,a6,a7,a8,a9,jr,js,a12,jq,jt,i_,jD,jE,jF,jN,a20,a21⟩:=ed (lD.keep mE.o id) lg.o;clear a0 a1 a2 a3 a4 a5 a6 a7 a8 a9 jr js a12 jq jt i_ jD jE jF jN a20;have g1: -9223372036854775808<=x.now+o.n:=ab;have g2:x.now+o.n<=9223372036854775807:=ab
   go_region
   obtain⟨Bp,Ci⟩:=(HH.o.dt lD).adv (x.now+o.n);have hWP:dy base u2 B pv {x with now:=x.now+o.n} (u2.setCell ⟨B,12,none⟩ (.int .i64 (x.now+o.n))):=⟨pv,Bp,Ci.mono (fun k _ e=>Or.inl e),fun k hk=>Or.inl hk⟩;have HP:=O (show dy base w B pv {x with now:=x.now+o.n} _ from cF fS.o (cF lD (hWP.then (az (ae aW _)))))
   have Of:=O (show((u2.setCell ⟨B,12,none⟩ (.int .i64 (x.now+o.n))).drew).heap[w.heap.size+1]?=_ from Ci.keep oU.o (fun e=>by have e':w.heap.size+1=B:=e;have:=oM.o;omega));clear Bp Ci hWP q1 q2 a21;go_wp2_with (first|((with_reducible refine cP 46 ?_);refine aF rfl 46 (.tmp 4) (.tmp 113) rfl (w.heap.size+1) #[.int .i64 1,.string ⟨#[]⟩,.int .i64 0] rfl rfl _ bQ Of.o (bd _ rfl) rfl bX ?_)|fail)
   refine aR (bh bw _ _ (w.heap.size+1) 46 #[.int .i64 1,.string ⟨#[]⟩,.int .i64 0] (0,0) _ rfl (aY _ (w.heap.size+1) _ _ _ _ Of.o) underlying46 rfl (bd _ rfl)) rfl ?_;unfold jG;rw[HR.o];exact⟨rfl,eo HP.o pU.o oM.o (bT _) Of.o dR ag _⟩
theorem Y4(base:Nat)(w:World)(B:Nat)(pv:Nat->dm)(x:d_)(o:jB)(hs:List gU)(h:df base w B pv x)(hf:gL w o hs)(hi:nr x)(a:World)(sP:kL a)(rN:a.heap.size<=base)(sQ:Fr aW a w)(hr:(o.dP hs).right=true)(hw:o.what=8\/o.what=9) :
  aC 30 #[.pointer (some ⟨B,0,none⟩),.agg o.cells.toArray] w (jG base w B pv (mX x (o.dP hs))):=by
 have uo:B<w.heap.size:=h.lt;have o8:=h.low;obtain⟨ah,ch,gq⟩:=hf.gO;obtain⟨w2,ez⟩:∃w2,w2=(w.alloc (.cells o.cells.toArray 33)).alloc (.cells bQ 46):=⟨_,rfl⟩;have dD:Fr aW w w2:=by rw[ez];exact((ae aW w).alloc _).alloc _
 have k1:w2.heap[w.heap.size]?=some (.cells o.cells.toArray 33 (0,0)):=by rw[ez];exact((ae aW _).alloc _).keep (aB _ _) id
 have k2:w2.heap[w.heap.size+1]?=some (.cells bQ 46 (0,0)):=by
  have h:=aB (w.alloc (.cells o.cells.toArray 33)) (.cells bQ 46);rw[bM]at h;rw[ez];exact h
 have sR:=O (kY o hs w2 (hf.dt dD));have HH:=O (h.dt dD);have HF:=O (hf.dt dD);have lg:=O gq;have HI:=O hi;have fS:=O dD;have mE:=O k1;have qx:=O k2;have pU:=O (show base<=w.heap.size from ab);have wR:=O o8;have oM:=O uo;have QQ:=O sP;have QP:=O (sQ.trans dD);have Wv:=O rN;rw[ez]at k1;rw[dV gq]at ez sR k1 ⊢;unfold bQ at ez k1;have oz:=O ez;have u_:=O k1;clear ez gq dD k1 k2 h hf hi sP rN sQ
 obtain⟨i,vg,zS⟩:∃i:Nat,o.aI.part=(i:Int)/\i<4:=by
  obtain⟨h0,h1⟩:=ko hr;have RW:0<=o.aI.part:=h0;have P':o.aI.part<4:=h1;exact⟨o.aI.part.toNat,ab,ab⟩
 have Sk:(i:Int)<4:=ab;have ri:¬(i:Int)<0:=ab;have Tp:¬(4:Int)<=(i:Int):=ab;have P1:(0:Int)<=(i:Int):=ab;have sy:=O zS;have zT:=O vg;obtain⟨r,BH⟩:∃r,r=rE (x.part i) (o.dP hs):=⟨_,rfl⟩;have HR:=O (show mX x (o.dP hs)=(x.set i r.1,r.2)by rw[pV hr vg (by show o.what≠10;omega),BH,U1 (show(o.dP hs).what=8\/(o.dP hs).what=9 from hw)]);rw[hr]at sR
 have HM:=O (show∀U,Fr aW w2 U->aC 48 #[.pointer (some ⟨B,i*3,none⟩),.agg o.cells.toArray] U (eD base U B (iz pv x.now) (i*3) (pv i) r)from fun U hU=>by
  have h:=Vk base U B (i*3) (iz pv x.now) (pv i) (x.part i) o hs ((HH.o.dt hU).part i sy.o) ((HH.o.dt hU).partAt sy.o) wR.o (HF.o.dt hU) (HI.o.ok.part i);rw[<-BH]at h;exact h)
 rw[dV lg.o]at HM;have HW:=O hw;clear hr hw BH zS vg;go_enter func30,ntmps30;go_wp2_with (first|((with_reducible refine dv 8 ?_);refine aJ rfl 33 (.tmp 3) rfl w.heap.size rfl _ _ (0,0) _ u_.o underlying33 rfl af ?_)|fail)
 rw[<-oz.o];refine sR.o.mono ?_;rintro e u⟨rfl,hu⟩;obtain⟨a0,a1,a2,a3,a4,a5,a6,a7,a8,a9,jr,js,a12,jq,jt,i_,jD,jE,jF,jN,a20,a21⟩:=ed (hu.keep mE.o id) lg.o;rw[zT.o]at a1;clear a0 a2 a3 a4 a5 a6 a7 a8 a9 jr js a12 jq jt i_ jD jE jF jN a20 a21;have pY:=O (show∀n,Fr aW w2 (u.drewN n)from fun n=>dE n hu);clear hu u_;go_wp2_with fail
 go_quiet (fail);clear a1;have mC:=pY.o nq;generalize u.drewN nq=u1 at mC ⊢;have sS:=O mC;clear mC pY;have Ed:=O (sS.o.keep mE.o id);rw[dV lg.o]at Ed;obtain⟨a0,a1,a2,a3,a4,a5,a6,a7,a8,a9,jr,js,a12,jq,jt,i_,jD,jE,jF,jN,a20,a21⟩:=ed (sS.o.keep mE.o id) lg.o;rw[zT.o]at a1;have wV:=HW.o
 have hne:(o.what==1)=false/\(o.what==2)=false/\(o.what==3)=false/\(o.what==4)=false/\(o.what==5)=false/\(o.what==6)=false/\(o.what==7)=false/\(o.what==10)=false:=by
  refine⟨?_,?_,?_,?_,?_,?_,?_,?_⟩<;>(rw[aK];omega)
 obtain⟨n1,n2,n3,n4,n5,n6,n7,n10⟩:=hne;have m1:¬o.what=1:=ab;have m2:¬o.what=2:=ab;have m3:¬o.what=3:=ab;have m4:¬o.what=4:=ab;have m5:¬o.what=5:=ab;have m6:¬o.what=6:=ab;have m7:¬o.what=7:=ab;have m10:¬o.what=10:=ab;clear wV;clear a1 a2 a3 a4 a5 a6 a7 a8 a9 jr js a12 jq jt i_ jD jE jF jN a20 a21
 go_wp2_with (first|((with_reducible refine dv 115 ?_);refine aJ rfl 33 (.tmp 3) rfl w.heap.size rfl _ _ (0,0) _ Ed.o underlying33 rfl af ?_)|fail)
 have sT:=sS.o;refine(HM.o _ sT).mono ?_;rintro e u5⟨rfl,hp⟩;unfold ky.val;have KB:=sT.keep qx.o id;have oU:=O (nO (HH.o.dt sT) sy.o hp KB dR ab);have HP:=O (show dy base w B pv (x.set i r.1) u5 from cF fS.o (cF sT (j9 (HH.o.dt sT) sy.o hp)));clear hp KB sT HM
 go_wp2_with (first|((with_reducible refine cP 46 ?_);refine aF rfl 46 (.tmp 4) (.tmp 116) rfl (w.heap.size+1) #[.int .i64 r.2.what,.string r.2.head,.int .i64 r.2.cert] rfl rfl _ bQ oU.o (bd _ rfl) rfl bX ?_)|fail)
 refine aR (bh bw _ _ (w.heap.size+1) 46 #[.int .i64 r.2.what,.string r.2.head,.int .i64 r.2.cert] (0,0) _ rfl (aY _ (w.heap.size+1) _ _ _ _ oU.o) underlying46 rfl (bd _ rfl)) rfl ?_;unfold jG;rw[HR.o];exact⟨rfl,eo HP.o pU.o oM.o (bT _) oU.o dR ag _⟩
section
variable {U : World} {T B : Nat} {g : Nat → qo} {sv : Value} {t : gB}
theorem V0(h:fU U T B g sv t)(n:Int) :
  aC 11 #[.pointer (some ⟨T,0,none⟩),.int .i64 n] U fun e w'=>e=.returned (.int .i64 (O0 t n:Nat))/\w'=U:=by
 unfold O0;cases hn:vX n
 ·have hh:¬(0<=n/\n<6):=by
   intro hh;unfold vX at hn;simp[hh.1,hh.2]at hn
  clear hn h;by_cases h0:n<0
  ·have h1:¬(0:Int)<=n:=ab;clear hh;go_enter func11,ntmps11;go_wp2;go_ret;exact⟨rfl,rfl⟩
  ·have h1:(0:Int)<=n:=ab;have h4:(6:Int)<=n:=ab;have h5:¬n<6:=ab;clear hh;go_enter func11,ntmps11;go_wp2;go_ret;exact⟨rfl,rfl⟩
 ·obtain⟨i,rfl,hi⟩:=Ca hn;have c:U.cell? ⟨T,17+i*45,none⟩=some (.int .i64 (t.tab i).does):=h.tab i hi 0 _ rfl;have h1:(i:Int)<6:=ab;have h0:¬(i:Int)<0:=ab;have h2:¬(6:Int)<=(i:Int):=ab;have h3:(0:Int)<=(i:Int):=ab;clear hn h;go_enter func11,ntmps11;go_wp2;go_ret;exact⟨rfl,rfl⟩
end
