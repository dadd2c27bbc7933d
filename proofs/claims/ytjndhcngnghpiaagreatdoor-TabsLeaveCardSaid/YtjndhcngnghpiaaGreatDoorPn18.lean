/- Lemmas for the law's walk. -/
import Derived.Test.YtjndhcngnghpiaaGreatDoorPn17
set_option maxRecDepth 100000
set_option maxHeartbeats 16000000
set_option linter.unusedSimpArgs false
namespace Go.Proofs.YtjndhcngnghpiaaGreatDoor
open Go.Proofs.Tryz
open Go.RowKit
variable {l:List (gq×Int)} {o:kl} {k:Int} {c cs:bS} {base B n m i:Nat} {w V a U:World} {pv:Nat->cU} {x:dN} {xw:Option (Nat×dN)} {sb:Nat->Nat} {t t' u:im} {e:TypeId} {v:jz×List gY} {sv:Value} {q:cU} {hs:List gY}
def ajJ(w:World)(l:List (gq×Int))(o:gq)(i:Value)(wr:World):Prop :=
 ∃k:Nat,k<=l.length/\i=.int .i64 k/\(l.take k).find? (fun c=>c.1.kV o)=none/\Fr aS w wr
theorem Sb{o:gq}{k:Nat}{c:gq×Int}(h:l[k]?=some c)(hn:(l.take k).find? (fun c=>c.1.kV o)=none)(hc:c.1.kV o=false):(l.take (k+1)).find? (fun c=>c.1.kV o)=none:=by
 rw[dW h,List.find?_append,hn];simp[hc]
theorem Wh{o:gq}{k:Nat}{c:gq×Int}(h:l[k]?=some c)(hn:(l.take k).find? (fun c=>c.1.kV o)=none)(hc:c.1.kV o=true):l.find? (fun c=>c.1.kV o)=some c:=by
 have e:l=l.take (k+1)++l.drop (k+1):=(fL _ _).symm;rw[e,dW h,List.find?_append,List.find?_append,hn];simp[hc]
theorem aab(base:Nat)(w:World)(B:Nat)(pv:Nat->cU)(x:dN)(o:jz)(hs:List gY)(h:cE base w B pv x)(hf:gB w o hs)(hi:lI x)(a:World)(sY:kC a)(rU:a.heap.size<=base)(sZ:Fr aS a w)(hr:(o.dS hs).right=true)(hw:o.what=6) :
  aB 30 #[.pointer (some ⟨B,0,none⟩),.agg o.cells.toArray] w (jN base w B pv (mi x (o.dS hs))):=by
 have uA:B<w.heap.size:=h.lt;have ou:=h.low;obtain⟨ah,ch,gD⟩:=hf.gT;obtain⟨w2,eA⟩:∃w2,w2=(w.alloc (.cells o.cells.toArray 33)).alloc (.cells bR 46):=⟨_,rfl⟩;have dz:Fr aS w w2:=by rw[eA];exact((ae aS w).alloc _).alloc _
 have k1:w2.heap[w.heap.size]?=some (.cells o.cells.toArray 33 (0,0)):=by rw[eA];exact((ae aS _).alloc _).keep (aC _ _) id
 have k2:w2.heap[w.heap.size+1]?=some (.cells bR 46 (0,0)):=by
  have h:=aC (w.alloc (.cells o.cells.toArray 33)) (.cells bR 46);rw[bN]at h;rw[eA];exact h
 have td:=O (ll o hs w2 (hf.di dz));have HH:=O (h.di dz);have HF:=O (hf.di dz);have lu:=O gD;have HI:=O hi;have fY:=O dz;have mJ:=O k1;have qG:=O k2;have oY:=O (show base<=w.heap.size from ab);have wW:=O ou;have oT:=O uA;have RQ:=O sY;have RP:=O (sZ.trans dz);have XP:=O rU;rw[eA]at k1;rw[dZ gD]at eA td k1 ⊢;unfold bR at eA k1;have nD:=O eA;have u_:=O k1;clear eA gD dz k1 k2 h hf hi sY rU sZ
 obtain⟨i,vh,Al⟩:∃i:Nat,o.aJ.part=(i:Int)/\i<4:=by
  obtain⟨h0,h1⟩:=ks hr;have Tn:0<=o.aJ.part:=h0;have Hv:o.aJ.part<4:=h1;exact⟨o.aJ.part.toNat,ab,ab⟩
 have MG:(i:Int)<4:=ab;have qp:¬(i:Int)<0:=ab;have Nb:¬(4:Int)<=(i:Int):=ab;have Kt:(0:Int)<=(i:Int):=ab;have sL:=O Al;have Am:=O vh;have HR:=O (show mi x (o.dS hs)=(x,PS (x.part i) (o.dS hs))by
  rw[qf hr vh (by show o.what≠10;omega),aoY (show(o.dS hs).what=6 from hw),dN.KY])
 rw[hr]at td;obtain⟨l,hl⟩:∃l,l=(x.part i).eB:=⟨_,rfl⟩;obtain⟨cv,hcv⟩:∃cv,cv=(pv i).cv:=⟨_,rfl⟩;have mg:dV 4 w2 cv (l.map kY):=by rw[hl,hcv];exact(HH.o.part i sL.o).eB.at
 have hl8:l.length<=1000000:=by rw[hl];exact aF (HI.o.ok.part i).qZ.2.2.2 ag
 obtain⟨av,cc,fH⟩:=mg.form;rw[ai]at fH;subst fH;have apA:=O mg;have hpk:PS (x.part i) (o.dS hs)=match l.find? (fun c=>c.1.kV o.aJ.o)with|some c=>⟨1,.empty,c.2⟩|none=>rep 3:=by rw[hl];rfl
 rw[hpk]at HR;have wY:=O hcv;have HW:=O hw;clear hr hw Al vh hl hpk mg hcv;go_enter func30,ntmps30;go_wp2_with (first|((with_reducible refine dk 8 ?_);refine aI rfl 33 (.tmp 3) rfl w.heap.size rfl _ _ (0,0) _ u_.o underlying33 rfl af ?_)|fail)
 rw[<-nD.o];refine td.o.mono ?_;rintro e u⟨rfl,hu⟩;obtain⟨a0,a1,a2,a3,a4,a5,a6,a7,a8,a9,jA,jB,a12,jx,jC,jd,jK,jL,jM,jU,a20,a21⟩:=eh (hu.keep mJ.o id) lu.o;rw[Am.o]at a1;clear a0 a2 a3 a4 a5 a6 a7 a8 a9 jA jB a12 jx jC jd jK jL jM jU a20 a21;have qi:=O (show∀n,Fr aS w2 (u.drewN n)from fun n=>dC n hu);clear hu u_;go_wp2_with fail
 go_quiet (fail);clear a1;have mG:=qi.o nq;generalize u.drewN nq=u1 at mG ⊢;have th:=O mG;clear mG qi;have EB:=O (th.o.keep mJ.o id);rw[dZ lu.o]at EB;obtain⟨a0,a1,a2,a3,a4,a5,a6,a7,a8,a9,jA,jB,a12,jx,jC,jd,jK,jL,jM,jU,a20,a21⟩:=eh (th.o.keep mJ.o id) lu.o;rw[Am.o]at a1;have wZ:=HW.o;rw[wZ]at a0;clear wZ;clear a1 a2 a3 a4 a8 a9 jA jB a12 jx jC jd jK jL jM jU a20 a21
 have HP1:=O (show u1.cell? ⟨B,i*3+2,none⟩=some (.slice av l.length cc)from by rw[wY.o];exact((HH.o.di th.o).partAt sL.o).lO);have p1:=HP1.o;go_wp2_with fail
 go_loopw[67] (ajJ u1 l o.aJ.o) (fun i _=>l.length-(intOf i).toNat)
 case atStart=>exact⟨0,aQ _,rfl,rfl,ae _ _⟩
 case round =>
  obtain⟨k,hk,rfl,hn,cL⟩:=hrel;have HN:=O hn;have sX:=O (th.o.trans cL);have Vw:=O cL;clear hn;by_cases fk:k<l.length
  ·have o_:(k:Int)<(l.length:Int):=ab;rcases(apA.o.fG sX.o).2 with ⟨_,_,_,e,_⟩|⟨bk,of,c,hf,h1,h2,h3,h4⟩
   ·have S':=aq List.length e;rw[ai,List.length_nil]at S';omega
   ·rw[ai]at hf;cases hf;rw[ai]at h1;unfold maxLen at h2;obtain⟨q,dP⟩:∃q,l[k]?=some q:=⟨_,List.getElem?_eq_getElem fk⟩;have hcell:=h4 k (kY q) (by rw[List.getElem?_map,dP];rfl);have VY:=O dP;have lp:(kY q).length=4:=rfl;have heq:=jo q.1 o.aJ.o;obtain⟨a0,a1,a2,a3,a4,a5,a6,a7,a8,a9,jA,jB,a12,jx,jC,jd,jK,jL,jM,jU,a20,a21⟩:=eh (sX.o.keep mJ.o id) lu.o
    have HB8:=O (aC wr (.cells #[.bool q.1.aE,.string q.1.host,.int .i64 q.1.port,.int .i64 q.2] 105));have gO:Fr aS wr (wr.alloc (.cells #[.bool q.1.aE,.string q.1.host,.int .i64 q.1.port,.int .i64 q.2] 105)):=(ae aS wr).alloc _;have g5:=(gO.keep (sX.o.keep mJ.o id) id);obtain⟨b0,b1,b2,b3,b4,b5,b6,b7,b8,b9,Zw,Zx,Zy,b13,b14,b15,b16,b17,b18,b19,b20,b21⟩:=eh g5 lu.o;have rT:=O (sX.o.trans gO)
    have mh:=O (Vw.o.trans gO);have oX:=O (rT.o.keep qG.o id);clear h4 dP gO g5 a0 a1 a2 a3 a4 a5 a6 a7 a8 a9 jA jB a12 jx jC jd jK jL jM jU a20 a21 b0 b1 b2 b3 b4 b8 b9 Zw Zx Zy b13 b14 b15 b16 b17 b18 b19 b20 b21 cL;unfold kY at hcell lp;cases hq:q.1.kV o.aJ.o
    ·have Mt:=O (Sb VY.o HN.o hq);rw[hq]at heq;clear hq;go_wp2_with (first|((with_reducible refine dk 70 ?_);refine a_ rfl 105 (.tmp 69) rfl bk (of+k*4) rfl _ _ hcell underlying105 rfl af ?_)|fail)
     go_roundw
     case rel=>exact⟨k+1,ab,bg,Mt.o,mh.o⟩
     case measure=>simp[intOf];omega
    ·have Eb:=O (Wh VY.o HN.o hq);rw[Eb.o]at HR;rw[hq]at heq;have HP:=O (show dr base w B pv x _ from cH fY.o (fx HH.o rT.o));clear hq
     go_wp2_with (first|((with_reducible refine dk 70 ?_);refine a_ rfl 105 (.tmp 69) rfl bk (of+k*4) rfl _ _ hcell underlying105 rfl af ?_)|((with_reducible refine cV 46 ?_);refine aG rfl 46 (.tmp 4) (.tmp 80) rfl (w.heap.size+1) #[.int .i64 1,.string ⟨#[]⟩,.int .i64 q.2] rfl rfl _ bR oX.o (bf _ rfl) rfl ct ?_)|fail)
     refine aU (bu bC _ _ (w.heap.size+1) 46 #[.int .i64 1,.string ⟨#[]⟩,.int .i64 q.2] (0,0) _ rfl (aY _ (w.heap.size+1) _ _ _ _ oX.o) underlying46 rfl (bf _ rfl)) rfl ?_;unfold jN;rw[HR.o];exact⟨rfl,ep HP.o oY.o oT.o (bV _) oX.o dJ ag _⟩
  ·have hke:k=l.length:=ab;subst hke;have HHN:=O (show l.find? (fun c=>c.1.kV o.aJ.o)=none by have h:=HN.o;rw[List.take_length]at h;exact h);rw[HHN.o]at HR;have HP:=O (show dr base w B pv x wr from cH fY.o (fx HH.o sX.o));have oX:=O (sX.o.keep qG.o id);clear cL
   go_wp2_with (first|((with_reducible refine cV 46 ?_);refine aG rfl 46 (.tmp 4) (.tmp 82) rfl (w.heap.size+1) #[.int .i64 3,.string ⟨#[]⟩,.int .i64 0] rfl rfl _ bR oX.o (bf _ rfl) rfl ct ?_)|fail)
   refine aU (bu bC _ _ (w.heap.size+1) 46 #[.int .i64 3,.string ⟨#[]⟩,.int .i64 0] (0,0) _ rfl (aY _ (w.heap.size+1) _ _ _ _ oX.o) underlying46 rfl (bf _ rfl)) rfl ?_;unfold jN;rw[HR.o];exact⟨rfl,ep HP.o oY.o oT.o (bV _) oX.o dJ ag _⟩
theorem Sd(base:Nat)(w:World)(B:Nat)(pv:Nat->cU)(x:dN)(o:jz)(hs:List gY)(h:cE base w B pv x)(hf:gB w o hs)(hi:lI x)(a:World)(sY:kC a)(rU:a.heap.size<=base)(sZ:Fr aS a w)(hr:(o.dS hs).right=true)(hw:o.what=7) :
  aB 30 #[.pointer (some ⟨B,0,none⟩),.agg o.cells.toArray] w (jN base w B pv (mi x (o.dS hs))):=by
 have uA:B<w.heap.size:=h.lt;have ou:=h.low;obtain⟨ah,ch,gD⟩:=hf.gT;obtain⟨w2,eA⟩:∃w2,w2=(w.alloc (.cells o.cells.toArray 33)).alloc (.cells bR 46):=⟨_,rfl⟩;have dz:Fr aS w w2:=by rw[eA];exact((ae aS w).alloc _).alloc _
 have k1:w2.heap[w.heap.size]?=some (.cells o.cells.toArray 33 (0,0)):=by rw[eA];exact((ae aS _).alloc _).keep (aC _ _) id
 have k2:w2.heap[w.heap.size+1]?=some (.cells bR 46 (0,0)):=by
  have h:=aC (w.alloc (.cells o.cells.toArray 33)) (.cells bR 46);rw[bN]at h;rw[eA];exact h
 have td:=O (ll o hs w2 (hf.di dz));have HH:=O (h.di dz);have HF:=O (hf.di dz);have lu:=O gD;have HI:=O hi;have fY:=O dz;have mJ:=O k1;have qG:=O k2;have oY:=O (show base<=w.heap.size from ab);have wW:=O ou;have oT:=O uA;have RQ:=O sY;have RP:=O (sZ.trans dz);have XP:=O rU;rw[eA]at k1;rw[dZ gD]at eA td k1 ⊢;unfold bR at eA k1;have nD:=O eA;have u_:=O k1;clear eA gD dz k1 k2 h hf hi sY rU sZ
 obtain⟨i,vh,Al⟩:∃i:Nat,o.aJ.part=(i:Int)/\i<4:=by
  obtain⟨h0,h1⟩:=ks hr;have Tn:0<=o.aJ.part:=h0;have Hv:o.aJ.part<4:=h1;exact⟨o.aJ.part.toNat,ab,ab⟩
 have MG:(i:Int)<4:=ab;have qp:¬(i:Int)<0:=ab;have Nb:¬(4:Int)<=(i:Int):=ab;have Kt:(0:Int)<=(i:Int):=ab;have sL:=O Al;have Am:=O vh;obtain⟨r,B9⟩:∃r,r=oN (x.part i) (o.dS hs):=⟨_,rfl⟩;have HR:=O (show mi x (o.dS hs)=(x.set i r.1,r.2)by rw[qf hr vh (by show o.what≠10;omega),B9,aoZ (show(o.dS hs).what=7 from hw)]);rw[hr]at td
 have HM:=O (show∀U,Fr aS w2 U->aB 47 #[.pointer (some ⟨B,i*3,none⟩),.agg o.cells.toArray] U (eG base U B (iG pv x.now) (i*3) (pv i) r)from fun U hU=>by
  have h:=Ol base U B (i*3) (iG pv x.now) (pv i) (x.part i) o hs ((HH.o.di hU).part i sL.o) ((HH.o.di hU).partAt sL.o) wW.o (HF.o.di hU) (HI.o.ok.part i);rw[<-B9]at h;exact h)
 rw[dZ lu.o]at HM;have HW:=O hw;clear hr hw B9 Al vh;go_enter func30,ntmps30;go_wp2_with (first|((with_reducible refine dk 8 ?_);refine aI rfl 33 (.tmp 3) rfl w.heap.size rfl _ _ (0,0) _ u_.o underlying33 rfl af ?_)|fail)
 rw[<-nD.o];refine td.o.mono ?_;rintro e u⟨rfl,hu⟩;obtain⟨a0,a1,a2,a3,a4,a5,a6,a7,a8,a9,jA,jB,a12,jx,jC,jd,jK,jL,jM,jU,a20,a21⟩:=eh (hu.keep mJ.o id) lu.o;rw[Am.o]at a1;clear a0 a2 a3 a4 a5 a6 a7 a8 a9 jA jB a12 jx jC jd jK jL jM jU a20 a21;have qi:=O (show∀n,Fr aS w2 (u.drewN n)from fun n=>dC n hu);clear hu u_;go_wp2_with fail
 go_quiet (fail);clear a1;have mG:=qi.o nq;generalize u.drewN nq=u1 at mG ⊢;have th:=O mG;clear mG qi;have EB:=O (th.o.keep mJ.o id);rw[dZ lu.o]at EB;obtain⟨a0,a1,a2,a3,a4,a5,a6,a7,a8,a9,jA,jB,a12,jx,jC,jd,jK,jL,jM,jU,a20,a21⟩:=eh (th.o.keep mJ.o id) lu.o;rw[Am.o]at a1;have wZ:=HW.o;rw[wZ]at a0;clear wZ;clear a1 a2 a3 a4 a5 a6 a7 a8 a9 jA jB a12 jx jC jd jK jL jM jU a20 a21
 go_wp2_with (first|((with_reducible refine dk 86 ?_);refine aI rfl 33 (.tmp 3) rfl w.heap.size rfl _ _ (0,0) _ EB.o underlying33 rfl af ?_)|fail)
 have tj:=th.o;refine(HM.o _ tj).mono ?_;rintro e u5⟨rfl,hp⟩;unfold kM.val;have Lv:=tj.keep qG.o id;have oX:=O (nP (HH.o.di tj) sL.o hp Lv dJ ab);have HP:=O (show dr base w B pv (x.set i r.1) u5 from cH fY.o (cH tj (ki (HH.o.di tj) sL.o hp)));clear hp Lv tj HM
 go_wp2_with (first|((with_reducible refine cV 46 ?_);refine aG rfl 46 (.tmp 4) (.tmp 87) rfl (w.heap.size+1) #[.int .i64 r.2.what,.string r.2.head,.int .i64 r.2.cert] rfl rfl _ bR oX.o (bf _ rfl) rfl ct ?_)|fail)
 refine aU (bu bC _ _ (w.heap.size+1) 46 #[.int .i64 r.2.what,.string r.2.head,.int .i64 r.2.cert] (0,0) _ rfl (aY _ (w.heap.size+1) _ _ _ _ oX.o) underlying46 rfl (bf _ rfl)) rfl ?_;unfold jN;rw[HR.o];exact⟨rfl,ep HP.o oY.o oT.o (bV _) oX.o dJ ag _⟩
theorem cE.aeQ(h:cE base w B pv x)(n:Int):cE base (w.setCell ⟨B,12,none⟩ (.int .i64 n)) B pv {x with now:=n}/\Fr (one B) w (w.setCell ⟨B,12,none⟩ (.int .i64 n)):=by
 have kx:Fr (one B) w (w.setCell ⟨B,12,none⟩ (.int .i64 n)):=(ae (one B) w).setCell (p:=⟨B,12,none⟩) (fun _=>rfl) _;refine⟨⟨h.low,?_,fun i hi=>(h.part i hi).fr kx h.Rv (fun k hk e=>h.zJ hi (by have e':k=B:=e;rw[<-e'];exact hk)),h.apart⟩,kx⟩;rw[b_ h.eJ 12 (.int .i64 n)];rfl
theorem P_(base:Nat)(w:World)(B:Nat)(pv:Nat->cU)(x:dN)(o:jz)(hs:List gY)(h:cE base w B pv x)(hf:gB w o hs)(hi:lI x)(a:World)(sY:kC a)(rU:a.heap.size<=base)(sZ:Fr aS a w)(hr:(o.dS hs).right=true)(hw:o.what=10) :
  aB 30 #[.pointer (some ⟨B,0,none⟩),.agg o.cells.toArray] w (jN base w B pv (mi x (o.dS hs))):=by
 have uA:B<w.heap.size:=h.lt;have ou:=h.low;obtain⟨ah,ch,gD⟩:=hf.gT;obtain⟨w2,eA⟩:∃w2,w2=(w.alloc (.cells o.cells.toArray 33)).alloc (.cells bR 46):=⟨_,rfl⟩;have dz:Fr aS w w2:=by rw[eA];exact((ae aS w).alloc _).alloc _
 have k1:w2.heap[w.heap.size]?=some (.cells o.cells.toArray 33 (0,0)):=by rw[eA];exact((ae aS _).alloc _).keep (aC _ _) id
 have k2:w2.heap[w.heap.size+1]?=some (.cells bR 46 (0,0)):=by
  have h:=aC (w.alloc (.cells o.cells.toArray 33)) (.cells bR 46);rw[bN]at h;rw[eA];exact h
 have td:=O (ll o hs w2 (hf.di dz));have HH:=O (h.di dz);have HF:=O (hf.di dz);have lu:=O gD;have HI:=O hi;have fY:=O dz;have mJ:=O k1;have qG:=O k2;have oY:=O (show base<=w.heap.size from ab);have wW:=O ou;have oT:=O uA;have RQ:=O sY;have RP:=O (sZ.trans dz);have XP:=O rU;rw[eA]at k1;rw[dZ gD]at eA td k1 ⊢;unfold bR at eA k1;have nD:=O eA;have u_:=O k1;clear eA gD dz k1 k2 h hf hi sY rU sZ
 obtain⟨i,vh,Al⟩:∃i:Nat,o.aJ.part=(i:Int)/\i<4:=by
  obtain⟨h0,h1⟩:=ks hr;have Tn:0<=o.aJ.part:=h0;have Hv:o.aJ.part<4:=h1;exact⟨o.aJ.part.toNat,ab,ab⟩
 have MG:(i:Int)<4:=ab;have qp:¬(i:Int)<0:=ab;have Nb:¬(4:Int)<=(i:Int):=ab;have Kt:(0:Int)<=(i:Int):=ab;have sL:=O Al;have Am:=O vh;have Jm:=O (show mi x (o.dS hs)=if o.n<0\/1099511627776-x.now<o.n then(x,rep 7)else({x with now:=x.now+o.n},rep 1)from DU hr hw);rw[hr]at td;have n0:=HI.o.ok.now.1;have n1:=HI.o.ok.now.2;have on:=HF.o.n;have HW:=O hw;clear hr hw Al vh;go_enter func30,ntmps30
 go_wp2_with (first|((with_reducible refine dk 8 ?_);refine aI rfl 33 (.tmp 3) rfl w.heap.size rfl _ _ (0,0) _ u_.o underlying33 rfl af ?_)|fail)
 rw[<-nD.o];refine td.o.mono ?_;rintro e u⟨rfl,hu⟩;obtain⟨a0,a1,a2,a3,a4,a5,a6,a7,a8,a9,jA,jB,a12,jx,jC,jd,jK,jL,jM,jU,a20,a21⟩:=eh (hu.keep mJ.o id) lu.o;rw[Am.o]at a1;clear a0 a2 a3 a4 a5 a6 a7 a8 a9 jA jB a12 jx jC jd jK jL jM jU a20 a21;have qi:=O (show∀n,Fr aS w2 (u.drewN n)from fun n=>dC n hu);clear hu u_;go_wp2_with fail
 go_quiet (fail);clear a1;have mG:=qi.o nq;generalize u.drewN nq=u1 at mG ⊢;have th:=O mG;clear mG qi;have EB:=O (th.o.keep mJ.o id);rw[dZ lu.o]at EB;obtain⟨a0,a1,a2,a3,a4,a5,a6,a7,a8,a9,jA,jB,a12,jx,jC,jd,jK,jL,jM,jU,a20,a21⟩:=eh (th.o.keep mJ.o id) lu.o;rw[Am.o]at a1;have wZ:=HW.o;rw[wZ]at a0;clear wZ;clear a1 a2 a3 a4 a5 a6 a7 a8 a9 jA jB a12 jx jC jd jK jL jM jU a20
 have p1:u1.cell? ⟨B,12,none⟩=some (.int .i64 x.now):=by
  have j2:=(HH.o.di th.o).eJ;simp only[World.cell?,j2];rfl
 have tu:=O (show∀n,Fr aS w2 (u1.drewN n)from fun n=>dC n th.o);by_cases hn:o.n<0
 ·have hd:decide (o.n<0)=true:=bL hn;have HR:=O (Jm.o.trans (aA (Or.inl hn)));go_wp2_with fail
  go_quiet (fail);have nj:=tu.o nq;generalize u1.drewN nq=u2 at nj ⊢;have oX:=O (nj.keep qG.o id);have Zr:=O (show dr base w B pv x u2 from cH fY.o (fx HH.o nj));go_wp2_with (first|((with_reducible refine cV 46 ?_);refine aG rfl 46 (.tmp 4) (.tmp 103) rfl (w.heap.size+1) #[.int .i64 7,.string ⟨#[]⟩,.int .i64 0] rfl rfl _ bR oX.o (bf _ rfl) rfl ct ?_)|fail)
  refine aU (bu bC _ _ (w.heap.size+1) 46 #[.int .i64 7,.string ⟨#[]⟩,.int .i64 0] (0,0) _ rfl (aY _ (w.heap.size+1) _ _ _ _ oX.o) underlying46 rfl (bf _ rfl)) rfl ?_;unfold jN;rw[HR.o];exact⟨rfl,ep Zr.o oY.o oT.o (bV _) oX.o dJ ag _⟩
 ·have hd:decide (o.n<0)=false:=bD hn;by_cases hm:1099511627776-x.now<o.n
  ·have su:decide (1099511627776-x.now<o.n)=true:=bL hm;have HR:=O (Jm.o.trans (aA (Or.inr hm)));go_wp2_with fail
   go_quiet (fail);have nj:=tu.o nq;generalize u1.drewN nq=u2 at nj ⊢;have oX:=O (nj.keep qG.o id);have Zr:=O (show dr base w B pv x u2 from cH fY.o (fx HH.o nj));go_wp2_with (first|((with_reducible refine cV 46 ?_);refine aG rfl 46 (.tmp 4) (.tmp 103) rfl (w.heap.size+1) #[.int .i64 7,.string ⟨#[]⟩,.int .i64 0] rfl rfl _ bR oX.o (bf _ rfl) rfl ct ?_)|fail)
   refine aU (bu bC _ _ (w.heap.size+1) 46 #[.int .i64 7,.string ⟨#[]⟩,.int .i64 0] (0,0) _ rfl (aY _ (w.heap.size+1) _ _ _ _ oX.o) underlying46 rfl (bf _ rfl)) rfl ?_;unfold jN;rw[HR.o];exact⟨rfl,ep Zr.o oY.o oT.o (bV _) oX.o dJ ag _⟩
  ·have su:decide (1099511627776-x.now<o.n)=false:=bD hm;have HR:=O (Jm.o.trans (ar ab));go_wp2_with fail
   go_quiet (fail);have nj:=tu.o nq;generalize u1.drewN nq=u2 at nj ⊢;have oX:=O (nj.keep qG.o id);have Zr:=O (show dr base w B pv x u2 from cH fY.o (fx HH.o nj));go_wp2_with fail
   have q1:u2.cell? ⟨B,12,none⟩=some (.int .i64 x.now):=by
    have j2:=(HH.o.di nj).eJ;simp only[World.cell?,j2];rfl
   have q2:u2.frozen? ⟨B,12,none⟩=false:=by
    have j2:=(HH.o.di nj).eJ;simp[World.frozen?,j2]
   obtain⟨a0,a1,a2,a3,a4,a5,a6,a7,a8,a9,jA,jB,a12,jx,jC,jd,jK,jL,jM,jU,a20,a21⟩:=eh (nj.keep mJ.o id) lu.o;clear a0 a1 a2 a3 a4 a5 a6 a7 a8 a9 jA jB a12 jx jC jd jK jL jM jU a20;have g1: -9223372036854775808<=x.now+o.n:=ab;have g2:x.now+o.n<=9223372036854775807:=ab
   go_region
   obtain⟨BQ,Mo⟩:=(HH.o.di nj).aeQ (x.now+o.n);have hWP:dr base u2 B pv {x with now:=x.now+o.n} (u2.setCell ⟨B,12,none⟩ (.int .i64 (x.now+o.n))):=⟨pv,BQ,Mo.mono (fun k _ e=>Or.inl e),fun k hk=>Or.inl hk⟩;have HP:=O (show dr base w B pv {x with now:=x.now+o.n} _ from cH fY.o (cH nj (hWP.then (az (ae aS _)))))
   have Pk:=O (show((u2.setCell ⟨B,12,none⟩ (.int .i64 (x.now+o.n))).drew).heap[w.heap.size+1]?=_ from Mo.keep oX.o (fun e=>by have e':w.heap.size+1=B:=e;have:=oT.o;omega));clear BQ Mo hWP q1 q2 a21;go_wp2_with (first|((with_reducible refine cV 46 ?_);refine aG rfl 46 (.tmp 4) (.tmp 113) rfl (w.heap.size+1) #[.int .i64 1,.string ⟨#[]⟩,.int .i64 0] rfl rfl _ bR Pk.o (bf _ rfl) rfl ct ?_)|fail)
   refine aU (bu bC _ _ (w.heap.size+1) 46 #[.int .i64 1,.string ⟨#[]⟩,.int .i64 0] (0,0) _ rfl (aY _ (w.heap.size+1) _ _ _ _ Pk.o) underlying46 rfl (bf _ rfl)) rfl ?_;unfold jN;rw[HR.o];exact⟨rfl,ep HP.o oY.o oT.o (bV _) Pk.o dJ ag _⟩
theorem aad(base:Nat)(w:World)(B:Nat)(pv:Nat->cU)(x:dN)(o:jz)(hs:List gY)(h:cE base w B pv x)(hf:gB w o hs)(hi:lI x)(a:World)(sY:kC a)(rU:a.heap.size<=base)(sZ:Fr aS a w)(hr:(o.dS hs).right=true)(hw:o.what=8\/o.what=9) :
  aB 30 #[.pointer (some ⟨B,0,none⟩),.agg o.cells.toArray] w (jN base w B pv (mi x (o.dS hs))):=by
 have uA:B<w.heap.size:=h.lt;have ou:=h.low;obtain⟨ah,ch,gD⟩:=hf.gT;obtain⟨w2,eA⟩:∃w2,w2=(w.alloc (.cells o.cells.toArray 33)).alloc (.cells bR 46):=⟨_,rfl⟩;have dz:Fr aS w w2:=by rw[eA];exact((ae aS w).alloc _).alloc _
 have k1:w2.heap[w.heap.size]?=some (.cells o.cells.toArray 33 (0,0)):=by rw[eA];exact((ae aS _).alloc _).keep (aC _ _) id
 have k2:w2.heap[w.heap.size+1]?=some (.cells bR 46 (0,0)):=by
  have h:=aC (w.alloc (.cells o.cells.toArray 33)) (.cells bR 46);rw[bN]at h;rw[eA];exact h
 have td:=O (ll o hs w2 (hf.di dz));have HH:=O (h.di dz);have HF:=O (hf.di dz);have lu:=O gD;have HI:=O hi;have fY:=O dz;have mJ:=O k1;have qG:=O k2;have oY:=O (show base<=w.heap.size from ab);have wW:=O ou;have oT:=O uA;have RQ:=O sY;have RP:=O (sZ.trans dz);have XP:=O rU;rw[eA]at k1;rw[dZ gD]at eA td k1 ⊢;unfold bR at eA k1;have nD:=O eA;have u_:=O k1;clear eA gD dz k1 k2 h hf hi sY rU sZ
 obtain⟨i,vh,Al⟩:∃i:Nat,o.aJ.part=(i:Int)/\i<4:=by
  obtain⟨h0,h1⟩:=ks hr;have Tn:0<=o.aJ.part:=h0;have Hv:o.aJ.part<4:=h1;exact⟨o.aJ.part.toNat,ab,ab⟩
 have MG:(i:Int)<4:=ab;have qp:¬(i:Int)<0:=ab;have Nb:¬(4:Int)<=(i:Int):=ab;have Kt:(0:Int)<=(i:Int):=ab;have sL:=O Al;have Am:=O vh;obtain⟨r,B9⟩:∃r,r=rK (x.part i) (o.dS hs):=⟨_,rfl⟩;have HR:=O (show mi x (o.dS hs)=(x.set i r.1,r.2)by rw[qf hr vh (by show o.what≠10;omega),B9,V2 (show(o.dS hs).what=8\/(o.dS hs).what=9 from hw)]);rw[hr]at td
 have HM:=O (show∀U,Fr aS w2 U->aB 48 #[.pointer (some ⟨B,i*3,none⟩),.agg o.cells.toArray] U (eG base U B (iG pv x.now) (i*3) (pv i) r)from fun U hU=>by
  have h:=Wk base U B (i*3) (iG pv x.now) (pv i) (x.part i) o hs ((HH.o.di hU).part i sL.o) ((HH.o.di hU).partAt sL.o) wW.o (HF.o.di hU) (HI.o.ok.part i);rw[<-B9]at h;exact h)
 rw[dZ lu.o]at HM;have HW:=O hw;clear hr hw B9 Al vh;go_enter func30,ntmps30;go_wp2_with (first|((with_reducible refine dk 8 ?_);refine aI rfl 33 (.tmp 3) rfl w.heap.size rfl _ _ (0,0) _ u_.o underlying33 rfl af ?_)|fail)
 rw[<-nD.o];refine td.o.mono ?_;rintro e u⟨rfl,hu⟩;obtain⟨a0,a1,a2,a3,a4,a5,a6,a7,a8,a9,jA,jB,a12,jx,jC,jd,jK,jL,jM,jU,a20,a21⟩:=eh (hu.keep mJ.o id) lu.o;rw[Am.o]at a1;clear a0 a2 a3 a4 a5 a6 a7 a8 a9 jA jB a12 jx jC jd jK jL jM jU a20 a21;have qi:=O (show∀n,Fr aS w2 (u.drewN n)from fun n=>dC n hu);clear hu u_;go_wp2_with fail
 go_quiet (fail);clear a1;have mG:=qi.o nq;generalize u.drewN nq=u1 at mG ⊢;have th:=O mG;clear mG qi;have EB:=O (th.o.keep mJ.o id);rw[dZ lu.o]at EB;obtain⟨a0,a1,a2,a3,a4,a5,a6,a7,a8,a9,jA,jB,a12,jx,jC,jd,jK,jL,jM,jU,a20,a21⟩:=eh (th.o.keep mJ.o id) lu.o;rw[Am.o]at a1;have wZ:=HW.o
 have hne:(o.what==1)=false/\(o.what==2)=false/\(o.what==3)=false/\(o.what==4)=false/\(o.what==5)=false/\(o.what==6)=false/\(o.what==7)=false/\(o.what==10)=false:=by
  refine⟨?_,?_,?_,?_,?_,?_,?_,?_⟩<;>(rw[aL];omega)
 obtain⟨n1,n2,n3,n4,n5,n6,n7,n10⟩:=hne;have m1:¬o.what=1:=ab;have m2:¬o.what=2:=ab;have m3:¬o.what=3:=ab;have m4:¬o.what=4:=ab;have m5:¬o.what=5:=ab;have m6:¬o.what=6:=ab;have m7:¬o.what=7:=ab;have m10:¬o.what=10:=ab;clear wZ;clear a1 a2 a3 a4 a5 a6 a7 a8 a9 jA jB a12 jx jC jd jK jL jM jU a20 a21
 go_wp2_with (first|((with_reducible refine dk 115 ?_);refine aI rfl 33 (.tmp 3) rfl w.heap.size rfl _ _ (0,0) _ EB.o underlying33 rfl af ?_)|fail)
 have tj:=th.o;refine(HM.o _ tj).mono ?_;rintro e u5⟨rfl,hp⟩;unfold kM.val;have Lv:=tj.keep qG.o id;have oX:=O (nP (HH.o.di tj) sL.o hp Lv dJ ab);have HP:=O (show dr base w B pv (x.set i r.1) u5 from cH fY.o (cH tj (ki (HH.o.di tj) sL.o hp)));clear hp Lv tj HM
 go_wp2_with (first|((with_reducible refine cV 46 ?_);refine aG rfl 46 (.tmp 4) (.tmp 116) rfl (w.heap.size+1) #[.int .i64 r.2.what,.string r.2.head,.int .i64 r.2.cert] rfl rfl _ bR oX.o (bf _ rfl) rfl ct ?_)|fail)
 refine aU (bu bC _ _ (w.heap.size+1) 46 #[.int .i64 r.2.what,.string r.2.head,.int .i64 r.2.cert] (0,0) _ rfl (aY _ (w.heap.size+1) _ _ _ _ oX.o) underlying46 rfl (bf _ rfl)) rfl ?_;unfold jN;rw[HR.o];exact⟨rfl,ep HP.o oY.o oT.o (bV _) oX.o dJ ag _⟩
section
variable {U : World} {T B : Nat} {g : Nat → qB} {sv : Value} {t : im}
theorem Xf(h:f_ U T B g sv t)(n:Int) :
  aB 11 #[.pointer (some ⟨T,0,none⟩),.int .i64 n] U fun e w'=>e=.returned (.int .i64 (P8 t n:Nat))/\w'=U:=by
 unfold P8;cases hn:yn n
 ·have hh:¬(0<=n/\n<6):=by
   intro hh;unfold yn at hn;simp[hh.1,hh.2]at hn
  clear hn h;by_cases h0:n<0
  ·have h1:¬(0:Int)<=n:=ab;clear hh;go_enter func11,ntmps11;go_wp2;go_ret;exact⟨rfl,rfl⟩
  ·have h1:(0:Int)<=n:=ab;have h4:(6:Int)<=n:=ab;have h5:¬n<6:=ab;clear hh;go_enter func11,ntmps11;go_wp2;go_ret;exact⟨rfl,rfl⟩
 ·obtain⟨i,rfl,hi⟩:=Cu hn;have c:U.cell? ⟨T,17+i*45,none⟩=some (.int .i64 (t.tab i).does):=h.tab i hi 0 _ rfl;have h1:(i:Int)<6:=ab;have h0:¬(i:Int)<0:=ab;have h2:¬(6:Int)<=(i:Int):=ab;have h3:(0:Int)<=(i:Int):=ab;clear hn h;go_enter func11,ntmps11;go_wp2;go_ret;exact⟨rfl,rfl⟩
end
structure j_ (base:Nat) (U:World) (v:jz×List gY) (o:kl):Prop where
 fit:gB U v.1 v.2
 is:v.1.dS v.2=o
 own:OwnRows base 142 2 U v.1.aJ.en (v.2.map gY.cells)
def Iw(x:P7×(jz×List gY)):aX:=.int .i64 x.1.tab :: (x.2.1.cells++(qg x.1.jy++[.int .i64 x.1.ng,.int .i64 x.1.fin]))
def ph(base:Nat)(U:World)(sv:Value)(l:List P7):Prop:=∃es:List (P7×(jz×List gY)),es.map (·.1)=l/\OwnRows base 88 28 U sv (es.map Iw)/\∀x∈es,j_ base U x.2 x.1.op
def oU(xw:Option (Nat×dN))(B:Nat)(sb:Nat->Nat)(t:im):Nat->Option (Nat×dN):=fun i=>if i=6 then some (B,t.w)else if i=7 then xw else if i<6/\((t.tab i).does=2\/(t.tab i).does=3)then some (sb i,(t.tab i).seen)else none
theorem N9(hw:t'.w=t.w)(h:∀n,n<6->((t'.tab n).does=2\/(t'.tab n).does=3)->((t.tab n).does=2\/(t.tab n).does=3)/\(t'.tab n).seen=(t.tab n).seen):∀j p,oU xw B sb t' j=some p->oU xw B sb t j=some p:=by
 intro j p hp;unfold oU at hp ⊢;by_cases e6:j=6
 ·rw[aA e6]at hp ⊢;rw[<-hw];exact hp
 ·rw[ar e6]at hp ⊢;by_cases e7:j=7
  ·rw[aA e7]at hp ⊢;exact hp
  ·rw[ar e7]at hp ⊢;split at hp
   ·rename_i hc;obtain⟨q1,q2⟩:=h j hc.1 hc.2;rw[aA ⟨hc.1,q1⟩, <-q2];exact hp
   ·cases hp
theorem N_(hw:t'.w=t.w)(i:Nat)(ht:∀n,n≠i->t'.tab n=t.tab n)(h2:(t'.tab i).does≠2)(h3:(t'.tab i).does≠3):∀j p,oU xw B sb t' j=some p->oU xw B sb t j=some p :=
 N9 hw fun n _ hd=>by
  by_cases e:n=i
  ·subst e;exact absurd hd (fun h=>h.elim h2 h3)
  ·rw[ht n e]at hd ⊢;exact⟨hd,rfl⟩
structure df (xw:Option (Nat×dN)) (a U:World) (T:Nat) (t:im):Prop where
 ex:∃B g sv sb,f_ U T B g sv t/\xz a.heap.size U (oU xw B sb t)/\ph a.heap.size U sv t.fJ/\∀n,n<6->((t.tab n).does≠0->j_ a.heap.size U ((g n).o,(g n).hs) (t.tab n).op)/\((t.tab n).does=2\/(t.tab n).does=3->(g n).sp=.pointer (some ⟨sb n,0,none⟩))
 low:a.heap.size<=T
 fr:Fr aS a U
structure fS (k:Int) (t:im):Prop where
 steps:0<=t.steps/\t.steps<=k
 num:∀p i,0<=t.num p i/\t.num p i<=k
 fails:∀n,(t.tab n).fails<=3
 does:∀n,(t.tab n).does<=3
 inv:lI t.w
 seen:∀n,(t.tab n).does=2\/(t.tab n).does=3->lI (t.tab n).seen
 ops:∀n,(t.tab n).does≠0->(t.tab n).op.user.size<=5000/\(t.tab n).op.pass.size<=5000/\(t.tab n).op.path.size<=5000
section
variable {xw : Option (Nat × dN)} {base : Nat} {a U U' : World} {T : Nat} {t : im}
def gN(U U':World):Prop:=∃S:dB,Fr S U U'/\∀(n:Nat) (c:bS) (e:TypeId),U.heap[n]?=some (.cells c e (0,0))->(eY e/\e≠97)/\e≠88/\e≠78->¬S n
theorem gN.Z3(h:Fr aS U U'):gN U U':=⟨aS,h,fun _ _ _ _ _ h=>h⟩
theorem gN.refl(U:World):gN U U:=gN.Z3 (ae _ _)
theorem gN.Oa(h:Kept U U'):gN U U':=by
 obtain⟨S,hf,hs⟩:=h;exact⟨S,hf,fun n c e hn he=>hs n c e hn he.1.1 he.1.2⟩
theorem gN.block(h:gN U U')(hn:U.heap[n]?=some (.cells c e (0,0)))(he:(eY e/\e≠97)/\e≠88/\e≠78):U'.heap[n]?=some (.cells c e (0,0)):=by
 obtain⟨S,hf,hs⟩:=h;exact hf.keep hn (hs n c e hn he)
theorem gN.step{Z:dB}(h:gN U V)(g:Fr Z V U')(hz:∀(n:Nat) (c:bS) (e:TypeId),n<U.heap.size->V.heap[n]?=some (.cells c e (0,0))->(eY e/\e≠97)/\e≠88/\e≠78->¬Z n):gN U U':=by
 obtain⟨S,hf,hs⟩:=h;refine⟨fun n=>S n\/Z n,(hf.mono fun _ _ h=>Or.inl h).trans (g.mono fun _ _ h=>Or.inr h),?_⟩;rintro n c e hn he(q|q)
 ·exact hs n c e hn he q
 ·exact hz n c e (bj hn) (hf.keep hn (hs n c e hn he)) he q
theorem gN.trans(h:gN U V)(g:gN V U'):gN U U':=by
 obtain⟨Z,hg,hz⟩:=g;exact h.step hg fun n c e _ hn he=>hz n c e hn he
theorem gN.tabs(h:gN U V)(hT:V.heap[T]?=some (.cells c 78 (0,0)))(g:Fr (one T) V U'):gN U U':=h.step g fun n c' e _ hn he q=>by
 cases(show n=T from q);rw[hT]at hn;cases hn;exact he.2.2 rfl
theorem gN.new(h:gN U V)(g:Fr (one m) V U')(hm:U.heap.size<=m):gN U U':=h.step g fun n c' e hl _ _ q=>by
 have:n=m:=q;omega
theorem rO:(eY 46/\46≠97)/\46≠88/\46≠78:=by unfold eY;decide
theorem D9:eY 142/\142≠97:=by unfold eY;decide
theorem uF:eY 88/\88≠97:=by unfold eY;decide
theorem rh:eY 78/\78≠97:=by unfold eY;decide
theorem j_.rows(h:j_ base U v o)(g:OwnRows base 142 2 U' v.1.aJ.en (v.2.map gY.cells)):j_ base U' v o:=⟨{h.fit with en:=g.at},h.is,g⟩
theorem j_.kept(h:j_ base U v o)(hk:Kept U U'):j_ base U' v o:=h.rows (hk.rows h.own D9.1 D9.2)
theorem j_.one(h:j_ base U v o)(hb:U.heap[n]?=some (.cells c e (0,0)))(he:e≠142)(hf:Fr (one n) U U'):j_ base U' v o :=
 h.rows (h.own.fr hf fun g hg q=>h.own.not hb he (by rw[hg];exact aq some q))
theorem ph.kept{l:List P7}(h:ph base U sv l)(hk:Kept U U'):ph base U' sv l:=by
 obtain⟨es,h1,h2,h3⟩:=h;exact⟨es,h1,hk.rows h2 uF.1 uF.2,fun x hx=>(h3 x hx).kept hk⟩
theorem ph.one{l:List P7}(h:ph base U sv l)(hb:U.heap[n]?=some (.cells c e (0,0)))(he:e≠142)(he':e≠88)(hf:Fr (one n) U U'):ph base U' sv l:=by
 obtain⟨es,h1,h2,h3⟩:=h;exact⟨es,h1,h2.fr hf fun g hg q=>h2.not hb he' (by rw[hg];exact aq some q),fun x hx=>(h3 x hx).one hb he hf⟩
theorem df.di(h:df xw a U T t)(hf:Fr aS U U'):df xw a U' T t:=by
 obtain⟨B,g,sv,sb,h1,h2,h3,h4⟩:=h.ex;exact⟨⟨B,g,sv,sb,h1.fr hf id,h2.di hf,h3.kept (jh hf),fun n hn=>⟨fun hd=>((h4 n hn).1 hd).kept (jh hf),(h4 n hn).2⟩⟩,h.low,h.fr.trans hf⟩
theorem df.put{B:Nat}{g:Nat->qB}{sv:Value}{sb:Nat->Nat}{t':im}{g':Nat->qB}(h1:f_ U T B g sv t)(h2:xz a.heap.size U (oU xw B sb t))(h3:ph a.heap.size U sv t.fJ)
  (h4:∀n,n<6->((t.tab n).does≠0->j_ a.heap.size U ((g n).o,(g n).hs) (t.tab n).op)/\((t.tab n).does=2\/(t.tab n).does=3->(g n).sp=.pointer (some ⟨sb n,0,none⟩)))(k_:a.heap.size<=T)(cL:Fr aS a U)
  (hb:f_ U' T B g' sv t'/\Fr (one T) U U')(hs:t'.fJ=t.fJ)(hw:∀i p,oU xw B sb t' i=some p->oU xw B sb t i=some p)
  (Z4:∀n,n<6->((t'.tab n).does≠0->((g' n).o=(g n).o/\(g' n).hs=(g n).hs/\(t'.tab n).op=(t.tab n).op/\(t.tab n).does≠0)\/j_ a.heap.size U ((g' n).o,(g' n).hs) (t'.tab n).op)/\((t'.tab n).does=2\/(t'.tab n).does=3->(g' n).sp=.pointer (some ⟨sb n,0,none⟩))):df xw a U' T t':=by
 obtain⟨hb,hf⟩:=hb;obtain⟨c,hc,_⟩:=h1.eJ;refine⟨⟨B,g',sv,sb,hb,(h2.one k_ hc rh.1 rh.2 ag hf).sub hw,by rw[hs];exact h3.one hc ag ag hf,fun n hn=>⟨fun hd=>?_,(Z4 n hn).2⟩⟩,k_,cL.step hf fun k hk e=>?_⟩
 ·rcases(Z4 n hn).1 hd with ⟨e1,e2,e3,e4⟩|q
  ·rw[e1,e2,e3];exact((h4 n hn).1 e4).one hc ag hf
  ·exact q.one hc ag hf
 ·have:k=T:=e;omega
theorem df.aside(h:df xw a U T t)(hn:a.heap.size<=n)(hb:U.heap[n]?=some (.cells c e (0,0)))(he:eY e/\e≠97)(h1:e≠142)(h2:e≠88)(h3:e≠78)(h4:e≠9)(hf:Fr (one n) U U'):df xw a U' T t:=by
 obtain⟨B,g,sv,sb,g1,g2,g3,g4⟩:=h.ex;obtain⟨d,hd,_⟩:=g1.eJ;have hT:¬(one n) T:=fun e'=>by
  cases(show T=n from e');rw[hd]at hb;cases hb;exact h3 rfl
 refine⟨⟨B,g,sv,sb,g1.fr hf hT,g2.one hn hb he.1 he.2 h4 hf,g3.one hb h1 h2 hf,fun m hm=>⟨fun hd=>((g4 m hm).1 hd).one hb h1 hf,(g4 m hm).2⟩⟩,h.low,h.fr.step hf fun k hk e'=>?_⟩;have:k=n:=e';omega
end
abbrev lo := @gN.refl
abbrev kt := @df.put
abbrev eH := @gN.Z3
theorem IC(base:Nat)(w:World)(B:Nat)(pv:Nat->cU)(x:dN)(o:jz)(hs:List gY)(h:cE base w B pv x)(hf:gB w o hs)(hi:lI x)(a:World)(sY:kC a)(rU:a.heap.size<=base)(sZ:Fr aS a w) :
  aB 30 #[.pointer (some ⟨B,0,none⟩),.agg o.cells.toArray] w (jN base w B pv (mi x (o.dS hs))):=by
 cases hr:(o.dS hs).right
 ·exact aez base w B pv x o hs h hf hi a sY rU sZ hr
 ·obtain⟨h1,h2⟩:=N6 hr;have Hv:1<=o.what:=h1;have h2':o.what<=10:=h2;have hq:o.what=1\/o.what=2\/o.what=3\/o.what=4\/o.what=5\/o.what=6\/o.what=7\/(o.what=8\/o.what=9)\/o.what=10:=ab;rcases hq with hq|hq|hq|hq|hq|hq|hq|hq|hq
  ·exact RX base w B pv x o hs h hf hi a sY rU sZ hr hq
  ·exact Og base w B pv x o hs h hf hi a sY rU sZ hr hq
  ·exact LK base w B pv x o hs h hf hi a sY rU sZ hr hq
  ·exact Wf base w B pv x o hs h hf hi a sY rU sZ hr hq
  ·exact Oh base w B pv x o hs h hf hi a sY rU sZ hr hq
  ·exact aab base w B pv x o hs h hf hi a sY rU sZ hr hq
  ·exact Sd base w B pv x o hs h hf hi a sY rU sZ hr hq
  ·exact aad base w B pv x o hs h hf hi a sY rU sZ hr hq
  ·exact P_ base w B pv x o hs h hf hi a sY rU sZ hr hq
def GG(b:Bool)(w:World)(p:Addr)(v:Value):World:=if b then w.setCell p v else w
theorem zU(h:Fr (one B) a w)(b:Bool)(k:Nat)(v:Value):Fr (one B) a (GG b w ⟨B,k,none⟩ v):=by
 cases b
 ·exact h
 ·exact h.setCell (p:=⟨B,k,none⟩) (fun _=>rfl) v
theorem zV{cs:aX}{t:TypeId}{f:Nat×Nat}(h:w.heap[B]?=some (.cells cs.toArray t f))(b:Bool)(k:Nat){old:Value}(hk:cs[k]?=some old)(v:Value) :
  (GG b w ⟨B,k,none⟩ v).heap[B]?=some (.cells (cs.set k (if b then v else old)).toArray t f):=by
 cases b
 ·have e:cs.set k old=cs:=by
   apply iY;intro i;by_cases hi:i=k
   ·subst hi;rw[List.getElem?_set_self (List.getElem?_eq_some_iff.1 hk).1,hk]
   ·rw[List.getElem?_set_ne (kO hi)]
  show w.heap[B]?=some (.cells (cs.set k old).toArray t f);rw[e,h]
 ·show(w.setCell ⟨B,k,none⟩ v).heap[B]?=some (.cells (cs.set k v).toArray t f);rw[b_ h k v,List.setIfInBounds_toArray]
def GH(b0 b1 b2:Bool)(v q:cU):cU :=
 ⟨if b0 then q.b else v.b,if b0 then q.gv else v.gv,if b0 then q.wv else v.wv,if b1 then q.k else v.k,if b1 then q.kv else v.kv,if b2 then q.cv else v.cv⟩
theorem Ou{b0 b1 b2:Bool}{v:cU}{k:Nat}(h:(GH b0 b1 b2 v q).jT k):v.jT k\/q.jT k:=by
 rcases h with h|h|h
 ·cases b0
  ·exact Or.inl (Or.inl h)
  ·exact Or.inr (Or.inl h)
 ·cases b1
  ·exact Or.inl (Or.inr (Or.inl h))
  ·exact Or.inr (Or.inr (Or.inl h))
 ·cases b2
  ·exact Or.inl (Or.inr (Or.inr h))
  ·exact Or.inr (Or.inr (Or.inr h))
theorem eP.take{v:cU}{P F:eD}(h:eP base w v P)(g:eP base w q F)(b0 b1 b2:Bool) :
  eP base w (GH b0 b1 b2 v q) ⟨if b0 then F.bU else P.bU,if b0 then F.waits else P.waits,if b1 then F.book else P.book,if b2 then F.eB else P.eB⟩ :=
 ⟨by cases b0;exact h.ot;exact g.ot,by cases b1;exact h.book;exact g.book,by cases b2;exact h.eB;exact g.eB⟩
def Qb(b0 b1 b2 b3:Bool)(W:World)(B i:Nat)(q:cU)(n:Int):World :=
 GG b3 (GG b2 (GG b1 (GG b0 W ⟨B,i*3,none⟩ (.pointer (some ⟨q.b,0,none⟩))) ⟨B,i*3+1,none⟩ (.pointer (some ⟨q.k,0,none⟩))) ⟨B,i*3+2,none⟩ q.cv) ⟨B,12,none⟩ (.int .i64 n)
theorem Sl{base:Nat}{w W:World}{B N:Nat}{pv qc:Nat->cU}{x f:dN}(h:cE base w B pv x)(hW:Fr aS w W)(hc:cE base W N qc f)(hn:∀k,lJ N qc k->w.heap.size<=k){part:Int}{i:Nat}(hi:i<4)(hp:part=(i:Int)){c:Nat}{b0 b1 b2 b3:Bool}
  (h0:c.testBit 0=b0)(h1:c.testBit 1=b1)(h2:c.testBit 2=b2)(h3:c.testBit 3=b3):dr base w B pv (mE x f part c) (Qb b0 b1 b2 b3 W B i (qc i) f.now):=by
 have hB:=h.di hW;have cL:Fr (one B) W (Qb b0 b1 b2 b3 W B i (qc i) f.now):=zU (zU (zU (zU (ae _ _) _ _ _) _ _ _) _ _ _) _ _ _;have hpi:part.toNat=i:=by rw[hp];simp
 have hx:mE x f part c={part:=fun j=>if j=i then⟨if b0 then(f.part j).bU else(x.part j).bU,if b0 then(f.part j).waits else(x.part j).waits,if b1 then(f.part j).book else(x.part j).book,if b2 then(f.part j).eB else(x.part j).eB⟩else x.part j,now:=if b3 then f.now else x.now}:=by
  rw[RW ab ab,hpi];unfold uE;rw[h0,h1,h2,h3]
 have tV:∀j k,j<4->(pv j).jT k->k<w.heap.size:=fun j k hj hk=>h.jf (Or.inr ⟨j,hj,hk⟩);have hge:∀k,(qc i).jT k->w.heap.size<=k:=fun k hk=>hn k (Or.inr ⟨i,hi,hk⟩);have kX:∀j k,j<4->(yj pv i (GH b0 b1 b2 (pv i) (qc i)) j).jT k->(pv j).jT k\/(j=i/\w.heap.size<=k):=by
  intro j k hj hk;by_cases Fw:j=i
  ·subst Fw;rw[sJ]at hk;rcases Ou hk with e|e
   ·exact Or.inl e
   ·exact Or.inr ⟨rfl,hge k e⟩
  ·rw[mD pv _ Fw]at hk;exact Or.inl hk
 rw[hx];refine⟨yj pv i (GH b0 b1 b2 (pv i) (qc i)),⟨h.low,?_,fun j hj=>?_,fun j l hj hl hjl k hkj hkl=>?_⟩,?_,?_⟩
 ·obtain⟨c0,c1,c2⟩:=wO pv x.now hi;have e0:=zV hB.eJ b0 (i*3) c0 (.pointer (some ⟨(qc i).b,0,none⟩));have e1:=zV e0 b1 (i*3+1) (old:=.pointer (some ⟨(pv i).k,0,none⟩)) (by rw[List.getElem?_set_ne ab];exact c1) (.pointer (some ⟨(qc i).k,0,none⟩));have e2:=zV e1 b2 (i*3+2) (old:=(pv i).cv) (by rw[List.getElem?_set_ne ab,List.getElem?_set_ne ab];exact c2) (qc i).cv
  have e3:=zV e2 b3 12 (old:=.int .i64 x.now) (by rw[List.getElem?_set_ne ab,List.getElem?_set_ne ab,List.getElem?_set_ne ab];exact NL pv x.now) (.int .i64 f.now);unfold Qb;rw[e3]
  have s1:(((iG pv x.now).set (i*3) (if b0=true then .pointer (some ⟨(qc i).b,0,none⟩)else .pointer (some ⟨(pv i).b,0,none⟩))).set (i*3+1) (if b1=true then .pointer (some ⟨(qc i).k,0,none⟩)else .pointer (some ⟨(pv i).k,0,none⟩))).set (i*3+2) (if b2=true then(qc i).cv else(pv i).cv)=iG (yj pv i (GH b0 b1 b2 (pv i) (qc i))) x.now:=by
   rw[<-yk pv x.now hi];unfold o8 GH;cases b0<;>cases b1<;>rfl
  rw[s1];cases b3
  ·rw[ar ag,xx];rfl
  ·rw[aA rfl,xx];rfl
 ·by_cases Fw:j=i
  ·subst Fw;rw[sJ];show eP base _ _ (if j=j then _ else _);rw[aA rfl];have hB':¬(qc j).jT B:=fun e=>by
    have a1:=hge B e;have a2:=h.lt;omega
   exact((hB.part j hj).fr cL hB.Rv (fun k hk e=>hB.zJ hj (by have e':k=B:=e;rw[<-e'];exact hk))).take ((hc.part j hj).fr cL hB.Rv (fun k hk e=>hB' (by have e':k=B:=e;rw[<-e'];exact hk))) b0 b1 b2
  ·rw[mD pv _ Fw];show eP base _ _ (if j=i then _ else _);rw[ar Fw];exact(hB.part j hj).fr cL hB.Rv (fun k hk e=>hB.zJ hj (by have e':k=B:=e;rw[<-e'];exact hk))
 ·rcases kX j k hj hkj with e|⟨e,he⟩
  ·rcases kX l k hl hkl with g|⟨g,hg⟩
   ·exact h.apart j l hj hl hjl k e g
   ·have:=tV j k hj e;omega
  ·rcases kX l k hl hkl with g|⟨g,hg⟩
   ·have:=tV l k hl g;omega
   ·exact hjl (e.trans g.symm)
 ·exact(hW.mono (T:=lJ B pv) (fun _ _ h=>absurd h id)).step cL (fun k _ e=>Or.inl e)
 ·rintro k(rfl|⟨j,hj,hk⟩)
  ·exact Or.inl (Or.inl rfl)
  ·rcases kX j k hj hk with e|⟨_,e⟩
   ·exact Or.inl (Or.inr ⟨j,hj,e⟩)
   ·exact Or.inr e
theorem cE.apE(h:cE base w B pv x)(ou:base<=n)(hn:¬lJ B pv n){t:TypeId}(hb:w.heap[n]?=some (.cells cs t (0,0)))(ht:t≠9)(k:Nat)(v:Value) :
  cE base (w.setCell ⟨n,k,none⟩ v) B pv x/\Fr (one n) w (w.setCell ⟨n,k,none⟩ v):=by
 have kx:Fr (one n) w (w.setCell ⟨n,k,none⟩ v):=(ae (one n) w).setCell (p:=⟨n,k,none⟩) (fun _=>rfl) _;refine⟨h.fr kx ?_ (fun k hk e=>hn (by have e':k=n:=e;rw[<-e'];exact hk)),kx⟩;rintro k rfl _;exact⟨ou,fun c f e=>by rw[hb]at e;cases e;exact ht rfl⟩
theorem Ec{U':World}{x':dN}(h:cE base U B pv x)(hf:Fr aS w U)(hb:w.heap.size<=base)(hp:dr base U B pv x' U') :
  ∃yA,cE base U' B yA x'/\Fr aS w U'/\∀(n:Nat) (c:bS) (t:TypeId),U.heap[n]?=some (.cells c t (0,0))->eY t->t≠97->U'.heap[n]?=some (.cells c t (0,0)):=by
 have Uw:=hp.frame h hf hb;obtain⟨yA,h1,h2,_⟩:=hp;exact⟨yA,h1,Uw,fun n c t hn ht hw=>h2.keep hn (h.vX hn ht hw)⟩
theorem GF(h:cE base U B pv x)(hf:Fr aS w U)(ou:base<=n)(XC:w.heap.size<=n){t:TypeId}(hb:U.heap[n]?=some (.cells cs t (0,0)))(ht:eY t)(hw:t≠97)(hs:t≠9)(k:Nat)(v:Value) :
  cE base (U.setCell ⟨n,k,none⟩ v) B pv x/\Fr aS w (U.setCell ⟨n,k,none⟩ v)/\(U.setCell ⟨n,k,none⟩ v).heap[n]?=some (.cells (cs.setIfInBounds k v) t (0,0)) /\
   ∀(m:Nat) (o:Obj),m≠n->U.heap[m]?=some o->(U.setCell ⟨n,k,none⟩ v).heap[m]?=some o:=by
 obtain⟨h1,h2⟩:=h.apE ou (h.vX hb ht hw) hb hs k v;exact⟨h1,hf.gF (p:=⟨n,k,none⟩) XC _,b_ hb k v,fun m o hm ho=>h2.keep ho (fun e=>hm e)⟩
theorem aae{o:jz}(h:cE w.heap.size U B pv x)(hf:Fr aS w U)(hi:lI x)(ht:kC w)(ho:gB U o hs) :
  aB 30 #[.pointer (some ⟨B,0,none⟩),.agg o.cells.toArray] U (fun e w'=>e=.returned (.agg #[.int .i64 (mi x (o.dS hs)).2.what,.string (mi x (o.dS hs)).2.head,.int .i64 (mi x (o.dS hs)).2.cert])/\dr w.heap.size U B pv (mi x (o.dS hs)).1 w') :=
 IC w.heap.size U B pv x o hs h ho hi w ht (ay _) hf
theorem fS.new:fS 0 xy:=⟨⟨gV _,gV _⟩,fun _ _=>⟨gV _,gV _⟩,fun _=>aQ _,fun _=>aQ _,lI.new,fun _ h=>by simp[xy,fW]at h,fun _ h=>by simp[xy,fW]at h⟩
theorem fS.mono{j:Int}(h:fS k t)(hk:k<=j):fS j t:={h with steps:=⟨h.steps.1,Int.le_trans h.steps.2 hk⟩,num:=fun p i=>⟨(h.num p i).1,Int.le_trans (h.num p i).2 hk⟩}
theorem Sg{f:Nat->Nat->Int}(h:∀p i,0<=f p i/\f p i<=k)(p i:Nat):0<=Gw o f p i/\Gw o f p i<=k+1:=by
 unfold Gw;have:=h p i;split<;>omega
theorem fS.ends(h:fS k t)(n:Nat)(r:kM):fS k (nx t n r):=by
 unfold nx;refine⟨h.steps,h.num,fun m=>?_,fun m=>?_,h.inv,fun m=>?_,fun m=>?_⟩
 ·show(if m=n then fW else t.tab m).fails<=3;split
  ·exact aQ _
  ·exact h.fails m
 ·show(if m=n then fW else t.tab m).does<=3;split
  ·exact aQ _
  ·exact h.does m
 ·show(if m=n then fW else t.tab m).does=2\/(if m=n then fW else t.tab m).does=3->lI (if m=n then fW else t.tab m).seen;split
  ·intro e;simp[fW]at e
  ·exact h.seen m
 ·show(if m=n then fW else t.tab m).does≠0->_;split
  ·intro e;exact absurd rfl e
  ·rename_i hm;simp only[ar hm];exact h.ops m
theorem fS.put(h:fS k t)(n:Nat)(x:w_)(hf:x.fails<=3)(hd:x.does<=3)(hs:x.does=2\/x.does=3->lI x.seen)(ho:x.does≠0->x.op.user.size<=5000/\x.op.pass.size<=5000/\x.op.path.size<=5000):fS k (t.put n x):=by
 refine⟨h.steps,h.num,fun m=>?_,fun m=>?_,h.inv,fun m=>?_,fun m=>?_⟩
 ·show(if m=n then x else t.tab m).fails<=3;split
  ·exact hf
  ·exact h.fails m
 ·show(if m=n then x else t.tab m).does<=3;split
  ·exact hd
  ·exact h.does m
 ·show(if m=n then x else t.tab m).does=2\/(if m=n then x else t.tab m).does=3->lI (if m=n then x else t.tab m).seen;split
  ·exact hs
  ·exact h.seen m
 ·show(if m=n then x else t.tab m).does≠0->(if m=n then x else t.tab m).op.user.size<=5000/\(if m=n then x else t.tab m).op.pass.size<=5000/\(if m=n then x else t.tab m).op.path.size<=5000;split
  ·exact ho
  ·exact h.ops m
theorem fS.tick(h:fS k t):fS (k+1) {t with steps:=t.steps+1}:=by
 have g:=h.mono (show k<=k+1 from ab);exact{g with steps:=⟨by have:=h.steps.1;show 0<=t.steps+1;omega,by have:=h.steps.2;show t.steps+1<=k+1;omega⟩}
theorem fS.ng{k:Int}{t:im}(h:fS k t)(n:Int)(o:kl)(ho:o.user.size<=5000/\o.pass.size<=5000/\o.path.size<=5000):fS (k+1) (yo t n o).1:=by
 have g:=h.mono (show k<=k+1 from ab);unfold yo;split
 ·split
  ·exact(h.put n.toNat {fW with does:=1,op:=o,ng:=t.steps+1} (aQ _) (show 1<=3 from ag) (fun e=>by simp at e) (fun _=>ho)).tick
  ·exact g
 ·exact g
theorem fS.cancel(h:fS k t)(n:Int):fS (k+1) (kP t n).1:=by
 have g:=h.mono (show k<=k+1 from ab);unfold kP;split
 ·split
  ·exact g
  ·exact(h.put n.toNat fW (aQ _) (aQ _) (fun e=>by simp[fW]at e) (fun e=>absurd rfl e)).tick
 ·exact g
theorem fS.fail(h:fS k t)(n:Nat)(r:kM):fS k (nx (t.put n {t.tab n with fails:=m}) n r):=by
 have e:nx (t.put n {t.tab n with fails:=m}) n r=nx t n r:=by
  unfold nx im.put;simp only[eb]
  congr 1
  funext i
  split
  ·rfl
  ·rfl
 rw[e];exact h.ends n r
theorem fS.aeT(h:fS k t)(n:Nat)(hd:(t.tab n).does=3):fS (k+1) (jZ t n).1:=by
 have g:=h.mono (show k<=k+1 from ab);unfold jZ;split
 ·refine fS.ends ?_ n _;split
  ·exact{g with inv:=h.inv.take (h.seen n (Or.inr hd)) _ _,num:=Sg h.num}
  ·exact g
 ·split
  ·rename_i hf;exact g.put n _ hf (show 1<=3 from ag) (fun e=>by simp at e) (fun _=>h.ops n ab)
  ·exact g.fail n _
theorem fS.stepT{k:Int}{t:im}(h:fS k t)(n:Nat)(h0:(t.tab n).does≠0):fS (k+2) (stepT t n).1:=by
 unfold Go.Proofs.YtjndhcngnghpiaaGreatDoor.stepT;split
 ·have q:=(h.put n {t.tab n with seen:=t.w,num:=t.num,does:=2} (h.fails n) (show 2<=3 from ag) (fun _=>h.inv) (fun _=>h.ops n h0)).tick;exact q.mono ab
 ·split
  ·rename_i h2;have q:=(h.put n {t.tab n with jy:=(mi (t.tab n).seen (t.tab n).op).2,seen:=(mi (t.tab n).seen (t.tab n).op).1,does:=3} (h.fails n) (show 3<=3 from ag) (fun _=>(h.seen n (Or.inl h2)).mi _ (h.ops n h0).1 (h.ops n h0).2.1 (h.ops n h0).2.2) (fun _=>h.ops n h0)).tick;exact q.mono ab
  ·have hd:(t.tab n).does=3:=by have:=h.does n;omega
   exact(h.tick.aeT n hd).mono ab
theorem fS.step(h:fS k t)(n:Int):fS (k+2) (kZ t n).1:=by
 have g:=h.mono (show k<=k+2 from ab);unfold kZ;split
 ·split
  ·exact g
  ·rename_i h0;exact h.stepT _ h0
 ·exact g
theorem sM.fr{w':World}{o:jz}(h:sM w o hs)(hf:Fr aS w w'):sM w' o hs:={h with aJ:={h.aJ with en:=bh h.aJ.en hf}}
theorem Cw(h:i<6):yn (i:Int)=true:=by
 unfold yn;simp only[cF,dF];omega
theorem Qj{T:Nat}(h:df xw a U T t)(i:Nat)(hi:i<6) :
  aB 11 #[.pointer (some ⟨T,0,none⟩),.int .i64 i] U fun e w'=>e=.returned (.int .i64 ((t.tab i).does:Nat))/\w'=U:=by
 obtain⟨B,g,sv,sb,h1,_⟩:=h.ex;have q:=Xf h1 (i:Int)
 rwa [show P8 t (i:Int)=(t.tab i).does by unfold P8;rw[Cw hi];rfl]at q
theorem aaH(o:kl)(hi:i<6)(h0:(t.tab i).does=0):yo t i o=({(t.put i {fW with does:=1,op:=o,ng:=t.steps+1})with steps:=t.steps+1},0):=by
 unfold yo;rw[Cw hi,aA rfl];exact aA h0
theorem Xg(hi:i<6)(hu:(u.tab i).does≠0):kZ u i=((stepT u i).1,(stepT u i).2.1,(stepT u i).2.2,0):=by
 unfold kZ;rw[Cw hi,aA rfl];exact ar hu
theorem aaI(hi:i<6)(hu:(u.tab i).does≠0):kP u i=({(u.put i fW)with steps:=u.steps+1},0):=by
 unfold kP;rw[Cw hi,aA rfl];exact ar hu
section
variable {a U U' : World} {B C : Nat} {pv qv : Nat → cU} {x x' y : dN}
end
theorem lI.qZ(h:lI x):∀i,i<4->(x.part i).bU.length<68719476736/\(x.part i).waits.length<68719476736/\(x.part i).book.length<1000000/\(x.part i).eB.length<=1000000:=fun i _=>by
 obtain⟨l1,l2,l3,l4⟩:=(h.ok.part i).qZ;exact⟨ab,ab,ab,ab⟩
theorem IP(t:im)(n:Nat):(jZ t n).1.fJ.length<=t.fJ.length+1:=by
 unfold jZ;split
 ·split<;>simp[nx]
 ·split
  ·simp[im.put]
  ·simp[nx,im.put]
theorem Ei(t:im)(n:Int):(kZ t n).1.fJ.length<=t.fJ.length+1:=by
 unfold kZ;split
 ·split
  ·simp
  ·unfold stepT;split
   ·simp[im.put]
   ·split
    ·simp[im.put]
    ·exact IP _ _
 ·simp
theorem GJ(t:im)(n:Int)(o:kl):(yo t n o).1.fJ=t.fJ:=by
 unfold yo;split
 ·split<;>rfl
 ·rfl
theorem Sx(t:im)(n:Int):(kP t n).1.fJ=t.fJ:=by
 unfold kP;split
 ·split<;>rfl
 ·rfl
theorem W7{xs:cY}{t:TypeId}(hx:∀x∈xs,x.length=22/\∀u∈x,u.oneCell'=true)(h:w.heap[n]?=some (.cells xs.flatten.toArray t (0,0)))(hm:m=xs.length)(hl:m<=4):dV 22 w (.slice (some ⟨n,0,none⟩) m m) xs:=by
 subst hm;refine⟨hx,Or.inr ⟨n,0,xs.length,rfl,ay _,ft,bj h,fun j x hj i u hi=>?_⟩⟩;simp only[World.cell?,h,bw];have key:∀(ys:cY),(∀z∈ys,z.length=22)->∀(j:Nat) (z:aX) (i:Nat) (u:Value),ys[j]?=some z->z[i]?=some u->ys.flatten[j*22+i]?=some u:=by
  intro ys
  induction ys with
  |nil=>intro _ j z i u hj;cases j<;>cases hj
  |cons y ys ih =>
   intro hy j z i u hj hi;rw[List.flatten_cons];have FF:=hy y (cX ..);cases j with
   |zero =>
    have e:y=z:=by simpa using hj
    subst e;have hil:=(List.getElem?_eq_some_iff.1 hi).1;rw[ia,bw,List.getElem?_append_left ab];exact hi
   |succ j =>
    rw[List.getElem?_append_right ab,show(j+1)*22+i-y.length=j*22+i from ab];exact ih (fun z hz=>hy z (bP _ hz)) j z i u (by simpa using hj) hi
 simpa using key xs (fun z hz=>(hx z hz).1) j x i u hj hi
theorem El.one{t:TypeId}{o:jz}{ah:eQ}{ch:Nat}(h:sM w o hs)(hh:o.aJ.en=.slice ah hs.length ch)(hb:w.heap[n]?=some (.cells o.cells.toArray t (0,0))):El w (.slice (some ⟨n,0,none⟩) 1 1) [(o,hs)]:=by
 refine⟨W7 (xs:=[o.cells]) (fun x hx=>?_) (by simpa using hb) rfl ag,aR,fun p hp=>?_⟩
 ·rw[cZ]at hx;subst hx;exact⟨rfl,afa o hh⟩
 ·rw[cZ]at hp;subst hp;exact h
theorem GN(o:jz)(hs:List gY):Ep [(o,hs)]=!qk (o,hs):=by
 unfold Ep;simp
theorem aaG:∃W1 W2 W3:dN,mi AQ (EZ 2)=(W1,⟨3,⟨#[]⟩,0⟩)/\mi W1 (EZ 3)=(W2,⟨1,⟨#[]⟩,0⟩)/\mi W2 (EZ 1)=(W3,⟨1,⟨#[66,97,115,105,99,32,100,84,112,119]⟩,0⟩)/\(W3.part 0).bU.length=1/\lI W1/\lI W2 :=
 ⟨PX,PY,abH,Prod.ext rfl an1,Prod.ext rfl an2,Prod.ext rfl an3,an4,abI,aik⟩
def OK(n:Int):jz:=⟨n,⟨0,tP,tP,⟨#[47]⟩,⟨#[]⟩,⟨#[71,69,84]⟩,.slice none 0 0,false,⟨#[]⟩⟩,false,⟨#[66,97,115,105,99,32,114,101,97,108,109,61,114]⟩,⟨#[117]⟩,⟨#[112]⟩,⟨#[]⟩,0,false,0⟩
theorem OL(n:Int):(OK n).dS []=EZ n:=rfl
def ve(n:Int):bS:= #[.int .i64 n,.int .i64 0,.bool true,.string ⟨#[97,46,116,101,115,116]⟩,.int .i64 443,.bool true,.string ⟨#[97,46,116,101,115,116]⟩,.int .i64 443,.string ⟨#[47]⟩,.string ⟨#[]⟩,.string ⟨#[71,69,84]⟩,.slice none 0 0,.bool false,.string ⟨#[]⟩,.bool false,.string ⟨#[66,97,115,105,99,32,114,101,97,108,109,61,114]⟩,.string ⟨#[117]⟩,.string ⟨#[112]⟩,.string ⟨#[]⟩,.int .i64 0,.bool false,.int .i64 0]
theorem OM(n:Int):(OK n).cells.toArray=ve n:=rfl
theorem Mj(a b:Int):(ve a).setIfInBounds 0 (.int .i64 b)=ve b:=by unfold ve;simp
theorem Xb(a:Int):(ve a)[0]?=some (.int .i64 a):=rfl
theorem Xc(w:World):gB w (OK 0) [] :=
 ⟨dV.nil _ _,⟨ag,ag,fun _ h=>by cases h⟩,ag,ag,ag,ag,ag,ag,ag,ag,ag,ag,ag,ag,ag,ag,ag,ag⟩
theorem I8(n:Int)(w:World)(h0: -9223372036854775808<=n)(h1:n<=9223372036854775807):gB w (OK n) []:={Xc w with what:=⟨h0,h1⟩}
theorem Mk(a c:Int)(s:aj)(w:World):(binOp .eql 46 (.agg #[.int .i64 a,.string s,.int .i64 c]) (.agg #[.int .i64 a,.string s,.int .i64 c])).run prog w=.ok (.bool true) w:=by
 go_simp
theorem SJ(w:World)(ht:kC w):aB 14 #[] w fun e w'=>e=.returned (.bool true)/\Fr aS w w':=by
 have HT:=O ht;obtain⟨lw1,lw2,lw3,le1,le2,le3,le4,li1,li2⟩:=aaG;have LE1:=O le1;have LE2:=O le2;have LE3:=O le3;have LE4:=O le4;have HRI:=O (show(prog.info? 33).map (·.size)=some (ve 2).size from af);have HRO:=O (show(ve 2).all (·.oneCell')=true from dt);have LI1:=O li1;have LI2:=O li2;clear ht le1 le2 le3 le4 li1 li2;go_enter func14,ntmps14;go_wp2_with fail
 refine(Qd w).mono ?_;rintro e w1⟨B,pv1,rfl,oq,dn⟩;have Ho:=O (oq w.heap.size (ay _));have lq:=O dn;clear oq dn;go_wp2_with fail
 refine(zI w1).mono ?_;rintro e w2⟨rfl,dz⟩;unfold gq.cells tP;go_wp2_with fail
 refine(zI w2).mono ?_;rintro e w3⟨rfl,il⟩;unfold gq.cells tP;obtain⟨x1,mI⟩:∃x1,x1=w3.alloc (.cells (ve 2) 33):=⟨_,rfl⟩;have afs:Fr aS w1 x1:=by rw[mI];exact(dz.trans il).alloc _
 have PN:=O (show x1.heap[w3.heap.size]?=some (.cells (ve 2) 33 (0,0))by rw[mI];exact aC _ _);have oY:=O (show w.heap.size<=w3.heap.size from(lq.o.trans (dz.trans il)).size);have Mu:=O (Ho.o.di afs);have RY:=O (lq.o.trans afs);have XO:=O mI;have Qf:=PN.o;rw[mI]at Qf;have aqt:=O Qf;clear dz il afs mI Qf
 have HD1:=O (show aB 30 #[.pointer (some ⟨B,0,none⟩),.agg (ve 2)] x1 (fun e w'=>e=.returned (.agg #[.int .i64 3,.string ⟨#[]⟩,.int .i64 0])/\dr w.heap.size x1 B pv1 lw1 w')from by
  have h:=IC w.heap.size x1 B pv1 AQ (OK 2) [] Mu.o (I8 2 x1 ag ag) lI.new w HT.o (ay _) RY.o;rw[OL,OM,LE1.o]at h;exact h)
 go_wp2_with (first|((with_reducible refine dk 16 ?_);refine aI rfl 33 (.tmp 2) rfl w3.heap.size rfl _ (ve 2) (0,0) _ aqt.o underlying33 rfl af ?_)|((with_reducible refine kE ⟨none,.store 33 (.tmp 2) (.tmp 14),_,_,_,_⟩ ?_);refine pF rfl 33 (.tmp 2) (.tmp 14) rfl zOp (ve 2) rfl rfl HRI.o rfl HRO.o ?_)|fail)
 rw[<-XO.o];refine HD1.o.mono ?_;rintro e v1⟨rfl,hp⟩;obtain⟨pv2,hv,FE,Xd⟩:=Ec Mu.o RY.o (ay _) hp;have SK:=Xd _ _ _ PN.o jb ag;have M4:w3.heap.size<v1.heap.size:=bj SK;obtain⟨s1,hs⟩:∃s1,s1=v1.setCell ⟨w3.heap.size,0,none⟩ (.int .i64 3):=⟨_,rfl⟩;obtain⟨qa,qb,qc,qd⟩:=GF hv FE oY.o oY.o SK jb ag ag 0 (.int .i64 3)
 have c0:v1.cell? ⟨w3.heap.size,0,none⟩=some (.int .i64 2):=by simp only[World.cell?,SK];exact Xb _
 have z0:v1.frozen? ⟨w3.heap.size,0,none⟩=false:=by simp[World.frozen?,SK]
 rw[Mj]at qc;rw[<-hs]at qa qb qc qd;have hss:s1.heap.size=v1.heap.size:=by rw[hs];simp[World.setCell]
 have gO:Fr aS s1 (s1.alloc (.cells #[.int .i64 3,.string ⟨#[]⟩,.int .i64 0] 46)):=(ae _ _).alloc _;have hra:=aC s1 (.cells #[.int .i64 3,.string ⟨#[]⟩,.int .i64 0] 46);obtain⟨x2,hx⟩:∃x2,x2=s1.alloc (.cells #[.int .i64 3,.string ⟨#[]⟩,.int .i64 0] 46):=⟨_,rfl⟩;have p_:=gO.keep qc id
 have aks:=O (show x2.heap[v1.heap.size]?=some (.cells #[.int .i64 3,.string ⟨#[]⟩,.int .i64 0] 46 (0,0))from by rw[hx, <-hss];exact hra);have Jk:=O M4;have PZ:=O (show cE w.heap.size x2 B pv2 lw1 by rw[hx];exact qa.di gO);have pN:=O (show x2.heap[w3.heap.size]?=some (.cells (ve 3) 33 (0,0))by rw[hx];exact p_);have Te:=O (show Fr aS w x2 by rw[hx];exact qb.trans gO);rw[hs]at hx;have HY2:=O hx
 have Z7:=pN.o;rw[hx]at Z7;have aqv:=O Z7;clear hx hs qa qb qc qd p_ hra gO SK FE hv Xd Z7 hp hss;have HD2:=O (show aB 30 #[.pointer (some ⟨B,0,none⟩),.agg (ve 3)] x2 (fun e w'=>e=.returned (.agg #[.int .i64 1,.string ⟨#[]⟩,.int .i64 0])/\dr w.heap.size x2 B pv2 lw2 w')from by
  have h:=IC w.heap.size x2 B pv2 lw1 (OK 3) [] PZ.o (I8 3 x2 ag ag) LI1.o w HT.o (ay _) Te.o;rw[OL,OM,LE2.o]at h;exact h)
 go_wp2_with (first|((with_reducible refine dk 20 ?_);refine aI rfl 33 (.tmp 2) rfl w3.heap.size rfl _ (ve 3) (0,0) _ aqv.o underlying33 rfl af ?_)|fail)
 rw[<-HY2.o];refine HD2.o.mono ?_;rintro e v2⟨rfl,hp⟩;obtain⟨pv3,hv,FE,Xd⟩:=Ec PZ.o Te.o (ay _) hp;have SK:=Xd _ _ _ pN.o jb ag;have yz:=Xd _ _ _ aks.o dJ ag;have M4:w3.heap.size<v2.heap.size:=bj SK;obtain⟨s2,hs⟩:∃s2,s2=v2.setCell ⟨w3.heap.size,0,none⟩ (.int .i64 1):=⟨_,rfl⟩;obtain⟨qa,qb,qc,qd⟩:=GF hv FE oY.o oY.o SK jb ag ag 0 (.int .i64 1)
 have c0:v2.cell? ⟨w3.heap.size,0,none⟩=some (.int .i64 3):=by simp only[World.cell?,SK];exact Xb _
 have z0:v2.frozen? ⟨w3.heap.size,0,none⟩=false:=by simp[World.frozen?,SK]
 rw[Mj]at qc;rw[<-hs]at qa qb qc qd;have hss:s2.heap.size=v2.heap.size:=by rw[hs];simp[World.setCell]
 have gO:Fr aS s2 (s2.alloc (.cells #[.int .i64 1,.string ⟨#[]⟩,.int .i64 0] 46)):=(ae _ _).alloc _;have hra:=aC s2 (.cells #[.int .i64 1,.string ⟨#[]⟩,.int .i64 0] 46);obtain⟨x3,hx⟩:∃x3,x3=s2.alloc (.cells #[.int .i64 1,.string ⟨#[]⟩,.int .i64 0] 46):=⟨_,rfl⟩;have p_:=gO.keep qc id
 have akt:=O (show x3.heap[v2.heap.size]?=some (.cells #[.int .i64 1,.string ⟨#[]⟩,.int .i64 0] 46 (0,0))from by rw[hx, <-hss];exact hra);have aku:=O (show x3.heap[v1.heap.size]?=some (.cells #[.int .i64 3,.string ⟨#[]⟩,.int .i64 0] 46 (0,0))from by rw[hx];exact gO.keep (qd _ _ (by have:=Jk.o;omega) yz) id);have XL:=O M4;have Tl:=O (show cE w.heap.size x3 B pv3 lw2 by rw[hx];exact qa.di gO)
 have Jl:=O (show x3.heap[w3.heap.size]?=some (.cells (ve 1) 33 (0,0))by rw[hx];exact p_);have Vm:=O (show Fr aS w x3 by rw[hx];exact qb.trans gO);rw[hs]at hx;have HY3:=O hx;have Z7:=Jl.o;rw[hx]at Z7;have aqx:=O Z7;clear hx hs qa qb qc qd p_ hra gO SK FE hv Xd Z7 hp hss yz
 have HD3:=O (show aB 30 #[.pointer (some ⟨B,0,none⟩),.agg (ve 1)] x3 (fun e w'=>e=.returned (.agg #[.int .i64 1,.string ⟨#[66,97,115,105,99,32,100,84,112,119]⟩,.int .i64 0])/\dr w.heap.size x3 B pv3 lw3 w')from by
  have h:=IC w.heap.size x3 B pv3 lw2 (OK 1) [] Tl.o (I8 1 x3 ag ag) LI2.o w HT.o (ay _) Vm.o;rw[OL,OM,LE3.o]at h;exact h)
 go_wp2_with (first|((with_reducible refine dk 24 ?_);refine aI rfl 33 (.tmp 2) rfl w3.heap.size rfl _ (ve 1) (0,0) _ aqx.o underlying33 rfl af ?_)|fail)
 rw[<-HY3.o];refine HD3.o.mono ?_;rintro e v3⟨rfl,hp⟩;obtain⟨pv4,hv,FE,Xd⟩:=Ec Tl.o Vm.o (ay _) hp;have SK:=Xd _ _ _ Jl.o jb ag;have yz:=Xd _ _ _ aku.o dJ ag;have ob:=Xd _ _ _ akt.o dJ ag;have gO:Fr aS v3 (v3.alloc (.cells #[.int .i64 1,.string ⟨#[66,97,115,105,99,32,100,84,112,119]⟩,.int .i64 0] 46)):=(ae _ _).alloc _;have s1:=gO.keep yz id;have s2:=gO.keep ob id
 have q1:(v3.alloc (.cells #[.int .i64 1,.string ⟨#[66,97,115,105,99,32,100,84,112,119]⟩,.int .i64 0] 46)).cell? ⟨v1.heap.size,0,none⟩=some (.int .i64 3):=by simp only[World.cell?,s1];rfl
 have q2:(v3.alloc (.cells #[.int .i64 1,.string ⟨#[66,97,115,105,99,32,100,84,112,119]⟩,.int .i64 0] 46)).cell? ⟨v2.heap.size,0,none⟩=some (.int .i64 1):=by simp only[World.cell?,s2];rfl
 have heq:=Mk 1 0 ⟨#[66,97,115,105,99,32,100,84,112,119]⟩;have HGR:=O (wk w.heap.size _ B pv4 lw3 (hv.di gO) 0 ag (by rw[LE4.o];decide));have rT:=O (FE.alloc (.cells #[.int .i64 1,.string ⟨#[66,97,115,105,99,32,100,84,112,119]⟩,.int .i64 0] 46));clear s1 s2 gO SK FE hv Xd yz ob c0 z0 M4 hp;go_wp2_with fail
 refine HGR.o.mono ?_;rintro e u⟨gv,rfl,hgn,xZ⟩;obtain⟨⟨rs,cQ,XS⟩,_⟩:=hgn;obtain⟨ga,gc,fH⟩:=cQ.at.form;rw[ai,XS.len,LE4.o]at fH;subst fH;have HFE:=O (rT.o.trans xZ);clear cQ XS xZ HGR;go_wp2_with fail
 go_ret;exact⟨rfl,HFE.o⟩
def ajP:jz:=⟨0,⟨0,⟨false,.empty,0⟩,⟨false,.empty,0⟩,.empty,.empty,.empty,.slice none 0 0,false,.empty⟩,false,.empty,.empty,.empty,.empty,0,false,0⟩
def zeroV:qB:=⟨ajP,[],.pointer none⟩
theorem P'(o:jz)(h:o.aJ.en.oneCell'=true):∀u∈o.cells,u.oneCell'=true:=by
 generalize hv:o.aJ.en.oneCell'=b at h;unfold jz.cells gl.cells;intro u hu;by_cases e:u=o.aJ.en
 ·rw[e,hv,h]
 ·simp only[List.cons_append,List.nil_append,bB,cz,dU,e,false_or]at hu;rcases hu with rfl|rfl|rfl|rfl|rfl|rfl|rfl|rfl|rfl|rfl|rfl|rfl|rfl|rfl|rfl|rfl|rfl|rfl|rfl|rfl|rfl<;>rfl
theorem zR(x:w_)(v:qB)(h:v.o.aJ.en.oneCell'=true)(hp:v.sp.oneCell'=true):(mQ x v).toArray.all (·.oneCell')=true :=
 bW (by
  have ho:=P' v.o h;intro u hu;unfold mQ kU qg at hu;simp only[bB,bQ,cz,dU]at hu;rcases hu with rfl|hu|hu
  ·rfl
  ·exact ho u hu
  ·rcases hu with rfl|rfl|rfl|hu
   ·rfl
   ·rfl
   ·exact hp
   ·rcases hu with hu|hu
    ·rcases hu with rfl|rfl|rfl|rfl|rfl|rfl|rfl|rfl|rfl|rfl|rfl|rfl|rfl|rfl|rfl|rfl<;>rfl
    ·rcases hu with rfl|rfl|rfl<;>rfl)
section
variable {xw : Option (Nat × dN)} {a U U' : World} {T : Nat} {t : im}
theorem wR(h:df xw a U T t)(hi:lI t.w) :
  aB 15 #[.pointer (some ⟨T,0,none⟩)] U (Gt a.heap.size U t.w):=by
 obtain⟨B,g,sv,sb,h1,h2,h3,h4⟩:=h.ex;obtain⟨pv,hw⟩:=h2.at (i:=6) (B:=B) (x:=t.w) rfl;have HC:=O (A_ _ _ _ _ _ hw hi.qZ);have c:=h1.main;clear h h1 h2 h3 h4 hw hi;go_enter func15,ntmps15;go_wp2_with fail
 refine HC.o.mono ?_;rintro e u hu;obtain⟨N,qv,rfl,hc⟩:=hu;have HH:=O hc;clear hc;go_wp2;go_ret;exact⟨N,qv,rfl,HH.o⟩
end
theorem Sm{D:Nat}{qd:Nat->cU}{f:dN}(h:cE base w B pv x)(hF:cE base w D qd f)(hs:lI f)(part:Int){c:Nat}(hc:c=0\/c=1\/c=4\/c=7\/c=8\/c=10) :
  aB 54 #[.pointer (some ⟨B,0,none⟩),.pointer (some ⟨D,0,none⟩),.int .i64 part,.int .i64 c] w fun e w'=>e=.returned (.tuple #[])/\dr base w B pv (mE x f part c) w':=by
 have Tm:=O (A_ base w D qd f hF hs.qZ);have HH:=O h;have uA:=h.lt;have oT:=O uA;have HC:=O hc;clear h hF hs hc;by_cases h0:part<0
 ·have h1:¬(0:Int)<=part:=ab;have HX:=O (show mE x f part c=x by unfold mE;rw[ar ab]);clear Tm HC uA;go_enter func54,ntmps54;go_wp2
  try simp only[Exit.inBlock,Exit.then]
  refine aU (results_none rfl _ _ _) rfl ?_;rw[HX.o];exact⟨rfl,fx HH.o (ae _ _)⟩
 by_cases h4:4<=part
 ·have h1:(0:Int)<=part:=ab;have h5:¬part<4:=ab;have HX:=O (show mE x f part c=x by unfold mE;rw[ar ab]);clear Tm HC uA;go_enter func54,ntmps54;go_wp2
  try simp only[Exit.inBlock,Exit.then]
  refine aU (results_none rfl _ _ _) rfl ?_;rw[HX.o];exact⟨rfl,fx HH.o (ae _ _)⟩
 obtain⟨i,hi,Al⟩:∃i:Nat,part=(i:Int)/\i<4:=⟨part.toNat,ab,ab⟩;subst hi;have MG:(i:Int)<4:=ab;have qp:¬(i:Int)<0:=ab;have Nb:¬(4:Int)<=(i:Int):=ab;have Kt:(0:Int)<=(i:Int):=ab;have sL:=O Al;clear h0 h4;go_enter func54,ntmps54;go_wp2_with fail
 refine Tm.o.mono ?_;rintro e u⟨N,qc,rfl,hcw,hu,hn⟩;have HCW:=O hcw;have HN:=O hn;have HU:=O (show∀n,Fr aS u (u.drewN n)from fun n=>dC n (ae aS u));have HWU:=O hu;clear hcw hu hn Tm;go_wp2_with fail
 go_quiet (fail);have tY:=HU.o nq;generalize u.drewN nq=u1 at tY ⊢;have Qc:=O (HCW.o.di tY);have Ii:=O (HWU.o.trans tY);have hBN:¬B=N:=by have a1:=HN.o N (Or.inl rfl);omega
 have hNB:¬N=B:=fun e=>hBN e.symm;have htd:=fun(c:Nat) (b0 b1 b2 b3:Bool) (h0:c.testBit 0=b0) (h1:c.testBit 1=b1) (h2:c.testBit 2=b2) (h3:c.testBit 3=b3)=>Sl HH.o Ii.o Qc.o HN.o sL.o (part:=(i:Int)) rfl h0 h1 h2 h3;unfold Qb at htd;have hN:=Qc.o.partAt sL.o;have n0:=hN.cell0;have n1:=hN.gW;have n2:=hN.lO;have n3:u1.cell? ⟨N,12,none⟩=some (.int .i64 f.now):=by
  have j:=Qc.o.eJ;simp only[World.cell?,j];rfl
 have hB:=(HH.o.di Ii.o).partAt sL.o;have b0:=hB.cell0;have b1:=hB.gW;have b2:=hB.lO;have b3:u1.cell? ⟨B,12,none⟩=some (.int .i64 x.now):=by
  have j:=(HH.o.di Ii.o).eJ;simp only[World.cell?,j];rfl
 have f0:=hB.free (i*3);have f1:=hB.free (i*3+1);have f2:=hB.free (i*3+2);have f3:=hB.free 12;have aww:B<u1.heap.size:=bj hB.eJ;have awx:N<u1.heap.size:=bj hN.eJ;obtain⟨ca,ck,Mw⟩:=(Qc.o.part i sL.o).eB.form;rw[ai]at Mw;rw[Mw]at n2 htd;have HTD:=O htd;clear htd;obtain⟨cb,cl,hcg⟩:=((HH.o.di Ii.o).part i sL.o).eB.form;rw[ai]at hcg;rw[hcg]at b2;clear hN hB tY Qc Ii HU HWU HN HCW HH Mw hcg uA
 rcases HC.o with rfl|rfl|rfl|rfl|rfl|rfl
 ·clear HC;go_wp2_with fail
  go_end0;exact⟨rfl,HTD.o _ false false false false ag ag ag ag⟩
 ·clear HC;go_wp2_with fail
  go_end0;exact⟨rfl,HTD.o _ true false false false ag ag ag ag⟩
 ·clear HC;go_wp2_with fail
  go_end0;exact⟨rfl,HTD.o _ false false true false ag ag ag ag⟩
 ·clear HC;go_wp2_with fail
  go_end0;exact⟨rfl,HTD.o _ true true true false ag ag ag ag⟩
 ·clear HC;go_wp2_with fail
  go_end0;exact⟨rfl,HTD.o _ false false false true ag ag ag ag⟩
 ·clear HC;go_wp2_with fail
  go_end0;exact⟨rfl,HTD.o _ false true false true ag ag ag ag⟩
