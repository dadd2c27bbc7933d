/- Lemmas for the law's walk. -/
import Derived.Test.YtnckmcnffadjoaaGreatDoorPm17
set_option maxRecDepth 100000
set_option maxHeartbeats 16000000
set_option linter.unusedSimpArgs false
namespace Go.Proofs.YtnckmcnffadjoaaGreatDoor
open Go.Proofs.Tryz
open Go.RowKit
variable {l:List (gA×Int)} {o:iY} {k:Int} {c cs:bS} {base B n m:Nat} {w V a U:World} {pv:Nat->cV} {x:dI} {xw:Option (Nat×dI)} {sb:Nat->Nat} {t t':iy} {e:TypeId} {v:jQ×List ig} {sv:Value} {q:cV} {hs:List ig}
def akk(w:World)(l:List (gA×Int))(o:gA)(i:Value)(wr:World):Prop :=
 ∃k:Nat,k<=l.length/\i=.int .i64 k/\(l.take k).find? (fun c=>c.1.lj o)=none/\Fr aS w wr
theorem Su{o:gA}{k:Nat}{c:gA×Int}(h:l[k]?=some c)(hn:(l.take k).find? (fun c=>c.1.lj o)=none)(hc:c.1.lj o=false):(l.take (k+1)).find? (fun c=>c.1.lj o)=none:=by
 rw[dZ h,List.find?_append,hn];simp[hc]
theorem WQ{o:gA}{k:Nat}{c:gA×Int}(h:l[k]?=some c)(hn:(l.take k).find? (fun c=>c.1.lj o)=none)(hc:c.1.lj o=true):l.find? (fun c=>c.1.lj o)=some c:=by
 have e:l=l.take (k+1)++l.drop (k+1):=(fO _ _).symm;rw[e,dZ h,List.find?_append,List.find?_append,hn];simp[hc]
theorem aaI(base:Nat)(w:World)(B:Nat)(pv:Nat->cV)(x:dI)(o:jQ)(hs:List ig)(h:cD base w B pv x)(hf:gI w o hs)(hi:lV x)(a:World)(tC:kO a)(sa:a.heap.size<=base)(tD:Fr aS a w)(hr:(o.dR hs).right=true)(hw:o.what=6) :
  aB 14 #[.pointer (some ⟨B,0,none⟩),.agg o.cells.toArray] w (jY base w B pv (ku x (o.dR hs))):=by
 have uM:B<w.heap.size:=h.lt;have oB:=h.low;obtain⟨ah,ch,gH⟩:=hf.gZ;obtain⟨w2,eE⟩:∃w2,w2=(w.alloc (.cells o.cells.toArray 41)).alloc (.cells bT 30):=⟨_,rfl⟩;have dB:Fr aS w w2:=by rw[eE];exact((ae aS w).alloc _).alloc _
 have k1:w2.heap[w.heap.size]?=some (.cells o.cells.toArray 41 (0,0)):=by rw[eE];exact((ae aS _).alloc _).keep (aC _ _) id
 have k2:w2.heap[w.heap.size+1]?=some (.cells bT 30 (0,0)):=by
  have h:=aC (w.alloc (.cells o.cells.toArray 41)) (.cells bT 30);rw[bO]at h;rw[eE];exact h
 have tE:=O (lu o hs w2 (hf.dm dB));have HH:=O (h.dm dB);have HF:=O (hf.dm dB);have lD:=O gH;have HI:=O hi;have f_:=O dB;have mN:=O k1;have qO:=O k2;have ph:=O (show base<=w.heap.size from ab);have xe:=O oB;have o7:=O uM;have Sb:=O tC;have Sa:=O (tD.trans dB);have Yk:=O sa;rw[eE]at k1;rw[d_ gH]at eE tE k1 ⊢;unfold bT at eE k1;have nI:=O eE;have vt:=O k1;clear eE gH dB k1 k2 h hf hi tC sa tD
 obtain⟨i,vz,AB⟩:∃i:Nat,o.aJ.part=(i:Int)/\i<4:=by
  obtain⟨h0,h1⟩:=jT hr;have TJ:0<=o.aJ.part:=h0;have Ir:o.aJ.part<4:=h1;exact⟨o.aJ.part.toNat,ab,ab⟩
 have M4:(i:Int)<4:=ab;have qA:¬(i:Int)<0:=ab;have Ny:¬(4:Int)<=(i:Int):=ab;have KP:(0:Int)<=(i:Int):=ab;have sU:=O AB;have AD:=O vz;have HR:=O (show ku x (o.dR hs)=(x,Ls (x.part i) (o.dR hs))by
  rw[qo hr vz (by show o.what≠10;omega),ae7 (show(o.dR hs).what=6 from hw),oW])
 rw[hr]at tE;obtain⟨l,hl⟩:∃l,l=(x.part i).dL:=⟨_,rfl⟩;obtain⟨cv,hcv⟩:∃cv,cv=(pv i).cv:=⟨_,rfl⟩;have mq:dY 4 w2 cv (l.map ln):=by rw[hl,hcv];exact(HH.o.part i sU.o).dL.at
 have hl8:l.length<=1000000:=by rw[hl];exact aG (HI.o.ok.part i).tP.2.2.2 ag
 obtain⟨av,cc,fJ⟩:=mq.form;rw[ai]at fJ;subst fJ;have ap9:=O mq;have hpk:Ls (x.part i) (o.dR hs)=match l.find? (fun c=>c.1.lj o.aJ.o)with|some c=>⟨1,.empty,c.2⟩|none=>rep 3:=by rw[hl];rfl
 rw[hpk]at HR;have xg:=O hcv;have HW:=O hw;clear hr hw AB vz hl hpk mq hcv;go_enter func14,ntmps14;go_wp2_with (first|((with_reducible refine di 8 ?_);refine aH rfl 41 (.tmp 3) rfl w.heap.size rfl _ _ (0,0) _ vt.o underlying41 rfl af ?_)|fail)
 rw[<-nI.o];refine tE.o.mono ?_;rintro e u⟨rfl,hu⟩;obtain⟨a0,a1,a2,a3,a4,a5,a6,a7,a8,a9,jI,jJ,a12,jG,jK,jo,jV,jW,jX,ka,a20,a21⟩:=ep (hu.keep mN.o id) lD.o;rw[AD.o]at a1;clear a0 a2 a3 a4 a5 a6 a7 a8 a9 jI jJ a12 jG jK jo jV jW jX ka a20 a21;have qt:=O (show∀n,Fr aS w2 (u.drewN n)from fun n=>dD n hu);clear hu vt;go_wp2_with fail
 go_quiet (fail);clear a1;have mL:=qt.o nq;generalize u.drewN nq=u1 at mL ⊢;have tF:=O mL;clear mL qt;have EX:=O (tF.o.keep mN.o id);rw[d_ lD.o]at EX;obtain⟨a0,a1,a2,a3,a4,a5,a6,a7,a8,a9,jI,jJ,a12,jG,jK,jo,jV,jW,jX,ka,a20,a21⟩:=ep (tF.o.keep mN.o id) lD.o;rw[AD.o]at a1;have xh:=HW.o;rw[xh]at a0;clear xh;clear a1 a2 a3 a4 a8 a9 jI jJ a12 jG jK jo jV jW jX ka a20 a21
 have HP1:=O (show u1.cell? ⟨B,i*3+2,none⟩=some (.slice av l.length cc)from by rw[xg.o];exact((HH.o.dm tF.o).partAt sU.o).lT);have p1:=HP1.o;go_wp2_with fail
 go_loopw[67] (akk u1 l o.aJ.o) (fun i _=>l.length-(intOf i).toNat)
 case atStart=>exact⟨0,aQ _,rfl,rfl,ae _ _⟩
 case round =>
  obtain⟨k,hk,rfl,hn,cL⟩:=hrel;have HN:=O hn;have tA:=O (tF.o.trans cL);have VS:=O cL;clear hn;by_cases fo:k<l.length
  ·have pq:(k:Int)<(l.length:Int):=ab;rcases(ap9.o.fI tA.o).2 with ⟨_,_,_,e,_⟩|⟨bk,of,c,hf,h1,h2,h3,h4⟩
   ·have Tu:=ar List.length e;rw[ai,List.length_nil]at Tu;omega
   ·rw[ai]at hf;cases hf;rw[ai]at h1;unfold maxLen at h2;obtain⟨q,dT⟩:∃q,l[k]?=some q:=⟨_,List.getElem?_eq_getElem fo⟩;have hcell:=h4 k (ln q) (by rw[List.getElem?_map,dT];rfl);have Wk:=O dT;have lB:(ln q).length=4:=rfl;have heq:=jA q.1 o.aJ.o;obtain⟨a0,a1,a2,a3,a4,a5,a6,a7,a8,a9,jI,jJ,a12,jG,jK,jo,jV,jW,jX,ka,a20,a21⟩:=ep (tA.o.keep mN.o id) lD.o
    have HB8:=O (aC wr (.cells #[.bool q.1.aE,.string q.1.host,.int .i64 q.1.port,.int .i64 q.2] 97));have gS:Fr aS wr (wr.alloc (.cells #[.bool q.1.aE,.string q.1.host,.int .i64 q.1.port,.int .i64 q.2] 97)):=(ae aS wr).alloc _;have g5:=(gS.keep (tA.o.keep mN.o id) id);obtain⟨b0,b1,b2,b3,b4,b5,b6,b7,b8,b9,Z4,Z5,Z6,b13,b14,b15,b16,b17,b18,b19,b20,b21⟩:=ep g5 lD.o;have r_:=O (tA.o.trans gS)
    have mr:=O (VS.o.trans gS);have pg:=O (r_.o.keep qO.o id);clear h4 dT gS g5 a0 a1 a2 a3 a4 a5 a6 a7 a8 a9 jI jJ a12 jG jK jo jV jW jX ka a20 a21 b0 b1 b2 b3 b4 b8 b9 Z4 Z5 Z6 b13 b14 b15 b16 b17 b18 b19 b20 b21 cL;unfold ln at hcell lB;cases hq:q.1.lj o.aJ.o
    ·have MT:=O (Su Wk.o HN.o hq);rw[hq]at heq;clear hq;go_wp2_with (first|((with_reducible refine di 70 ?_);refine a_ rfl 97 (.tmp 69) rfl bk (of+k*4) rfl _ _ hcell underlying97 rfl af ?_)|fail)
     go_roundw
     case rel=>exact⟨k+1,ab,bg,MT.o,mr.o⟩
     case measure=>simp[intOf];omega
    ·have Eu:=O (WQ Wk.o HN.o hq);rw[Eu.o]at HR;rw[hq]at heq;have HP:=O (show dn base w B pv x _ from cH f_.o (fA HH.o r_.o));clear hq
     go_wp2_with (first|((with_reducible refine di 70 ?_);refine a_ rfl 97 (.tmp 69) rfl bk (of+k*4) rfl _ _ hcell underlying97 rfl af ?_)|((with_reducible refine cW 30 ?_);refine aF rfl 30 (.tmp 4) (.tmp 80) rfl (w.heap.size+1) #[.int .i64 1,.string ⟨#[]⟩,.int .i64 q.2] rfl rfl _ bT pg.o (bf _ rfl) rfl bW ?_)|fail)
     refine aU (bu bC _ _ (w.heap.size+1) 30 #[.int .i64 1,.string ⟨#[]⟩,.int .i64 q.2] (0,0) _ rfl (aY _ (w.heap.size+1) _ _ _ _ pg.o) underlying30 rfl (bf _ rfl)) rfl ?_;unfold jY;rw[HR.o];exact⟨rfl,eA HP.o ph.o o7.o (bV _) pg.o dM ag _⟩
  ·have hke:k=l.length:=ab;subst hke;have HHN:=O (show l.find? (fun c=>c.1.lj o.aJ.o)=none by have h:=HN.o;rw[List.take_length]at h;exact h);rw[HHN.o]at HR;have HP:=O (show dn base w B pv x wr from cH f_.o (fA HH.o tA.o));have pg:=O (tA.o.keep qO.o id);clear cL
   go_wp2_with (first|((with_reducible refine cW 30 ?_);refine aF rfl 30 (.tmp 4) (.tmp 82) rfl (w.heap.size+1) #[.int .i64 3,.string ⟨#[]⟩,.int .i64 0] rfl rfl _ bT pg.o (bf _ rfl) rfl bW ?_)|fail)
   refine aU (bu bC _ _ (w.heap.size+1) 30 #[.int .i64 3,.string ⟨#[]⟩,.int .i64 0] (0,0) _ rfl (aY _ (w.heap.size+1) _ _ _ _ pg.o) underlying30 rfl (bf _ rfl)) rfl ?_;unfold jY;rw[HR.o];exact⟨rfl,eA HP.o ph.o o7.o (bV _) pg.o dM ag _⟩
theorem Sw(base:Nat)(w:World)(B:Nat)(pv:Nat->cV)(x:dI)(o:jQ)(hs:List ig)(h:cD base w B pv x)(hf:gI w o hs)(hi:lV x)(a:World)(tC:kO a)(sa:a.heap.size<=base)(tD:Fr aS a w)(hr:(o.dR hs).right=true)(hw:o.what=7) :
  aB 14 #[.pointer (some ⟨B,0,none⟩),.agg o.cells.toArray] w (jY base w B pv (ku x (o.dR hs))):=by
 have uM:B<w.heap.size:=h.lt;have oB:=h.low;obtain⟨ah,ch,gH⟩:=hf.gZ;obtain⟨w2,eE⟩:∃w2,w2=(w.alloc (.cells o.cells.toArray 41)).alloc (.cells bT 30):=⟨_,rfl⟩;have dB:Fr aS w w2:=by rw[eE];exact((ae aS w).alloc _).alloc _
 have k1:w2.heap[w.heap.size]?=some (.cells o.cells.toArray 41 (0,0)):=by rw[eE];exact((ae aS _).alloc _).keep (aC _ _) id
 have k2:w2.heap[w.heap.size+1]?=some (.cells bT 30 (0,0)):=by
  have h:=aC (w.alloc (.cells o.cells.toArray 41)) (.cells bT 30);rw[bO]at h;rw[eE];exact h
 have tE:=O (lu o hs w2 (hf.dm dB));have HH:=O (h.dm dB);have HF:=O (hf.dm dB);have lD:=O gH;have HI:=O hi;have f_:=O dB;have mN:=O k1;have qO:=O k2;have ph:=O (show base<=w.heap.size from ab);have xe:=O oB;have o7:=O uM;have Sb:=O tC;have Sa:=O (tD.trans dB);have Yk:=O sa;rw[eE]at k1;rw[d_ gH]at eE tE k1 ⊢;unfold bT at eE k1;have nI:=O eE;have vt:=O k1;clear eE gH dB k1 k2 h hf hi tC sa tD
 obtain⟨i,vz,AB⟩:∃i:Nat,o.aJ.part=(i:Int)/\i<4:=by
  obtain⟨h0,h1⟩:=jT hr;have TJ:0<=o.aJ.part:=h0;have Ir:o.aJ.part<4:=h1;exact⟨o.aJ.part.toNat,ab,ab⟩
 have M4:(i:Int)<4:=ab;have qA:¬(i:Int)<0:=ab;have Ny:¬(4:Int)<=(i:Int):=ab;have KP:(0:Int)<=(i:Int):=ab;have sU:=O AB;have AD:=O vz;obtain⟨r,B_⟩:∃r,r=kj (x.part i) (o.dR hs):=⟨_,rfl⟩;have HR:=O (show ku x (o.dR hs)=(x.set i r.1,r.2)by rw[qo hr vz (by show o.what≠10;omega),B_,ae8 (show(o.dR hs).what=7 from hw)]);rw[hr]at tE
 have HM:=O (show∀U,Fr aS w2 U->aB 35 #[.pointer (some ⟨B,i*3,none⟩),.agg o.cells.toArray] U (eI base U B (iQ pv x.now) (i*3) (pv i) r)from fun U hU=>by
  have h:=OH base U B (i*3) (iQ pv x.now) (pv i) (x.part i) o hs ((HH.o.dm hU).part i sU.o) ((HH.o.dm hU).partAt sU.o) xe.o (HF.o.dm hU) (HI.o.ok.part i);rw[<-B_]at h;exact h)
 rw[d_ lD.o]at HM;have HW:=O hw;clear hr hw B_ AB vz;go_enter func14,ntmps14;go_wp2_with (first|((with_reducible refine di 8 ?_);refine aH rfl 41 (.tmp 3) rfl w.heap.size rfl _ _ (0,0) _ vt.o underlying41 rfl af ?_)|fail)
 rw[<-nI.o];refine tE.o.mono ?_;rintro e u⟨rfl,hu⟩;obtain⟨a0,a1,a2,a3,a4,a5,a6,a7,a8,a9,jI,jJ,a12,jG,jK,jo,jV,jW,jX,ka,a20,a21⟩:=ep (hu.keep mN.o id) lD.o;rw[AD.o]at a1;clear a0 a2 a3 a4 a5 a6 a7 a8 a9 jI jJ a12 jG jK jo jV jW jX ka a20 a21;have qt:=O (show∀n,Fr aS w2 (u.drewN n)from fun n=>dD n hu);clear hu vt;go_wp2_with fail
 go_quiet (fail);clear a1;have mL:=qt.o nq;generalize u.drewN nq=u1 at mL ⊢;have tF:=O mL;clear mL qt;have EX:=O (tF.o.keep mN.o id);rw[d_ lD.o]at EX;obtain⟨a0,a1,a2,a3,a4,a5,a6,a7,a8,a9,jI,jJ,a12,jG,jK,jo,jV,jW,jX,ka,a20,a21⟩:=ep (tF.o.keep mN.o id) lD.o;rw[AD.o]at a1;have xh:=HW.o;rw[xh]at a0;clear xh;clear a1 a2 a3 a4 a5 a6 a7 a8 a9 jI jJ a12 jG jK jo jV jW jX ka a20 a21
 go_wp2_with (first|((with_reducible refine di 86 ?_);refine aH rfl 41 (.tmp 3) rfl w.heap.size rfl _ _ (0,0) _ EX.o underlying41 rfl af ?_)|fail)
 have tG:=tF.o;refine(HM.o _ tG).mono ?_;rintro e u5⟨rfl,hp⟩;unfold kI.val;have LS:=tG.keep qO.o id;have pg:=O (nY (HH.o.dm tG) sU.o hp LS dM ab);have HP:=O (show dn base w B pv (x.set i r.1) u5 from cH f_.o (cH tG (kx (HH.o.dm tG) sU.o hp)));clear hp LS tG HM
 go_wp2_with (first|((with_reducible refine cW 30 ?_);refine aF rfl 30 (.tmp 4) (.tmp 87) rfl (w.heap.size+1) #[.int .i64 r.2.what,.string r.2.head,.int .i64 r.2.cert] rfl rfl _ bT pg.o (bf _ rfl) rfl bW ?_)|fail)
 refine aU (bu bC _ _ (w.heap.size+1) 30 #[.int .i64 r.2.what,.string r.2.head,.int .i64 r.2.cert] (0,0) _ rfl (aY _ (w.heap.size+1) _ _ _ _ pg.o) underlying30 rfl (bf _ rfl)) rfl ?_;unfold jY;rw[HR.o];exact⟨rfl,eA HP.o ph.o o7.o (bV _) pg.o dM ag _⟩
theorem cD.afp(h:cD base w B pv x)(n:Int):cD base (w.setCell ⟨B,12,none⟩ (.int .i64 n)) B pv {x with now:=n}/\Fr (one B) w (w.setCell ⟨B,12,none⟩ (.int .i64 n)):=by
 have kH:Fr (one B) w (w.setCell ⟨B,12,none⟩ (.int .i64 n)):=(ae (one B) w).setCell (p:=⟨B,12,none⟩) (fun _=>rfl) _;refine⟨⟨h.low,?_,fun i hi=>(h.part i hi).fr kH h.RN (fun k hk e=>h.zU hi (by have e':k=B:=e;rw[<-e'];exact hk)),h.apart⟩,kH⟩;rw[cg h.eL 12 (.int .i64 n)];rfl
theorem Qp(base:Nat)(w:World)(B:Nat)(pv:Nat->cV)(x:dI)(o:jQ)(hs:List ig)(h:cD base w B pv x)(hf:gI w o hs)(hi:lV x)(a:World)(tC:kO a)(sa:a.heap.size<=base)(tD:Fr aS a w)(hr:(o.dR hs).right=true)(hw:o.what=10) :
  aB 14 #[.pointer (some ⟨B,0,none⟩),.agg o.cells.toArray] w (jY base w B pv (ku x (o.dR hs))):=by
 have uM:B<w.heap.size:=h.lt;have oB:=h.low;obtain⟨ah,ch,gH⟩:=hf.gZ;obtain⟨w2,eE⟩:∃w2,w2=(w.alloc (.cells o.cells.toArray 41)).alloc (.cells bT 30):=⟨_,rfl⟩;have dB:Fr aS w w2:=by rw[eE];exact((ae aS w).alloc _).alloc _
 have k1:w2.heap[w.heap.size]?=some (.cells o.cells.toArray 41 (0,0)):=by rw[eE];exact((ae aS _).alloc _).keep (aC _ _) id
 have k2:w2.heap[w.heap.size+1]?=some (.cells bT 30 (0,0)):=by
  have h:=aC (w.alloc (.cells o.cells.toArray 41)) (.cells bT 30);rw[bO]at h;rw[eE];exact h
 have tE:=O (lu o hs w2 (hf.dm dB));have HH:=O (h.dm dB);have HF:=O (hf.dm dB);have lD:=O gH;have HI:=O hi;have f_:=O dB;have mN:=O k1;have qO:=O k2;have ph:=O (show base<=w.heap.size from ab);have xe:=O oB;have o7:=O uM;have Sb:=O tC;have Sa:=O (tD.trans dB);have Yk:=O sa;rw[eE]at k1;rw[d_ gH]at eE tE k1 ⊢;unfold bT at eE k1;have nI:=O eE;have vt:=O k1;clear eE gH dB k1 k2 h hf hi tC sa tD
 obtain⟨i,vz,AB⟩:∃i:Nat,o.aJ.part=(i:Int)/\i<4:=by
  obtain⟨h0,h1⟩:=jT hr;have TJ:0<=o.aJ.part:=h0;have Ir:o.aJ.part<4:=h1;exact⟨o.aJ.part.toNat,ab,ab⟩
 have M4:(i:Int)<4:=ab;have qA:¬(i:Int)<0:=ab;have Ny:¬(4:Int)<=(i:Int):=ab;have KP:(0:Int)<=(i:Int):=ab;have sU:=O AB;have AD:=O vz;have JE:=O (show ku x (o.dR hs)=if o.n<0\/1099511627776-x.now<o.n then(x,rep 7)else({x with now:=x.now+o.n},rep 1)from zR hr hw);rw[hr]at tE;have n0:=HI.o.ok.now.1;have n1:=HI.o.ok.now.2;have on:=HF.o.n;have HW:=O hw;clear hr hw AB vz;go_enter func14,ntmps14
 go_wp2_with (first|((with_reducible refine di 8 ?_);refine aH rfl 41 (.tmp 3) rfl w.heap.size rfl _ _ (0,0) _ vt.o underlying41 rfl af ?_)|fail)
 rw[<-nI.o];refine tE.o.mono ?_;rintro e u⟨rfl,hu⟩;obtain⟨a0,a1,a2,a3,a4,a5,a6,a7,a8,a9,jI,jJ,a12,jG,jK,jo,jV,jW,jX,ka,a20,a21⟩:=ep (hu.keep mN.o id) lD.o;rw[AD.o]at a1;clear a0 a2 a3 a4 a5 a6 a7 a8 a9 jI jJ a12 jG jK jo jV jW jX ka a20 a21;have qt:=O (show∀n,Fr aS w2 (u.drewN n)from fun n=>dD n hu);clear hu vt;go_wp2_with fail
 go_quiet (fail);clear a1;have mL:=qt.o nq;generalize u.drewN nq=u1 at mL ⊢;have tF:=O mL;clear mL qt;have EX:=O (tF.o.keep mN.o id);rw[d_ lD.o]at EX;obtain⟨a0,a1,a2,a3,a4,a5,a6,a7,a8,a9,jI,jJ,a12,jG,jK,jo,jV,jW,jX,ka,a20,a21⟩:=ep (tF.o.keep mN.o id) lD.o;rw[AD.o]at a1;have xh:=HW.o;rw[xh]at a0;clear xh;clear a1 a2 a3 a4 a5 a6 a7 a8 a9 jI jJ a12 jG jK jo jV jW jX ka a20
 have p1:u1.cell? ⟨B,12,none⟩=some (.int .i64 x.now):=by
  have j2:=(HH.o.dm tF.o).eL;simp only[World.cell?,j2];rfl
 have tI:=O (show∀n,Fr aS w2 (u1.drewN n)from fun n=>dD n tF.o);by_cases hn:o.n<0
 ·have hd:decide (o.n<0)=true:=bM hn;have HR:=O (JE.o.trans (az (Or.inl hn)));go_wp2_with fail
  go_quiet (fail);have nu:=tI.o nq;generalize u1.drewN nq=u2 at nu ⊢;have pg:=O (nu.keep qO.o id);have Z0:=O (show dn base w B pv x u2 from cH f_.o (fA HH.o nu));go_wp2_with (first|((with_reducible refine cW 30 ?_);refine aF rfl 30 (.tmp 4) (.tmp 103) rfl (w.heap.size+1) #[.int .i64 7,.string ⟨#[]⟩,.int .i64 0] rfl rfl _ bT pg.o (bf _ rfl) rfl bW ?_)|fail)
  refine aU (bu bC _ _ (w.heap.size+1) 30 #[.int .i64 7,.string ⟨#[]⟩,.int .i64 0] (0,0) _ rfl (aY _ (w.heap.size+1) _ _ _ _ pg.o) underlying30 rfl (bf _ rfl)) rfl ?_;unfold jY;rw[HR.o];exact⟨rfl,eA Z0.o ph.o o7.o (bV _) pg.o dM ag _⟩
 ·have hd:decide (o.n<0)=false:=bD hn;by_cases hm:1099511627776-x.now<o.n
  ·have sI:decide (1099511627776-x.now<o.n)=true:=bM hm;have HR:=O (JE.o.trans (az (Or.inr hm)));go_wp2_with fail
   go_quiet (fail);have nu:=tI.o nq;generalize u1.drewN nq=u2 at nu ⊢;have pg:=O (nu.keep qO.o id);have Z0:=O (show dn base w B pv x u2 from cH f_.o (fA HH.o nu));go_wp2_with (first|((with_reducible refine cW 30 ?_);refine aF rfl 30 (.tmp 4) (.tmp 103) rfl (w.heap.size+1) #[.int .i64 7,.string ⟨#[]⟩,.int .i64 0] rfl rfl _ bT pg.o (bf _ rfl) rfl bW ?_)|fail)
   refine aU (bu bC _ _ (w.heap.size+1) 30 #[.int .i64 7,.string ⟨#[]⟩,.int .i64 0] (0,0) _ rfl (aY _ (w.heap.size+1) _ _ _ _ pg.o) underlying30 rfl (bf _ rfl)) rfl ?_;unfold jY;rw[HR.o];exact⟨rfl,eA Z0.o ph.o o7.o (bV _) pg.o dM ag _⟩
  ·have sI:decide (1099511627776-x.now<o.n)=false:=bD hm;have HR:=O (JE.o.trans (aq ab));go_wp2_with fail
   go_quiet (fail);have nu:=tI.o nq;generalize u1.drewN nq=u2 at nu ⊢;have pg:=O (nu.keep qO.o id);have Z0:=O (show dn base w B pv x u2 from cH f_.o (fA HH.o nu));go_wp2_with fail
   have q1:u2.cell? ⟨B,12,none⟩=some (.int .i64 x.now):=by
    have j2:=(HH.o.dm nu).eL;simp only[World.cell?,j2];rfl
   have q2:u2.frozen? ⟨B,12,none⟩=false:=by
    have j2:=(HH.o.dm nu).eL;simp[World.frozen?,j2]
   obtain⟨a0,a1,a2,a3,a4,a5,a6,a7,a8,a9,jI,jJ,a12,jG,jK,jo,jV,jW,jX,ka,a20,a21⟩:=ep (nu.keep mN.o id) lD.o;clear a0 a1 a2 a3 a4 a5 a6 a7 a8 a9 jI jJ a12 jG jK jo jV jW jX ka a20;have g1: -9223372036854775808<=x.now+o.n:=ab;have g2:x.now+o.n<=9223372036854775807:=ab
   go_region
   obtain⟨Cf,ML⟩:=(HH.o.dm nu).afp (x.now+o.n);have hWP:dn base u2 B pv {x with now:=x.now+o.n} (u2.setCell ⟨B,12,none⟩ (.int .i64 (x.now+o.n))):=⟨pv,Cf,ML.mono (fun k _ e=>Or.inl e),fun k hk=>Or.inl hk⟩;have HP:=O (show dn base w B pv {x with now:=x.now+o.n} _ from cH f_.o (cH nu (hWP.then (aA (ae aS _)))))
   have PE:=O (show((u2.setCell ⟨B,12,none⟩ (.int .i64 (x.now+o.n))).drew).heap[w.heap.size+1]?=_ from ML.keep pg.o (fun e=>by have e':w.heap.size+1=B:=e;have:=o7.o;omega));clear Cf ML hWP q1 q2 a21;go_wp2_with (first|((with_reducible refine cW 30 ?_);refine aF rfl 30 (.tmp 4) (.tmp 113) rfl (w.heap.size+1) #[.int .i64 1,.string ⟨#[]⟩,.int .i64 0] rfl rfl _ bT PE.o (bf _ rfl) rfl bW ?_)|fail)
   refine aU (bu bC _ _ (w.heap.size+1) 30 #[.int .i64 1,.string ⟨#[]⟩,.int .i64 0] (0,0) _ rfl (aY _ (w.heap.size+1) _ _ _ _ PE.o) underlying30 rfl (bf _ rfl)) rfl ?_;unfold jY;rw[HR.o];exact⟨rfl,eA HP.o ph.o o7.o (bV _) PE.o dM ag _⟩
theorem aaK(base:Nat)(w:World)(B:Nat)(pv:Nat->cV)(x:dI)(o:jQ)(hs:List ig)(h:cD base w B pv x)(hf:gI w o hs)(hi:lV x)(a:World)(tC:kO a)(sa:a.heap.size<=base)(tD:Fr aS a w)(hr:(o.dR hs).right=true)(hw:o.what=8\/o.what=9) :
  aB 14 #[.pointer (some ⟨B,0,none⟩),.agg o.cells.toArray] w (jY base w B pv (ku x (o.dR hs))):=by
 have uM:B<w.heap.size:=h.lt;have oB:=h.low;obtain⟨ah,ch,gH⟩:=hf.gZ;obtain⟨w2,eE⟩:∃w2,w2=(w.alloc (.cells o.cells.toArray 41)).alloc (.cells bT 30):=⟨_,rfl⟩;have dB:Fr aS w w2:=by rw[eE];exact((ae aS w).alloc _).alloc _
 have k1:w2.heap[w.heap.size]?=some (.cells o.cells.toArray 41 (0,0)):=by rw[eE];exact((ae aS _).alloc _).keep (aC _ _) id
 have k2:w2.heap[w.heap.size+1]?=some (.cells bT 30 (0,0)):=by
  have h:=aC (w.alloc (.cells o.cells.toArray 41)) (.cells bT 30);rw[bO]at h;rw[eE];exact h
 have tE:=O (lu o hs w2 (hf.dm dB));have HH:=O (h.dm dB);have HF:=O (hf.dm dB);have lD:=O gH;have HI:=O hi;have f_:=O dB;have mN:=O k1;have qO:=O k2;have ph:=O (show base<=w.heap.size from ab);have xe:=O oB;have o7:=O uM;have Sb:=O tC;have Sa:=O (tD.trans dB);have Yk:=O sa;rw[eE]at k1;rw[d_ gH]at eE tE k1 ⊢;unfold bT at eE k1;have nI:=O eE;have vt:=O k1;clear eE gH dB k1 k2 h hf hi tC sa tD
 obtain⟨i,vz,AB⟩:∃i:Nat,o.aJ.part=(i:Int)/\i<4:=by
  obtain⟨h0,h1⟩:=jT hr;have TJ:0<=o.aJ.part:=h0;have Ir:o.aJ.part<4:=h1;exact⟨o.aJ.part.toNat,ab,ab⟩
 have M4:(i:Int)<4:=ab;have qA:¬(i:Int)<0:=ab;have Ny:¬(4:Int)<=(i:Int):=ab;have KP:(0:Int)<=(i:Int):=ab;have sU:=O AB;have AD:=O vz;obtain⟨r,B_⟩:∃r,r=qm (x.part i) (o.dR hs):=⟨_,rfl⟩;have HR:=O (show ku x (o.dR hs)=(x.set i r.1,r.2)by rw[qo hr vz (by show o.what≠10;omega),B_,Wo (show(o.dR hs).what=8\/(o.dR hs).what=9 from hw)]);rw[hr]at tE
 have HM:=O (show∀U,Fr aS w2 U->aB 36 #[.pointer (some ⟨B,i*3,none⟩),.agg o.cells.toArray] U (eI base U B (iQ pv x.now) (i*3) (pv i) r)from fun U hU=>by
  have h:=WT base U B (i*3) (iQ pv x.now) (pv i) (x.part i) o hs ((HH.o.dm hU).part i sU.o) ((HH.o.dm hU).partAt sU.o) xe.o (HF.o.dm hU) (HI.o.ok.part i);rw[<-B_]at h;exact h)
 rw[d_ lD.o]at HM;have HW:=O hw;clear hr hw B_ AB vz;go_enter func14,ntmps14;go_wp2_with (first|((with_reducible refine di 8 ?_);refine aH rfl 41 (.tmp 3) rfl w.heap.size rfl _ _ (0,0) _ vt.o underlying41 rfl af ?_)|fail)
 rw[<-nI.o];refine tE.o.mono ?_;rintro e u⟨rfl,hu⟩;obtain⟨a0,a1,a2,a3,a4,a5,a6,a7,a8,a9,jI,jJ,a12,jG,jK,jo,jV,jW,jX,ka,a20,a21⟩:=ep (hu.keep mN.o id) lD.o;rw[AD.o]at a1;clear a0 a2 a3 a4 a5 a6 a7 a8 a9 jI jJ a12 jG jK jo jV jW jX ka a20 a21;have qt:=O (show∀n,Fr aS w2 (u.drewN n)from fun n=>dD n hu);clear hu vt;go_wp2_with fail
 go_quiet (fail);clear a1;have mL:=qt.o nq;generalize u.drewN nq=u1 at mL ⊢;have tF:=O mL;clear mL qt;have EX:=O (tF.o.keep mN.o id);rw[d_ lD.o]at EX;obtain⟨a0,a1,a2,a3,a4,a5,a6,a7,a8,a9,jI,jJ,a12,jG,jK,jo,jV,jW,jX,ka,a20,a21⟩:=ep (tF.o.keep mN.o id) lD.o;rw[AD.o]at a1;have xh:=HW.o
 have hne:(o.what==1)=false/\(o.what==2)=false/\(o.what==3)=false/\(o.what==4)=false/\(o.what==5)=false/\(o.what==6)=false/\(o.what==7)=false/\(o.what==10)=false:=by
  refine⟨?_,?_,?_,?_,?_,?_,?_,?_⟩<;>(rw[aL];omega)
 obtain⟨n1,n2,n3,n4,n5,n6,n7,n10⟩:=hne;have m1:¬o.what=1:=ab;have m2:¬o.what=2:=ab;have m3:¬o.what=3:=ab;have m4:¬o.what=4:=ab;have m5:¬o.what=5:=ab;have m6:¬o.what=6:=ab;have m7:¬o.what=7:=ab;have m10:¬o.what=10:=ab;clear xh;clear a1 a2 a3 a4 a5 a6 a7 a8 a9 jI jJ a12 jG jK jo jV jW jX ka a20 a21
 go_wp2_with (first|((with_reducible refine di 115 ?_);refine aH rfl 41 (.tmp 3) rfl w.heap.size rfl _ _ (0,0) _ EX.o underlying41 rfl af ?_)|fail)
 have tG:=tF.o;refine(HM.o _ tG).mono ?_;rintro e u5⟨rfl,hp⟩;unfold kI.val;have LS:=tG.keep qO.o id;have pg:=O (nY (HH.o.dm tG) sU.o hp LS dM ab);have HP:=O (show dn base w B pv (x.set i r.1) u5 from cH f_.o (cH tG (kx (HH.o.dm tG) sU.o hp)));clear hp LS tG HM
 go_wp2_with (first|((with_reducible refine cW 30 ?_);refine aF rfl 30 (.tmp 4) (.tmp 116) rfl (w.heap.size+1) #[.int .i64 r.2.what,.string r.2.head,.int .i64 r.2.cert] rfl rfl _ bT pg.o (bf _ rfl) rfl bW ?_)|fail)
 refine aU (bu bC _ _ (w.heap.size+1) 30 #[.int .i64 r.2.what,.string r.2.head,.int .i64 r.2.cert] (0,0) _ rfl (aY _ (w.heap.size+1) _ _ _ _ pg.o) underlying30 rfl (bf _ rfl)) rfl ?_;unfold jY;rw[HR.o];exact⟨rfl,eA HP.o ph.o o7.o (bV _) pg.o dM ag _⟩
section
variable {U : World} {T B : Nat} {g : Nat → qI} {sv : Value} {t : iy}
theorem XN(h:gj U T B g sv t)(n:Int) :
  aB 19 #[.pointer (some ⟨T,0,none⟩),.int .i64 n] U fun e w'=>e=.returned (.int .i64 (Qn t n:Nat))/\w'=U:=by
 unfold Qn;cases hn:yy n
 ·have hh:¬(0<=n/\n<6):=by
   intro hh;unfold yy at hn;simp[hh.1,hh.2]at hn
  clear hn h;by_cases h0:n<0
  ·have h1:¬(0:Int)<=n:=ab;clear hh;go_enter func19,ntmps19;go_wp2;go_ret;exact⟨rfl,rfl⟩
  ·have h1:(0:Int)<=n:=ab;have h4:(6:Int)<=n:=ab;have h5:¬n<6:=ab;clear hh;go_enter func19,ntmps19;go_wp2;go_ret;exact⟨rfl,rfl⟩
 ·obtain⟨i,rfl,hi⟩:=CN hn;have c:U.cell? ⟨T,17+i*45,none⟩=some (.int .i64 (t.tab i).does):=h.tab i hi 0 _ rfl;have h1:(i:Int)<6:=ab;have h0:¬(i:Int)<0:=ab;have h2:¬(6:Int)<=(i:Int):=ab;have h3:(0:Int)<=(i:Int):=ab;clear hn h;go_enter func19,ntmps19;go_wp2;go_ret;exact⟨rfl,rfl⟩
end
structure kp (base:Nat) (U:World) (v:jQ×List ig) (o:iY):Prop where
 fit:gI U v.1 v.2
 is:v.1.dR v.2=o
 own:OwnRows base 171 2 U v.1.aJ.ey (v.2.map ig.cells)
def LR(x:WB×(jQ×List ig)):aX:=.int .i64 x.1.tab :: (x.2.1.cells++(qp x.1.jm++[.int .i64 x.1.mY,.int .i64 x.1.fin]))
def qQ(base:Nat)(U:World)(sv:Value)(l:List WB):Prop:=∃es:List (WB×(jQ×List ig)),es.map (·.1)=l/\OwnRows base 43 28 U sv (es.map LR)/\∀x∈es,kp base U x.2 x.1.op
def oA(xw:Option (Nat×dI))(B:Nat)(sb:Nat->Nat)(t:iy):Nat->Option (Nat×dI):=fun i=>if i=6 then some (B,t.w)else if i=7 then xw else if i<6/\((t.tab i).does=2\/(t.tab i).does=3)then some (sb i,(t.tab i).seen)else none
theorem Ou(hw:t'.w=t.w)(h:∀n,n<6->((t'.tab n).does=2\/(t'.tab n).does=3)->((t.tab n).does=2\/(t.tab n).does=3)/\(t'.tab n).seen=(t.tab n).seen):∀j p,oA xw B sb t' j=some p->oA xw B sb t j=some p:=by
 intro j p hp;unfold oA at hp ⊢;by_cases e6:j=6
 ·rw[az e6]at hp ⊢;rw[<-hw];exact hp
 ·rw[aq e6]at hp ⊢;by_cases e7:j=7
  ·rw[az e7]at hp ⊢;exact hp
  ·rw[aq e7]at hp ⊢;split at hp
   ·rename_i hc;obtain⟨q1,q2⟩:=h j hc.1 hc.2;rw[az ⟨hc.1,q1⟩, <-q2];exact hp
   ·cases hp
theorem Ov(hw:t'.w=t.w)(i:Nat)(ht:∀n,n≠i->t'.tab n=t.tab n)(h2:(t'.tab i).does≠2)(h3:(t'.tab i).does≠3):∀j p,oA xw B sb t' j=some p->oA xw B sb t j=some p :=
 Ou hw fun n _ hd=>by
  by_cases e:n=i
  ·subst e;exact absurd hd (fun h=>h.elim h2 h3)
  ·rw[ht n e]at hd ⊢;exact⟨hd,rfl⟩
structure cO (xw:Option (Nat×dI)) (a U:World) (T:Nat) (t:iy):Prop where
 ex:∃B g sv sb,gj U T B g sv t/\xj a.heap.size U (oA xw B sb t)/\qQ a.heap.size U sv t.gz/\∀n,n<6->((t.tab n).does≠0->kp a.heap.size U ((g n).o,(g n).hs) (t.tab n).op)/\((t.tab n).does=2\/(t.tab n).does=3->(g n).sp=.pointer (some ⟨sb n,0,none⟩))
 low:a.heap.size<=T
 fr:Fr aS a U
structure fY (k:Int) (t:iy):Prop where
 steps:0<=t.steps/\t.steps<=k
 num:∀p i,0<=t.num p i/\t.num p i<=k
 fails:∀n,(t.tab n).fails<=3
 does:∀n,(t.tab n).does<=3
 inv:lV t.w
 seen:∀n,(t.tab n).does=2\/(t.tab n).does=3->lV (t.tab n).seen
 ops:∀n,(t.tab n).does≠0->(t.tab n).op.user.size<=5000/\(t.tab n).op.pass.size<=5000/\(t.tab n).op.path.size<=5000
section
variable {xw : Option (Nat × dI)} {base : Nat} {a U U' : World} {T : Nat} {t : iy}
def gR(U U':World):Prop:=∃S:dC,Fr S U U'/\∀(n:Nat) (c:bS) (e:TypeId),U.heap[n]?=some (.cells c e (0,0))->(eZ e/\e≠86)/\e≠43/\e≠75->¬S n
theorem gR.aay(h:Fr aS U U'):gR U U':=⟨aS,h,fun _ _ _ _ _ h=>h⟩
theorem gR.refl(U:World):gR U U:=gR.aay (ae _ _)
theorem gR.Ow(h:Kept U U'):gR U U':=by
 obtain⟨S,hf,hs⟩:=h;exact⟨S,hf,fun n c e hn he=>hs n c e hn he.1.1 he.1.2⟩
theorem gR.block(h:gR U U')(hn:U.heap[n]?=some (.cells c e (0,0)))(he:(eZ e/\e≠86)/\e≠43/\e≠75):U'.heap[n]?=some (.cells c e (0,0)):=by
 obtain⟨S,hf,hs⟩:=h;exact hf.keep hn (hs n c e hn he)
theorem gR.step{Z:dC}(h:gR U V)(g:Fr Z V U')(hz:∀(n:Nat) (c:bS) (e:TypeId),n<U.heap.size->V.heap[n]?=some (.cells c e (0,0))->(eZ e/\e≠86)/\e≠43/\e≠75->¬Z n):gR U U':=by
 obtain⟨S,hf,hs⟩:=h;refine⟨fun n=>S n\/Z n,(hf.mono fun _ _ h=>Or.inl h).trans (g.mono fun _ _ h=>Or.inr h),?_⟩;rintro n c e hn he(q|q)
 ·exact hs n c e hn he q
 ·exact hz n c e (bj hn) (hf.keep hn (hs n c e hn he)) he q
theorem gR.trans(h:gR U V)(g:gR V U'):gR U U':=by
 obtain⟨Z,hg,hz⟩:=g;exact h.step hg fun n c e _ hn he=>hz n c e hn he
theorem gR.tabs(h:gR U V)(hT:V.heap[T]?=some (.cells c 75 (0,0)))(g:Fr (one T) V U'):gR U U':=h.step g fun n c' e _ hn he q=>by
 cases(show n=T from q);rw[hT]at hn;cases hn;exact he.2.2 rfl
theorem gR.new(h:gR U V)(g:Fr (one m) V U')(hm:U.heap.size<=m):gR U U':=h.step g fun n c' e hl _ _ q=>by
 have:n=m:=q;omega
theorem mK:(eZ 30/\30≠86)/\30≠43/\30≠75:=by unfold eZ;decide
theorem Ep:eZ 171/\171≠86:=by unfold eZ;decide
theorem uQ:eZ 43/\43≠86:=by unfold eZ;decide
theorem rz:eZ 75/\75≠86:=by unfold eZ;decide
theorem kp.rows(h:kp base U v o)(g:OwnRows base 171 2 U' v.1.aJ.ey (v.2.map ig.cells)):kp base U' v o:=⟨{h.fit with ey:=g.at},h.is,g⟩
theorem kp.kept(h:kp base U v o)(hk:Kept U U'):kp base U' v o:=h.rows (hk.rows h.own Ep.1 Ep.2)
theorem kp.one(h:kp base U v o)(hb:U.heap[n]?=some (.cells c e (0,0)))(he:e≠171)(hf:Fr (one n) U U'):kp base U' v o :=
 h.rows (h.own.fr hf fun g hg q=>h.own.not hb he (by rw[hg];exact ar some q))
theorem qQ.kept{l:List WB}(h:qQ base U sv l)(hk:Kept U U'):qQ base U' sv l:=by
 obtain⟨es,h1,h2,h3⟩:=h;exact⟨es,h1,hk.rows h2 uQ.1 uQ.2,fun x hx=>(h3 x hx).kept hk⟩
theorem qQ.one{l:List WB}(h:qQ base U sv l)(hb:U.heap[n]?=some (.cells c e (0,0)))(he:e≠171)(he':e≠43)(hf:Fr (one n) U U'):qQ base U' sv l:=by
 obtain⟨es,h1,h2,h3⟩:=h;exact⟨es,h1,h2.fr hf fun g hg q=>h2.not hb he' (by rw[hg];exact ar some q),fun x hx=>(h3 x hx).one hb he hf⟩
theorem cO.dm(h:cO xw a U T t)(hf:Fr aS U U'):cO xw a U' T t:=by
 obtain⟨B,g,sv,sb,h1,h2,h3,h4⟩:=h.ex;exact⟨⟨B,g,sv,sb,h1.fr hf id,h2.dm hf,h3.kept (ju hf),fun n hn=>⟨fun hd=>((h4 n hn).1 hd).kept (ju hf),(h4 n hn).2⟩⟩,h.low,h.fr.trans hf⟩
theorem cO.put{B:Nat}{g:Nat->qI}{sv:Value}{sb:Nat->Nat}{t':iy}{g':Nat->qI}(h1:gj U T B g sv t)(h2:xj a.heap.size U (oA xw B sb t))(h3:qQ a.heap.size U sv t.gz)
  (h4:∀n,n<6->((t.tab n).does≠0->kp a.heap.size U ((g n).o,(g n).hs) (t.tab n).op)/\((t.tab n).does=2\/(t.tab n).does=3->(g n).sp=.pointer (some ⟨sb n,0,none⟩)))(lo:a.heap.size<=T)(cL:Fr aS a U)
  (hb:gj U' T B g' sv t'/\Fr (one T) U U')(hs:t'.gz=t.gz)(hw:∀i p,oA xw B sb t' i=some p->oA xw B sb t i=some p)
  (h4':∀n,n<6->((t'.tab n).does≠0->((g' n).o=(g n).o/\(g' n).hs=(g n).hs/\(t'.tab n).op=(t.tab n).op/\(t.tab n).does≠0)\/kp a.heap.size U ((g' n).o,(g' n).hs) (t'.tab n).op)/\((t'.tab n).does=2\/(t'.tab n).does=3->(g' n).sp=.pointer (some ⟨sb n,0,none⟩))):cO xw a U' T t':=by
 obtain⟨hb,hf⟩:=hb;obtain⟨c,hc,_⟩:=h1.eL;refine⟨⟨B,g',sv,sb,hb,(h2.one lo hc rz.1 rz.2 ag hf).sub hw,by rw[hs];exact h3.one hc ag ag hf,fun n hn=>⟨fun hd=>?_,(h4' n hn).2⟩⟩,lo,cL.step hf fun k hk e=>?_⟩
 ·rcases(h4' n hn).1 hd with ⟨e1,e2,e3,e4⟩|q
  ·rw[e1,e2,e3];exact((h4 n hn).1 e4).one hc ag hf
  ·exact q.one hc ag hf
 ·have:k=T:=e;omega
theorem cO.aside(h:cO xw a U T t)(hn:a.heap.size<=n)(hb:U.heap[n]?=some (.cells c e (0,0)))(he:eZ e/\e≠86)(h1:e≠171)(h2:e≠43)(h3:e≠75)(h4:e≠9)(hf:Fr (one n) U U'):cO xw a U' T t:=by
 obtain⟨B,g,sv,sb,g1,g2,g3,g4⟩:=h.ex;obtain⟨d,hd,_⟩:=g1.eL;have hT:¬(one n) T:=fun e'=>by
  cases(show T=n from e');rw[hd]at hb;cases hb;exact h3 rfl
 refine⟨⟨B,g,sv,sb,g1.fr hf hT,g2.one hn hb he.1 he.2 h4 hf,g3.one hb h1 h2 hf,fun m hm=>⟨fun hd=>((g4 m hm).1 hd).one hb h1 hf,(g4 m hm).2⟩⟩,h.low,h.fr.step hf fun k hk e'=>?_⟩;have:k=n:=e';omega
end
abbrev lA := @gR.refl
abbrev kF := @cO.put
abbrev eJ := @gR.aay
theorem IZ(base:Nat)(w:World)(B:Nat)(pv:Nat->cV)(x:dI)(o:jQ)(hs:List ig)(h:cD base w B pv x)(hf:gI w o hs)(hi:lV x)(a:World)(tC:kO a)(sa:a.heap.size<=base)(tD:Fr aS a w) :
  aB 14 #[.pointer (some ⟨B,0,none⟩),.agg o.cells.toArray] w (jY base w B pv (ku x (o.dR hs))):=by
 cases hr:(o.dR hs).right
 ·exact ae_ base w B pv x o hs h hf hi a tC sa tD hr
 ·obtain⟨h1,h2⟩:=El hr;have Ir:1<=o.what:=h1;have h2':o.what<=10:=h2;have hq:o.what=1\/o.what=2\/o.what=3\/o.what=4\/o.what=5\/o.what=6\/o.what=7\/(o.what=8\/o.what=9)\/o.what=10:=ab;rcases hq with hq|hq|hq|hq|hq|hq|hq|hq|hq
  ·exact Si base w B pv x o hs h hf hi a tC sa tD hr hq
  ·exact OC base w B pv x o hs h hf hi a tC sa tD hr hq
  ·exact Mb base w B pv x o hs h hf hi a tC sa tD hr hq
  ·exact WN base w B pv x o hs h hf hi a tC sa tD hr hq
  ·exact OD base w B pv x o hs h hf hi a tC sa tD hr hq
  ·exact aaI base w B pv x o hs h hf hi a tC sa tD hr hq
  ·exact Sw base w B pv x o hs h hf hi a tC sa tD hr hq
  ·exact aaK base w B pv x o hs h hf hi a tC sa tD hr hq
  ·exact Qp base w B pv x o hs h hf hi a tC sa tD hr hq
def G9(b:Bool)(w:World)(p:Addr)(v:Value):World:=if b then w.setCell p v else w
theorem Af(h:Fr (one B) a w)(b:Bool)(k:Nat)(v:Value):Fr (one B) a (G9 b w ⟨B,k,none⟩ v):=by
 cases b
 ·exact h
 ·exact h.setCell (p:=⟨B,k,none⟩) (fun _=>rfl) v
theorem Ag{cs:aX}{t:TypeId}{f:Nat×Nat}(h:w.heap[B]?=some (.cells cs.toArray t f))(b:Bool)(k:Nat){old:Value}(hk:cs[k]?=some old)(v:Value) :
  (G9 b w ⟨B,k,none⟩ v).heap[B]?=some (.cells (cs.set k (if b then v else old)).toArray t f):=by
 cases b
 ·have e:cs.set k old=cs:=by
   apply jg;intro i;by_cases hi:i=k
   ·subst hi;rw[List.getElem?_set_self (List.getElem?_eq_some_iff.1 hk).1,hk]
   ·rw[List.getElem?_set_ne (kZ hi)]
  show w.heap[B]?=some (.cells (cs.set k old).toArray t f);rw[e,h]
 ·show(w.setCell ⟨B,k,none⟩ v).heap[B]?=some (.cells (cs.set k v).toArray t f);rw[cg h k v,List.setIfInBounds_toArray]
def G_(b0 b1 b2:Bool)(v q:cV):cV :=
 ⟨if b0 then q.b else v.b,if b0 then q.gv else v.gv,if b0 then q.wv else v.wv,if b1 then q.k else v.k,if b1 then q.kv else v.kv,if b2 then q.cv else v.cv⟩
theorem OP{b0 b1 b2:Bool}{v:cV}{k:Nat}(h:(G_ b0 b1 b2 v q).j_ k):v.j_ k\/q.j_ k:=by
 rcases h with h|h|h
 ·cases b0
  ·exact Or.inl (Or.inl h)
  ·exact Or.inr (Or.inl h)
 ·cases b1
  ·exact Or.inl (Or.inr (Or.inl h))
  ·exact Or.inr (Or.inr (Or.inl h))
 ·cases b2
  ·exact Or.inl (Or.inr (Or.inr h))
  ·exact Or.inr (Or.inr (Or.inr h))
theorem eQ.take{v:cV}{P F:dS}(h:eQ base w v P)(g:eQ base w q F)(b0 b1 b2:Bool) :
  eQ base w (G_ b0 b1 b2 v q) ⟨if b0 then F.bH else P.bH,if b0 then F.waits else P.waits,if b1 then F.book else P.book,if b2 then F.dL else P.dL⟩ :=
 ⟨by cases b0;exact h.oz;exact g.oz,by cases b1;exact h.book;exact g.book,by cases b2;exact h.dL;exact g.dL⟩
def Qt(b0 b1 b2 b3:Bool)(W:World)(B i:Nat)(q:cV)(n:Int):World :=
 G9 b3 (G9 b2 (G9 b1 (G9 b0 W ⟨B,i*3,none⟩ (.pointer (some ⟨q.b,0,none⟩))) ⟨B,i*3+1,none⟩ (.pointer (some ⟨q.k,0,none⟩))) ⟨B,i*3+2,none⟩ q.cv) ⟨B,12,none⟩ (.int .i64 n)
theorem SE{base:Nat}{w W:World}{B N:Nat}{pv qc:Nat->cV}{x f:dI}(h:cD base w B pv x)(hW:Fr aS w W)(hc:cD base W N qc f)(hn:∀k,lN N qc k->w.heap.size<=k){part:Int}{i:Nat}(hi:i<4)(hp:part=(i:Int)){c:Nat}{b0 b1 b2 b3:Bool}
  (h0:c.testBit 0=b0)(h1:c.testBit 1=b1)(h2:c.testBit 2=b2)(h3:c.testBit 3=b3):dn base w B pv (kP x f part c) (Qt b0 b1 b2 b3 W B i (qc i) f.now):=by
 have hB:=h.dm hW;have cL:Fr (one B) W (Qt b0 b1 b2 b3 W B i (qc i) f.now):=Af (Af (Af (Af (ae _ _) _ _ _) _ _ _) _ _ _) _ _ _;have hpi:part.toNat=i:=by rw[hp];simp
 have hx:kP x f part c={part:=fun j=>if j=i then⟨if b0 then(f.part j).bH else(x.part j).bH,if b0 then(f.part j).waits else(x.part j).waits,if b1 then(f.part j).book else(x.part j).book,if b2 then(f.part j).dL else(x.part j).dL⟩else x.part j,now:=if b3 then f.now else x.now}:=by
  rw[GX ab ab,hpi];unfold o8;rw[h0,h1,h2,h3]
 have uf:∀j k,j<4->(pv j).j_ k->k<w.heap.size:=fun j k hj hk=>h.jr (Or.inr ⟨j,hj,hk⟩);have hge:∀k,(qc i).j_ k->w.heap.size<=k:=fun k hk=>hn k (Or.inr ⟨i,hi,hk⟩);have ll:∀j k,j<4->(yr pv i (G_ b0 b1 b2 (pv i) (qc i)) j).j_ k->(pv j).j_ k\/(j=i/\w.heap.size<=k):=by
  intro j k hj hk;by_cases FU:j=i
  ·subst FU;rw[sR]at hk;rcases OP hk with e|e
   ·exact Or.inl e
   ·exact Or.inr ⟨rfl,hge k e⟩
  ·rw[mI pv _ FU]at hk;exact Or.inl hk
 rw[hx];refine⟨yr pv i (G_ b0 b1 b2 (pv i) (qc i)),⟨h.low,?_,fun j hj=>?_,fun j l hj hl hjl k hkj hkl=>?_⟩,?_,?_⟩
 ·obtain⟨c0,c1,c2⟩:=wZ pv x.now hi;have e0:=Ag hB.eL b0 (i*3) c0 (.pointer (some ⟨(qc i).b,0,none⟩));have e1:=Ag e0 b1 (i*3+1) (old:=.pointer (some ⟨(pv i).k,0,none⟩)) (by rw[List.getElem?_set_ne ab];exact c1) (.pointer (some ⟨(qc i).k,0,none⟩));have e2:=Ag e1 b2 (i*3+2) (old:=(pv i).cv) (by rw[List.getElem?_set_ne ab,List.getElem?_set_ne ab];exact c2) (qc i).cv
  have e3:=Ag e2 b3 12 (old:=.int .i64 x.now) (by rw[List.getElem?_set_ne ab,List.getElem?_set_ne ab,List.getElem?_set_ne ab];exact N4 pv x.now) (.int .i64 f.now);unfold Qt;rw[e3]
  have s1:(((iQ pv x.now).set (i*3) (if b0=true then .pointer (some ⟨(qc i).b,0,none⟩)else .pointer (some ⟨(pv i).b,0,none⟩))).set (i*3+1) (if b1=true then .pointer (some ⟨(qc i).k,0,none⟩)else .pointer (some ⟨(pv i).k,0,none⟩))).set (i*3+2) (if b2=true then(qc i).cv else(pv i).cv)=iQ (yr pv i (G_ b0 b1 b2 (pv i) (qc i))) x.now:=by
   rw[<-yt pv x.now hi];unfold pn G_;cases b0<;>cases b1<;>rfl
  rw[s1];cases b3
  ·rw[aq ag,xG];rfl
  ·rw[az rfl,xG];rfl
 ·by_cases FU:j=i
  ·subst FU;rw[sR];show eQ base _ _ (if j=j then _ else _);rw[az rfl];have hB':¬(qc j).j_ B:=fun e=>by
    have a1:=hge B e;have a2:=h.lt;omega
   exact((hB.part j hj).fr cL hB.RN (fun k hk e=>hB.zU hj (by have e':k=B:=e;rw[<-e'];exact hk))).take ((hc.part j hj).fr cL hB.RN (fun k hk e=>hB' (by have e':k=B:=e;rw[<-e'];exact hk))) b0 b1 b2
  ·rw[mI pv _ FU];show eQ base _ _ (if j=i then _ else _);rw[aq FU];exact(hB.part j hj).fr cL hB.RN (fun k hk e=>hB.zU hj (by have e':k=B:=e;rw[<-e'];exact hk))
 ·rcases ll j k hj hkj with e|⟨e,he⟩
  ·rcases ll l k hl hkl with g|⟨g,hg⟩
   ·exact h.apart j l hj hl hjl k e g
   ·have:=uf j k hj e;omega
  ·rcases ll l k hl hkl with g|⟨g,hg⟩
   ·have:=uf l k hl g;omega
   ·exact hjl (e.trans g.symm)
 ·exact(hW.mono (T:=lN B pv) (fun _ _ h=>absurd h id)).step cL (fun k _ e=>Or.inl e)
 ·rintro k(rfl|⟨j,hj,hk⟩)
  ·exact Or.inl (Or.inl rfl)
  ·rcases ll j k hj hk with e|⟨_,e⟩
   ·exact Or.inl (Or.inr ⟨j,hj,e⟩)
   ·exact Or.inr e
theorem cD.aqb(h:cD base w B pv x)(oB:base<=n)(hn:¬lN B pv n){t:TypeId}(hb:w.heap[n]?=some (.cells cs t (0,0)))(ht:t≠9)(k:Nat)(v:Value) :
  cD base (w.setCell ⟨n,k,none⟩ v) B pv x/\Fr (one n) w (w.setCell ⟨n,k,none⟩ v):=by
 have kH:Fr (one n) w (w.setCell ⟨n,k,none⟩ v):=(ae (one n) w).setCell (p:=⟨n,k,none⟩) (fun _=>rfl) _;refine⟨h.fr kH ?_ (fun k hk e=>hn (by have e':k=n:=e;rw[<-e'];exact hk)),kH⟩;rintro k rfl _;exact⟨oB,fun c f e=>by rw[hb]at e;cases e;exact ht rfl⟩
theorem Ev{U':World}{x':dI}(h:cD base U B pv x)(hf:Fr aS w U)(hb:w.heap.size<=base)(hp:dn base U B pv x' U') :
  ∃yJ,cD base U' B yJ x'/\Fr aS w U'/\∀(n:Nat) (c:bS) (t:TypeId),U.heap[n]?=some (.cells c t (0,0))->eZ t->t≠86->U'.heap[n]?=some (.cells c t (0,0)):=by
 have UR:=hp.frame h hf hb;obtain⟨yJ,h1,h2,_⟩:=hp;exact⟨yJ,h1,UR,fun n c t hn ht hw=>h2.keep hn (h.wA hn ht hw)⟩
theorem G8(h:cD base U B pv x)(hf:Fr aS w U)(oB:base<=n)(X9:w.heap.size<=n){t:TypeId}(hb:U.heap[n]?=some (.cells cs t (0,0)))(ht:eZ t)(hw:t≠86)(hs:t≠9)(k:Nat)(v:Value) :
  cD base (U.setCell ⟨n,k,none⟩ v) B pv x/\Fr aS w (U.setCell ⟨n,k,none⟩ v)/\(U.setCell ⟨n,k,none⟩ v).heap[n]?=some (.cells (cs.setIfInBounds k v) t (0,0)) /\
   ∀(m:Nat) (o:Obj),m≠n->U.heap[m]?=some o->(U.setCell ⟨n,k,none⟩ v).heap[m]?=some o:=by
 obtain⟨h1,h2⟩:=h.aqb oB (h.wA hb ht hw) hb hs k v;exact⟨h1,hf.gJ (p:=⟨n,k,none⟩) X9 _,cg hb k v,fun m o hm ho=>h2.keep ho (fun e=>hm e)⟩
theorem Qq{o:jQ}(h:cD w.heap.size U B pv x)(hf:Fr aS w U)(hi:lV x)(ht:kO w)(ho:gI U o hs) :
  aB 14 #[.pointer (some ⟨B,0,none⟩),.agg o.cells.toArray] U (fun e w'=>e=.returned (.agg #[.int .i64 (ku x (o.dR hs)).2.what,.string (ku x (o.dR hs)).2.head,.int .i64 (ku x (o.dR hs)).2.cert])/\dn w.heap.size U B pv (ku x (o.dR hs)).1 w') :=
 IZ w.heap.size U B pv x o hs h ho hi w ht (ay _) hf
theorem fY.new:fY 0 xH:=⟨⟨hZ _,hZ _⟩,fun _ _=>⟨hZ _,hZ _⟩,fun _=>aQ _,fun _=>aQ _,lV.new,fun _ h=>by simp[xH,fX]at h,fun _ h=>by simp[xH,fX]at h⟩
theorem fY.mono{j:Int}(h:fY k t)(hk:k<=j):fY j t:={h with steps:=⟨h.steps.1,Int.le_trans h.steps.2 hk⟩,num:=fun p i=>⟨(h.num p i).1,Int.le_trans (h.num p i).2 hk⟩}
theorem Sz{f:Nat->Nat->Int}(h:∀p i,0<=f p i/\f p i<=k)(p i:Nat):0<=En o f p i/\En o f p i<=k+1:=by
 unfold En;have:=h p i;split<;>omega
theorem fY.ends(h:fY k t)(n:Nat)(r:kI):fY k (lW t n r):=by
 unfold lW;refine⟨h.steps,h.num,fun m=>?_,fun m=>?_,h.inv,fun m=>?_,fun m=>?_⟩
 ·show(if m=n then fX else t.tab m).fails<=3;split
  ·exact aQ _
  ·exact h.fails m
 ·show(if m=n then fX else t.tab m).does<=3;split
  ·exact aQ _
  ·exact h.does m
 ·show(if m=n then fX else t.tab m).does=2\/(if m=n then fX else t.tab m).does=3->lV (if m=n then fX else t.tab m).seen;split
  ·intro e;simp[fX]at e
  ·exact h.seen m
 ·show(if m=n then fX else t.tab m).does≠0->_;split
  ·intro e;exact absurd rfl e
  ·rename_i hm;simp only[aq hm];exact h.ops m
theorem fY.put(h:fY k t)(n:Nat)(x:wB)(hf:x.fails<=3)(hd:x.does<=3)(hs:x.does=2\/x.does=3->lV x.seen)(ho:x.does≠0->x.op.user.size<=5000/\x.op.pass.size<=5000/\x.op.path.size<=5000):fY k (t.put n x):=by
 refine⟨h.steps,h.num,fun m=>?_,fun m=>?_,h.inv,fun m=>?_,fun m=>?_⟩
 ·show(if m=n then x else t.tab m).fails<=3;split
  ·exact hf
  ·exact h.fails m
 ·show(if m=n then x else t.tab m).does<=3;split
  ·exact hd
  ·exact h.does m
 ·show(if m=n then x else t.tab m).does=2\/(if m=n then x else t.tab m).does=3->lV (if m=n then x else t.tab m).seen;split
  ·exact hs
  ·exact h.seen m
 ·show(if m=n then x else t.tab m).does≠0->(if m=n then x else t.tab m).op.user.size<=5000/\(if m=n then x else t.tab m).op.pass.size<=5000/\(if m=n then x else t.tab m).op.path.size<=5000;split
  ·exact ho
  ·exact h.ops m
theorem fY.tick(h:fY k t):fY (k+1) {t with steps:=t.steps+1}:=by
 have g:=h.mono (show k<=k+1 from ab);exact{g with steps:=⟨by have:=h.steps.1;show 0<=t.steps+1;omega,by have:=h.steps.2;show t.steps+1<=k+1;omega⟩}
theorem fY.mY{k:Int}{t:iy}(h:fY k t)(n:Int)(o:iY)(ho:o.user.size<=5000/\o.pass.size<=5000/\o.path.size<=5000):fY (k+1) (wC t n o).1:=by
 have g:=h.mono (show k<=k+1 from ab);unfold wC;split
 ·split
  ·exact(h.put n.toNat {fX with does:=1,op:=o,mY:=t.steps+1} (aQ _) (show 1<=3 from ag) (fun e=>by simp at e) (fun _=>ho)).tick
  ·exact g
 ·exact g
theorem fY.cancel(h:fY k t)(n:Int):fY (k+1) (sT t n).1:=by
 have g:=h.mono (show k<=k+1 from ab);unfold sT;split
 ·split
  ·exact g
  ·exact(h.put n.toNat fX (aQ _) (aQ _) (fun e=>by simp[fX]at e) (fun e=>absurd rfl e)).tick
 ·exact g
theorem fY.fail(h:fY k t)(n:Nat)(r:kI):fY k (lW (t.put n {t.tab n with fails:=m}) n r):=by
 have e:lW (t.put n {t.tab n with fails:=m}) n r=lW t n r:=by
  unfold lW iy.put;simp only[ef]
  congr 1
  funext i
  split
  ·rfl
  ·rfl
 rw[e];exact h.ends n r
theorem fY.afs(h:fY k t)(n:Nat)(hd:(t.tab n).does=3):fY (k+1) (jt t n).1:=by
 have g:=h.mono (show k<=k+1 from ab);unfold jt;split
 ·refine fY.ends ?_ n _;split
  ·exact{g with inv:=h.inv.take (h.seen n (Or.inr hd)) _ _,num:=Sz h.num}
  ·exact g
 ·split
  ·rename_i hf;exact g.put n _ hf (show 1<=3 from ag) (fun e=>by simp at e) (fun _=>h.ops n ab)
  ·exact g.fail n _
theorem fY.stepT{k:Int}{t:iy}(h:fY k t)(n:Nat)(h0:(t.tab n).does≠0):fY (k+2) (stepT t n).1:=by
 unfold Go.Proofs.YtnckmcnffadjoaaGreatDoor.stepT;split
 ·have q:=(h.put n {t.tab n with seen:=t.w,num:=t.num,does:=2} (h.fails n) (show 2<=3 from ag) (fun _=>h.inv) (fun _=>h.ops n h0)).tick;exact q.mono ab
 ·split
  ·rename_i h2;have q:=(h.put n {t.tab n with jm:=(ku (t.tab n).seen (t.tab n).op).2,seen:=(ku (t.tab n).seen (t.tab n).op).1,does:=3} (h.fails n) (show 3<=3 from ag) (fun _=>(h.seen n (Or.inl h2)).ku _ (h.ops n h0).1 (h.ops n h0).2.1 (h.ops n h0).2.2) (fun _=>h.ops n h0)).tick;exact q.mono ab
  ·have hd:(t.tab n).does=3:=by have:=h.does n;omega
   exact(h.tick.afs n hd).mono ab
theorem fY.step(h:fY k t)(n:Int):fY (k+2) (jH t n).1:=by
 have g:=h.mono (show k<=k+2 from ab);unfold jH;split
 ·split
  ·exact g
  ·rename_i h0;exact h.stepT _ h0
 ·exact g
theorem sV.fr{w':World}{o:jQ}(h:sV w o hs)(hf:Fr aS w w'):sV w' o hs:={h with aJ:={h.aJ with ey:=bh h.aJ.ey hf}}
theorem Jo{i:Nat}(h:i<6):yy (i:Int)=true:=by
 unfold yy;simp only[cF,dG];omega
theorem acS{T:Nat}(h:cO xw a U T t)(i:Nat)(hi:i<6) :
  aB 19 #[.pointer (some ⟨T,0,none⟩),.int .i64 i] U fun e w'=>e=.returned (.int .i64 ((t.tab i).does:Nat))/\w'=U:=by
 obtain⟨B,g,sv,sb,h1,_⟩:=h.ex;have q:=XN h1 (i:Int)
 rwa [show Qn t (i:Int)=(t.tab i).does by unfold Qn;rw[Jo hi];rfl]at q
section
variable {a U U' : World} {B C : Nat} {pv qv : Nat → cV} {x x' y : dI}
end
theorem lV.tP(h:lV x):∀i,i<4->(x.part i).bH.length<68719476736/\(x.part i).waits.length<68719476736/\(x.part i).book.length<1000000/\(x.part i).dL.length<=1000000:=fun i _=>by
 obtain⟨l1,l2,l3,l4⟩:=(h.ok.part i).tP;exact⟨ab,ab,ab,ab⟩
theorem Jd(t:iy)(n:Nat):(jt t n).1.gz.length<=t.gz.length+1:=by
 unfold jt;split
 ·split<;>simp[lW]
 ·split
  ·simp[iy.put]
  ·simp[lW,iy.put]
theorem yE(t:iy)(n:Int):(jH t n).1.gz.length<=t.gz.length+1:=by
 unfold jH;split
 ·split
  ·simp
  ·unfold stepT;split
   ·simp[iy.put]
   ·split
    ·simp[iy.put]
    ·exact Jd _ _
 ·simp
theorem Bu(t:iy)(n:Int)(o:iY):(wC t n o).1.gz=t.gz:=by
 unfold wC;split
 ·split<;>rfl
 ·rfl
theorem SU(t:iy)(n:Int):(sT t n).1.gz=t.gz:=by
 unfold sT;split
 ·split<;>rfl
 ·rfl
theorem XF{xs:cZ}{t:TypeId}(hx:∀x∈xs,x.length=22/\∀u∈x,u.oneCell'=true)(h:w.heap[n]?=some (.cells xs.flatten.toArray t (0,0)))(hm:m=xs.length)(hl:m<=4):dY 22 w (.slice (some ⟨n,0,none⟩) m m) xs:=by
 subst hm;refine⟨hx,Or.inr ⟨n,0,xs.length,rfl,ay _,fx,bj h,fun j x hj i u hi=>?_⟩⟩;simp only[World.cell?,h,bw];have key:∀(ys:cZ),(∀z∈ys,z.length=22)->∀(j:Nat) (z:aX) (i:Nat) (u:Value),ys[j]?=some z->z[i]?=some u->ys.flatten[j*22+i]?=some u:=by
  intro ys
  induction ys with
  |nil=>intro _ j z i u hj;cases j<;>cases hj
  |cons y ys ih =>
   intro hy j z i u hj hi;rw[List.flatten_cons];have F8:=hy y (cY ..);cases j with
   |zero =>
    have e:y=z:=by simpa using hj
    subst e;have hil:=(List.getElem?_eq_some_iff.1 hi).1;rw[il,bw,List.getElem?_append_left ab];exact hi
   |succ j =>
    rw[List.getElem?_append_right ab,show(j+1)*22+i-y.length=j*22+i from ab];exact ih (fun z hz=>hy z (bQ _ hz)) j z i u (by simpa using hj) hi
 simpa using key xs (fun z hz=>(hx z hz).1) j x i u hj hi
theorem ED.one{t:TypeId}{o:jQ}{ah:eV}{ch:Nat}(h:sV w o hs)(hh:o.aJ.ey=.slice ah hs.length ch)(hb:w.heap[n]?=some (.cells o.cells.toArray t (0,0))):ED w (.slice (some ⟨n,0,none⟩) 1 1) [(o,hs)]:=by
 refine⟨XF (xs:=[o.cells]) (fun x hx=>?_) (by simpa using hb) rfl ag,aR,fun p hp=>?_⟩
 ·rw[df]at hx;subst hx;exact⟨rfl,afK o hh⟩
 ·rw[df]at hp;subst hp;exact h
theorem Hd(o:jQ)(hs:List ig):EH [(o,hs)]=!qw (o,hs):=by
 unfold EH;simp
theorem abg:∃W1 W2 W3:dI,ku Bc (Fq 2)=(W1,⟨3,⟨#[]⟩,0⟩)/\ku W1 (Fq 3)=(W2,⟨1,⟨#[]⟩,0⟩)/\ku W2 (Fq 1)=(W3,⟨1,⟨#[66,97,115,105,99,32,100,84,112,119]⟩,0⟩)/\(W3.part 0).bH.length=1/\lV W1/\lV W2 :=
 ⟨Qe,Qf,aca,Prod.ext rfl aoG,Prod.ext rfl aoH,Prod.ext rfl aoI,aoJ,acb,aiU⟩
def O8(n:Int):jQ:=⟨n,⟨0,t_,t_,⟨#[47]⟩,⟨#[]⟩,⟨#[71,69,84]⟩,.slice none 0 0,false,⟨#[]⟩⟩,false,⟨#[66,97,115,105,99,32,114,101,97,108,109,61,114]⟩,⟨#[117]⟩,⟨#[112]⟩,⟨#[]⟩,0,false,0⟩
theorem O9(n:Int):(O8 n).dR []=Fq n:=rfl
def vw(n:Int):bS:= #[.int .i64 n,.int .i64 0,.bool true,.string ⟨#[97,46,116,101,115,116]⟩,.int .i64 443,.bool true,.string ⟨#[97,46,116,101,115,116]⟩,.int .i64 443,.string ⟨#[47]⟩,.string ⟨#[]⟩,.string ⟨#[71,69,84]⟩,.slice none 0 0,.bool false,.string ⟨#[]⟩,.bool false,.string ⟨#[66,97,115,105,99,32,114,101,97,108,109,61,114]⟩,.string ⟨#[117]⟩,.string ⟨#[112]⟩,.string ⟨#[]⟩,.int .i64 0,.bool false,.int .i64 0]
theorem O_(n:Int):(O8 n).cells.toArray=vw n:=rfl
theorem MG(a b:Int):(vw a).setIfInBounds 0 (.int .i64 b)=vw b:=by unfold vw;simp
theorem XI(a:Int):(vw a)[0]?=some (.int .i64 a):=rfl
theorem XJ(w:World):gI w (O8 0) [] :=
 ⟨dY.nil _ _,⟨ag,ag,fun _ h=>by cases h⟩,ag,ag,ag,ag,ag,ag,ag,ag,ag,ag,ag,ag,ag,ag,ag,ag⟩
theorem Jn(n:Int)(w:World)(h0: -9223372036854775808<=n)(h1:n<=9223372036854775807):gI w (O8 n) []:={XJ w with what:=⟨h0,h1⟩}
theorem MH(a c:Int)(s:aj)(w:World):(binOp .eql 30 (.agg #[.int .i64 a,.string s,.int .i64 c]) (.agg #[.int .i64 a,.string s,.int .i64 c])).run prog w=.ok (.bool true) w:=by
 go_simp
theorem Td(w:World)(ht:kO w):aB 12 #[] w fun e w'=>e=.returned (.bool true)/\Fr aS w w':=by
 have HT:=O ht;obtain⟨lw1,lw2,lw3,le1,le2,le3,le4,li1,li2⟩:=abg;have LE1:=O le1;have LE2:=O le2;have LE3:=O le3;have LE4:=O le4;have HRI:=O (show(prog.info? 41).map (·.size)=some (vw 2).size from af);have HRO:=O (show(vw 2).all (·.oneCell')=true from du);have LI1:=O li1;have LI2:=O li2;clear ht le1 le2 le3 le4 li1 li2;go_enter func12,ntmps12;go_wp2_with fail
 refine(Qv w).mono ?_;rintro e w1⟨B,pv1,rfl,oy,dr⟩;have Ii:=O (oy w.heap.size (ay _));have lC:=O dr;clear oy dr;go_wp2_with fail
 refine(zT w1).mono ?_;rintro e w2⟨rfl,dB⟩;unfold gA.cells t_;go_wp2_with fail
 refine(zT w2).mono ?_;rintro e w3⟨rfl,iz⟩;unfold gA.cells t_;obtain⟨x1,mM⟩:∃x1,x1=w3.alloc (.cells (vw 2) 41):=⟨_,rfl⟩;have af2:Fr aS w1 x1:=by rw[mM];exact(dB.trans iz).alloc _
 have P8:=O (show x1.heap[w3.heap.size]?=some (.cells (vw 2) 41 (0,0))by rw[mM];exact aC _ _);have ph:=O (show w.heap.size<=w3.heap.size from(lC.o.trans (dB.trans iz)).size);have MU:=O (Ii.o.dm af2);have Sj:=O (lC.o.trans af2);have Yj:=O mM;have Qx:=P8.o;rw[mM]at Qx;have aq0:=O Qx;clear dB iz af2 mM Qx
 have HD1:=O (show aB 14 #[.pointer (some ⟨B,0,none⟩),.agg (vw 2)] x1 (fun e w'=>e=.returned (.agg #[.int .i64 3,.string ⟨#[]⟩,.int .i64 0])/\dn w.heap.size x1 B pv1 lw1 w')from by
  have h:=IZ w.heap.size x1 B pv1 Bc (O8 2) [] MU.o (Jn 2 x1 ag ag) lV.new w HT.o (ay _) Sj.o;rw[O9,O_,LE1.o]at h;exact h)
 go_wp2_with (first|((with_reducible refine di 16 ?_);refine aH rfl 41 (.tmp 2) rfl w3.heap.size rfl _ (vw 2) (0,0) _ aq0.o underlying41 rfl af ?_)|((with_reducible refine jn ⟨none,.store 41 (.tmp 2) (.tmp 14),_,_,_,_⟩ ?_);refine pM rfl 41 (.tmp 2) (.tmp 14) rfl zOp (vw 2) rfl rfl HRI.o rfl HRO.o ?_)|fail)
 rw[<-Yj.o];refine HD1.o.mono ?_;rintro e v1⟨rfl,hp⟩;obtain⟨pv2,hv,F7,XK⟩:=Ev MU.o Sj.o (ay _) hp;have Te:=XK _ _ _ P8.o jl ag;have MQ:w3.heap.size<v1.heap.size:=bj Te;obtain⟨s1,hs⟩:∃s1,s1=v1.setCell ⟨w3.heap.size,0,none⟩ (.int .i64 3):=⟨_,rfl⟩;obtain⟨qa,qb,qc,qd⟩:=G8 hv F7 ph.o ph.o Te jl ag ag 0 (.int .i64 3)
 have c0:v1.cell? ⟨w3.heap.size,0,none⟩=some (.int .i64 2):=by simp only[World.cell?,Te];exact XI _
 have z0:v1.frozen? ⟨w3.heap.size,0,none⟩=false:=by simp[World.frozen?,Te]
 rw[MG]at qc;rw[<-hs]at qa qb qc qd;have hss:s1.heap.size=v1.heap.size:=by rw[hs];simp[World.setCell]
 have gS:Fr aS s1 (s1.alloc (.cells #[.int .i64 3,.string ⟨#[]⟩,.int .i64 0] 30)):=(ae _ _).alloc _;have hra:=aC s1 (.cells #[.int .i64 3,.string ⟨#[]⟩,.int .i64 0] 30);obtain⟨x2,hx⟩:∃x2,x2=s1.alloc (.cells #[.int .i64 3,.string ⟨#[]⟩,.int .i64 0] 30):=⟨_,rfl⟩;have qk:=gS.keep qc id
 have ak3:=O (show x2.heap[v1.heap.size]?=some (.cells #[.int .i64 3,.string ⟨#[]⟩,.int .i64 0] 30 (0,0))from by rw[hx, <-hss];exact hra);have JC:=O MQ;have Qg:=O (show cD w.heap.size x2 B pv2 lw1 by rw[hx];exact qa.dm gS);have pV:=O (show x2.heap[w3.heap.size]?=some (.cells (vw 3) 41 (0,0))by rw[hx];exact qk);have Tz:=O (show Fr aS w x2 by rw[hx];exact qb.trans gS);rw[hs]at hx;have HY2:=O hx
 have hzz:=pV.o;rw[hx]at hzz;have aq2:=O hzz;clear hx hs qa qb qc qd qk hra gS Te F7 hv XK hzz hp hss;have HD2:=O (show aB 14 #[.pointer (some ⟨B,0,none⟩),.agg (vw 3)] x2 (fun e w'=>e=.returned (.agg #[.int .i64 1,.string ⟨#[]⟩,.int .i64 0])/\dn w.heap.size x2 B pv2 lw2 w')from by
  have h:=IZ w.heap.size x2 B pv2 lw1 (O8 3) [] Qg.o (Jn 3 x2 ag ag) LI1.o w HT.o (ay _) Tz.o;rw[O9,O_,LE2.o]at h;exact h)
 go_wp2_with (first|((with_reducible refine di 20 ?_);refine aH rfl 41 (.tmp 2) rfl w3.heap.size rfl _ (vw 3) (0,0) _ aq2.o underlying41 rfl af ?_)|fail)
 rw[<-HY2.o];refine HD2.o.mono ?_;rintro e v2⟨rfl,hp⟩;obtain⟨pv3,hv,F7,XK⟩:=Ev Qg.o Tz.o (ay _) hp;have Te:=XK _ _ _ pV.o jl ag;have yI:=XK _ _ _ ak3.o dM ag;have MQ:w3.heap.size<v2.heap.size:=bj Te;obtain⟨s2,hs⟩:∃s2,s2=v2.setCell ⟨w3.heap.size,0,none⟩ (.int .i64 1):=⟨_,rfl⟩;obtain⟨qa,qb,qc,qd⟩:=G8 hv F7 ph.o ph.o Te jl ag ag 0 (.int .i64 1)
 have c0:v2.cell? ⟨w3.heap.size,0,none⟩=some (.int .i64 3):=by simp only[World.cell?,Te];exact XI _
 have z0:v2.frozen? ⟨w3.heap.size,0,none⟩=false:=by simp[World.frozen?,Te]
 rw[MG]at qc;rw[<-hs]at qa qb qc qd;have hss:s2.heap.size=v2.heap.size:=by rw[hs];simp[World.setCell]
 have gS:Fr aS s2 (s2.alloc (.cells #[.int .i64 1,.string ⟨#[]⟩,.int .i64 0] 30)):=(ae _ _).alloc _;have hra:=aC s2 (.cells #[.int .i64 1,.string ⟨#[]⟩,.int .i64 0] 30);obtain⟨x3,hx⟩:∃x3,x3=s2.alloc (.cells #[.int .i64 1,.string ⟨#[]⟩,.int .i64 0] 30):=⟨_,rfl⟩;have qk:=gS.keep qc id
 have ak4:=O (show x3.heap[v2.heap.size]?=some (.cells #[.int .i64 1,.string ⟨#[]⟩,.int .i64 0] 30 (0,0))from by rw[hx, <-hss];exact hra);have ak5:=O (show x3.heap[v1.heap.size]?=some (.cells #[.int .i64 3,.string ⟨#[]⟩,.int .i64 0] 30 (0,0))from by rw[hx];exact gS.keep (qd _ _ (by have:=JC.o;omega) yI) id);have Yg:=O MQ;have TG:=O (show cD w.heap.size x3 B pv3 lw2 by rw[hx];exact qa.dm gS)
 have JD:=O (show x3.heap[w3.heap.size]?=some (.cells (vw 1) 41 (0,0))by rw[hx];exact qk);have VI:=O (show Fr aS w x3 by rw[hx];exact qb.trans gS);rw[hs]at hx;have HY3:=O hx;have hzz:=JD.o;rw[hx]at hzz;have aq4:=O hzz;clear hx hs qa qb qc qd qk hra gS Te F7 hv XK hzz hp hss yI
 have HD3:=O (show aB 14 #[.pointer (some ⟨B,0,none⟩),.agg (vw 1)] x3 (fun e w'=>e=.returned (.agg #[.int .i64 1,.string ⟨#[66,97,115,105,99,32,100,84,112,119]⟩,.int .i64 0])/\dn w.heap.size x3 B pv3 lw3 w')from by
  have h:=IZ w.heap.size x3 B pv3 lw2 (O8 1) [] TG.o (Jn 1 x3 ag ag) LI2.o w HT.o (ay _) VI.o;rw[O9,O_,LE3.o]at h;exact h)
 go_wp2_with (first|((with_reducible refine di 24 ?_);refine aH rfl 41 (.tmp 2) rfl w3.heap.size rfl _ (vw 1) (0,0) _ aq4.o underlying41 rfl af ?_)|fail)
 rw[<-HY3.o];refine HD3.o.mono ?_;rintro e v3⟨rfl,hp⟩;obtain⟨pv4,hv,F7,XK⟩:=Ev TG.o VI.o (ay _) hp;have Te:=XK _ _ _ JD.o jl ag;have yI:=XK _ _ _ ak5.o dM ag;have ot:=XK _ _ _ ak4.o dM ag;have gS:Fr aS v3 (v3.alloc (.cells #[.int .i64 1,.string ⟨#[66,97,115,105,99,32,100,84,112,119]⟩,.int .i64 0] 30)):=(ae _ _).alloc _;have s1:=gS.keep yI id;have s2:=gS.keep ot id
 have q1:(v3.alloc (.cells #[.int .i64 1,.string ⟨#[66,97,115,105,99,32,100,84,112,119]⟩,.int .i64 0] 30)).cell? ⟨v1.heap.size,0,none⟩=some (.int .i64 3):=by simp only[World.cell?,s1];rfl
 have q2:(v3.alloc (.cells #[.int .i64 1,.string ⟨#[66,97,115,105,99,32,100,84,112,119]⟩,.int .i64 0] 30)).cell? ⟨v2.heap.size,0,none⟩=some (.int .i64 1):=by simp only[World.cell?,s2];rfl
 have heq:=MH 1 0 ⟨#[66,97,115,105,99,32,100,84,112,119]⟩;have HGR:=O (wL w.heap.size _ B pv4 lw3 (hv.dm gS) 0 ag (by rw[LE4.o];decide));have r_:=O (F7.alloc (.cells #[.int .i64 1,.string ⟨#[66,97,115,105,99,32,100,84,112,119]⟩,.int .i64 0] 30));clear s1 s2 gS Te F7 hv XK yI ot c0 z0 MQ hp;go_wp2_with fail
 refine HGR.o.mono ?_;rintro e u⟨gv,rfl,hgn,yg⟩;obtain⟨⟨rs,cR,Yn⟩,_⟩:=hgn;obtain⟨ga,gc,fJ⟩:=cR.at.form;rw[ai,Yn.len,LE4.o]at fJ;subst fJ;have HFE:=O (r_.o.trans yg);clear cR Yn yg HGR;go_wp2_with fail
 go_ret;exact⟨rfl,HFE.o⟩
def akq:jQ:=⟨0,⟨0,⟨false,.empty,0⟩,⟨false,.empty,0⟩,.empty,.empty,.empty,.slice none 0 0,false,.empty⟩,false,.empty,.empty,.empty,.empty,0,false,0⟩
def zeroV:qI:=⟨akq,[],.pointer none⟩
theorem Qr(o:jQ)(h:o.aJ.ey.oneCell'=true):∀u∈o.cells,u.oneCell'=true:=by
 generalize hv:o.aJ.ey.oneCell'=b at h;unfold jQ.cells gu.cells;intro u hu;by_cases e:u=o.aJ.ey
 ·rw[e,hv,h]
 ·simp only[List.cons_append,List.nil_append,bB,cz,dX,e,false_or]at hu;rcases hu with rfl|rfl|rfl|rfl|rfl|rfl|rfl|rfl|rfl|rfl|rfl|rfl|rfl|rfl|rfl|rfl|rfl|rfl|rfl|rfl|rfl<;>rfl
theorem Ac(x:wB)(v:qI)(h:v.o.aJ.ey.oneCell'=true)(hp:v.sp.oneCell'=true):(mV x v).toArray.all (·.oneCell')=true :=
 bX (by
  have ho:=Qr v.o h;intro u hu;unfold mV lh qp at hu;simp only[bB,bR,cz,dX]at hu;rcases hu with rfl|hu|hu
  ·rfl
  ·exact ho u hu
  ·rcases hu with rfl|rfl|rfl|hu
   ·rfl
   ·rfl
   ·exact hp
   ·rcases hu with hu|hu
    ·rcases hu with rfl|rfl|rfl|rfl|rfl|rfl|rfl|rfl|rfl|rfl|rfl|rfl|rfl|rfl|rfl|rfl<;>rfl
    ·rcases hu with rfl|rfl|rfl<;>rfl)
section
variable {xw : Option (Nat × dI)} {a U U' : World} {T : Nat} {t : iy}
theorem Bq(h:cO xw a U T t)(hi:lV t.w) :
  aB 16 #[.pointer (some ⟨T,0,none⟩)] U (GU a.heap.size U t.w):=by
 obtain⟨B,g,sv,sb,h1,h2,h3,h4⟩:=h.ex;obtain⟨pv,hw⟩:=h2.at (i:=6) (B:=B) (x:=t.w) rfl;have HC:=O (Bm _ _ _ _ _ hw hi.tP);have c:=h1.main;clear h h1 h2 h3 h4 hw hi;go_enter func16,ntmps16;go_wp2_with fail
 refine HC.o.mono ?_;rintro e u hu;obtain⟨N,qv,rfl,hc⟩:=hu;have HH:=O hc;clear hc;go_wp2;go_ret;exact⟨N,qv,rfl,HH.o⟩
end
theorem SF{D:Nat}{qd:Nat->cV}{f:dI}(h:cD base w B pv x)(hF:cD base w D qd f)(hs:lV f)(part:Int){c:Nat}(hc:c=0\/c=1\/c=4\/c=7\/c=8\/c=10) :
  aB 89 #[.pointer (some ⟨B,0,none⟩),.pointer (some ⟨D,0,none⟩),.int .i64 part,.int .i64 c] w fun e w'=>e=.returned (.tuple #[])/\dn base w B pv (kP x f part c) w':=by
 have TH:=O (Bm base w D qd f hF hs.tP);have HH:=O h;have uM:=h.lt;have o7:=O uM;have HC:=O hc;clear h hF hs hc;by_cases h0:part<0
 ·have h1:¬(0:Int)<=part:=ab;have HX:=O (show kP x f part c=x by unfold kP;rw[aq ab]);clear TH HC uM;go_enter func89,ntmps89;go_wp2
  try simp only[Exit.inBlock,Exit.then]
  refine aU (results_none rfl _ _ _) rfl ?_;rw[HX.o];exact⟨rfl,fA HH.o (ae _ _)⟩
 by_cases h4:4<=part
 ·have h1:(0:Int)<=part:=ab;have h5:¬part<4:=ab;have HX:=O (show kP x f part c=x by unfold kP;rw[aq ab]);clear TH HC uM;go_enter func89,ntmps89;go_wp2
  try simp only[Exit.inBlock,Exit.then]
  refine aU (results_none rfl _ _ _) rfl ?_;rw[HX.o];exact⟨rfl,fA HH.o (ae _ _)⟩
 obtain⟨i,hi,AB⟩:∃i:Nat,part=(i:Int)/\i<4:=⟨part.toNat,ab,ab⟩;subst hi;have M4:(i:Int)<4:=ab;have qA:¬(i:Int)<0:=ab;have Ny:¬(4:Int)<=(i:Int):=ab;have KP:(0:Int)<=(i:Int):=ab;have sU:=O AB;clear h0 h4;go_enter func89,ntmps89;go_wp2_with fail
 refine TH.o.mono ?_;rintro e u⟨N,qc,rfl,hcw,hu,hn⟩;have HCW:=O hcw;have HN:=O hn;have HU:=O (show∀n,Fr aS u (u.drewN n)from fun n=>dD n (ae aS u));have HWU:=O hu;clear hcw hu hn TH;go_wp2_with fail
 go_quiet (fail);have ui:=HU.o nq;generalize u.drewN nq=u1 at ui ⊢;have Qu:=O (HCW.o.dm ui);have IG:=O (HWU.o.trans ui);have hBN:¬B=N:=by have a1:=HN.o N (Or.inl rfl);omega
 have hNB:¬N=B:=fun e=>hBN e.symm;have htd:=fun(c:Nat) (b0 b1 b2 b3:Bool) (h0:c.testBit 0=b0) (h1:c.testBit 1=b1) (h2:c.testBit 2=b2) (h3:c.testBit 3=b3)=>SE HH.o IG.o Qu.o HN.o sU.o (part:=(i:Int)) rfl h0 h1 h2 h3;unfold Qt at htd;have hN:=Qu.o.partAt sU.o;have n0:=hN.cell0;have n1:=hN.h_;have n2:=hN.lT;have n3:u1.cell? ⟨N,12,none⟩=some (.int .i64 f.now):=by
  have j:=Qu.o.eL;simp only[World.cell?,j];rfl
 have hB:=(HH.o.dm IG.o).partAt sU.o;have b0:=hB.cell0;have b1:=hB.h_;have b2:=hB.lT;have b3:u1.cell? ⟨B,12,none⟩=some (.int .i64 x.now):=by
  have j:=(HH.o.dm IG.o).eL;simp only[World.cell?,j];rfl
 have f0:=hB.free (i*3);have f1:=hB.free (i*3+1);have f2:=hB.free (i*3+2);have f3:=hB.free 12;have aw9:B<u1.heap.size:=bj hB.eL;have aw_:N<u1.heap.size:=bj hN.eL;obtain⟨ca,ck,MV⟩:=(Qu.o.part i sU.o).dL.form;rw[ai]at MV;rw[MV]at n2 htd;have HTD:=O htd;clear htd;obtain⟨cb,cl,hcg⟩:=((HH.o.dm IG.o).part i sU.o).dL.form;rw[ai]at hcg;rw[hcg]at b2;clear hN hB ui Qu IG HU HWU HN HCW HH MV hcg uM
 rcases HC.o with rfl|rfl|rfl|rfl|rfl|rfl
 ·clear HC;go_wp2_with fail
  go_end0;exact⟨rfl,HTD.o _ false false false false ag ag ag ag⟩
 ·clear HC;go_wp2_with fail
  go_end0;exact⟨rfl,HTD.o _ true false false false ag ag ag ag⟩
 ·clear HC;go_wp2_with fail
  go_end0;exact⟨rfl,HTD.o _ false false true false ag ag ag ag⟩
 ·clear HC;go_wp2_with fail
  go_end0;exact⟨rfl,HTD.o _ true true true false ag ag ag ag⟩
 ·clear HC;go_wp2_with fail
  go_end0;exact⟨rfl,HTD.o _ false false false true ag ag ag ag⟩
 ·clear HC;go_wp2_with fail
  go_end0;exact⟨rfl,HTD.o _ false true false true ag ag ag ag⟩
