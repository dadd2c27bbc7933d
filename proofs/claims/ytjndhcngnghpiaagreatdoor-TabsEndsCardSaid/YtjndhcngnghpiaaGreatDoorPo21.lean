/- Lemmas for the law's walk. -/
import Derived.Test.YtjndhcngnghpiaaGreatDoorPo20
import Derived.Test.YtjndhcngnghpiaaGreatDoorTie
import Derived.Test.YtjndhcngnghpiaaGreatDoorCards
import Derived.LaidMore
import Derived.Lay
set_option maxRecDepth 100000
set_option maxHeartbeats 16000000
set_option linter.unusedSimpArgs false
namespace Go.Proofs.YtjndhcngnghpiaaGreatDoor
open Go.Proofs.Tryz
open Go.RowKit
variable {w:World} {v:Value} {ms:List sV} {u:gB} {i s:Nat} {k:Int}
def NP:kn:=⟨10,0,DA,DA,⟨#[47]⟩,⟨#[]⟩,⟨#[71,69,84]⟩,[],false,⟨#[]⟩,false,⟨#[]⟩,⟨#[]⟩,⟨#[]⟩,⟨#[]⟩,0,false,7⟩
def Zq:jB:=⟨10,⟨0,DA,DA,⟨#[47]⟩,⟨#[]⟩,⟨#[71,69,84]⟩,.slice none 0 0,false,⟨#[]⟩⟩,false,⟨#[]⟩,⟨#[]⟩,⟨#[]⟩,⟨#[]⟩,0,false,7⟩
def aiR:bS:= #[.int .i64 10,.int .i64 0,.bool true,.string ⟨#[97,46,116,101,115,116]⟩,.int .i64 443,.bool true,.string ⟨#[97,46,116,101,115,116]⟩,.int .i64 443,.string ⟨#[47]⟩,.string ⟨#[]⟩,.string ⟨#[71,69,84]⟩,.slice none 0 0,.bool false,.string ⟨#[]⟩,.bool false,.string ⟨#[]⟩,.string ⟨#[]⟩,.string ⟨#[]⟩,.string ⟨#[]⟩,.int .i64 0,.bool false,.int .i64 7]
theorem adR:Zq.dP []=NP:=rfl
theorem adS:Zq.cells.toArray=aiR:=rfl
theorem Zr(w:World):gL w Zq [] :=
 ⟨eb.nil _ _,⟨ag,ag,fun _ h=>by cases h⟩,ag,ag,ag,ag,ag,ag,ag,ag,ag,ag,ag,ag,ag,ag,ag,ag⟩
def rQ:Nat->gB
 |0=>(uZ xo 2 NP).1
 |k+1=>(jO (rQ k) 2).1
theorem Zs:(uZ xo 2 NP).2=0:=af
theorem aor:(jO (rQ 0) 2).2=(rep 0,false,0):=af
theorem aos:(jO (rQ 1) 2).2=(rep 0,false,0):=af
theorem aot:(jO (rQ 2) 2).2=(⟨1,⟨#[]⟩,0⟩,true,0):=af
theorem Rt:(rQ 3).fO.length=1:=af
theorem Zt:(rQ 3).w.now=7:=af
theorem zN(k:Nat):fP (1+2*(k:Int)) (rQ k)/\(rQ k).fO.length<=k:=by
 induction k with
 |zero=>exact⟨(fP.new.mM 2 NP ⟨ag,ag,ag⟩).mono ab,by show(uZ xo 2 NP).1.fO.length<=0;rw[F'];exact ay _⟩
 |succ k ih =>
  refine⟨(ih.1.step 2).mono ab,?_⟩;have:=yi (rQ k) 2;have:=ih.2;show(jO (rQ k) 2).1.fO.length<=k+1;omega
def adT(a:World)(T:Nat)(i:Value)(wr:World):Prop:=∃k:Nat,k<=2/\i=.int .i64 k/\di none a wr T (rQ k)
theorem adU(k:Nat)(i:Nat)(h:((rQ k).tab i).does=2)(hk:k<=2):((rQ k).tab i).op=NP:=by
 rcases(show k=0\/k=1\/k=2 from ab)with rfl|rfl|rfl
 ·by_cases e:i=2
  ·subst e;exact absurd h dp
  ·exfalso;have e':¬i=(2:Int).toNat:=e;have:((rQ 0).tab i).does=0:=by
    show((if i=(2:Int).toNat then _ else fN:ux)).does=0;rw[ar e'];rfl
   omega
 ·by_cases e:i=2
  ·subst e;rfl
  ·exfalso;have e':¬i=(2:Int).toNat:=e;have:((rQ 1).tab i).does=0:=by
    show((if i=(2:Int).toNat then _ else(if i=(2:Int).toNat then _ else fN):ux)).does=0;rw[ar e',ar e'];rfl
   omega
 ·by_cases e:i=2
  ·subst e;exact absurd h dp
  ·exfalso;have e':¬i=(2:Int).toNat:=e;have:((rQ 2).tab i).does=0:=by
    show((if i=(2:Int).toNat then _ else(if i=(2:Int).toNat then _ else(if i=(2:Int).toNat then _ else fN)):ux)).does=0;rw[ar e',ar e',ar e'];rfl
   omega
theorem Ru:NP.right=true:=af
theorem D5{a:World}{T k:Nat}(hk:k<=2)(ht:kL a)(h:di none a w T (rQ k)):aC 13 #[.pointer (some ⟨T,0,none⟩),.int .i64 2] w (oN none a w T (jO (rQ k) 2)) :=
 Lc h 2 (k:=1+2*(k:Int)) ab (zN k).1 (by have:=(zN k).2;omega) fun i _ hd V B pv o hs ho hw hf nI=>by
  have e:=adU k i hd hk;have:=O5 a.heap.size V B pv _ o hs hw nI ((zN k).1.seen i (Or.inl hd)) a ht (ay _) hf (by rw[ho,e];exact Ru) (by
   have:=aq kn.what (ho.trans e);exact this)
  rw[ho]at this;exact this
theorem Ll(a U:World)(hf:Fr aW a U)(ht:kL a):aC 6 #[] U fun e w'=>e=.returned (.bool true)/\Fr aW a w':=by
 have HT:=O ht;have HN:=O (Lb hf);clear ht hf;go_enter func6,ntmps6;go_wp2_with fail
 refine HN.o.mono ?_;rintro e u⟨T,rfl,h0, -⟩;have H0:=O h0;clear HN h0;go_wp2_with fail
 refine(Kj u).mono ?_;rintro e u1⟨rfl,dn⟩;unfold gy.cells DA;go_wp2_with fail
 refine(Kj u1).mono ?_;rintro e u2⟨rfl,dD⟩;unfold gy.cells DA;have hb:=wM (H0.o.dt (dn.trans dD)) 2 Zq [] (k:=0) ag fP.new (Zr u2) (fun h=>absurd rfl h) ag;rw[adR,adS,Zs]at hb;unfold aiR zy at hb;rw[aA rfl]at hb;have HB:=O hb;clear hb H0 dn dD;go_wp2_with fail
 refine HB.o.mono ?_;rintro e u3⟨rfl,h3, -⟩;have H3:=O (show di none a u3 T (rQ 0)from h3);clear h3 HB;go_wp2;go_loopw[21] (adT a T) (fun i _=>2-(intOf i).toNat)
 case atStart=>exact⟨0,ab,rfl,H3.o⟩
 case round =>
  obtain⟨k,hk,rfl,hT⟩:=hrel;clear H3;rcases(show k=0\/k=1\/k=2 from ab)with rfl|rfl|rfl
  ·have hs:=D5 ag HT.o hT;unfold oN at hs;rw[aor]at hs;have HS:=O hs;clear hs hT;go_wp2_with fail
   refine HS.o.mono ?_;rintro e u4⟨rfl,h4, -⟩;have H4:=O (show di none a u4 T (rQ 1)from h4);clear h4 HS;unfold rep zy;go_wp2;go_roundw
   case rel=>exact⟨1,ab,bf,H4.o.dt ((ae aW u4).alloc _)⟩
   case measure=>simp[intOf]
  ·have hs:=D5 ag HT.o hT;unfold oN at hs;rw[aos]at hs;have HS:=O hs;clear hs hT;go_wp2_with fail
   refine HS.o.mono ?_;rintro e u4⟨rfl,h4, -⟩;have H4:=O (show di none a u4 T (rQ 2)from h4);clear h4 HS;unfold rep zy;go_wp2;go_roundw
   case rel=>exact⟨2,ab,bf,H4.o.dt ((ae aW u4).alloc _)⟩
   case measure=>simp[intOf]
  ·have hs:=D5 ag HT.o hT;unfold oN at hs;rw[aot]at hs;have HS:=O hs;clear hs hT;go_wp2_with fail
   refine HS.o.mono ?_;rintro e u4⟨rfl,h4, -⟩;have H4:=O (show di none a u4 T (rQ 3)from h4);clear h4 HS;unfold zy;go_wp2_with fail
   have h5:=H4.o.dt ((ae aW u4).alloc (.cells #[.int .i64 1,.string ⟨#[]⟩,.int .i64 0] 46));have H5:=O h5;have lT:=O (Rs h5 (by have:=(zN 3).2;omega));clear h5 H4;refine lT.o.mono ?_;rintro e u5⟨sv,rfl,hev,lC⟩;obtain⟨es,e1,e2, -⟩:=hev;obtain⟨Zb,Zc,Vs⟩:=e2.form;have hel:es.length=1:=by
    have:=aq List.length e1;rw[aj,Rt]at this;exact this
   rw[aj,hel]at Vs;subst Vs;have h6:=H5.o.dt lC;have HW:=O (Q' h6 (zN 3).1.inv);have yj:=O h6.fr;clear e1 e2 hel lC h6 H5 lT;go_wp2_with fail
   refine HW.o.mono ?_;rintro e u6⟨C,qv,rfl,hc,nw, -⟩;have HN:=O (VT _ _ _ _ _ hc);rw[Zt]at HN;have Ih:=O (yj.o.trans nw);clear hc nw HW;go_wp2_with fail
   refine HN.o.mono ?_;rintro e u7⟨rfl,rfl⟩;go_wp2;go_ret;exact⟨rfl,Ih.o⟩
theorem wh.dt{w':World}(h:wh w v ms)(hf:Fr aW w w'):wh w' v ms:=⟨bG h.1 hf,h.2.1,fun m hm=>(h.2.2 m hm).dt hf⟩
def mvT(ms:List sV):gB:=yd (ms.map sV.dP)
theorem adZ(h:uC w v ms)(hl:ms.length<=150):fP 300 (mvT ms)/\(mvT ms).fO.length<=150:=by
 have:=Pc (ms.map sV.dP) (fun m hm=>by
  obtain⟨x,hx,rfl⟩:=cj.1 hm;exact zM (h.fit x hx))
 rw[aj]at this;exact⟨this.1.mono ab,by have:=this.2;unfold mvT;omega⟩
structure wX (u:gB) (i s:Nat) (k:Int):Prop where
 d:1<=(u.tab i).does
 r:wW (u.tab i)+s=12
 rf:fP k u
 st:(u.fO.length:Int)<=k
theorem wX.le(h:wX u i s k):s<=11:=by
 have:=Zl (h.rf.does i);have:=h.r;omega
theorem wX.mono{l:Int}(h:wX u i s k)(hl:k<=l):wX u i s l:=⟨h.d,h.r,h.rf.mono hl,by have:=h.st;omega⟩
theorem wX.new{t:gB}(hi:i<6)(o:kn)(h0:(t.tab i).does=0)(hf:fP k t)(hl:(t.fO.length:Int)<=k)(ho:o.user.size<=5000/\o.pass.size<=5000/\o.path.size<=5000):(uZ t i o).2=0/\wX (uZ t i o).1 i 0 (k+1):=by
 have D':=hf.mM i o ho;rw[Zv o hi h0]at D' ⊢;have e:(t.put i {fN with does:=1,op:=o,mM:=t.steps+1}).tab i={fN with does:=1,op:=o,mM:=t.steps+1}:=mD t i _;refine⟨rfl,?_,?_,D',?_⟩
 ·show 1<=((t.put i _).tab i).does;rw[e];exact ay 1
 ·show wW ((t.put i _).tab i)+0=12;rw[e];rfl
 ·show((t.fO.length:Nat):Int)<=k+1;omega
theorem wX.step(h:wX u i s k)(hi:i<6):(jO u i).2.2.2=0/\((jO u i).2.2.1=true\/((jO u i).2.2.1=false/\wX (jO u i).1 i (s+1) (k+2))):=by
 have hd:=h.d;have hr:=h.r;have hs:=h.st;have D':=h.rf.step i;have iM:=yi u i;rw[V1 hi ab]at D' iM ⊢;refine⟨rfl,?_⟩;rcases VJ hd (h.rf.does i) (h.rf.fails i)with q|⟨q1,q2,q3,q4,q5⟩
 ·exact Or.inl q
 ·have aut:(stepT u i).1.fO.length<=u.fO.length+1:=iM;exact Or.inr ⟨q1,q2,by show wW ((stepT u i).1.tab i)+(s+1)=12;omega,D',by show((stepT u i).1.fO.length:Int)<=k+2;omega⟩
theorem wX.move(h:wX u i s k)(m:Wu)(hm:m.tab≠(i:Int))(ho:m.op.user.size<=5000/\m.op.pass.size<=5000/\m.op.path.size<=5000):wX (sx u m) i s (k+2):=by
 have iM:=D4 u m;have hs:=h.st;exact⟨by rw[DY hm];exact h.d,by rw[DY hm];exact h.r,h.rf.move m ho,ab⟩
def aiZ(a:World)(T i:Nat)(kv sv:Value)(W:World):Prop:=∃s:Nat,sv=.int .i64 ((s:Int)+1)/\kv=.int .i64 ((4*s:Nat):Int)/\∃u,di none a W T u/\wX u i s (301+10*(s:Int))
def aou(a:World)(T i s:Nat)(kv jv:Value)(W:World):Prop:=∃j:Nat,j<=4/\jv=.int .i64 j/\kv=.int .i64 ((4*s+j:Nat):Int)/\∃u,di none a W T u/\wX u i (s+1) (303+10*(s:Int)+2*(j:Int))
theorem EC(v:Value)(ms:List sV)(v2:Value)(ms2:List sV)(n:Int)(o:jB)(hs:List gU)(w:World)(st0:wh w v ms)(st2:wh w v2 ms2)(st1:sD w o hs)(pw:xh w)(md:tZ w)(sh:t_ w)(db:oC w 9 .u8 RJ) :
  aC 3 #[v,v2,.int .i64 n,.agg o.cells.toArray] w fun e w'=>e=.returned (.bool true)/\Below w.heap.size w w':=by
 have ht:kL w:=⟨⟨db,md,sh⟩,pw⟩;obtain⟨av,cv,hv2⟩:=dN st2.1;rw[aj]at hv2;subst hv2;obtain⟨ah,ch,gq⟩:=dN st1.aI.ef;rw[aj]at gq;obtain⟨w0,UJ⟩:∃w0,w0=w.alloc (.cells o.cells.toArray 33):=⟨_,rfl⟩;have oQ:Fr aW w w0:=by rw[UJ];exact(ae aW w).alloc _
 have k0:w0.heap[w.heap.size]?=some (.cells o.cells.toArray 33 (0,0)):=by rw[UJ];exact aB _ _
 have HT:=O ht;have lg:=O gq;have BI:=O oQ;have HA1:=O st1;have lT:=O st0;have ad0:=O st2
 have HKO:=O (show∀U,Fr aW w0 U->U.heap[w.heap.size]?=some (.cells #[.int .i64 o.what,.int .i64 o.aI.part,.bool o.aI.cQ.aG,.string o.aI.cQ.host,.int .i64 o.aI.cQ.port,.bool o.aI.o.aG,.string o.aI.o.host,.int .i64 o.aI.o.port,.string o.aI.path,.string o.aI.query,.string o.aI.method,.slice ah hs.length ch,.bool o.aI.fF,.string o.aI.body,.bool o.proxy,.string o.text,.string o.user,.string o.pass,.string o.bI,.int .i64 o.cert,.bool o.all,.int .i64 o.n] 33 (0,0))from fun U hU=>by
  have q:=hU.keep k0 id
  rwa [dV gq]at q)
 have Ry:=O (show∀U n t,Fr aW w U->U.heap[n]?=some (.cells #[.int .i64 o.what,.int .i64 o.aI.part,.bool o.aI.cQ.aG,.string o.aI.cQ.host,.int .i64 o.aI.cQ.port,.bool o.aI.o.aG,.string o.aI.o.host,.int .i64 o.aI.o.port,.string o.aI.path,.string o.aI.query,.string o.aI.method,.slice ah hs.length ch,.bool o.aI.fF,.string o.aI.body,.bool o.proxy,.string o.text,.string o.user,.string o.pass,.string o.bI,.int .i64 o.cert,.bool o.all,.int .i64 o.n] t (0,0))->aC 8 #[.slice (some ⟨n,0,none⟩) 1 1] U fun e w'=>e=.returned (.bool (!pZ (o,hs)))/\Fr aW U w' from fun U n t hU hb=>by
  have h:=Ln _ [(o,hs)] U (D3.one (st1.fr hU) gq (by rw[dV gq];exact hb));rw[Gc]at h;exact h)
 have xy:=O (Ll w0 w0 (ae _ _) (ht.fr oQ));rw[dV gq]at UJ ⊢;have HW0:=O UJ;clear UJ gq oQ k0 st0 st1 st2 ht pw md sh db;go_enter func3,ntmps3;go_wp2_with fail
 rw[<-HW0.o];refine xy.o.mono ?_;rintro e y1⟨rfl,h1⟩;have H1:=O h1;have HM:=O (Gd v ms y1 (lT.o.dt (BI.o.trans h1)));clear h1 xy;go_wp2_with fail
 refine HM.o.mono ?_;rintro e y2⟨rfl,h2⟩;have H2:=O (H1.o.trans h2);clear h2 H1 HM;cases hm:uD ms
 ·clear hm;go_wp2;go_ret;exact⟨rfl,(BI.o.trans H2.o).nE⟩
 have U_:=O hm;have HM:=O (Gd (.slice av ms2.length cv) ms2 y2 (ad0.o.dt (BI.o.trans H2.o)));clear hm;go_wp2_with fail
 refine HM.o.mono ?_;rintro e y3⟨rfl,h3⟩;have H3:=O (H2.o.trans h3);have Na:=O (HKO.o _ H3.o);clear h3 H2 HM;cases Ea:uD ms2
 ·clear Ea;go_wp2;go_ret;exact⟨rfl,(BI.o.trans H3.o).nE⟩
 have YX:=O Ea;clear Ea
 go_wp2_with (first|((with_reducible refine dv 26 ?_);refine AH bw 33 (.tmp 7) rfl w.heap.size rfl _ #[.int .i64 o.what,.int .i64 o.aI.part,.bool o.aI.cQ.aG,.string o.aI.cQ.host,.int .i64 o.aI.cQ.port,.bool o.aI.o.aG,.string o.aI.o.host,.int .i64 o.aI.o.port,.string o.aI.path,.string o.aI.query,.string o.aI.method,.slice ah hs.length ch,.bool o.aI.fF,.string o.aI.body,.bool o.proxy,.string o.text,.string o.user,.string o.pass,.string o.bI,.int .i64 o.cert,.bool o.all,.int .i64 o.n] (0,0) _ Na.o underlying33 rfl af ?_)|fail)
 obtain⟨y4,hy4⟩:∃y4,y4=y3.alloc (.cells #[.int .i64 o.what,.int .i64 o.aI.part,.bool o.aI.cQ.aG,.string o.aI.cQ.host,.int .i64 o.aI.cQ.port,.bool o.aI.o.aG,.string o.aI.o.host,.int .i64 o.aI.o.port,.string o.aI.path,.string o.aI.query,.string o.aI.method,.slice ah hs.length ch,.bool o.aI.fF,.string o.aI.body,.bool o.proxy,.string o.text,.string o.user,.string o.pass,.string o.bI,.int .i64 o.cert,.bool o.all,.int .i64 o.n] 33):=⟨_,rfl⟩
 have kz:Fr aW y3 y4:=by rw[hy4];exact(ae _ _).alloc _
 have H4:=O (H3.o.trans kz)
 have tC:=aB y3 (.cells #[.int .i64 o.what,.int .i64 o.aI.part,.bool o.aI.cQ.aG,.string o.aI.cQ.host,.int .i64 o.aI.cQ.port,.bool o.aI.o.aG,.string o.aI.o.host,.int .i64 o.aI.o.port,.string o.aI.path,.string o.aI.query,.string o.aI.method,.slice ah hs.length ch,.bool o.aI.fF,.string o.aI.body,.bool o.proxy,.string o.text,.string o.user,.string o.pass,.string o.bI,.int .i64 o.cert,.bool o.all,.int .i64 o.n] 33)
 rw[<-hy4]at tC ⊢;clear hy4 kz;refine(Ry.o _ _ _ (BI.o.trans H4.o) tC).mono ?_;rintro e y5⟨rfl,h5⟩;have H5:=O (H4.o.trans h5);clear h5 tC Ry Na;cases ZE:pZ (o,hs)
 case true =>
  clear ZE;go_wp2;go_ret;exact⟨rfl,(BI.o.trans H5.o).nE⟩
 have HFT:=O (show∀U,Fr aW w U->gL U o hs from fun U hU=>gL.aiW (HA1.o.fr hU) ZE);have HPK:=O (R9 n 6 y5 ag ag);obtain⟨i,hi,hi6⟩:∃i:Nat,Cc n 6=(i:Int)/\i<6:=by
  have q:=AI n 6 ag;exact⟨(Cc n 6).toNat,ab,ab⟩
 rw[hi]at HPK;clear ZE hi;go_wp2_with fail
 refine HPK.o.mono ?_;rintro e y6⟨rfl,rfl⟩;obtain⟨nI,hlen⟩:=uC.of (lT.o.dt (BI.o.trans H5.o)) U_.o;obtain⟨aa2,Fe⟩:=uC.of (ad0.o.dt (BI.o.trans H5.o)) YX.o;obtain⟨rf,Tb⟩:=adZ nI hlen;have BL:=O rf;have aa4:=O aa2;have arb:=O Fe;have HRN:=O (Zn (ae aW y5) nI ab (HT.o.fr (BI.o.trans H5.o)));clear nI hlen aa2 Fe rf HPK U_ YX lT ad0;go_wp2_with fail
 refine HRN.o.mono ?_;rintro e y7⟨T,rfl,h7⟩;have H7:=O (show di none y5 y7 T (mvT ms)from h7);have HSL:=O Tb;generalize mvT ms=t at *
 have HDS:=O (aiY H7.o i hi6);clear h7 HRN Tb;go_wp2_with fail
 refine HDS.o.mono ?_;rintro e y8⟨rfl,rfl⟩;clear HDS;by_cases hd:(t.tab i).does=0
 case neg =>
  have vN:¬(((t.tab i).does:Nat):Int)=0:=ab;have PH:=O ((BI.o.trans H5.o).trans H7.o.fr);clear hd;go_wp2;go_ret;exact⟨rfl,PH.o.nE⟩
 have vN:(((t.tab i).does:Nat):Int)=0:=ab;have HB9:=O (HKO.o _ (H5.o.trans H7.o.fr));have ZE:=wM H7.o (i:Int) o hs (k:=300) ag BL.o (HFT.o _ ((BI.o.trans H5.o).trans H7.o.fr)) (AG (HFT.o _ (BI.o.trans H5.o)) H7.o.low) (HFT.o _ (BI.o.trans H5.o)).aI.2.1;have Qc:=wX.new hi6 (o.dP hs) hd BL.o (by have:=HSL.o;omega) (zM (HFT.o _ (BI.o.trans H5.o)))
 rw[dV lg.o,Qc.1,show zy 0=Value.nilIface from rfl]at ZE;have HBG:=O ZE;have HNW:=O Qc.2;clear ZE Qc hd;go_wp2_with (first
  |((with_reducible refine dv 43 ?_);refine aJ rfl 33 (.tmp 7) rfl w.heap.size rfl _ #[.int .i64 o.what,.int .i64 o.aI.part,.bool o.aI.cQ.aG,.string o.aI.cQ.host,.int .i64 o.aI.cQ.port,.bool o.aI.o.aG,.string o.aI.o.host,.int .i64 o.aI.o.port,.string o.aI.path,.string o.aI.query,.string o.aI.method,.slice ah hs.length ch,.bool o.aI.fF,.string o.aI.body,.bool o.proxy,.string o.text,.string o.user,.string o.pass,.string o.bI,.int .i64 o.cert,.bool o.all,.int .i64 o.n] (0,0) _ HB9.o underlying33 rfl af ?_)
  |fail)
 refine HBG.o.mono ?_;rintro e y12⟨rfl,h12, -⟩;have H12:=O h12;generalize (uZ t (i:Int) (o.dP hs)).1=u0 at *
 clear h12 HBG HB9 vN H7 HKO lg HA1;go_wp2_with fail
 go_loopw[10,11] (fun kv sv W=>aiZ y5 T i kv sv W) (fun _ sv _=>13-(intOf sv).toNat)
 case atStart=>exact⟨0,rfl,rfl,u0,H12.o,HNW.o⟩
 case round =>
  obtain⟨s,rfl,rfl,u,hT,hu⟩:=hrel;have auv:=hu.le;have iM:=DZ hT (i:Int) (k:=301+10*(s:Int)) ab hu.rf (by have:=hu.st;omega) (HT.o.fr (BI.o.trans H5.o));obtain⟨q1,q2⟩:=hu.step hi6;unfold oN at iM;rw[q1,show zy 0=Value.nilIface from rfl]at iM;clear q1 H12 HNW;generalize jO u (i:Int)=rr at iM q2;have HS:=O iM;clear iM hT hu;go_wp2_with fail
  refine HS.o.mono ?_;rintro e y16⟨rfl,V9, -⟩;obtain⟨M,hM⟩:∃M,M=y16.heap.size:=⟨_,rfl⟩;have HMB:=O (show(y16.alloc (.cells #[.int .i64 0,.string ⟨#[]⟩,.int .i64 0] 46)).heap[M]?=some (.cells #[.int .i64 0,.string ⟨#[]⟩,.int .i64 0] 46 (0,0))from by rw[hM];exact aB _ _)
  obtain⟨y17,ad1⟩:∃W,W=(y16.alloc (.cells #[.int .i64 0,.string ⟨#[]⟩,.int .i64 0] 46)).setRow M #[.int .i64 rr.2.1.what,.string rr.2.1.head,.int .i64 rr.2.1.cert]:=⟨_,rfl⟩;have ai0:Fr aW y16 y17:=by rw[ad1];exact iZ ((ae aW y16).alloc _) (by rw[hM];exact ay _) _
  have H17:=O (V9.dt ai0);have HM:=O hM;have ad3:=O ad1;clear V9 hM ai0 ad1 HS;rcases q2 with q2|⟨q2,q3⟩
  ·rw[q2];clear q2;go_wp2_with (first
    |((with_reducible refine kA ⟨none,.store 46 _ _,_,_,_,_⟩ ?_)
      rw[<-HM.o]
      refine aF rfl 46 (.tmp 12) (.tmp 54) rfl M #[.int .i64 rr.2.1.what,.string rr.2.1.head,.int .i64 rr.2.1.cert] rfl rfl 46 #[.int .i64 0,.string ⟨#[]⟩,.int .i64 0] HMB.o (bd _ rfl) rfl bX ?_
      rw[<-ad3.o])
    |fail)
   go_ret;exact⟨rfl,((BI.o.trans H5.o).trans H17.o.fr).nE⟩
  ·rw[q2];have HQ:=O q3;clear q2 q3;go_wp2_with (first
    |((with_reducible refine kA ⟨none,.store 46 _ _,_,_,_,_⟩ ?_)
      rw[<-HM.o]
      refine aF rfl 46 (.tmp 12) (.tmp 54) rfl M #[.int .i64 rr.2.1.what,.string rr.2.1.head,.int .i64 rr.2.1.cert] rfl rfl 46 #[.int .i64 0,.string ⟨#[]⟩,.int .i64 0] HMB.o (bd _ rfl) rfl bX ?_
      rw[<-ad3.o])
    |fail)
   go_loopw[10,67] (fun kv jv W=>aou y5 T i s kv jv W) (fun _ jv _=>4-(intOf jv).toNat)
   case atStart=>exact⟨0,ab,rfl,rfl,_,H17.o,HQ.o.mono ab⟩
   case round =>
    obtain⟨j,hj,rfl,rfl,u2,NR,lD⟩:=hrel;clear H17 HQ HMB HM ad3;by_cases hj4:j<4
    ·obtain⟨kk,hkk⟩:∃kk,kk=4*s+j:=⟨_,rfl⟩;rw[<-hkk];have HKK:=O hkk;have Lv:kk<=48:=ab;clear hkk;by_cases RG:kk<ms2.length
     ·have dL:=aa4.o.rows;rcases dL.2 with ⟨_,_,_,e,_⟩|⟨bk,o0,c,hf,g1,g2,g3,g4⟩
      ·have:ms2=[]:=by simpa using e
       subst this;exact absurd RG (cq _)
      ·rw[aj]at hf;cases hf;have hx:=List.getElem?_eq_getElem RG;generalize ms2[kk]=x at hx;have gM:x∈ms2:=cA hx;have nI:=aa4.o.fit x gM;obtain⟨kd,tb,o2,Ci⟩:=x;have nv:=zM nI;have c0:wr.cell? ⟨bk,o0+kk*24,none⟩=some (.int .i64 kd):=lO (g4 kk _ (by rw[List.getElem?_map,hx];rfl) 0 _ rfl) NR.fr id
       have c1:wr.cell? ⟨bk,o0+kk*24+1,none⟩=some (.int .i64 tb):=lO (g4 kk _ (by rw[List.getElem?_map,hx];rfl) 1 _ rfl) NR.fr id;have HE:=O (show∀V,Fr aW y5 V->V.cell? ⟨bk,o0+kk*24+1,none⟩=some (.int .i64 tb)/\V.rangeAt bk (o0+kk*24+2) o2.cells from fun V hV=>⟨lO (g4 kk _ (by rw[List.getElem?_map,hx];rfl) 1 _ rfl) hV id,ka (p:=[_,_]) (q:=o2.cells) (r:=[]) (fun q v hq=>by
        rw[dI]at hq;exact lO (g4 kk _ (by rw[List.getElem?_map,hx];rfl) q v hq) hV id)⟩)
       have BG:=O nI;have HOLD:=O (AG nI NR.low);have HT2:=O NR;by_cases htb:tb=(i:Int)
       ·have hne:(tb !=(i:Int))=false:=by simp[htb]
        have p_:=O lD;clear dL hx gM nI g4 NR lD nv;go_wp2_with fail
        go_roundw
        case rel=>exact⟨j+1,ab,bf,by rw[show 4*s+(j+1)=kk+1 by rw[HKK.o];omega];go_num,u2,HT2.o,p_.o.mono ab⟩
        case measure=>simp[intOf];omega
       ·have hne:(tb !=(i:Int))=true:=by simp[htb]
        by_cases lI:kd=1
        ·subst lI;have hmv:=lD.move ⟨1,tb,o2.dP Ci⟩ htb nv;rw[show sx u2 ⟨1,tb,o2.dP Ci⟩=(uZ u2 tb (o2.dP Ci)).1 from rfl]at hmv;have p_:=O hmv;have HB:=O (fun V (hV:Fr aW wr V)=>wM (NR.dt hV) tb o2 Ci (k:=303+10*(s:Int)+2*(j:Int)) ab lD.rf (nI.dt (NR.fr.trans hV)) HOLD.o nI.aI.2.1);clear dL hx gM nI g4 NR lD nv hmv;go_wp2_with fail
         refine wp_region_held_drew (S:=(fun V=>V.cell? ⟨bk,o0+kk*24+1,none⟩=some (.int .i64 tb)/\V.rangeAt bk (o0+kk*24+2) o2.cells)) af (HE.o _ HT2.o.fr.drew) ?_;intro yl;refine aO 0 89 rfl ?_;refine aO 1 90 rfl ?_;refine aO 2 91 rfl ?_;refine aO 3 92 rfl ?_;refine aO 4 93 rfl ?_;refine aO 5 94 rfl ?_;refine aO 6 95 rfl ?_;refine aO 7 96 rfl ?_;refine aO 8 97 rfl ?_;refine aO 9 98 rfl ?_
         refine uz 10 99 rfl (fR bw 33 (.tmp 98) rfl bk (o0+kk*24+2) rfl o2.cells _ (fun V hV=>hV.2) underlying33 rfl af) ?_
         try simp only[Act.put,sA,sB,sC]
         clear yl;refine eK 11 rfl fun K hK=>?_;refine wB rfl 12 _ (by go_simp) (HB.o wr.drew (ae aW wr).drew) ?_;rintro e w5⟨rfl,p1, -⟩;refine⟨_,rfl,?_⟩;refine hK.out _ _ (HE.o _ p1.fr) ?_;intro wU;clear hK wU K;refine wpAnyH_done af ?_ _;have HP:=O p1;clear p1;go_wp2_with fail
         go_roundw
         case rel=>exact⟨j+1,ab,bf,by rw[show 4*s+(j+1)=kk+1 by rw[HKK.o];omega];go_num,_,HP.o,p_.o.mono ab⟩
         case measure=>simp[intOf];omega
        ·by_cases LY:kd=0
         ·subst LY;have hmv:=lD.move ⟨0,tb,o2.dP Ci⟩ htb nv;rw[show sx u2 ⟨0,tb,o2.dP Ci⟩=(jO u2 tb).1 from rfl]at hmv;have p_:=O hmv;have iM:=DZ NR tb (k:=303+10*(s:Int)+2*(j:Int)) ab lD.rf (by have:=lD.st;omega) (HT.o.fr (BI.o.trans H5.o));unfold oN at iM;generalize jO u2 tb=r2 at iM p_;have HS:=O iM;clear dL hx gM nI g4 NR lD nv hmv iM;go_wp2_with fail
          refine HS.o.mono ?_;rintro e y20⟨rfl,h20, -⟩;have H20:=O h20;clear h20 HS;go_wp2_with fail
          go_roundw
          case rel=>exact⟨j+1,ab,bf,by rw[show 4*s+(j+1)=kk+1 by rw[HKK.o];omega];go_num,_,H20.o,p_.o.mono ab⟩
          case measure=>simp[intOf];omega
         ·have p_:=O lD;clear dL hx gM nI g4 NR lD nv;go_wp2_with fail
          go_roundw
          case rel=>exact⟨j+1,ab,bf,by rw[show 4*s+(j+1)=kk+1 by rw[HKK.o];omega];go_num,u2,HT2.o,p_.o.mono ab⟩
          case measure=>simp[intOf];omega
     ·have p_:=O lD;have HT2:=O NR;clear lD NR;go_wp2_with fail
      go_roundw
      case rel=>exact⟨j+1,ab,bf,by rw[show 4*s+(j+1)=kk+1 by rw[HKK.o];omega];go_num,u2,HT2.o,p_.o.mono ab⟩
      case measure=>simp[intOf];omega
    ·obtain rfl:j=4:=ab;have p_:=O lD;have HT2:=O NR;clear lD NR;go_wp2_with fail
     go_roundw
     case rel=>exact⟨s+1,bf,bf,u2,HT2.o,p_.o.mono ab⟩
     case measure=>simp[intOf];omega
end Go.Proofs.YtjndhcngnghpiaaGreatDoor
namespace Go.Proofs.YtjndhcngnghpiaaGreatDoor.tabsEnds
open Go.Proofs.Tryz
open Go.ChangeShapes Go.WideShapes Go.ChangeAt Go.RowKit
open Go.ChangeMaps (open_string shut_string)
theorem own:ownKnob prog.godebug=none:=af
theorem laidOut:laidOutB prog=true:=af
theorem lifted(os:Os)(started:os.Started)(H:Type)(enc:TypeId×Value->H) :
  ReturnsInHanded {} Tryz.checked os 3 .any (fun w args=>(Rows.tabsEndsSpec.pre enc prog Tryz.f3 Rows.tabsEndsRow.domain false w args/\laidMetH prog Rows.tabsEndsRow.laid w)/\sizedMet enc prog Tryz.f3 (OpenSpec.ofChange Rows.tabsEndsSpec) false w args)
   (Rows.tabsEndsSpec.post enc prog Tryz.f3 false true false false):=by
 refine returnsInHanded_of_change_and (C:=Tryz.checked) (X:=fun w _=>laidMetH prog Rows.tabsEndsRow.laid w) (fun _ _ _ hh h=>h.of_heap hh) own started af func3
  (ChangeSpec.witness_shaped (enc:=enc) (C:=Tryz.checked) (os:=os) (X:=fun w _=>laidMetH prog Rows.tabsEndsRow.laid w) false (World.laidAll prog os Rows.tabsEndsRow.laid) #[.slice none 0 0,.slice none 0 0,.int .i64 0,.agg #[.int .i64 0,.int .i64 0,.bool false,.string ByteArray.empty,.int .i64 0,.bool false,.string ByteArray.empty,.int .i64 0,.string ByteArray.empty,.string ByteArray.empty,.string ByteArray.empty,.slice none 0 0,.bool false,.string ByteArray.empty,.bool false,.string ByteArray.empty,.string ByteArray.empty,.string ByteArray.empty,.string ByteArray.empty,.int .i64 0,.bool false,.int .i64 0]] 8 (World.laidAll_os _ _ _)
   (World.shaped_of_ZipB af af) af af af
   (by rw[MakeChecks.laidMetH_plain _ _ _ af];exact laidMet_laidAll _ af af)) ?_
 intro W base args ds gs before aa7 hW _ ai1 hL _;have xx:(DataW.weightsEach prog (Tryz.f3.params.toList++Rows.tabsEndsSpec.plain.varTypes prog) (ds++gs)).all (· <=reachBytes)=true:=ai1;clear ai1;have hval:∀(j:Nat) t v,Tryz.f3.params[j]?=some t->args[j]?=some v->Value.okWide prog W .any base t v:=aa7;have hW':=hW;obtain⟨p,q,hA0,hV,rfl,_,_⟩:=hW
 have hA:DataW.TrodAll enc prog W 0 (fun _=>true) true Tryz.f3.params.toList args.toList ds p:=hA0;rw[Tryz.params3]at hA hval xx;obtain⟨v0,vs0,d0,ds0,p0,q0,arl,rfl,rfl,h0,r0⟩:=trodAll_cons hA;obtain⟨v1,vs1,d1,ds1,p1,q1,rfl,rfl,rfl,h1,r1⟩:=trodAll_cons r0;obtain⟨v2,vs2,d2,ds2,p2,q2,rfl,rfl,rfl,h2,r2⟩:=trodAll_cons r1;obtain⟨v3,vs3,d3,ds3,p3,q3,rfl,rfl,rfl,h3,r3⟩:=trodAll_cons r2
 obtain⟨rfl,rfl,rfl⟩:=trodAll_nil r3;obtain rfl:args= #[v0,v1,v2,v3]:=by cases args;simp_all
 obtain⟨rfl,rfl⟩:=trodVars_none hV;have k0:=h0;have lt0:∀x∈p0,x.block<W.heap.size:=by obtain⟨m,hm⟩:=k0;exact DataW.trod_lt m _ _ _ hm
 obtain⟨ss0,st0⟩:=Bn (hval 0 22 v0 rfl rfl) h0 (D0 xx (j:=0) (t:=22) rfl rfl);have k1:=h1;have lt1:∀x∈p1,x.block<W.heap.size:=by obtain⟨m,hm⟩:=k1;exact DataW.trod_lt m _ _ _ hm
 obtain⟨ss1,st1⟩:=Bn (hval 1 22 v1 rfl rfl) h1 (D0 xx (j:=1) (t:=22) rfl rfl);obtain⟨a2,rfl,rfl,rfl,w2⟩:=open_int underlying3 (hval 2 3 v2 rfl rfl) h2;have k3:=h3;have lt3:∀x∈p3,x.block<W.heap.size:=by obtain⟨m,hm⟩:=k3;exact DataW.trod_lt m _ _ _ hm
 obtain⟨o3,ss3,rfl,st3⟩:=NN (hval 3 33 v3 rfl rfl) h3 (D0 xx (j:=3) (t:=33) rfl rfl);clear hA0 aa7;rw[MakeChecks.laidMetH_plain _ _ _ af]at hL;have tb0:=Mn hL (by refine⟨?_,?_⟩<;>repeat(first|exact True.intro|exact List.Mem.head _|refine List.Mem.tail _ ?_));have tb1:=JG hL (by refine⟨?_,?_⟩<;>repeat(first|exact True.intro|exact List.Mem.head _|refine List.Mem.tail _ ?_))
 have tb2:=JH hL (by refine⟨?_,?_⟩<;>repeat(first|exact True.intro|exact List.Mem.head _|refine List.Mem.tail _ ?_));have tb3:=Me hL (by refine⟨?_,?_⟩<;>repeat(first|exact True.intro|exact List.Mem.head _|refine List.Mem.tail _ ?_));refine(EC _ ss0 _ ss1 a2 o3 ss3  W st0 st1 st3 tb0 tb1 tb2 tb3).mono fun e W' ⟨he,qT⟩=>?_;subst he
 exact⟨_,rfl,_,_,_,[],_,[],hW',trodAll_mk1 (shut_bool underlying4 _),(trodAll_cons_mk (Below.trod laidOut af (of_decide_eq_true af) k0 qT lt0) (trodAll_cons_mk (Below.trod laidOut af (of_decide_eq_true af) k1 qT lt1) (trodAll_cons_mk (shut_int underlying3 w2) (trodAll_cons_mk (Below.trod laidOut af (of_decide_eq_true af) k3 qT lt3) trodAll_mk0)))),rfl,qT.frame _,fun h=>by cases h⟩
end Go.Proofs.YtjndhcngnghpiaaGreatDoor.tabsEnds
