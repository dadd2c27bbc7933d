/- Lemmas for the law's walk. -/
import Derived.Test.YtnckmcnffadjoaaGreatDoorPk18
set_option maxRecDepth 100000
set_option maxHeartbeats 16000000
set_option linter.unusedSimpArgs false
namespace Go.Proofs.YtnckmcnffadjoaaGreatDoor
open Go.Proofs.Tryz
open Go.RowKit
variable {w:World} {m:tF}
def akT:jO:=⟨0,⟨0,⟨false,.empty,0⟩,⟨false,.empty,0⟩,.empty,.empty,.empty,.slice none 0 0,false,.empty⟩,false,.empty,.empty,.empty,.empty,0,false,0⟩
def zeroV:rC:=⟨akT,[],.pointer none⟩
theorem QV(o:jO)(h:o.aN.eB.oneCell'=true):∀u∈o.cells,u.oneCell'=true:=by
 generalize hv:o.aN.eB.oneCell'=b at h;unfold jO.cells gC.cells;intro u hu;by_cases e:u=o.aN.eB
 ·rw[e,hv,h]
 ·simp only[List.cons_append,List.nil_append,bC,cA,dY,e,false_or]at hu;rcases hu with rfl|rfl|rfl|rfl|rfl|rfl|rfl|rfl|rfl|rfl|rfl|rfl|rfl|rfl|rfl|rfl|rfl|rfl|rfl|rfl|rfl<;>rfl
theorem AE(x:vo)(v:rC)(h:v.o.aN.eB.oneCell'=true)(hp:v.sp.oneCell'=true):(nj x v).toArray.all (·.oneCell')=true :=
 b_ (by
  have ho:=QV v.o h;intro u hu;unfold nj lu pC at hu;simp only[bC,bL,cA,dY]at hu;rcases hu with rfl|hu|hu
  ·rfl
  ·exact ho u hu
  ·rcases hu with rfl|rfl|rfl|hu
   ·rfl
   ·rfl
   ·exact hp
   ·rcases hu with hu|hu
    ·rcases hu with rfl|rfl|rfl|rfl|rfl|rfl|rfl|rfl|rfl|rfl|rfl|rfl|rfl|rfl|rfl|rfl<;>rfl
    ·rcases hu with rfl|rfl|rfl<;>rfl)
section
variable {xw : Option (Nat × dD)} {a U U' : World} {T : Nat} {t : fB}
theorem H2(h:df xw a U T t)(hi:lr t.w) :
  aB 16 #[.pointer (some ⟨T,0,none⟩)] U (Hq a.heap.size U t.w):=by
 obtain⟨B,g,sv,sb,h1,h2,h3,h4⟩:=h.ex;obtain⟨pv,hw⟩:=h2.at (i:=6) (B:=B) (x:=t.w) rfl;have HC:=O (BH _ _ _ _ _ hw hi.sZ);have c:=h1.main;clear h h1 h2 h3 h4 hw hi;go_enter func16,ntmps16;go_wp2_with fail
 refine HC.o.mono ?_;rintro e u hu;obtain⟨N,qv,rfl,hc⟩:=hu;have HH:=O hc;clear hc;go_wp2;go_ret;exact⟨N,qv,rfl,HH.o⟩
end
theorem Tm{base:Nat}{B D:Nat}{pv qd:Nat->cY}{x f:dD}(h:cE base w B pv x)(hF:cE base w D qd f)(hs:lr f)(part:Int){c:Nat}(hc:c=0\/c=1\/c=4\/c=7\/c=8\/c=10) :
  aB 89 #[.pointer (some ⟨B,0,none⟩),.pointer (some ⟨D,0,none⟩),.int .i64 part,.int .i64 c] w fun e w'=>e=.returned (.tuple #[])/\dp base w B pv (kh x f part c) w':=by
 have Ua:=O (BH base w D qd f hF hs.sZ);have HH:=O h;have vd:=h.lt;have pn:=O vd;have HC:=O hc;clear h hF hs hc;by_cases h0:part<0
 ·have h1:¬(0:Int)<=part:=ab;have HX:=O (show kh x f part c=x by unfold kh;rw[aq ab]);clear Ua HC vd;go_enter func89,ntmps89;go_wp2
  try simp only[Exit.inBlock,Exit.then]
  refine aW (results_none rfl _ _ _) rfl ?_;rw[HX.o];exact⟨rfl,fE HH.o (ae _ _)⟩
 by_cases h4:4<=part
 ·have h1:(0:Int)<=part:=ab;have h5:¬part<4:=ab;have HX:=O (show kh x f part c=x by unfold kh;rw[aq ab]);clear Ua HC vd;go_enter func89,ntmps89;go_wp2
  try simp only[Exit.inBlock,Exit.then]
  refine aW (results_none rfl _ _ _) rfl ?_;rw[HX.o];exact⟨rfl,fE HH.o (ae _ _)⟩
 obtain⟨i,hi,A1⟩:∃i:Nat,part=(i:Int)/\i<4:=⟨part.toNat,ab,ab⟩;subst hi;have Nw:(i:Int)<4:=ab;have qN:¬(i:Int)<0:=ab;have N2:¬(4:Int)<=(i:Int):=ab;have Lu:(0:Int)<=(i:Int):=ab;have tE:=O A1;clear h0 h4;go_enter func89,ntmps89;go_wp2_with fail
 refine Ua.o.mono ?_;rintro e u⟨N,qc,rfl,hcw,hu,hn⟩;have HCW:=O hcw;have HN:=O hn;have HU:=O (show∀n,Fr aS u (u.drewN n)from fun n=>dG n (ae aS u));have HWU:=O hu;clear hcw hu hn Ua;go_wp2_with fail
 go_quiet (fail);have uF:=HU.o nq;generalize u.drewN nq=u1 at uF ⊢;have QY:=O (HCW.o.dm uF);have Ji:=O (HWU.o.trans uF);have hBN:¬B=N:=by have a1:=HN.o N (Or.inl rfl);omega
 have hNB:¬N=B:=fun e=>hBN e.symm;have htd:=fun(c:Nat) (b0 b1 b2 b3:Bool) (h0:c.testBit 0=b0) (h1:c.testBit 1=b1) (h2:c.testBit 2=b2) (h3:c.testBit 3=b3)=>Tl HH.o Ji.o QY.o HN.o tE.o (part:=(i:Int)) rfl h0 h1 h2 h3;unfold QX at htd;have hN:=QY.o.partAt tE.o;have n0:=hN.cell0;have n1:=hN.ib;have n2:=hN.mg;have n3:u1.cell? ⟨N,12,none⟩=some (.int .i64 f.now):=by
  have j:=QY.o.eN;simp only[World.cell?,j];rfl
 have hB:=(HH.o.dm Ji.o).partAt tE.o;have b0:=hB.cell0;have b1:=hB.ib;have b2:=hB.mg;have b3:u1.cell? ⟨B,12,none⟩=some (.int .i64 x.now):=by
  have j:=(HH.o.dm Ji.o).eN;simp only[World.cell?,j];rfl
 have f0:=hB.free (i*3);have f1:=hB.free (i*3+1);have f2:=hB.free (i*3+2);have f3:=hB.free 12;have axs:B<u1.heap.size:=bq hB.eN;have axt:N<u1.heap.size:=bq hN.eN;obtain⟨ca,ck,Np⟩:=(QY.o.part i tE.o).dJ.form;rw[ai]at Np;rw[Np]at n2 htd;have HTD:=O htd;clear htd;obtain⟨cb,cl,hcg⟩:=((HH.o.dm Ji.o).part i tE.o).dJ.form;rw[ai]at hcg;rw[hcg]at b2;clear hN hB uF QY Ji HU HWU HN HCW HH Np hcg vd
 rcases HC.o with rfl|rfl|rfl|rfl|rfl|rfl
 ·clear HC;go_wp2_with fail
  go_end0;exact⟨rfl,HTD.o _ false false false false ag ag ag ag⟩
 ·clear HC;go_wp2_with fail
  go_end0;exact⟨rfl,HTD.o _ true false false false ag ag ag ag⟩
 ·clear HC;go_wp2_with fail
  go_end0;exact⟨rfl,HTD.o _ false false true false ag ag ag ag⟩
 ·clear HC;go_wp2_with fail
  go_end0;exact⟨rfl,HTD.o _ true true true false ag ag ag ag⟩
 ·clear HC;go_wp2_with fail
  go_end0;exact⟨rfl,HTD.o _ false false false true ag ag ag ag⟩
 ·clear HC;go_wp2_with fail
  go_end0;exact⟨rfl,HTD.o _ false true false true ag ag ag ag⟩
def vK(m:tF):Bool:=sF (m.o,m.hs)
def vw(ms:List tF):Bool:=decide (ms.length<=150)&&!(ms.any vK)
theorem AR.dm{w':World}(h:AR w m)(hf:Fr aS w w'):AR w' m:={h with op:=h.op.fr hf}
theorem agj{m':tF}(h:AR w m)(h':AR w m')(e:m.cells=m'.cells):vK m=vK m':=by
 unfold tF.cells at e;simp only[fK]at e;have:=X1 (o:=(m.o,m.hs)) (o':=(m'.o,m'.hs)) h.op h'.op e.2.2;unfold vK;rw[this]
theorem PE(m:tF)(w:World)(h:AR w m) :
  aB 26 #[.agg m.cells.toArray] w fun e w'=>e=.returned (.bool (vK m))/\Fr aS w w':=by
 obtain⟨kd,tb,o,hs⟩:=m;obtain⟨ah,ch,hh⟩:=dU h.op.aN.eB;rw[ai]at hh;obtain⟨i0,qN,pD,ll,lF⟩:=info_parts XV;obtain⟨y,hy⟩:∃y,y=tF.cells ⟨kd,tb,o,hs⟩:=⟨_,rfl⟩;obtain⟨x1,mU⟩:∃x1,x1=w.alloc (.cells y.toArray 66):=⟨_,rfl⟩;have dk:Fr aS w x1:=by rw[mU];exact(ae aS w).alloc _
 have k1:x1.heap[w.heap.size]?=some (.cells y.toArray 66 (0,0)):=by rw[mU];exact aC _ _
 have HR:=O (show x1.rangeAt w.heap.size 2 o.cells by
  intro j v hj;have e:(y.toArray)[2+j]?=some v:=by
   rw[hy,List.getElem?_toArray,Nat.add_comm];exact hj
  simp only[World.cell?,k1];exact e)
 obtain⟨x2,Qf⟩:∃x2,x2=x1.alloc (.cells o.cells.toArray 41):=⟨_,rfl⟩;have dE:Fr aS x1 x2:=by rw[Qf];exact(ae aS x1).alloc _
 have hoa:=h.op.fr (dk.trans dE);have Dk:=O (X2 _ _ x2 (JL.one hoa hh (n:=x1.heap.size) (by rw[Qf];exact aC _ _)));rw[TC]at Dk;have M4:Instr.fill (fun i=>some (i*i0.size,i0.size)) ((Array.range (1*i0.size)).map ((Value.agg zOp).cells[· %(Value.agg zOp).cells.size]!)) [(0,.agg o.cells.toArray)]=some o.cells.toArray:=by rw[ll,eF hh];exact af_ o ah hs.length ch
 have Nl:=O mU;have QM:=O Qf;have HF:=O (dk.trans dE);have VM:=O (show(prog.info? 41).map (·.size)=some o.cells.length from af);obtain⟨oc,C4⟩:∃oc,oc=o.cells:=⟨_,rfl⟩;rw[<-C4]at HR M4 QM VM;rw[<-hy];clear h hh dk dE k1 mU Qf hoa hy C4;unfold vK;go_enter func26,ntmps26
 go_wp2_with (first|((with_reducible refine dr 4 ?_);rw[<-Nl.o];refine aY rfl 41 (.tmp 3) rfl w.heap.size 2 rfl oc _ HR.o underlying41 rfl VM.o ?_;refine yn rfl 52 41 1 _ rfl (some 5) rfl oc.toArray i0 (.agg zOp) [(0,.agg oc.toArray)] (by simp only[eH,cF,dv];rfl) underlying52 qN pD (by rw[ll];decide) (by rw[ll];decide) M4 x1.heap.size rfl ?_)|fail)
 rw[<-QM.o];refine Dk.o.mono ?_;rintro e u⟨rfl,hf⟩;go_wp2;go_ret;exact⟨fF aR,HF.o.trans hf⟩
theorem Ig(v:Value)(ms:List tF)(w:World)(h:xk w v ms) :
  aB 8 #[v] w fun e w'=>e=.returned (.bool (vw ms))/\Fr aS w w':=by
 classical
 obtain⟨hv,hl,ha⟩:=h;obtain⟨av,cv,fO⟩:=hv.form;rw[ai]at fO;subst fO;obtain⟨p,hp⟩:∃p:aZ->Bool,∀m∈ms,p m.cells=vK m:=⟨fun x=>decide (∃m∈ms,m.cells=x/\vK m=true),fun m hm=>by
  cases hq:vK m
  ·refine bj (fun⟨m',CA,e,Ht⟩=>?_);rw[agj (ha m' CA) (ha m hm) e,hq]at Ht;cases Ht
  ·exact bJ ⟨m,hm,rfl,hq⟩⟩
 have Np:=O (CQ _ #[] p _ _ w call26 (fun x hx u hu=>by
  obtain⟨m,hm,rfl⟩:=bZ.1 hx;rw[hp m hm];simpa using PE m u ((ha m hm).dm hu)) hv)
 have jv:=O (show(ms.map tF.cells).any p=ms.any vK by
  rw[List.any_map];clear Np hv hl
  induction ms with
  |nil=>rfl
  |cons m ms ih =>
   rw[List.any_cons,List.any_cons,ih (fun x hx=>ha x (bN _ hx)) (fun x hx=>hp x (bN _ hx))];show(p m.cells||_)=_;rw[hp m (cM ..)])
 clear hp ha hv;by_cases h30:ms.length<=150
 ·have hb:=O (show vw ms=!(ms.any vK)by unfold vw;rw[bJ h30];rfl);have i30:(ms.length:Int)<=150:=ab;have d30:decide ((ms.length:Int)<=150)=true:=bJ i30;go_enter func8,ntmps8;go_wp2_with fail
  refine Np.o.mono ?_;rw[jv.o];rintro e u⟨rfl,hf⟩;go_wp2;go_ret;exact⟨fF hb.o.symm,hf⟩
 ·have hb:=O (show vw ms=false by unfold vw;rw[bj h30];rfl);have i30:¬(ms.length:Int)<=150:=ab;have d30:decide ((ms.length:Int)<=150)=false:=bj i30;go_enter func8,ntmps8;go_wp2;go_ret;exact⟨fF hb.o.symm,ae _ _⟩
theorem vt.of{v:Value}{ms:List tF}(h:xk w v ms)(hb:vw ms=true):vt w v ms/\ms.length<=150:=by
 unfold vw at hb;simp only[cy,du,Bool.not_eq_true',fc]at hb;exact⟨⟨h.1,fun m hm=>gM.aq2 (h.2.2 m hm).op (by have:=hb.2 m hm;unfold vK at this;simpa using this)⟩,hb.1⟩
section
variable {xw : Option (Nat × dD)} {a U U' : World} {T : Nat} {t : fB}
theorem Pm(h:df xw a U T t)(n:Int){k:Int}(hk:k<1000000)(hs:gF k t) :
  aB 27 #[.pointer (some ⟨T,0,none⟩),.int .i64 n] U fun e w'=>e=.returned (CN (nU t n).2)/\df xw a w' T (nU t n).1/\gW U w':=by
 unfold nU;cases hn:EP n
 ·have HC:=O (Ju U T hn);have HH:=O h;clear hn h hs;go_enter func27,ntmps27;go_wp2_with fail
  refine HC.o.mono ?_;rintro e u⟨rfl,rfl⟩;unfold CN;go_wp2;go_ret;exact⟨rfl,HH.o,lL _⟩
 ·obtain⟨i,rfl,hi⟩:=Jt hn;obtain⟨B,g,sv,sb,h1,h2,h3,h4⟩:=h.ex;have HC:=O (O0 U T hi);have c:U.cell? ⟨T,17+i*45,none⟩=some (.int .i64 (t.tab i).does):=h1.tab i hi 0 _ rfl;have c2:=h1.steps;have fz:=h1.free 287;have e1:((i:Int)).toNat=i:=rfl;rw[az rfl,e1];by_cases hd:(t.tab i).does=0
  ·rw[az hd];rw[hd]at c;have HH:=O h;clear hn h hs h1 h2 h3 h4;go_enter func27,ntmps27;go_wp2_with fail
   refine HC.o.mono ?_;rintro e u⟨rfl,rfl⟩;go_wp2;go_ret;exact⟨rfl,HH.o,lL _⟩
  ·rw[aq hd];have hd0:¬((t.tab i).does:Int)=0:=ab;have s1:=hs.steps.1;have s2:=hs.steps.2;have q1:=h1.ES (t.steps+1);have HT:=O (q1.1.there (o:=17+i*45) (n:=45) ab);have q2:=q1.1.OZ hi fo zeroV
   have HR:=O (kP (t':={(t.put i fo)with steps:=t.steps+1}) h1 h2 h3 h4 h.low h.fr ⟨q2.1,q1.2.trans q2.2⟩ rfl (O5 (t':={(t.put i fo)with steps:=t.steps+1}) rfl i (fun n hn=>aq hn) (by simp[fB.put,fo]) (by simp[fB.put,fo])) (fun j hj=>by
    by_cases ei:j=i
    ·subst ei;simp[fB.put,fo]
    ·simp only[fB.put,aq ei];exact⟨fun tZ=>Or.inl ⟨trivial,trivial,trivial,tZ⟩,(h4 j hj).2⟩))
   have YM:=O (show gW U _ from by
    obtain⟨d,hd,_⟩:=h1.eN;exact(lL U).tabs hd (q1.2.trans q2.2))
   clear hn h hs h1 h2 h3 h4 q1 q2;go_enter func27,ntmps27;go_wp2_with fail
   refine HC.o.mono ?_;rintro e u⟨rfl,rfl⟩;go_wp2_with ((with_reducible refine cZ 72 ?_);refine iw rfl 72 _ _ rfl T (17+i*45) (nj fo zeroV).toArray rfl rfl HT.o rfl (AE _ _ rfl rfl) ?_)
   go_ret;exact⟨rfl,HR.o,YM.o⟩
end
