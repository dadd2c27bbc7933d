/- Lemmas for the law's walk. -/
import Derived.Test.YtjndhcngnghpiaaGreatDoorPp20
import Derived.Test.YtjndhcngnghpiaaGreatDoorTie
import Derived.Test.YtjndhcngnghpiaaGreatDoorCards
import Derived.LaidMore
import Derived.Lay
set_option maxRecDepth 100000
set_option maxHeartbeats 16000000
set_option linter.unusedSimpArgs false
namespace Go.Proofs.YtjndhcngnghpiaaGreatDoor
open Go.Proofs.Tryz
open Go.RowKit
variable {w:World} {o:jI} {hs:List gT} {T n m:Nat} {a b:jx} {u:iI} {k:Int}
theorem KI(h:gM w o hs):(o.dX hs).user.size<=5000/\(o.dX hs).pass.size<=5000/\(o.dX hs).path.size<=5000:=⟨h.user,h.pass,by have:=h.path;show o.aF.path.size<=5000;omega⟩
theorem FG(h:gM w o hs)(hT:w.heap.size<=T):hs≠ []->∀b,o.aF.ef.ownBlock=some b->b≠T:=by
 intro hne b hb;rcases h.ef.2 with ⟨_,_,_,e,_⟩|⟨bk,o',c,e,_,_,hl,_⟩
 ·exact absurd (by simpa using e) hne
 ·rw[e]at hb;have hb':some bk=some b:=hb;cases hb';omega
section
variable {xw : Option (Nat × ed)} {a U U' : World} {T : Nat} {t : iI}
end
def Nb:jx:=⟨10,0,Dd,Dd,⟨#[47]⟩,⟨#[]⟩,⟨#[71,69,84]⟩,[],false,⟨#[]⟩,false,⟨#[]⟩,⟨#[]⟩,⟨#[]⟩,⟨#[]⟩,0,false,7⟩
def Y3:jI:=⟨10,⟨0,Dd,Dd,⟨#[47]⟩,⟨#[]⟩,⟨#[71,69,84]⟩,.slice none 0 0,false,⟨#[]⟩⟩,false,⟨#[]⟩,⟨#[]⟩,⟨#[]⟩,⟨#[]⟩,0,false,7⟩
def ait:bW:= #[.int .i64 10,.int .i64 0,.bool true,.string ⟨#[97,46,116,101,115,116]⟩,.int .i64 443,.bool true,.string ⟨#[97,46,116,101,115,116]⟩,.int .i64 443,.string ⟨#[47]⟩,.string ⟨#[]⟩,.string ⟨#[71,69,84]⟩,.slice none 0 0,.bool false,.string ⟨#[]⟩,.bool false,.string ⟨#[]⟩,.string ⟨#[]⟩,.string ⟨#[]⟩,.string ⟨#[]⟩,.int .i64 0,.bool false,.int .i64 7]
theorem adv:Y3.dX []=Nb:=rfl
theorem adw:Y3.cells.toArray=ait:=rfl
theorem Y4(w:World):gM w Y3 [] :=
 ⟨ez.nil _ _,⟨ag,ag,fun _ h=>by cases h⟩,ag,ag,ag,ag,ag,ag,ag,ag,ag,ag,ag,ag,ag,ag,ag,ag⟩
def rO:Nat->iI
 |0=>(Aj uG 2 Nb).1
 |k+1=>(kF (rO k) 2).1
theorem Y5:(Aj uG 2 Nb).2=0:=af
theorem an8:(kF (rO 0) 2).2=(rep 0,false,0):=af
theorem an9:(kF (rO 1) 2).2=(rep 0,false,0):=af
theorem an_:(kF (rO 2) 2).2=(⟨1,⟨#[]⟩,0⟩,true,0):=af
theorem QW:(rO 3).ic.length=1:=af
theorem Y6:(rO 3).w.now=7:=af
theorem zy(k:Nat):iC (1+2*(k:Int)) (rO k)/\(rO k).ic.length<=k:=by
 induction k with
 |zero=>exact⟨(iC.new.mr 2 Nb ⟨ag,ag,ag⟩).mono ab,by show(Aj uG 2 Nb).1.ic.length<=0;rw[FD];exact az _⟩
 |succ k ih =>
  refine⟨(ih.1.step 2).mono ab,?_⟩;have:=DA (rO k) 2;have:=ih.2;show(kF (rO k) 2).1.ic.length<=k+1;omega
def adx(a:World)(T:Nat)(i:Value)(wr:World):Prop:=∃k:Nat,k<=2/\i=.int .i64 k/\dz none a wr T (rO k)
theorem ady(k:Nat)(i:Nat)(h:((rO k).tab i).does=2)(hk:k<=2):((rO k).tab i).op=Nb:=by
 rcases(show k=0\/k=1\/k=2 from ab)with rfl|rfl|rfl
 ·by_cases e:i=2
  ·subst e;exact absurd h cZ
  ·exfalso;have e':¬i=(2:Int).toNat:=e;have:((rO 0).tab i).does=0:=by
    show((if i=(2:Int).toNat then _ else ib:vR)).does=0;rw[ay e'];rfl
   omega
 ·by_cases e:i=2
  ·subst e;rfl
  ·exfalso;have e':¬i=(2:Int).toNat:=e;have:((rO 1).tab i).does=0:=by
    show((if i=(2:Int).toNat then _ else(if i=(2:Int).toNat then _ else ib):vR)).does=0;rw[ay e',ay e'];rfl
   omega
 ·by_cases e:i=2
  ·subst e;exact absurd h cZ
  ·exfalso;have e':¬i=(2:Int).toNat:=e;have:((rO 2).tab i).does=0:=by
    show((if i=(2:Int).toNat then _ else(if i=(2:Int).toNat then _ else(if i=(2:Int).toNat then _ else ib)):vR)).does=0;rw[ay e',ay e',ay e'];rfl
   omega
theorem QX:Nb.right=true:=af
theorem DF{a:World}{k:Nat}(hk:k<=2)(ht:kZ a)(h:dz none a w T (rO k)):aE 13 #[.pointer (some ⟨T,0,none⟩),.int .i64 2] w (oI none a w T (kF (rO k) 2)) :=
 KD h 2 (k:=1+2*(k:Int)) ab (zy k).1 (by have:=(zy k).2;omega) fun i _ hd V B pv o hs ho hw hf B_=>by
  have e:=ady k i hd hk;have:=Oo a.heap.size V B pv _ o hs hw B_ ((zy k).1.seen i (Or.inl hd)) a ht (az _) hf (by rw[ho,e];exact QX) (by
   have:=ar jx.what (ho.trans e);exact this)
  rw[ho]at this;exact this
theorem KJ(a U:World)(hf:Fr aX a U)(ht:kZ a):aE 6 #[] U fun e w'=>e=.returned (.bool true)/\Fr aX a w':=by
 have HT:=O ht;have HN:=O (KC hf);clear ht hf;go_enter func6,ntmps6;go_wp2_with fail
 refine HN.o.mono ?_;rintro e u⟨T,rfl,h0, -⟩;have H0:=O h0;clear HN h0;go_wp2_with fail
 refine(JW u).mono ?_;rintro e u1⟨rfl,dw⟩;unfold gz.cells Dd;go_wp2_with fail
 refine(JW u1).mono ?_;rintro e u2⟨rfl,dF⟩;unfold gz.cells Dd;have hb:=Am (H0.o.dx (dw.trans dF)) 2 Y3 [] (k:=0) ag iC.new (Y4 u2) (fun h=>absurd rfl h) ag;rw[adv,adw,Y5]at hb;unfold ait Bm at hb;rw[aB rfl]at hb;have HB:=O hb;clear hb H0 dw dF;go_wp2_with fail
 refine HB.o.mono ?_;rintro e u3⟨rfl,h3, -⟩;have H3:=O (show dz none a u3 T (rO 0)from h3);clear h3 HB;go_wp2;go_loopw[21] (adx a T) (fun i _=>2-(intOf i).toNat)
 case atStart=>exact⟨0,ab,rfl,H3.o⟩
 case round =>
  obtain⟨k,hk,rfl,hT⟩:=hrel;clear H3;rcases(show k=0\/k=1\/k=2 from ab)with rfl|rfl|rfl
  ·have hs:=DF ag HT.o hT;unfold oI at hs;rw[an8]at hs;have HS:=O hs;clear hs hT;go_wp2_with fail
   refine HS.o.mono ?_;rintro e u4⟨rfl,h4, -⟩;have H4:=O (show dz none a u4 T (rO 1)from h4);clear h4 HS;unfold rep Bm;go_wp2;go_roundw
   case rel=>exact⟨1,ab,bh,H4.o.dx ((ae aX u4).alloc _)⟩
   case measure=>simp[intOf]
  ·have hs:=DF ag HT.o hT;unfold oI at hs;rw[an9]at hs;have HS:=O hs;clear hs hT;go_wp2_with fail
   refine HS.o.mono ?_;rintro e u4⟨rfl,h4, -⟩;have H4:=O (show dz none a u4 T (rO 2)from h4);clear h4 HS;unfold rep Bm;go_wp2;go_roundw
   case rel=>exact⟨2,ab,bh,H4.o.dx ((ae aX u4).alloc _)⟩
   case measure=>simp[intOf]
  ·have hs:=DF ag HT.o hT;unfold oI at hs;rw[an_]at hs;have HS:=O hs;clear hs hT;go_wp2_with fail
   refine HS.o.mono ?_;rintro e u4⟨rfl,h4, -⟩;have H4:=O (show dz none a u4 T (rO 3)from h4);clear h4 HS;unfold Bm;go_wp2_with fail
   have h5:=H4.o.dx ((ae aX u4).alloc (.cells #[.int .i64 1,.string ⟨#[]⟩,.int .i64 0] 46));have H5:=O h5;have mC:=O (QV h5 (by have:=(zy 3).2;omega));clear h5 H4;refine mC.o.mono ?_;rintro e u5⟨sv,rfl,hev,lB⟩;obtain⟨es,e1,e2, -⟩:=hev;obtain⟨YP,YQ,U2⟩:=e2.form;have hel:es.length=1:=by
    have:=ar List.length e1;rw[aj,QW]at this;exact this
   rw[aj,hel]at U2;subst U2;have h6:=H5.o.dx lB;have HW:=O (QD h6 (zy 3).1.inv);have x_:=O h6.fr;clear e1 e2 hel lB h6 H5 mC;go_wp2_with fail
   refine HW.o.mono ?_;rintro e u6⟨C,qv,rfl,hc,nt, -⟩;have HN:=O (Vt _ _ _ _ _ hc);rw[Y6]at HN;have Hj:=O (x_.o.trans nt);clear hc nt HW;go_wp2_with fail
   refine HN.o.mono ?_;rintro e u7⟨rfl,rfl⟩;go_wp2;go_ret;exact⟨rfl,Hj.o⟩
structure Ed (a b:jx) (u:iI) (k:Int):Prop where
 inv:sS a b u
 re:iC k u
 st:(u.ic.length:Int)<=k
theorem Ed.new(a b:jx):Ed a b uG 0:=⟨sS.new a b,iC.new,gq 0⟩
theorem Ed.mr(h:Ed a b u k)(hn:n<2)(h0:(u.tab n).does=0)(ho:(wO a b n).user.size<=5000/\(wO a b n).pass.size<=5000/\(wO a b n).path.size<=5000):Ed a b (Aj u n (wO a b n)).1 (k+2) :=
 ⟨h.inv.begin hn h0,(h.re.mr n _ ho).mono ab,by rw[FD];have:=h.st;omega⟩
theorem Ed.step(h:Ed a b u k)(qk:∀c∈j_ a,c∉j_ b)(hn:n<2)(h0:(u.tab n).does≠0) :
  Ed a b (kF u n).1 (k+2)/\(kF u n).2.2.1=decide ((u.tab n).does=3)/\(kF u n).2.2.2=0:=by
 have Gi:=h.re.step n;have iQ:=DA u n;obtain⟨q1,q2⟩:=h.inv.step qk hn h0;rw[VA ab h0]at Gi iQ ⊢;have at7:(stepT u n).1.ic.length<=u.ic.length+1:=iQ;exact⟨⟨q1,Gi,by show((stepT u n).1.ic.length:Int)<=k+2;have:=h.st;omega⟩,q2,rfl⟩
theorem Ox{x y:Nat}(i:Nat)(hx:x.testBit i=true)(hy:y.testBit i=true):0<x &&& y:=by
 have:(x &&& y).testBit i=true:=by rw[Nat.testBit_and,hx,hy];rfl
 exact Nat.pos_of_ne_zero fun e=>by rw[e,Nat.zero_testBit]at this;cases this
theorem KL(h:¬((a.part=b.part/\0<(dV a).1 &&& (dV b).1)\/0<((dV a).1 &&& (dV b).1) &&& 8)):∀c∈j_ a,c∉j_ b:=by
 rintro⟨p,i⟩ha hb;obtain⟨a1,a2,a3⟩:=Dn.1 ha;obtain⟨b1,b2,b3⟩:=Dn.1 hb;by_cases h3:i=3
 ·subst h3;exact h (Or.inr (Ox 3 (by rw[Nat.testBit_and,a2,b2];rfl) ag))
 ·rw[ay h3]at a3 b3;have ra:a.right=true:=by
   cases hr:a.right
   ·rw[wF hr,Nat.zero_testBit]at a2;cases a2
   ·rfl
  have rb:b.right=true:=by
   cases hr:b.right
   ·rw[wF hr,Nat.zero_testBit]at b2;cases b2
   ·rfl
  have pa:=(ja ra).1;have pb:=(ja rb).1;exact h (Or.inl ⟨ab,Ox i a2 b2⟩)
def aiy(w:World)(a b:jx)(T L:Nat)(iv:Value)(W:World):Prop:=∃k:Nat,k<=L/\iv=.int .i64 k/\∃u,dz none w W T u/\Ed a b u (2*(k:Int))
theorem Ee{P:Program}{ops:Array Oper}{Q:Exit->Act->World->Prop}{K:Act->World->Prop}{E:Prop}{a:Act}{w:World}{o:Oper}(hg:o.guard=none)(t:TypeId)(ho:o.op=.alloc t)
  (cells:bW)(hi:(P.info? t).map (·.zero)=some (some (.agg cells)))(N:Nat)(hN:w.heap.size=N)
  (h:K (a.put o.dst (.pointer (some ⟨N,0,none⟩))) (w.alloc (.cells cells t))):if Region.wanted o (yielded ops a.tmps)=true then Oper.wp P o a w K Q else E:=by
 subst hN;have hw:Region.wanted o (yielded ops a.tmps)=true:=by simp[Region.wanted,hg]
 rw[aB hw];unfold Oper.wp;have aba:(execOp a.eval o).run P w=.ok (.value (.pointer (some ⟨w.heap.size,0,none⟩))) (w.alloc (.cells cells t)):=by
  cases U1:P.info? t with
  |none=>simp[U1]at hi
  |some ie =>
   simp only[U1,Option.map_some,dW]at hi;unfold execOp;simp[ho,Instr.alloc,zeroValue,typeInfo,U1,hi,newVar,newRow,Value.cells,Sem.run_bind,Result.andThen]
 rw[aba,Oper.upon_value];exact h
theorem VC:(prog.info? 33).map (·.zero)=some (some (.agg #[.int .i64 0,.int .i64 0,.bool false,.string ⟨#[]⟩,.int .i64 0,.bool false,.string ⟨#[]⟩,.int .i64 0,.string ⟨#[]⟩,.string ⟨#[]⟩,.string ⟨#[]⟩,.slice none 0 0,.bool false,.string ⟨#[]⟩,.bool false,.string ⟨#[]⟩,.string ⟨#[]⟩,.string ⟨#[]⟩,.string ⟨#[]⟩,.int .i64 0,.bool false,.int .i64 0])):=af
theorem KM(hm:m<16)(hn:n<16):bits BinOp.and IntKind.i64 (m:Int) (n:Int)=((m &&& n:Nat):Int):=by
 have key:∀a b:Fin 16,bits BinOp.and IntKind.i64 ((a.val:Nat):Int) ((b.val:Nat):Int)=((a.val &&& b.val:Nat):Int):=cZ;exact key ⟨m,hm⟩ ⟨n,hn⟩
theorem Q3(hm:m<16):m &&& n<16:=gA Nat.and_le_left hm
theorem AY(o:jx):(dV o).1<16:=by
 unfold dV
 repeat' split
 all_goals decide
theorem DH(o:jI)(hs:List gT)(q:jI)(qs:List gT)(v:Value)(bs:List Bool)(w:World)(st1:rH w o hs)(st2:rH w q qs)(st0:aaI w v bs)(pw:wZ w)(md:tY w)(sh:tZ w)(db:oz w 9 .u8 Rf) :
  aE 5 #[.agg o.cells.toArray,.agg q.cells.toArray,v] w fun e w'=>e=.returned (.bool true)/\Below w.heap.size w w':=by
 have ht:kZ w:=⟨⟨db,md,sh⟩,pw⟩;obtain⟨av,cv,gi⟩:=dR st0.1;rw[aj]at gi;subst gi;obtain⟨ah,ch,gu⟩:=dR st1.aF.ef;rw[aj]at gu;obtain⟨aq,cq,hhq⟩:=dR st2.aF.ef;rw[aj]at hhq;obtain⟨w0,Rr⟩:∃w0,w0=(w.alloc (.cells o.cells.toArray 33)).alloc (.cells q.cells.toArray 33):=⟨_,rfl⟩;have oL:Fr aX w w0:=by rw[Rr];exact((ae aX w).alloc _).alloc _
 have k0:w0.heap[w.heap.size]?=some (.cells o.cells.toArray 33 (0,0)):=by rw[Rr];exact((ae aX _).alloc _).keep (aC _ _) id
 have k1:w0.heap[w.heap.size+1]?=some (.cells q.cells.toArray 33 (0,0)):=by
  have h:=aC (w.alloc (.cells o.cells.toArray 33)) (.cells q.cells.toArray 33);rw[bK]at h;rw[Rr];exact h
 have HT:=O ht;have lf:=O gu;have HHQ:=O hhq;have AX:=O oL;have HA1:=O st1;have HA2:=O st2;have tF:=O st0.1
 have HKO:=O (show∀U,Fr aX w0 U->U.heap[w.heap.size]?=some (.cells #[.int .i64 o.what,.int .i64 o.aF.part,.bool o.aF.cG.aD,.string o.aF.cG.host,.int .i64 o.aF.cG.port,.bool o.aF.o.aD,.string o.aF.o.host,.int .i64 o.aF.o.port,.string o.aF.path,.string o.aF.query,.string o.aF.method,.slice ah hs.length ch,.bool o.aF.fq,.string o.aF.body,.bool o.proxy,.string o.text,.string o.user,.string o.pass,.string o.bz,.int .i64 o.cert,.bool o.all,.int .i64 o.n] 33 (0,0))from fun U hU=>by rw[<-dN gu];exact hU.keep k0 id)
 have HKQ:=O (show∀U,Fr aX w0 U->U.heap[w.heap.size+1]?=some (.cells #[.int .i64 q.what,.int .i64 q.aF.part,.bool q.aF.cG.aD,.string q.aF.cG.host,.int .i64 q.aF.cG.port,.bool q.aF.o.aD,.string q.aF.o.host,.int .i64 q.aF.o.port,.string q.aF.path,.string q.aF.query,.string q.aF.method,.slice aq qs.length cq,.bool q.aF.fq,.string q.aF.body,.bool q.proxy,.string q.text,.string q.user,.string q.pass,.string q.bz,.int .i64 q.cert,.bool q.all,.int .i64 q.n] 33 (0,0))from fun U hU=>by rw[<-dN hhq];exact hU.keep k1 id)
 have Q4:=O (show∀U n t,Fr aX w U->U.heap[n]?=some (.cells #[.int .i64 o.what,.int .i64 o.aF.part,.bool o.aF.cG.aD,.string o.aF.cG.host,.int .i64 o.aF.cG.port,.bool o.aF.o.aD,.string o.aF.o.host,.int .i64 o.aF.o.port,.string o.aF.path,.string o.aF.query,.string o.aF.method,.slice ah hs.length ch,.bool o.aF.fq,.string o.aF.body,.bool o.proxy,.string o.text,.string o.user,.string o.pass,.string o.bz,.int .i64 o.cert,.bool o.all,.int .i64 o.n,.int .i64 q.what,.int .i64 q.aF.part,.bool q.aF.cG.aD,.string q.aF.cG.host,.int .i64 q.aF.cG.port,.bool q.aF.o.aD,.string q.aF.o.host,.int .i64 q.aF.o.port,.string q.aF.path,.string q.aF.query,.string q.aF.method,.slice aq qs.length cq,.bool q.aF.fq,.string q.aF.body,.bool q.proxy,.string q.text,.string q.user,.string q.pass,.string q.bz,.int .i64 q.cert,.bool q.all,.int .i64 q.n] t (0,0))->aE 8 #[.slice (some ⟨n,0,none⟩) 2 2] U fun e w'=>e=.returned (.bool (!(oK (o,hs)||oK (q,qs))))/\Fr aX U w' from fun U n t hU hb=>by
  have h:=Vx _ [(o,hs),(q,qs)] U (G_.two (st1.fr hU) (st2.fr hU) gu hhq (by rw[dN gu,dN hhq];exact hb));rw[Q2]at h;exact h)
 have xm:=O (KJ w0 w0 (ae _ _) (ht.fr oL));rw[dN gu,dN hhq]at Rr ⊢;have HW0:=O Rr;clear Rr gu hhq oL k0 k1 st0 st1 st2 ht pw md sh db;go_enter func5,ntmps5;go_wp2_with fail
 rw[<-HW0.o];refine xm.o.mono ?_;rintro e y1⟨rfl,h1⟩;have H1:=O h1;have HO1:=O (HKO.o _ h1);have GK:=O (HKQ.o _ h1);clear h1 xm;go_wp2_with (first
  |((with_reducible refine dt 21 ?_);refine aJ rfl 33 (.tmp 3) rfl w.heap.size rfl _ #[.int .i64 o.what,.int .i64 o.aF.part,.bool o.aF.cG.aD,.string o.aF.cG.host,.int .i64 o.aF.cG.port,.bool o.aF.o.aD,.string o.aF.o.host,.int .i64 o.aF.o.port,.string o.aF.path,.string o.aF.query,.string o.aF.method,.slice ah hs.length ch,.bool o.aF.fq,.string o.aF.body,.bool o.proxy,.string o.text,.string o.user,.string o.pass,.string o.bz,.int .i64 o.cert,.bool o.all,.int .i64 o.n] (0,0) _ HO1.o underlying33 rfl af ?_)
  |((with_reducible refine dt 22 ?_);refine aJ rfl 33 (.tmp 4) rfl (w.heap.size+1) rfl _ #[.int .i64 q.what,.int .i64 q.aF.part,.bool q.aF.cG.aD,.string q.aF.cG.host,.int .i64 q.aF.cG.port,.bool q.aF.o.aD,.string q.aF.o.host,.int .i64 q.aF.o.port,.string q.aF.path,.string q.aF.query,.string q.aF.method,.slice aq qs.length cq,.bool q.aF.fq,.string q.aF.body,.bool q.proxy,.string q.text,.string q.user,.string q.pass,.string q.bz,.int .i64 q.cert,.bool q.all,.int .i64 q.n] (0,0) _ GK.o underlying33 rfl af ?_)
  |fail)
 obtain⟨y2,Yc⟩:∃y2,y2=y1.alloc (.cells #[.int .i64 o.what,.int .i64 o.aF.part,.bool o.aF.cG.aD,.string o.aF.cG.host,.int .i64 o.aF.cG.port,.bool o.aF.o.aD,.string o.aF.o.host,.int .i64 o.aF.o.port,.string o.aF.path,.string o.aF.query,.string o.aF.method,.slice ah hs.length ch,.bool o.aF.fq,.string o.aF.body,.bool o.proxy,.string o.text,.string o.user,.string o.pass,.string o.bz,.int .i64 o.cert,.bool o.all,.int .i64 o.n,.int .i64 q.what,.int .i64 q.aF.part,.bool q.aF.cG.aD,.string q.aF.cG.host,.int .i64 q.aF.cG.port,.bool q.aF.o.aD,.string q.aF.o.host,.int .i64 q.aF.o.port,.string q.aF.path,.string q.aF.query,.string q.aF.method,.slice aq qs.length cq,.bool q.aF.fq,.string q.aF.body,.bool q.proxy,.string q.text,.string q.user,.string q.pass,.string q.bz,.int .i64 q.cert,.bool q.all,.int .i64 q.n] 33):=⟨_,rfl⟩
 have dF:Fr aX y1 y2:=by rw[Yc];exact(ae _ _).alloc _
 have H2:=O (H1.o.trans dF)
 have jX:=aC y1 (.cells #[.int .i64 o.what,.int .i64 o.aF.part,.bool o.aF.cG.aD,.string o.aF.cG.host,.int .i64 o.aF.cG.port,.bool o.aF.o.aD,.string o.aF.o.host,.int .i64 o.aF.o.port,.string o.aF.path,.string o.aF.query,.string o.aF.method,.slice ah hs.length ch,.bool o.aF.fq,.string o.aF.body,.bool o.proxy,.string o.text,.string o.user,.string o.pass,.string o.bz,.int .i64 o.cert,.bool o.all,.int .i64 o.n,.int .i64 q.what,.int .i64 q.aF.part,.bool q.aF.cG.aD,.string q.aF.cG.host,.int .i64 q.aF.cG.port,.bool q.aF.o.aD,.string q.aF.o.host,.int .i64 q.aF.o.port,.string q.aF.path,.string q.aF.query,.string q.aF.method,.slice aq qs.length cq,.bool q.aF.fq,.string q.aF.body,.bool q.proxy,.string q.text,.string q.user,.string q.pass,.string q.bz,.int .i64 q.cert,.bool q.all,.int .i64 q.n] 33)
 rw[<-Yc]at jX ⊢;clear Yc dF;refine(Q4.o _ _ _ (AX.o.trans H2.o) jX).mono ?_;rintro e y3⟨rfl,h3⟩;have H3:=O (H2.o.trans h3);clear h3 jX Q4 HO1 GK;cases Q5:(oK (o,hs)||oK (q,qs))
 case true =>
  clear Q5;go_wp2;go_ret;exact⟨rfl,(AX.o.trans H3.o).oZ⟩
 have Y9:=O (eA.1 Q5);have HFT:=O (show∀U,Fr aX w U->gM U o hs from fun U hU=>gM.aix (HA1.o.fr hU) Y9.o.1);have HFQ:=O (show∀U,Fr aX w U->gM U q qs from fun U hU=>gM.aix (HA2.o.fr hU) Y9.o.2);clear Q5 Y9;by_cases h60:(60:Int)<(bs.length:Int)
 ·go_wp2;go_ret;exact⟨rfl,(AX.o.trans H3.o).oZ⟩
 have auc:=O (show bs.length<=60 from ab);have oP:=tH y3 o hs (HFT.o _ (AX.o.trans H3.o));rw[dN lf.o]at oP;have QL:=O oP;have ZM:=O (HKO.o _ H3.o);clear oP;go_wp2_with (first
  |((with_reducible refine dt 32 ?_);refine aJ rfl 33 (.tmp 3) rfl w.heap.size rfl _ #[.int .i64 o.what,.int .i64 o.aF.part,.bool o.aF.cG.aD,.string o.aF.cG.host,.int .i64 o.aF.cG.port,.bool o.aF.o.aD,.string o.aF.o.host,.int .i64 o.aF.o.port,.string o.aF.path,.string o.aF.query,.string o.aF.method,.slice ah hs.length ch,.bool o.aF.fq,.string o.aF.body,.bool o.proxy,.string o.text,.string o.user,.string o.pass,.string o.bz,.int .i64 o.cert,.bool o.all,.int .i64 o.n] (0,0) _ ZM.o underlying33 rfl af ?_)
  |fail)
 refine QL.o.mono ?_;rintro e y4⟨rfl,h4⟩;have H4:=O (H3.o.trans h4);have rI:=tH y4 q qs (HFQ.o _ (AX.o.trans H4.o));rw[dN HHQ.o]at rI;have xb:=O rI;have HQ4:=O (HKQ.o _ H4.o);clear rI h4 QL ZM h60;go_wp2_with (first
  |((with_reducible refine dt 37 ?_);refine aJ rfl 33 (.tmp 4) rfl (w.heap.size+1) rfl _ #[.int .i64 q.what,.int .i64 q.aF.part,.bool q.aF.cG.aD,.string q.aF.cG.host,.int .i64 q.aF.cG.port,.bool q.aF.o.aD,.string q.aF.o.host,.int .i64 q.aF.o.port,.string q.aF.path,.string q.aF.query,.string q.aF.method,.slice aq qs.length cq,.bool q.aF.fq,.string q.aF.body,.bool q.proxy,.string q.text,.string q.user,.string q.pass,.string q.bz,.int .i64 q.cert,.bool q.all,.int .i64 q.n] (0,0) _ HQ4.o underlying33 rfl af ?_)
  |fail)
 refine xb.o.mono ?_;rintro e y5⟨rfl,h5⟩;have H5:=O (H4.o.trans h5);have HPA:=O (KL (a:=o.dX hs) (b:=q.dX qs));have adE:=AY (o.dX hs);have aiB:=AY (q.dX qs);have ra:=KM adE aiB;have r8:=KM (Q3 (n:=(dV (q.dX qs)).1) adE) (show 8<16 from ag);rw[show((8:Nat):Int)=8 from rfl]at r8;generalize (dV (o.dX hs)).1=x at *
 generalize (dV (q.dX qs)).1=y at *
 have f1:y5.cell? ⟨w.heap.size,1,none⟩=some (.int .i64 o.aF.part):=by simp[World.cell?,HKO.o _ H5.o]
 have f2:y5.cell? ⟨w.heap.size+1,1,none⟩=some (.int .i64 q.aF.part):=by simp[World.cell?,HKQ.o _ H5.o]
 clear h5 xb HQ4 H4 H3 H2 H1 adE aiB
 go_upto_region 7 with fail
 go_cut [60]from 41 to 60 (fun s W=>s=.bool (decide ((o.aF.part=q.aF.part/\0<x &&& y)\/0<(x &&& y) &&& 8))/\W=y5)
 case first =>
  by_cases hp:o.aF.part=q.aF.part
  ·have e1:decide (o.aF.part=q.aF.part)=true:=bD hp;have e2:(o.aF.part==q.aF.part)=true:=dP.2 hp;by_cases hxy:0<x &&& y
   ·have an':(0:Int)<((x &&& y:Nat):Int):=ab;have HD:=O (show decide ((o.aF.part=q.aF.part/\0<x &&& y)\/0<(x &&& y) &&& 8)=true from bD (Or.inl ⟨hp,hxy⟩));clear hp;go_wp2_with fail
    go_meet
    exact⟨by rw[HD.o],rfl⟩
   ·have an':¬(0:Int)<((x &&& y:Nat):Int):=ab;have hz:x &&& y=0:=ab;have h8:¬(0:Int)<(((x &&& y) &&& 8:Nat):Int):=by rw[hz];decide
    have h9:decide (0<(x &&& y) &&& 8)=false:=bf (by rw[hz];decide);have HD:=O (show decide ((o.aF.part=q.aF.part/\0<x &&& y)\/0<(x &&& y) &&& 8)=false from bf (fun h=>h.elim (fun h=>hxy h.2) (fun h=>h8 ab)));clear hp hz;go_wp2_with fail
    go_meet
    exact⟨by rw[HD.o],rfl⟩
  ·by_cases h8:(0:Int)<(((x &&& y) &&& 8:Nat):Int)
   ·have HD:=O (show decide ((o.aF.part=q.aF.part/\0<x &&& y)\/0<(x &&& y) &&& 8)=true from bD (Or.inr ab));have h9:decide (0<(x &&& y) &&& 8)=true:=bD ab;go_wp2_with fail
    go_meet
    exact⟨by rw[HD.o],rfl⟩
   ·have HD:=O (show decide ((o.aF.part=q.aF.part/\0<x &&& y)\/0<(x &&& y) &&& 8)=false from bf (fun h=>h.elim (fun h=>hp h.1) (fun h=>h8 ab)));have h9:decide (0<(x &&& y) &&& 8)=false:=bf ab;go_wp2_with fail
    go_meet
    exact⟨by rw[HD.o],rfl⟩
 case rest =>
  obtain⟨rfl,rfl⟩:=hcut;clear f1 f2 ra r8;by_cases mq:((o.aF.part=q.aF.part/\0<x &&& y)\/0<(x &&& y) &&& 8)
  ·rw[bD mq];clear mq;go_wp2;go_ret;exact⟨rfl,(AX.o.trans H5.o).oZ⟩
  rw[bf mq];have Qp:=O (HPA.o mq);have HNW:=O (KC (ae aX wc));clear mq HPA;go_wp2_with fail
  refine HNW.o.mono ?_;rintro e y6⟨T,rfl,h6, -⟩;have H6:=O h6;clear h6 HNW;go_wp2_with fail
  go_loopw[12] (aiy wc (o.dX hs) (q.dX qs) T bs.length) (fun iv _=>bs.length-(intOf iv).toNat)
  case atStart=>exact⟨0,ab,rfl,uG,H6.o,Ed.new _ _⟩
  case round =>
   obtain⟨k,hk,rfl,u,hT,hu⟩:=hrel;clear H6;by_cases hkL:k<bs.length
   ·have dT:=tF.o.i_ (AX.o.trans (H5.o.trans hT.fr));rcases dT.2 with ⟨_,_,_,e,_⟩|⟨bk,o0,c,hf,g1,g2,g3,g4⟩
    ·have:bs=[]:=by simpa using e
     subst this;exact absurd hkL (ct _)
    rw[aj]at hf;cases hf;have hx:=List.getElem?_eq_getElem hkL;generalize bs[k]=b at hx;have Xr:wr.cell? ⟨bk,o0+k,none⟩=some (.bool b):=by
     have:=g4 k _ (by rw[List.getElem?_map,hx];rfl) 0 _ rfl
     rwa [Nat.mul_one,Nat.add_zero]at this
    have Px:=O hT;have HU:=O hu;obtain⟨N,hN⟩:∃N,N=wr.drew.heap.size:=⟨_,rfl⟩
    have N_:=O (show(wr.drew.alloc (.cells #[.int .i64 0,.int .i64 0,.bool false,.string ⟨#[]⟩,.int .i64 0,.bool false,.string ⟨#[]⟩,.int .i64 0,.string ⟨#[]⟩,.string ⟨#[]⟩,.string ⟨#[]⟩,.slice none 0 0,.bool false,.string ⟨#[]⟩,.bool false,.string ⟨#[]⟩,.string ⟨#[]⟩,.string ⟨#[]⟩,.string ⟨#[]⟩,.int .i64 0,.bool false,.int .i64 0] 33)).heap[N]?=some (.cells #[.int .i64 0,.int .i64 0,.bool false,.string ⟨#[]⟩,.int .i64 0,.bool false,.string ⟨#[]⟩,.int .i64 0,.string ⟨#[]⟩,.string ⟨#[]⟩,.string ⟨#[]⟩,.slice none 0 0,.bool false,.string ⟨#[]⟩,.bool false,.string ⟨#[]⟩,.string ⟨#[]⟩,.string ⟨#[]⟩,.string ⟨#[]⟩,.int .i64 0,.bool false,.int .i64 0] 33 (0,0))from by rw[hN];exact aC _ _)
    obtain⟨y20,Y_⟩:∃W,W=(wr.drew.alloc (.cells #[.int .i64 0,.int .i64 0,.bool false,.string ⟨#[]⟩,.int .i64 0,.bool false,.string ⟨#[]⟩,.int .i64 0,.string ⟨#[]⟩,.string ⟨#[]⟩,.string ⟨#[]⟩,.slice none 0 0,.bool false,.string ⟨#[]⟩,.bool false,.string ⟨#[]⟩,.string ⟨#[]⟩,.string ⟨#[]⟩,.string ⟨#[]⟩,.int .i64 0,.bool false,.int .i64 0] 33)).setRow N #[.int .i64 o.what,.int .i64 o.aF.part,.bool o.aF.cG.aD,.string o.aF.cG.host,.int .i64 o.aF.cG.port,.bool o.aF.o.aD,.string o.aF.o.host,.int .i64 o.aF.o.port,.string o.aF.path,.string o.aF.query,.string o.aF.method,.slice ah hs.length ch,.bool o.aF.fq,.string o.aF.body,.bool o.proxy,.string o.text,.string o.user,.string o.pass,.string o.bz,.int .i64 o.cert,.bool o.all,.int .i64 o.n]:=⟨_,rfl⟩
    have Y':Fr aX wr y20:=by rw[Y_];exact(ae aX wr).drew.trans (jG ((ae aX _).alloc _) (by rw[hN];exact az _) _)
    have HNR:=O (show y20.heap[N]?=some (.cells #[.int .i64 o.what,.int .i64 o.aF.part,.bool o.aF.cG.aD,.string o.aF.cG.host,.int .i64 o.aF.cG.port,.bool o.aF.o.aD,.string o.aF.o.host,.int .i64 o.aF.o.port,.string o.aF.path,.string o.aF.query,.string o.aF.method,.slice ah hs.length ch,.bool o.aF.fq,.string o.aF.body,.bool o.proxy,.string o.text,.string o.user,.string o.pass,.string o.bz,.int .i64 o.cert,.bool o.all,.int .i64 o.n] 33 (0,0))from by rw[Y_];exact nS N_.o)
    have aiD:y20.cell? ⟨bk,o0+k,none⟩=some (.bool b):=nI Xr Y' id;have VD:=O Y';have HN:=O hN;have adF:=O Y_;have VE:=O (hT.dx Y');clear dT hx g4 Xr hT hu hN Y_ Y';go_wp2_with fail
    refine wp_region_held_drew (S:=(fun V=>V.rangeAt w.heap.size 0 [.int .i64 o.what,.int .i64 o.aF.part,.bool o.aF.cG.aD,.string o.aF.cG.host,.int .i64 o.aF.cG.port,.bool o.aF.o.aD,.string o.aF.o.host,.int .i64 o.aF.o.port,.string o.aF.path,.string o.aF.query,.string o.aF.method,.slice ah hs.length ch,.bool o.aF.fq,.string o.aF.body,.bool o.proxy,.string o.text,.string o.user,.string o.pass,.string o.bz,.int .i64 o.cert,.bool o.all,.int .i64 o.n])) af (zm (HKO.o _ ((H5.o.trans Px.o.fr).drew))) ?_
    intro xg
    refine sR 0 70 rfl (fB bB 33 (.tmp 3) rfl w.heap.size 0 rfl [.int .i64 o.what,.int .i64 o.aF.part,.bool o.aF.cG.aD,.string o.aF.cG.host,.int .i64 o.aF.cG.port,.bool o.aF.o.aD,.string o.aF.o.host,.int .i64 o.aF.o.port,.string o.aF.path,.string o.aF.query,.string o.aF.method,.slice ah hs.length ch,.bool o.aF.fq,.string o.aF.body,.bool o.proxy,.string o.text,.string o.user,.string o.pass,.string o.bz,.int .i64 o.cert,.bool o.all,.int .i64 o.n] _ (fun V hV=>hV) underlying33 rfl af) ?_
    try simp only[Act.put,sA,sB,sC]
    clear xg;refine eE 1 rfl fun K hK=>?_;refine Ee rfl 33 rfl #[.int .i64 0,.int .i64 0,.bool false,.string ⟨#[]⟩,.int .i64 0,.bool false,.string ⟨#[]⟩,.int .i64 0,.string ⟨#[]⟩,.string ⟨#[]⟩,.string ⟨#[]⟩,.slice none 0 0,.bool false,.string ⟨#[]⟩,.bool false,.string ⟨#[]⟩,.string ⟨#[]⟩,.string ⟨#[]⟩,.string ⟨#[]⟩,.int .i64 0,.bool false,.int .i64 0] VC N HN.o.symm ?_
    refine hK.out _ _ (zm (HKO.o _ ((H5.o.trans Px.o.fr).drew.alloc _))) ?_;intro wM;clear hK K
    try simp only[Act.put,sA,sB,sC]
    refine aP 2 13 rfl ?_;clear wM;refine eE 3 rfl fun K hK=>?_
    refine gP rfl 33 (.tmp 14) (.tmp 70) rfl N #[.int .i64 o.what,.int .i64 o.aF.part,.bool o.aF.cG.aD,.string o.aF.cG.host,.int .i64 o.aF.cG.port,.bool o.aF.o.aD,.string o.aF.o.host,.int .i64 o.aF.o.port,.string o.aF.path,.string o.aF.query,.string o.aF.method,.slice ah hs.length ch,.bool o.aF.fq,.string o.aF.body,.bool o.proxy,.string o.text,.string o.user,.string o.pass,.string o.bz,.int .i64 o.cert,.bool o.all,.int .i64 o.n] rfl rfl 33 #[.int .i64 0,.int .i64 0,.bool false,.string ⟨#[]⟩,.int .i64 0,.bool false,.string ⟨#[]⟩,.int .i64 0,.string ⟨#[]⟩,.string ⟨#[]⟩,.string ⟨#[]⟩,.slice none 0 0,.bool false,.string ⟨#[]⟩,.bool false,.string ⟨#[]⟩,.string ⟨#[]⟩,.string ⟨#[]⟩,.string ⟨#[]⟩,.int .i64 0,.bool false,.int .i64 0] N_.o af rfl bS ?_
    rw[<-adF.o];refine hK.out _ _ (zm (HKO.o _ (H5.o.trans (Px.o.fr.trans VD.o)))) ?_;intro yb;clear hK yb K
    try simp only[Act.put,sA,sB,sC]
    refine wpAnyH_done af ?_ _;cases b
    ·go_wp2_with fail
     have Za:=O (aaH VE.o 0 ag);clear HN adF VD N_ aiD HKO HKQ;go_wp2_with fail
     refine Za.o.mono ?_;rintro e y15⟨rfl,rfl⟩;by_cases hd:(u.tab 0).does=0
     ·have pY:(((u.tab 0).does:Nat):Int)=0:=ab;have Jy:=HU.o.mr (n:=0) ag hd (KI (HFT.o _ (AX.o.trans H5.o)));have Q5:=Am VE.o ((0:Nat):Int) o hs (k:=2*(k:Int)) ab HU.o.re (HFT.o _ ((AX.o.trans H5.o).trans VE.o.fr)) (FG (HFT.o _ (AX.o.trans H5.o)) VE.o.low) (HFT.o _ (AX.o.trans H5.o)).aF.2.1;rw[dN lf.o]at Q5;rw[show 2*(k:Int)+2=2*((k+1:Nat):Int)from ab]at Jy;have Y9:=O Q5;have HNW:=O Jy
      clear Q5 Jy hd Za;go_wp2_with (first
       |((with_reducible refine dt 82 ?_);refine aJ rfl 33 (.tmp 14) rfl N rfl _ #[.int .i64 o.what,.int .i64 o.aF.part,.bool o.aF.cG.aD,.string o.aF.cG.host,.int .i64 o.aF.cG.port,.bool o.aF.o.aD,.string o.aF.o.host,.int .i64 o.aF.o.port,.string o.aF.path,.string o.aF.query,.string o.aF.method,.slice ah hs.length ch,.bool o.aF.fq,.string o.aF.body,.bool o.proxy,.string o.text,.string o.user,.string o.pass,.string o.bz,.int .i64 o.cert,.bool o.all,.int .i64 o.n] (0,0) _ HNR.o underlying33 rfl af ?_)
       |fail)
      refine Y9.o.mono ?_;rintro e y22⟨rfl,h22, -⟩;have H22:=O h22;clear h22 Y9;go_wp2_with fail
      go_roundw
      case rel=>exact⟨k+1,ab,bh,_,H22.o,HNW.o⟩
      case measure=>simp[intOf];omega
     ·have pY:¬(((u.tab 0).does:Nat):Int)=0:=ab;have iQ:=KE VE.o ((0:Nat):Int) (k:=2*(k:Int)) ab HU.o.re (by have:=HU.o.st;omega) (HT.o.fr (AX.o.trans H5.o));obtain⟨q1,q2,q3⟩:=HU.o.step Qp.o (n:=0) ag hd;unfold oI at iQ;rw[q2,q3,show Bm 0=Value.nilIface from rfl]at iQ;rw[show 2*(k:Int)+2=2*((k+1:Nat):Int)from ab]at q1;have HQ:=O q1;clear q1 q2 q3;generalize kF u ((0:Nat):Int)=rr at iQ HQ;have HS:=O iQ
      clear iQ;go_wp2_with fail
      refine Za.o.mono ?_;rintro e y16⟨rfl,rfl⟩;clear Za;go_wp2_with fail
      refine HS.o.mono ?_;rintro e VF⟨rfl,h17, -⟩;obtain⟨M,hM⟩:∃M,M=VF.heap.size:=⟨_,rfl⟩;have HMB:=O (show(VF.alloc (.cells #[.int .i64 0,.string ⟨#[]⟩,.int .i64 0] 46)).heap[M]?=some (.cells #[.int .i64 0,.string ⟨#[]⟩,.int .i64 0] 46 (0,0))from by rw[hM];exact aC _ _)
      obtain⟨y18,Nd⟩:∃W,W=(VF.alloc (.cells #[.int .i64 0,.string ⟨#[]⟩,.int .i64 0] 46)).setRow M #[.int .i64 rr.2.1.what,.string rr.2.1.head,.int .i64 rr.2.1.cert]:=⟨_,rfl⟩;have VG:Fr aX VF y18:=by rw[Nd];exact jG ((ae aX VF).alloc _) (by rw[hM];exact az _) _
      have H18:=O (h17.dx VG);have HM:=O hM;have VH:=O Nd;clear h17 hM VG Nd HS;by_cases h3:(u.tab 0).does=3
      ·have h3':(((u.tab 0).does:Nat):Int)=3:=ab;rw[bD h3];clear h3 hd;go_wp2_with (first
        |((with_reducible refine lH ⟨none,.store 46 _ _,_,_,_,_⟩ ?_)
          rw[<-HM.o]
          refine aI rfl 46 (.tmp 16) (.tmp 91) rfl M #[.int .i64 rr.2.1.what,.string rr.2.1.head,.int .i64 rr.2.1.cert] rfl rfl 46 #[.int .i64 0,.string ⟨#[]⟩,.int .i64 0] HMB.o (ba _ rfl) rfl bS ?_
          rw[<-VH.o])
        |fail)
       go_roundw
       case rel=>exact⟨k+1,ab,bh,_,H18.o,HQ.o⟩
       case measure=>simp[intOf];omega
      ·have h3':¬(((u.tab 0).does:Nat):Int)=3:=ab;rw[bf h3];clear h3 hd;go_wp2_with (first
        |((with_reducible refine lH ⟨none,.store 46 _ _,_,_,_,_⟩ ?_)
          rw[<-HM.o]
          refine aI rfl 46 (.tmp 16) (.tmp 91) rfl M #[.int .i64 rr.2.1.what,.string rr.2.1.head,.int .i64 rr.2.1.cert] rfl rfl 46 #[.int .i64 0,.string ⟨#[]⟩,.int .i64 0] HMB.o (ba _ rfl) rfl bS ?_
          rw[<-VH.o])
        |fail)
       go_roundw
       case rel=>exact⟨k+1,ab,bh,_,H18.o,HQ.o⟩
       case measure=>simp[intOf];omega
    ·obtain⟨y21,Zb⟩:∃W,W=y20.drew.setRow N #[.int .i64 q.what,.int .i64 q.aF.part,.bool q.aF.cG.aD,.string q.aF.cG.host,.int .i64 q.aF.cG.port,.bool q.aF.o.aD,.string q.aF.o.host,.int .i64 q.aF.o.port,.string q.aF.path,.string q.aF.query,.string q.aF.method,.slice aq qs.length cq,.bool q.aF.fq,.string q.aF.body,.bool q.proxy,.string q.text,.string q.user,.string q.pass,.string q.bz,.int .i64 q.cert,.bool q.all,.int .i64 q.n]:=⟨_,rfl⟩
     have aiG:Fr aX wr y21:=by rw[Zb];exact jG (VD.o.drew) (by have:=HN.o;rw[this];exact az _) _
     have adG:=O aiG;have aiH:=O Zb
     have HNQ:=O (show y21.heap[N]?=some (.cells #[.int .i64 q.what,.int .i64 q.aF.part,.bool q.aF.cG.aD,.string q.aF.cG.host,.int .i64 q.aF.cG.port,.bool q.aF.o.aD,.string q.aF.o.host,.int .i64 q.aF.o.port,.string q.aF.path,.string q.aF.query,.string q.aF.method,.slice aq qs.length cq,.bool q.aF.fq,.string q.aF.body,.bool q.proxy,.string q.text,.string q.user,.string q.pass,.string q.bz,.int .i64 q.cert,.bool q.all,.int .i64 q.n] 33 (0,0))from by rw[Zb];exact nS HNR.o)
     clear Zb aiG;go_wp2_with fail
     refine wp_region_held_drew (S:=(fun V=>V.rangeAt (w.heap.size+1) 0 [.int .i64 q.what,.int .i64 q.aF.part,.bool q.aF.cG.aD,.string q.aF.cG.host,.int .i64 q.aF.cG.port,.bool q.aF.o.aD,.string q.aF.o.host,.int .i64 q.aF.o.port,.string q.aF.path,.string q.aF.query,.string q.aF.method,.slice aq qs.length cq,.bool q.aF.fq,.string q.aF.body,.bool q.proxy,.string q.text,.string q.user,.string q.pass,.string q.bz,.int .i64 q.cert,.bool q.all,.int .i64 q.n])) af (zm (HKQ.o _ ((H5.o.trans (Px.o.fr.trans VD.o)).drew))) ?_
     intro xg
     refine sR 0 75 rfl (fB bB 33 (.tmp 4) rfl (w.heap.size+1) 0 rfl [.int .i64 q.what,.int .i64 q.aF.part,.bool q.aF.cG.aD,.string q.aF.cG.host,.int .i64 q.aF.cG.port,.bool q.aF.o.aD,.string q.aF.o.host,.int .i64 q.aF.o.port,.string q.aF.path,.string q.aF.query,.string q.aF.method,.slice aq qs.length cq,.bool q.aF.fq,.string q.aF.body,.bool q.proxy,.string q.text,.string q.user,.string q.pass,.string q.bz,.int .i64 q.cert,.bool q.all,.int .i64 q.n] _ (fun V hV=>hV) underlying33 rfl af) ?_
     try simp only[Act.put,sA,sB,sC]
     refine aP 1 13 rfl ?_;clear xg;refine eE 2 rfl fun K hK=>?_
     refine gP rfl 33 (.tmp 14) (.tmp 75) rfl N #[.int .i64 q.what,.int .i64 q.aF.part,.bool q.aF.cG.aD,.string q.aF.cG.host,.int .i64 q.aF.cG.port,.bool q.aF.o.aD,.string q.aF.o.host,.int .i64 q.aF.o.port,.string q.aF.path,.string q.aF.query,.string q.aF.method,.slice aq qs.length cq,.bool q.aF.fq,.string q.aF.body,.bool q.proxy,.string q.text,.string q.user,.string q.pass,.string q.bz,.int .i64 q.cert,.bool q.all,.int .i64 q.n] rfl rfl 33 #[.int .i64 o.what,.int .i64 o.aF.part,.bool o.aF.cG.aD,.string o.aF.cG.host,.int .i64 o.aF.cG.port,.bool o.aF.o.aD,.string o.aF.o.host,.int .i64 o.aF.o.port,.string o.aF.path,.string o.aF.query,.string o.aF.method,.slice ah hs.length ch,.bool o.aF.fq,.string o.aF.body,.bool o.proxy,.string o.text,.string o.user,.string o.pass,.string o.bz,.int .i64 o.cert,.bool o.all,.int .i64 o.n] HNR.o af rfl bS ?_
     rw[<-aiH.o];refine hK.out _ _ (zm (HKQ.o _ (H5.o.trans (Px.o.fr.trans adG.o)))) ?_;intro yb;clear hK yb K
     try simp only[Act.put,sA,sB,sC]
     refine wpAnyH_done af ?_ _;have HNR:=O HNQ.o;have VE:=O (Px.o.dx adG.o);have Za:=O (aaH VE.o 1 ag);clear HN adF aiH VD adG N_ aiD HKO HKQ;go_wp2_with fail
     refine Za.o.mono ?_;rintro e y15⟨rfl,rfl⟩;by_cases hd:(u.tab 1).does=0
     ·have pY:(((u.tab 1).does:Nat):Int)=0:=ab;have Jy:=HU.o.mr (n:=1) ag hd (KI (HFQ.o _ (AX.o.trans H5.o)));have Q5:=Am VE.o ((1:Nat):Int) q qs (k:=2*(k:Int)) ab HU.o.re (HFQ.o _ ((AX.o.trans H5.o).trans VE.o.fr)) (FG (HFQ.o _ (AX.o.trans H5.o)) VE.o.low) (HFQ.o _ (AX.o.trans H5.o)).aF.2.1;rw[dN HHQ.o]at Q5;rw[show 2*(k:Int)+2=2*((k+1:Nat):Int)from ab]at Jy;have Y9:=O Q5;have HNW:=O Jy
      clear Q5 Jy hd Za;go_wp2_with (first
       |((with_reducible refine dt 82 ?_);refine aJ rfl 33 (.tmp 14) rfl N rfl _ #[.int .i64 q.what,.int .i64 q.aF.part,.bool q.aF.cG.aD,.string q.aF.cG.host,.int .i64 q.aF.cG.port,.bool q.aF.o.aD,.string q.aF.o.host,.int .i64 q.aF.o.port,.string q.aF.path,.string q.aF.query,.string q.aF.method,.slice aq qs.length cq,.bool q.aF.fq,.string q.aF.body,.bool q.proxy,.string q.text,.string q.user,.string q.pass,.string q.bz,.int .i64 q.cert,.bool q.all,.int .i64 q.n] (0,0) _ HNR.o underlying33 rfl af ?_)
       |fail)
      refine Y9.o.mono ?_;rintro e y22⟨rfl,h22, -⟩;have H22:=O h22;clear h22 Y9;go_wp2_with fail
      go_roundw
      case rel=>exact⟨k+1,ab,bh,_,H22.o,HNW.o⟩
      case measure=>simp[intOf];omega
     ·have pY:¬(((u.tab 1).does:Nat):Int)=0:=ab;have iQ:=KE VE.o ((1:Nat):Int) (k:=2*(k:Int)) ab HU.o.re (by have:=HU.o.st;omega) (HT.o.fr (AX.o.trans H5.o));obtain⟨q1,q2,q3⟩:=HU.o.step Qp.o (n:=1) ag hd;unfold oI at iQ;rw[q2,q3,show Bm 0=Value.nilIface from rfl]at iQ;rw[show 2*(k:Int)+2=2*((k+1:Nat):Int)from ab]at q1;have HQ:=O q1;clear q1 q2 q3;generalize kF u ((1:Nat):Int)=rr at iQ HQ;have HS:=O iQ
      clear iQ;go_wp2_with fail
      refine Za.o.mono ?_;rintro e y16⟨rfl,rfl⟩;clear Za;go_wp2_with fail
      refine HS.o.mono ?_;rintro e VF⟨rfl,h17, -⟩;obtain⟨M,hM⟩:∃M,M=VF.heap.size:=⟨_,rfl⟩;have HMB:=O (show(VF.alloc (.cells #[.int .i64 0,.string ⟨#[]⟩,.int .i64 0] 46)).heap[M]?=some (.cells #[.int .i64 0,.string ⟨#[]⟩,.int .i64 0] 46 (0,0))from by rw[hM];exact aC _ _)
      obtain⟨y18,Nd⟩:∃W,W=(VF.alloc (.cells #[.int .i64 0,.string ⟨#[]⟩,.int .i64 0] 46)).setRow M #[.int .i64 rr.2.1.what,.string rr.2.1.head,.int .i64 rr.2.1.cert]:=⟨_,rfl⟩;have VG:Fr aX VF y18:=by rw[Nd];exact jG ((ae aX VF).alloc _) (by rw[hM];exact az _) _
      have H18:=O (h17.dx VG);have HM:=O hM;have VH:=O Nd;clear h17 hM VG Nd HS;by_cases h3:(u.tab 1).does=3
      ·have h3':(((u.tab 1).does:Nat):Int)=3:=ab;rw[bD h3];clear h3 hd;go_wp2_with (first
        |((with_reducible refine lH ⟨none,.store 46 _ _,_,_,_,_⟩ ?_)
          rw[<-HM.o]
          refine aI rfl 46 (.tmp 16) (.tmp 91) rfl M #[.int .i64 rr.2.1.what,.string rr.2.1.head,.int .i64 rr.2.1.cert] rfl rfl 46 #[.int .i64 0,.string ⟨#[]⟩,.int .i64 0] HMB.o (ba _ rfl) rfl bS ?_
          rw[<-VH.o])
        |fail)
       go_roundw
       case rel=>exact⟨k+1,ab,bh,_,H18.o,HQ.o⟩
       case measure=>simp[intOf];omega
      ·have h3':¬(((u.tab 1).does:Nat):Int)=3:=ab;rw[bf h3];clear h3 hd;go_wp2_with (first
        |((with_reducible refine lH ⟨none,.store 46 _ _,_,_,_,_⟩ ?_)
          rw[<-HM.o]
          refine aI rfl 46 (.tmp 16) (.tmp 91) rfl M #[.int .i64 rr.2.1.what,.string rr.2.1.head,.int .i64 rr.2.1.cert] rfl rfl 46 #[.int .i64 0,.string ⟨#[]⟩,.int .i64 0] HMB.o (ba _ rfl) rfl bS ?_
          rw[<-VH.o])
        |fail)
       go_roundw
       case rel=>exact⟨k+1,ab,bh,_,H18.o,HQ.o⟩
       case measure=>simp[intOf];omega
   ·have O2:=O ((AX.o.trans H5.o).trans hT.fr);clear hT hu;go_wp2;go_ret;exact⟨rfl,O2.o.oZ⟩
end Go.Proofs.YtjndhcngnghpiaaGreatDoor
namespace Go.Proofs.YtjndhcngnghpiaaGreatDoor.tabsParts
open Go.Proofs.Tryz
open Go.ChangeShapes Go.WideShapes Go.ChangeAt Go.RowKit
open Go.ChangeMaps (open_string shut_string)
theorem own:ownKnob prog.godebug=none:=af
theorem laidOut:laidOutB prog=true:=af
theorem lifted(os:Os)(started:os.Started)(H:Type)(enc:TypeId×Value->H) :
  ReturnsInHanded {} Tryz.checked os 5 .any (fun w args=>(Rows.tabsPartsSpec.pre enc prog Tryz.f5 Rows.tabsPartsRow.domain false w args/\laidMetH prog Rows.tabsPartsRow.laid w)/\sizedMet enc prog Tryz.f5 (OpenSpec.ofChange Rows.tabsPartsSpec) false w args)
   (Rows.tabsPartsSpec.post enc prog Tryz.f5 false true false false):=by
 refine returnsInHanded_of_change_and (C:=Tryz.checked) (X:=fun w _=>laidMetH prog Rows.tabsPartsRow.laid w) (fun _ _ _ hh h=>h.of_heap hh) own started af func5
  (ChangeSpec.witness_shaped (enc:=enc) (C:=Tryz.checked) (os:=os) (X:=fun w _=>laidMetH prog Rows.tabsPartsRow.laid w) false (World.laidAll prog os Rows.tabsPartsRow.laid) #[.agg #[.int .i64 0,.int .i64 0,.bool false,.string ByteArray.empty,.int .i64 0,.bool false,.string ByteArray.empty,.int .i64 0,.string ByteArray.empty,.string ByteArray.empty,.string ByteArray.empty,.slice none 0 0,.bool false,.string ByteArray.empty,.bool false,.string ByteArray.empty,.string ByteArray.empty,.string ByteArray.empty,.string ByteArray.empty,.int .i64 0,.bool false,.int .i64 0],.agg #[.int .i64 0,.int .i64 0,.bool false,.string ByteArray.empty,.int .i64 0,.bool false,.string ByteArray.empty,.int .i64 0,.string ByteArray.empty,.string ByteArray.empty,.string ByteArray.empty,.slice none 0 0,.bool false,.string ByteArray.empty,.bool false,.string ByteArray.empty,.string ByteArray.empty,.string ByteArray.empty,.string ByteArray.empty,.int .i64 0,.bool false,.int .i64 0],.slice none 0 0] 8 (World.laidAll_os _ _ _)
   (World.shaped_of_ZipB af af) af af af
   (by rw[MakeChecks.laidMetH_plain _ _ _ af];exact laidMet_laidAll _ af af)) ?_
 intro W base args ds gs before aaK hW _ aiI hL _;have xl:(DataW.weightsEach prog (Tryz.f5.params.toList++Rows.tabsPartsSpec.plain.varTypes prog) (ds++gs)).all (· <=reachBytes)=true:=aiI;clear aiI;have hval:∀(j:Nat) t v,Tryz.f5.params[j]?=some t->args[j]?=some v->Value.okWide prog W .any base t v:=aaK;have hW':=hW;obtain⟨p,q,hA0,hV,rfl,_,_⟩:=hW
 have hA:DataW.TrodAll enc prog W 0 (fun _=>true) true Tryz.f5.params.toList args.toList ds p:=hA0;rw[Tryz.params5]at hA hval xl;obtain⟨v0,vs0,d0,ds0,p0,q0,aq0,rfl,rfl,h0,r0⟩:=trodAll_cons hA;obtain⟨v1,vs1,d1,ds1,p1,q1,rfl,rfl,rfl,h1,r1⟩:=trodAll_cons r0;obtain⟨v2,vs2,d2,ds2,p2,q2,rfl,rfl,rfl,h2,r2⟩:=trodAll_cons r1;obtain⟨rfl,rfl,rfl⟩:=trodAll_nil r2
 obtain rfl:args= #[v0,v1,v2]:=by cases args;simp_all
 obtain⟨rfl,rfl⟩:=trodVars_none hV;have k0:=h0;have lt0:∀x∈p0,x.block<W.heap.size:=by obtain⟨m,hm⟩:=k0;exact DataW.trod_lt m _ _ _ hm
 obtain⟨o0,ss0,rfl,st0⟩:=DE (hval 0 33 v0 rfl rfl) h0 (DB xl (j:=0) (t:=33) rfl rfl);have k1:=h1;have lt1:∀x∈p1,x.block<W.heap.size:=by obtain⟨m,hm⟩:=k1;exact DataW.trod_lt m _ _ _ hm
 obtain⟨o1,ss1,rfl,st1⟩:=DE (hval 1 33 v1 rfl rfl) h1 (DB xl (j:=1) (t:=33) rfl rfl);have k2:=h2;have lt2:∀x∈p2,x.block<W.heap.size:=by obtain⟨m,hm⟩:=k2;exact DataW.trod_lt m _ _ _ hm
 obtain⟨ss2,st2⟩:=Nc (hval 2 59 v2 rfl rfl) h2 (DB xl (j:=2) (t:=59) rfl rfl);clear hA0 aaK;rw[MakeChecks.laidMetH_plain _ _ _ af]at hL;have tb0:=LO hL (by refine⟨?_,?_⟩<;>repeat(first|exact True.intro|exact List.Mem.head _|refine List.Mem.tail _ ?_));have tb1:=Jf hL (by refine⟨?_,?_⟩<;>repeat(first|exact True.intro|exact List.Mem.head _|refine List.Mem.tail _ ?_))
 have tb2:=Jg hL (by refine⟨?_,?_⟩<;>repeat(first|exact True.intro|exact List.Mem.head _|refine List.Mem.tail _ ?_));have tb3:=LC hL (by refine⟨?_,?_⟩<;>repeat(first|exact True.intro|exact List.Mem.head _|refine List.Mem.tail _ ?_));refine(DH o0 ss0 o1 ss1 _ ss2  W st0 st1 st2 tb0 tb1 tb2 tb3).mono fun e W' ⟨he,qQ⟩=>?_;subst he
 exact⟨_,rfl,_,_,_,[],_,[],hW',trodAll_mk1 (shut_bool underlying4 _),(trodAll_cons_mk (Below.trod laidOut af (of_decide_eq_true af) k0 qQ lt0) (trodAll_cons_mk (Below.trod laidOut af (of_decide_eq_true af) k1 qQ lt1) (trodAll_cons_mk (Below.trod laidOut af (of_decide_eq_true af) k2 qQ lt2) trodAll_mk0))),rfl,qQ.frame _,fun h=>by cases h⟩
end Go.Proofs.YtjndhcngnghpiaaGreatDoor.tabsParts
