/- Far, ReadsDet, Space1, WSpace, LiftWorldSpace. -/
import Derived.Test.YtjdmjbdkdmbaiaaGreatDoorPk47
import Derived.Test.YtjdmjbdkdmbaiaaGreatDoorTie
import Derived.Test.YtjdmjbdkdmbaiaaGreatDoorCards
import Derived.LaidMore
import Derived.Lay
set_option maxRecDepth 100000
set_option maxHeartbeats 16000000
set_option linter.unusedSimpArgs false
namespace Go.Proofs.YtjdmjbdkdmbaiaaGreatDoor
open Go.RowKit
def FD(m:Bool)(path:ByteArray)(ps:List ByteArray)(n:Int):Int:=ps.foldl (fun n p=>if m&&within path p then max n (p.size:Int)else n) n
theorem QJ(m:Bool)(path:ByteArray)(ps:List ByteArray)(p:ByteArray)(n:Int):FD m path (ps++[p]) n=if m&&within path p then max (FD m path ps n) (p.size:Int)else FD m path ps n:=by simp[FD]
theorem MI(g:cO)(gp:Bool)(ps:List ByteArray)(o:cO)(proxy:Bool)(path:ByteArray):FD (g.eN o&&gp==proxy) path ps (-1)=jS g gp ps o proxy path:=by
 unfold jS;cases g.eN o&&gp==proxy
 ·unfold FD;simp only[Bool.false_and,Bool.false_eq_true,if_false]
  induction ps with
  |nil=>rfl
  |cons p ps ih=>rw[List.foldl_cons];exact ih
 ·rfl
def aci(m:Bool)(path:ByteArray)(ps:List ByteArray)(n i:Value):Prop:=∃k:Nat,k<=ps.length/\i=.int .i64 k/\n=.int .i64 (FD m path (ps.take k) (-1))
theorem Wg(g:ai Value)(o:cO)(proxy:Bool)(path:ByteArray)(ps:List ByteArray)(w:World)(hp:cX w g.paths ps) :
  Calls Tryz.prog 21 #[.agg g.cells.toArray,.agg o.cells.toArray,.bool proxy,.string path] w fun e w'=>e=.returned (.int .i64 (jS g.o g.proxy ps o proxy path))/\Fr ay w w':=by
 have hne:=ey g.o o;have HR:=O (MI g.o g.proxy ps o proxy path).symm;obtain⟨m,NJ⟩:∃m,m=(g.o.eN o&&g.proxy==proxy):=⟨_,rfl⟩;rw[<-NJ]at HR;have hm:=O NJ;clear NJ;unfold ai.cells cO.cells;obtain⟨av,cv,hv⟩:=hp.form;rw[hv]at hp ⊢;clear hv;go_enter Tryz.func21,Tryz.ntmps21;go_wp2
 have hf:Fr ay w _:=((Fr.refl ay w).alloc (.cells #[.bool g.o.ae,.string g.o.host,.int .i64 g.o.port,.bool g.proxy,.string g.user,.string g.pass,.int .i64 g.a.scheme,.string g.a.ar,.string g.a.aE,.string g.a.aK,.bool g.a.aL,.string g.a.bU,.bool g.a.aX,g.a.dom,.int .i64 g.count,.slice av ps.length cv] 49)).alloc (.cells #[.bool o.ae,.string o.host,.int .i64 o.port] 24);have vR:=hp.bu hf;clear hp
 go_loop [9,15] (aci m path ps) (fun _ i=>ps.length-(intOf i).toNat)
 case atStart=>exact⟨0,Nat.zero_le _,rfl,rfl⟩
 case round =>
  obtain⟨k,hk,rfl,rfl⟩:=hrel;by_cases cG:k<ps.length
  ·rcases vR with ⟨_,_,_,e,_⟩|⟨bk,of,c,bt,h1,h2,h3,h4⟩
   ·rw[e]at cG;exact absurd cG (Nat.not_lt_zero _)
   ·cases bt;unfold maxLen at h2;have bC:=O (List.getElem?_eq_getElem cG);have hc:=h4 k _ bC.out;generalize ps[k]=x at bC hc;have rO:=O (show FD m path (ps.take (k+1)) (-1)=if m&&within path x then max (FD m path (ps.take k) (-1)) (x.size:Int)else FD m path (ps.take k) (-1)by rw[bz bC.out,QJ]);clear h4 hf HR;generalize FD m path (ps.take k) (-1)=n at *
    cases e1:g.o.eN o
    ·have yo:=O (show FD m path (ps.take (k+1)) (-1)=n by rw[rO.out,hm.out,e1];rfl);go_wp2
     go_round
     case rel=>exact⟨k+1,by omega,by go_num,by rw[yo.out]⟩
     case measure=>simp[intOf];omega
    ·cases e2:g.proxy==proxy
     ·have yo:=O (show FD m path (ps.take (k+1)) (-1)=n by rw[rO.out,hm.out,e1,e2];rfl);go_wp2
      go_round
      case rel=>exact⟨k+1,by omega,by go_num,by rw[yo.out]⟩
      case measure=>simp[intOf];omega
     ·cases hw:within path x
      ·have yo:=O (show FD m path (ps.take (k+1)) (-1)=n by rw[rO.out,hm.out,e1,e2,hw];rfl);go_wp2_with fail
       refine(Tryz.strings_HasPrefix path x _).mono ?_;rintro e w1⟨rfl,rfl⟩;rw[show Lib.hasPrefix path.data.toList x.data.toList=false from hw];go_wp2
       go_round
       case rel=>exact⟨k+1,by omega,by go_num,by rw[yo.out]⟩
       case measure=>simp[intOf];omega
      ·have yo:=O (show FD m path (ps.take (k+1)) (-1)=max n (x.size:Int)by rw[rO.out,hm.out,e1,e2,hw];rfl);go_wp2_with fail
       refine(Tryz.strings_HasPrefix path x _).mono ?_;rintro e w1⟨rfl,rfl⟩;rw[show Lib.hasPrefix path.data.toList x.data.toList=true from hw];go_wp2
       go_round
       case rel=>exact⟨k+1,by omega,by go_num,by rw[yo.out]⟩
       case measure=>simp[intOf];omega
  ·have bR:=O (show FD m path (ps.take k) (-1)=FD m path ps (-1)by rw[List.take_of_length_le (by omega)]);go_wp2;go_ret;exact⟨by rw[HR.out,bR.out];rfl,hf⟩
theorem cX.det{w:World}{v:Value}{ss ss':List ByteArray}(h:cX w v ss)(h':cX w v ss'):ss=ss':=by
 rcases h with ⟨a,c,hv,hs,_⟩|⟨bk,o,c,hv,h1,h2,h3,h4⟩<;>rcases h' with ⟨a',c',nu,JZ,_⟩|⟨ZE,o',c',nu,JG,h2',h3',h4'⟩
 ·rw[hs,JZ]
 ·rw[hv]at nu;injection nu with _ e _
  rw[hs];exact(List.length_eq_zero_iff.1 e.symm).symm
 ·rw[hv]at nu;injection nu with _ e _
  rw[JZ];exact List.length_eq_zero_iff.1 e
 ·rw[hv]at nu;injection nu with ea e _
  injection ea with ea
  injection ea with e1 e2
  subst e1 e2;refine List.ext_getElem e (fun j hj Wz=>?_);have q:=h4 j _ (List.getElem?_eq_getElem hj);have q':=h4' j _ (List.getElem?_eq_getElem Wz);rw[q]at q';injection q' with q'
  injection q'
theorem cQ.Reads.det{R:Value->List ByteArray->Prop}{r:cQ Value}{g g':cQ aF}(h:r.Reads R g)(h':r.Reads R g')(hd:∀v l l',R v l->R v l'->l=l'):g=g':=by
 obtain⟨a1,a2,a3,a4,a5,a6,a7,a8⟩:=g;obtain⟨b1,b2,b3,b4,b5,b6,b7,b8⟩:=g';obtain⟨e1,e2,e3,e4,e5,e6,e7,e8⟩:=h;obtain⟨f1,f2,f3,f4,f5,f6,f7,f8⟩:=h';have:=hd _ _ _ e8 f8;simp only at e1 e2 e3 e4 e5 e6 e7 f1 f2 f3 f4 f5 f6 f7 this;subst this;rw[<-e1, <-e2, <-e3, <-e4, <-e5, <-e6, <-e7,f1,f2,f3,f4,f5,f6,f7]
theorem ai.Reads.det{R:Value->List ByteArray->Prop}{r:ai Value}{g g':ai aF}(h:r.Reads R g)(h':r.Reads R g')(hd:∀v l l',R v l->R v l'->l=l'):g=g':=by
 obtain⟨a1,a2,a3,a4,a5,a6,a7⟩:=g;obtain⟨b1,b2,b3,b4,b5,b6,b7⟩:=g';obtain⟨e1,e2,e3,e4,e5,e6,e7⟩:=h;obtain⟨f1,f2,f3,f4,f5,f6,f7⟩:=h';have h1:=hd _ _ _ e7 f7;have h2:=e5.det f5 hd;simp only at e1 e2 e3 e4 e6 f1 f2 f3 f4 f6 h1 h2;subst h1 h2;rw[<-e1, <-e2, <-e3, <-e4, <-e6,f1,f2,f3,f4,f6]
theorem ai.vz{r r':ai Value}(h:r.cells=r'.cells):r=r':=by
 obtain⟨⟨a,b,c⟩,d,e,f,⟨g1,g2,g3,g4,g5,g6,g7,g8⟩,i,j⟩:=r;obtain⟨⟨a',b',c'⟩,d',e',f',⟨g1',g2',g3',g4',g5',g6',g7',g8'⟩,i',j'⟩:=r';simp only[ai.cells,List.cons.injEq,Value.bool.injEq,Value.string.injEq,Value.int.injEq,true_and,and_true]at h;obtain⟨rfl,rfl,rfl,rfl,rfl,rfl,rfl,rfl,rfl,rfl,rfl,rfl,rfl,rfl,rfl,rfl⟩:=h;rfl
theorem ai.Reads.pull{R:Value->List ByteArray->Prop}(hd:∀v l l',R v l->R v l'->l=l')(q:ai aF->Bool) :
  ∃p:List Value->Bool,∀(r:ai Value) g,r.Reads R g->p r.cells=q g:=by
 classical
 refine⟨fun x=>decide (∃(r:ai Value) (g:ai aF),r.cells=x/\r.Reads R g/\q g=true),fun r g h=>?_⟩;cases hq:q g
 ·refine decide_eq_false (fun⟨r',g',e,h',hq'⟩=>?_);have:=ai.vz e;subst this;rw[h.det h' hd,hq']at hq;cases hq
 ·exact decide_eq_true ⟨r,g,rfl,h,hq⟩
theorem fF.aj'{α β γ:Type}{R:α->β->Prop}{l:List α}{m:List β}{c:α->γ}{p:γ->Bool}{q:β->Bool}(h:fF R l m)(hp:∀a b,R a b->p (c a)=q b):(l.map c).any p=m.any q:=by
 induction h with
 |nil=>rfl
 |cons h _ ih=>rw[List.map_cons,List.any_cons,List.any_cons,hp _ _ h,ih]
theorem Ij(g:ai Value)(m:ai aF)(base:Nat)(o:cO)(proxy:Bool)(path:ByteArray)(bo:Nat)(w:World)(hg:g.Reads (aS base w) m)
  (c5:w.cell? ⟨bo,5,none⟩=some (.bool o.ae))(c6:w.cell? ⟨bo,6,none⟩=some (.string o.host))(c7:w.cell? ⟨bo,7,none⟩=some (.int .i64 o.port))(c8:w.cell? ⟨bo,8,none⟩=some (.string path))(c14:w.cell? ⟨bo,14,none⟩=some (.bool proxy))(Pm:bo<w.heap.size) :
  Calls Tryz.prog 20 #[.agg g.cells.toArray,.pointer (some ⟨bo,0,none⟩)] w fun e w'=>e=.returned (.bool (decide (0<=eE o proxy path m)))/\Fr ay w w':=by
 have hlen:g.cells.length=16:=rfl;have hp:=hg.2.2.2.2.2.2;have e1:=hg.1;have e2:=hg.2.1;have hr:eE o proxy path m=jS g.o g.proxy m.paths o proxy path:=by unfold eE;rw[e1,e2]
 have dF:Fr ay w (w.alloc (.cells g.cells.toArray 49)):=(Fr.refl ay w).alloc _;have HB:=O (af w (.cells g.cells.toArray 49));have FAR:=O (Wg g o proxy path m.paths (w.alloc (.cells g.cells.toArray 49)) (hp.rd.bu dF));unfold cO.cells at FAR;obtain⟨x,hx⟩:∃x,x=g.cells.toArray:=⟨_,rfl⟩;have mz:=O (show(Tryz.prog.info? 49).map (·.size)=some x.size by rw[hx,List.size_toArray,hlen];kernel_rfl)
 have HR:=O hr;rw[<-hx]at HB FAR ⊢;have HF:=O dF;rw[<-hx]at HF;clear hg hp e1 e2 hr dF hx hlen;go_enter Tryz.func20,Tryz.ntmps20;go_wp2_with (first|((with_reducible refine ag ⟨some 4,_,_,_,_,_⟩ ?_);go_must(refine wpList_load_row rfl 49 (.tmp 2) rfl w.heap.size rfl _ x (0,0) _ HB.out Tryz.underlying49 rfl mz.out ?_))|fail)
 refine FAR.out.mono ?_;rintro e u⟨rfl,hu⟩;go_wp2_with fail
 go_ret;exact⟨by rw[HR.out];rfl,HF.out.trans hu⟩
theorem qy{base:Nat}{w:World}{rs:List (ai Value)}{gs:List (ai aF)}(hb:fF (ai.Reads (aS base w)) rs gs)(o:cO)(proxy:Bool)(path:ByteArray)(bo:Nat)(Pm:bo<w.heap.size)
  (c5:w.cell? ⟨bo,5,none⟩=some (.bool o.ae))(c6:w.cell? ⟨bo,6,none⟩=some (.string o.host))(c7:w.cell? ⟨bo,7,none⟩=some (.int .i64 o.port))(c8:w.cell? ⟨bo,8,none⟩=some (.string path))(c14:w.cell? ⟨bo,14,none⟩=some (.bool proxy)) :
  ∃p:List Value->Bool,dn ay w 20 #[.pointer (some ⟨bo,0,none⟩)] p (rs.map ai.cells)/\(rs.map ai.cells).any p=gs.any (fun g=>decide (0<=eE o proxy path g)):=by
 obtain⟨p,hp⟩:=ai.Reads.pull (R:=aS base w) (fun _ _ _ h h'=>cX.det h.rd h'.rd) (fun g=>decide (0<=eE o proxy path g));refine⟨p,fun x hx u hu=>?_,hb.aj' hp⟩;obtain⟨r,hr,rfl⟩:=List.mem_map.1 hx;obtain⟨g,hg,hrg⟩:=hb.am_ hr;rw[hp r g hrg];have cc:∀i,u.cell? ⟨bo,i,none⟩=w.cell? ⟨bo,i,none⟩:=fun i=>hu.cell (p:=⟨bo,i,none⟩) Pm (fun h=>h)
 have:=Ij r g base o proxy path bo u (hrg.mono (fun _ _ h=>h.bd hu)) ((cc 5).trans c5) ((cc 6).trans c6) ((cc 7).trans c7) ((cc 8).trans c8) ((cc 14).trans c14) (Nat.lt_of_lt_of_le Pm hu.size);simpa using this
theorem Wh{α β:Type}{R:α->β->Prop}{l:List α}{m:List β}(h:fF R l m):∀ {k:Nat} {b:β},m[k]?=some b->∃a,l[k]?=some a/\R a b:=by
 induction h with
 |nil=>intro k b hk;cases k<;>cases hk
 |cons h _ ih =>
  intro k b hk;cases k with
  |zero=>have e:=Option.some.inj hk;subst e;exact⟨_,rfl,h⟩
  |succ k=>exact ih hk
theorem wW(v:Value)(os:List (ei×List dW))(o:ei)(hs:List dW)(w:World)(sO:gM w v os)(vD:jw w o hs)(pw:nI w)(md:kX w)(sh:kZ w)(db:iu w 9 .u8 Gr) :
  Calls Tryz.prog 4 #[v,.agg o.cells.toArray] w fun e w'=>e=.returned (.bool true)/\Below w.heap.size w w':=by
 have ht:fN w:=⟨⟨db,md,sh⟩,pw⟩;obtain⟨av,cv,cA⟩:=sO.1.form;rw[List.length_map]at cA;subst cA;obtain⟨ah,ch,df⟩:=aN.form vD.ab.cU;rw[List.length_map]at df;obtain⟨w0,pB⟩:∃w0,w0=w.alloc (.cells o.cells.toArray 33):=⟨_,rfl⟩;have iJ:Fr ay w w0:=by rw[pB];exact(Fr.refl ay w).alloc _
 have k0:w0.heap[w.heap.size]?=some (.cells o.cells.toArray 33 (0,0)):=by rw[pB];exact af _ _
 have qw:w0.heap.size=w.heap.size+1:=by rw[pB];simp
 have HT:=O ht;have fX:=O df;have oK:=O iJ;have HK0:=O k0;have Qf:=O vD;have HA0:=O sO
 have Qu:=O (show∀U,Fr ay w0 U->U.heap[w.heap.size]?=some (.cells #[.int .i64 o.what,.int .i64 o.ab.part,.bool o.ab.aI.ae,.string o.ab.aI.host,.int .i64 o.ab.aI.port,.bool o.ab.o.ae,.string o.ab.o.host,.int .i64 o.ab.o.port,.string o.ab.path,.string o.ab.query,.string o.ab.method,.slice ah hs.length ch,.bool o.ab.bP,.string o.ab.body,.bool o.proxy,.string o.text,.string o.user,.string o.pass,.string o.aB,.int .i64 o.cert,.bool o.all,.int .i64 o.n] 33 (0,0))from fun U hU=>by rw[<-aZ df];exact hU.keep k0 (fun h=>h))
 have Qv:=O (show∀U,Fr ay w U->Calls Tryz.prog 14 #[] U _ from fun U hU=>qU U (ht.fr hU));have LU:=O (show∀U,Fr ay w U->Calls Tryz.prog 15 #[.slice av os.length cv] U _ from fun U hU=>kQ _ os U (sO.fr hU))
 have BD:=O (show∀U n t,Fr ay w U->U.heap[n]?=some (.cells #[.int .i64 o.what,.int .i64 o.ab.part,.bool o.ab.aI.ae,.string o.ab.aI.host,.int .i64 o.ab.aI.port,.bool o.ab.o.ae,.string o.ab.o.host,.int .i64 o.ab.o.port,.string o.ab.path,.string o.ab.query,.string o.ab.method,.slice ah hs.length ch,.bool o.ab.bP,.string o.ab.body,.bool o.proxy,.string o.text,.string o.user,.string o.pass,.string o.aB,.int .i64 o.cert,.bool o.all,.int .i64 o.n] t (0,0))->Calls Tryz.prog 15 #[.slice (some ⟨n,0,none⟩) 1 1] U fun e w'=>e=.returned (.bool (!fU (o,hs)))/\Fr ay U w' from fun U n t hU hb=>by
  have h:=kQ _ [(o,hs)] U (gM.one (vD.fr hU) df (by rw[aZ df];exact hb));rw[vA]at h;exact h)
 have Qw:=O (show jy os=true->∀U,Fr ay w U->Calls Tryz.prog 16 #[.slice av os.length cv] U _ from fun rO U hU=>oM w.heap.size _ os U (sO.fr hU) rO w ht (Nat.le_refl _) hU hU.size);rw[pB]at k0;rw[aZ df]at pB k0 ⊢;have HW0:=O pB;clear pB df iJ k0 qw sO vD ht pw md sh db;go_enter Tryz.func4,Tryz.ntmps4;go_wp2_with fail
 rw[<-HW0.out];refine(Qv.out _ oK.out).mono ?_;rintro e u1⟨rfl,h1⟩;have H1:=O h1;clear h1;go_wp2_with fail
 refine(LU.out _ (oK.out.trans H1.out)).mono ?_;rintro e u2⟨rfl,h2⟩;have H2:=O (H1.out.trans h2);have Ja:=O (Qu.out _ H2.out);clear h2 Qv LU;cases zg:jy os
 ·clear zg;go_wp2;go_ret;exact⟨rfl,(oK.out.trans H2.out).bQ⟩
 have LS:=O zg;clear zg
 go_wp2_with (first|((with_reducible refine ag ⟨some 16,_,_,_,_,_⟩ ?_);go_must(refine fV (by rfl) 33 (.tmp 3) rfl w.heap.size rfl _ #[.int .i64 o.what,.int .i64 o.ab.part,.bool o.ab.aI.ae,.string o.ab.aI.host,.int .i64 o.ab.aI.port,.bool o.ab.o.ae,.string o.ab.o.host,.int .i64 o.ab.o.port,.string o.ab.path,.string o.ab.query,.string o.ab.method,.slice ah hs.length ch,.bool o.ab.bP,.string o.ab.body,.bool o.proxy,.string o.text,.string o.user,.string o.pass,.string o.aB,.int .i64 o.cert,.bool o.all,.int .i64 o.n] (0,0) _ Ja.out Tryz.underlying33 rfl (by kernel_rfl) ?_))|fail)
 obtain⟨u3,pz⟩:∃u3,u3=u2.alloc (.cells #[.int .i64 o.what,.int .i64 o.ab.part,.bool o.ab.aI.ae,.string o.ab.aI.host,.int .i64 o.ab.aI.port,.bool o.ab.o.ae,.string o.ab.o.host,.int .i64 o.ab.o.port,.string o.ab.path,.string o.ab.query,.string o.ab.method,.slice ah hs.length ch,.bool o.ab.bP,.string o.ab.body,.bool o.proxy,.string o.text,.string o.user,.string o.pass,.string o.aB,.int .i64 o.cert,.bool o.all,.int .i64 o.n] 33):=⟨_,rfl⟩
 have dv:Fr ay u2 u3:=by rw[pz];exact(Fr.refl _ _).alloc _
 have H3:=O (H2.out.trans dv)
 have jQ:=af u2 (.cells #[.int .i64 o.what,.int .i64 o.ab.part,.bool o.ab.aI.ae,.string o.ab.aI.host,.int .i64 o.ab.aI.port,.bool o.ab.o.ae,.string o.ab.o.host,.int .i64 o.ab.o.port,.string o.ab.path,.string o.ab.query,.string o.ab.method,.slice ah hs.length ch,.bool o.ab.bP,.string o.ab.body,.bool o.proxy,.string o.text,.string o.user,.string o.pass,.string o.aB,.int .i64 o.cert,.bool o.all,.int .i64 o.n] 33)
 rw[<-pz]at jQ ⊢;clear pz dv;refine(BD.out _ _ _ (oK.out.trans H3.out) jQ).mono ?_;rintro e u4⟨rfl,h4⟩;have H4:=O (H3.out.trans h4);clear h4 jQ BD;cases FI:fU (o,hs)
 case true =>
  clear FI;go_wp2;go_ret;exact⟨rfl,(oK.out.trans H4.out).bQ⟩
 have Nf:=O FI;clear FI;go_wp2_with fail
 refine(Qw.out LS.out _ (oK.out.trans H4.out)).mono ?_;rintro e u5⟨B,pv,rfl,wQ,rk,h5,AF⟩;obtain⟨x,hx⟩:∃x,x=nM (opsL os):=⟨_,rfl⟩;rw[<-hx]at wQ rk;have Nd:=O wQ;have C4:=O rk;have H5:=O (H4.out.trans h5);have HLW:=O AF;have uI:=O (show∀U,Fr ay w U->bg U o hs from fun U hU=>bg.Mt (Qf.out.fr hU) Nf.out);clear wQ rk h5 AF hx Qw LS Nf;have jF:=O (oK.out.trans H5.out);have rA:=O (Qu.out _ H5.out)
 obtain⟨gs,Xz⟩:∃gs,gs=iW x o.ab.part:=⟨_,rfl⟩;have Fa:=O (oN w.heap.size u5 B pv x Nd.out o.ab.part (fun i hi=>Nat.lt_of_le_of_lt (C4.out.ok.part i).xc.1 (by decide)));rw[<-Xz]at Fa;have XA:=O Xz;clear Xz;have c1:u5.cell? ⟨w.heap.size,1,none⟩=some (.int .i64 o.ab.part):=by have h:=rA.out;simp only[World.cell?,h];rfl
 go_wp2_with fail
 clear c1;refine Fa.out.mono ?_;rintro e u6⟨gv,rfl,⟨⟨rs,a_,hbt⟩,aka⟩,W_⟩;obtain⟨ga,gc,X_⟩:=a_.at.form;rw[List.length_map,hbt.len]at X_;subst X_;have HGI:=O (show dx w.heap.size u6 (.slice ga gs.length gc) gs from⟨rs,a_,hbt⟩);have VC:=O aka;have HG6:=O W_;have HLT:=O (aj rA.out);clear a_ hbt aka Fa W_;have D3:=O (Nd.out.bd HG6.out);have dk:=O (jF.out.trans HG6.out)
 have zK:=O (HG6.out.keep rA.out (fun h=>h));obtain⟨W4,hW4⟩:∃W4,W4=u6.setCell ⟨w.heap.size,0,none⟩ (.int .i64 1):=⟨_,rfl⟩;obtain⟨q5a,q5b,q5c,q5d⟩:=dU D3.out dk.out (Nat.le_refl _) (Nat.le_refl _) zK.out aO (by decide) (by decide) 0 (.int .i64 1);have q5e:u6.cell? ⟨w.heap.size,0,none⟩=some (.int .i64 o.what):=by have h:=zK.out;simp only[World.cell?,h];rfl
 have q5f:u6.frozen? ⟨w.heap.size,0,none⟩=false:=by have h:=zK.out;simp[World.frozen?,h]
 have q5l:w.heap.size<u6.heap.size:=aj zK.out;rw[<-hW4]at q5a q5b q5c q5d;have D4:=O q5a;have zv:=O q5b
 have HB8:=O (show W4.heap[w.heap.size]?=some (.cells #[.int .i64 1,.int .i64 o.ab.part,.bool o.ab.aI.ae,.string o.ab.aI.host,.int .i64 o.ab.aI.port,.bool o.ab.o.ae,.string o.ab.o.host,.int .i64 o.ab.o.port,.string o.ab.path,.string o.ab.query,.string o.ab.method,.slice ah hs.length ch,.bool o.ab.bP,.string o.ab.body,.bool o.proxy,.string o.text,.string o.user,.string o.pass,.string o.aB,.int .i64 o.cert,.bool o.all,.int .i64 o.n] 33 (0,0))from q5c)
 clear q5a q5b q5c q5d;have avk:=O (show W4.heap.size=u6.heap.size by rw[hW4];simp[World.setCell]);have avl:=O (show w.heap.size<u6.heap.size from q5l);have acj:=O hW4;clear hW4;have SN:Fr (one w.heap.size) u6 W4:=by rw[acj.out];exact(Fr.refl (one w.heap.size) u6).setCell (p:=⟨w.heap.size,0,none⟩) (fun _=>rfl) _
 have ar2:=O (HGI.out.fr SN (by rintro k rfl _;exact⟨Nat.le_refl _,fun c f e=>by rw[zK.out]at e;cases e⟩) (fun k hk e=>by have e':k=w.heap.size:=e;have h1:=VC.out k hk;have h2:=HLT.out;omega));clear SN;have ar3:=O (by have h:=HB8.out;rw[acj.out]at h;exact h);obtain⟨y9,hy9⟩:∃y9,y9=cV x (({o with what:=1}).bF hs):=⟨_,rfl⟩
 have akb:=O (show Calls Tryz.prog 17 #[.pointer (some ⟨B,0,none⟩),.agg #[.int .i64 1,.int .i64 o.ab.part,.bool o.ab.aI.ae,.string o.ab.aI.host,.int .i64 o.ab.aI.port,.bool o.ab.o.ae,.string o.ab.o.host,.int .i64 o.ab.o.port,.string o.ab.path,.string o.ab.query,.string o.ab.method,.slice ah hs.length ch,.bool o.ab.bP,.string o.ab.body,.bool o.proxy,.string o.text,.string o.user,.string o.pass,.string o.aB,.int .i64 o.cert,.bool o.all,.int .i64 o.n]] W4 (fun e w'=>e=.returned (.agg #[.int .i64 y9.2.what,.string y9.2.head,.int .i64 y9.2.cert])/\aC w.heap.size W4 B pv y9.1 w')from by
  have h:=ja (o:={o with what:=1}) (hs:=hs) D4.out zv.out C4.out HT.out (bg.qv (uI.out _ zv.out) 1 (by decide) (by decide));rw[aZ (o:={o with what:=1}) (hs:=hs) fX.out]at h;rw[hy9];exact h)
 have ar4:=O (show fW y9.1 by rw[hy9];exact bg.small (bg.qv (uI.out _ zv.out) 1 (by decide) (by decide)) C4.out);have akc:=O hy9;clear hy9
 go_wp2_with (first|((with_reducible refine ag ⟨some 30,_,_,_,_,_⟩ ?_);go_must(refine wpList_load_row rfl 33 (.tmp 3) rfl (w.heap.size) rfl _ #[.int .i64 1,.int .i64 o.ab.part,.bool o.ab.aI.ae,.string o.ab.aI.host,.int .i64 o.ab.aI.port,.bool o.ab.o.ae,.string o.ab.o.host,.int .i64 o.ab.o.port,.string o.ab.path,.string o.ab.query,.string o.ab.method,.slice ah hs.length ch,.bool o.ab.bP,.string o.ab.body,.bool o.proxy,.string o.text,.string o.user,.string o.pass,.string o.aB,.int .i64 o.cert,.bool o.all,.int .i64 o.n] (0,0) _ ar3.out Tryz.underlying33 rfl (by kernel_rfl) ?_))|fail)
 rw[<-acj.out];clear q5e q5f q5l;refine akb.out.mono ?_;rintro e X'⟨rfl,hp⟩;obtain⟨ar5,gA,gB,dH⟩:=cb D4.out zv.out (Nat.le_refl _) hp;have ar6:=O gA;have ar7:=O gB;have ar8:=O (dH _ _ _ HB8.out aO (by decide));have⟨_,_,B4,_⟩:=hp;have ar9:=O (ar2.out.fr B4 D4.out.off (fun k hk hf=>by have h1:=VC.out k hk;have h2:=Nd.out.fO hf;omega));clear B4;clear hp gA gB dH akb
 have QK:=O (show∃W,W=X'.alloc (.cells #[.int .i64 y9.2.what,.string y9.2.head,.int .i64 y9.2.cert] 39)from⟨_,rfl⟩);obtain⟨W19,hh⟩:=QK.out;clear QK;have f21:Fr ay X' W19:=by rw[hh];exact(Fr.refl _ _).alloc _
 have ar_:=O (ar6.out.bd f21);have ack:=O (ar7.out.trans f21);have acm:=O (show W19.heap[X'.heap.size]?=some (.cells #[.int .i64 y9.2.what,.string y9.2.head,.int .i64 y9.2.cert] 39 (0,0))by rw[hh];exact af _ _);have acn:=O (f21.keep ar8.out (fun h=>h));have Ya:=O hh;clear hh f21;have ake:=O (ar9.out.fr (show Fr ay X' W19 from by rw[Ya.out];exact(Fr.refl _ _).alloc _) (lT.none _ _) (fun _ _ h=>h))
 have CD:=Me (w:=x) (o:=({o with what:=1}:ei).bF hs) C4.out.ok rfl;rw[<-akc.out]at CD;have aco:=O CD;clear CD;have heq:=Ya.out;rcases aco.out with e7|⟨e2,eh⟩|⟨e1,QL,hlen,Jv,Zx⟩
 ·have hf:=ack.out;rw[heq]at hf;rw[e7]at hf ⊢;have HF:=O hf;clear hf heq;go_wp2_with fail
  go_ret;exact⟨rfl,HF.out.bQ⟩
 ·have eh':y9.2.head=⟨#[]⟩:=eh;obtain⟨rs3,cz,QM⟩:=ake.out;have tS:=acn.out;obtain⟨p,hpa,dL⟩:=qy QM o.ab.o o.proxy o.ab.path w.heap.size (aj tS) (by simp only[World.cell?,tS];rfl) (by simp only[World.cell?,tS];rfl) (by simp only[World.cell?,tS];rfl) (by simp only[World.cell?,tS];rfl) (by simp only[World.cell?,tS];rfl);have Yb:=O (oU _ _ p _ _ W19 Tryz.call20 hpa cz.at);rw[dL]at Yb
  clear tS hpa dL cz QM;rw[e2,eh']at heq ⊢;have Us:=O heq;clear heq;go_wp2_with fail
  rw[<-Us.out];refine Yb.out.mono ?_;rintro e u9⟨rfl,Wi⟩;have kr:=Wi.keep acm.out (fun h=>h);have FO:=O (ack.out.trans Wi);have HU9:=O Wi;clear Wi Yb;rw[e2,eh']at kr;have d0:u9.cell? ⟨X'.heap.size,0,none⟩=some (.int .i64 2):=by simp only[World.cell?,kr];rfl
  have d1:u9.cell? ⟨X'.heap.size,1,none⟩=some (.string ⟨#[]⟩):=by simp only[World.cell?,kr];rfl
  clear kr e2 eh eh';go_wp2_with fail
  go_ret;exact⟨rfl,FO.out.bQ⟩
 ·have sg:(({o with what:=1}:ei).bF hs).right=true:=by
   cases hr:(({o with what:=1}:ei).bF hs).right
   ·have h7:=akc.out;rw[gR hr]at h7;rw[h7]at e1;simp[rep]at e1
   ·rfl
  obtain⟨p0,p1⟩:=fl sg;have p0':0<=o.ab.part:=p0;have p1':o.ab.part<4:=p1;have hga:gs=(x.part o.ab.part.toNat).aH:=by rw[XA.out];unfold iW;rw[if_pos ⟨p0',p1'⟩]
  have hgb:iW y9.1 o.ab.part=(y9.1.part o.ab.part.toNat).aH:=by unfold iW;rw[if_pos ⟨p0',p1'⟩]
  have Uy:gs.any (fun g=>decide (0<=eE o.ab.o o.proxy o.ab.path g))=true:=by
   obtain⟨g,hg,h0⟩:=QL;exact List.any_eq_true.2 ⟨g,by rw[hga];exact hg,decide_eq_true h0⟩
  obtain⟨Tk,Wj⟩:∃Tk,Tk=iW y9.1 o.ab.part:=⟨_,rfl⟩;have si:Tk.length=gs.length:=by rw[Wj,hgb,hga];exact hlen
  obtain⟨z,hz,iy⟩:∃z,Tk.getLast?=some z/\1<=z.count:=by rw[Wj,hgb];exact Jv
  have QN:decide (0<=Lib.indexByte y9.2.head.data.toList 32)=true:=decide_eq_true (by
   apply Classical.byContradiction;intro hn;exact(xb _ _).1 hn 32 Zx rfl)
  have Xk:=O (show Tk.length=gs.length/\(∃z,Tk.getLast?=some z/\1<=z.count)/\decide (0<=Lib.indexByte y9.2.head.data.toList 32)=true from⟨si,⟨z,hz,iy⟩,QN⟩);have asa:=O Wj;clear sg p0 p1 p0' p1' hga hgb QL hlen Jv Zx si hz iy QN Wj;obtain⟨rs3,cz,QM⟩:=ake.out;have tS:=acn.out
  obtain⟨p,hpa,dL⟩:=qy QM o.ab.o o.proxy o.ab.path w.heap.size (aj tS) (by simp only[World.cell?,tS];rfl) (by simp only[World.cell?,tS];rfl) (by simp only[World.cell?,tS];rfl) (by simp only[World.cell?,tS];rfl) (by simp only[World.cell?,tS];rfl);have Yb:=O (oU _ _ p _ _ W19 Tryz.call20 hpa cz.at);rw[dL]at Yb;clear tS hpa dL cz QM;rw[Uy]at Yb;rw[e1]at heq ⊢;have Us:=O heq;clear heq;go_wp2_with fail
  rw[<-Us.out];refine Yb.out.mono ?_;rintro e u9⟨rfl,Wi⟩;have kr:=Wi.keep acm.out (fun h=>h);have FO:=O (ack.out.trans Wi);have HU9:=O Wi;clear Wi Yb;rw[e1]at kr;have d0:u9.cell? ⟨X'.heap.size,0,none⟩=some (.int .i64 1):=by simp only[World.cell?,kr];rfl
  have c1:u9.cell? ⟨w.heap.size,1,none⟩=some (.int .i64 o.ab.part):=by have h:=HU9.out.keep acn.out (fun h=>h);simp only[World.cell?,h];rfl
  have Fa:=O (oN w.heap.size u9 B ar5 y9.1 (ar_.out.bd HU9.out) o.ab.part (fun i hi=>Nat.lt_of_le_of_lt (ar4.out.ok.part i).xc.1 (by decide)));rw[<-asa.out]at Fa;have KR:=O kr;clear kr Uy;go_wp2_with fail
  refine Fa.out.mono ?_;rintro e u10⟨gv2,rfl,⟨⟨rs2,bV,CE⟩,_⟩,QO⟩;obtain⟨g2a,g2c,X_⟩:=bV.at.form;rw[List.length_map,CE.len]at X_;subst X_;obtain⟨si,⟨z,hz,iy⟩,QN⟩:=Xk.out;obtain⟨k,hk⟩:∃k,Tk.length=k+1:=⟨Tk.length-1,by cases Tk with|nil=>cases hz|cons a l=>simp⟩;have KK:Tk[k]?=some z:=by rw[List.getLast?_eq_getElem?,hk]at hz;exact hz
  obtain⟨r,hrk,hrz⟩:=Wh CE KK;have nw:r.count=z.count:=hrz.2.2.2.2.2.1;have kr:=(HU9.out.trans QO).keep acm.out (fun h=>h);rw[e1]at kr;have d1:u10.cell? ⟨X'.heap.size,1,none⟩=some (.string y9.2.head):=by simp only[World.cell?,kr];rfl
  have Cj:=O (FO.out.trans QO);rcases bV.at.2 with ⟨_,_,_,e,_⟩|⟨bk,of,c,hf,h1,h2,h3,h4⟩
  ·have D':=congrArg List.length e;rw[List.length_map,CE.len,List.length_nil]at D';omega
  rw[List.length_map,CE.len,hk]at hf;rw[<-si,hk];rw[List.length_map,CE.len,hk]at h1;unfold maxLen at h2;have hcell:=h4 k r.cells (by rw[List.getElem?_map,hrk];rfl) 14 (.int .i64 z.count) (by rw[<-nw];rfl);have T8:decide (1<=z.count)=true:=decide_eq_true iy;have Gn:(Value.slice g2a (k+1) g2c)=.slice (some ⟨bk,of,none⟩) (k+1) c:=hf;cases Gn;have HCT:=O (fun U=>Tryz.strings_Contains_one y9.2.head 32 U)
  rw[QN]at HCT;clear CE bV h4 hf hrz hrk nw KK hz si hk QN kr d0 Fa;go_wp2_with fail
  refine(HCT.out _).mono ?_;rintro e CZ⟨rfl,rfl⟩;go_wp2_with fail
  go_ret;exact⟨rfl,Cj.out.bQ⟩
end Go.Proofs.YtjdmjbdkdmbaiaaGreatDoor
namespace Go.Proofs.YtjdmjbdkdmbaiaaGreatDoor.worldSpace
open Go.ChangeShapes Go.WideShapes Go.ChangeAt Go.RowKit
open Go.ChangeMaps (open_string shut_string)
theorem own:ownKnob Tryz.prog.godebug=none:=by kernel_rfl
theorem laidOut:laidOutB Tryz.prog=true:=by kernel_rfl
theorem lifted(os:Os)(started:os.Started)(H:Type)(enc:TypeId×Value->H) :
  ReturnsInHanded {} Tryz.checked os 4 .any (fun w args=>(Rows.worldSpaceSpec.pre enc Tryz.prog Tryz.f4 Rows.worldSpaceRow.domain false w args/\laidMetH Tryz.prog Rows.worldSpaceRow.laid w)/\sizedMet enc Tryz.prog Tryz.f4 (OpenSpec.ofChange Rows.worldSpaceSpec) false w args)
   (Rows.worldSpaceSpec.post enc Tryz.prog Tryz.f4 false true false false):=by
 refine returnsInHanded_of_change_and (C:=Tryz.checked) (X:=fun w _=>laidMetH Tryz.prog Rows.worldSpaceRow.laid w) (fun _ _ _ hh h=>h.of_heap hh) own started (by kernel_rfl) Tryz.func4
  (ChangeSpec.witness_shaped (enc:=enc) (C:=Tryz.checked) (os:=os) (X:=fun w _=>laidMetH Tryz.prog Rows.worldSpaceRow.laid w) false (World.laidAll Tryz.prog os Rows.worldSpaceRow.laid) #[.slice none 0 0,.agg #[.int .i64 0,.int .i64 0,.bool false,.string ByteArray.empty,.int .i64 0,.bool false,.string ByteArray.empty,.int .i64 0,.string ByteArray.empty,.string ByteArray.empty,.string ByteArray.empty,.slice none 0 0,.bool false,.string ByteArray.empty,.bool false,.string ByteArray.empty,.string ByteArray.empty,.string ByteArray.empty,.string ByteArray.empty,.int .i64 0,.bool false,.int .i64 0]] 8 (World.laidAll_os _ _ _)
   (World.shaped_of_ZipB (by kernel_rfl) (by kernel_rfl)) (by kernel_rfl) (by kernel_rfl) (by kernel_rfl)
   (by rw[MakeChecks.laidMetH_plain _ _ _ (by kernel_rfl)];exact laidMet_laidAll _ (by kernel_rfl) (by kernel_rfl))) ?_
 intro W base args ds gs before qx hW _ qw hL _;have mz:(DataW.weightsEach Tryz.prog (Tryz.f4.params.toList++Rows.worldSpaceSpec.plain.varTypes Tryz.prog) (ds++gs)).all (· <=reachBytes)=true:=qw;clear qw;have hval:∀(j:Nat) t v,Tryz.f4.params[j]?=some t->args[j]?=some v->Value.okWide Tryz.prog W .any base t v:=qx;have hW':=hW;obtain⟨p,q,Qz,hV,rfl,_,_⟩:=hW
 have hA:DataW.TrodAll enc Tryz.prog W 0 (fun _=>true) true Tryz.f4.params.toList args.toList ds p:=Qz;rw[Tryz.params4]at hA hval mz;obtain⟨v0,vs0,d0,ds0,p0,q0,QA,rfl,rfl,h0,r0⟩:=trodAll_cons hA;obtain⟨v1,vs1,d1,ds1,p1,q1,rfl,rfl,rfl,h1,r1⟩:=trodAll_cons r0;obtain⟨rfl,rfl,rfl⟩:=trodAll_nil r1;obtain rfl:args= #[v0,v1]:=by cases args;simp_all
 obtain⟨rfl,rfl⟩:=trodVars_none hV;have k0:=h0;have lt0:∀x∈p0,x.block<W.heap.size:=by obtain⟨m,hm⟩:=k0;exact DataW.trod_lt m _ _ _ hm
 obtain⟨ss0,sO⟩:=mY (hval 0 22 v0 rfl rfl) h0 (jY mz (j:=0) (t:=22) rfl rfl);have k1:=h1;have lt1:∀x∈p1,x.block<W.heap.size:=by obtain⟨m,hm⟩:=k1;exact DataW.trod_lt m _ _ _ hm
 obtain⟨o1,ss1,rfl,vD⟩:=mh (hval 1 33 v1 rfl rfl) h1 (jY mz (j:=1) (t:=33) rfl rfl);clear Qz qx;rw[MakeChecks.laidMetH_plain _ _ _ (by kernel_rfl)]at hL;have tb0:=ot hL (by refine⟨?_,?_⟩<;>repeat(first|exact True.intro|exact List.Mem.head _|refine List.Mem.tail _ ?_));have tb1:=mR hL (by refine⟨?_,?_⟩<;>repeat(first|exact True.intro|exact List.Mem.head _|refine List.Mem.tail _ ?_))
 have tb2:=mS hL (by refine⟨?_,?_⟩<;>repeat(first|exact True.intro|exact List.Mem.head _|refine List.Mem.tail _ ?_));have tb3:=om hL (by refine⟨?_,?_⟩<;>repeat(first|exact True.intro|exact List.Mem.head _|refine List.Mem.tail _ ?_));refine(wW _ ss0 o1 ss1  W sO vD tb0 tb1 tb2 tb3).mono fun e W' ⟨he,jE⟩=>?_;subst he
 exact⟨_,rfl,_,_,_,[],_,[],hW',trodAll_mk1 (shut_bool Tryz.underlying4 _),(trodAll_cons_mk (Below.trod laidOut (by kernel_rfl) (of_decide_eq_true (by kernel_rfl)) k0 jE lt0) (trodAll_cons_mk (Below.trod laidOut (by kernel_rfl) (of_decide_eq_true (by kernel_rfl)) k1 jE lt1) trodAll_mk0)),rfl,jE.frame _,fun h=>by cases h⟩
end Go.Proofs.YtjdmjbdkdmbaiaaGreatDoor.worldSpace
