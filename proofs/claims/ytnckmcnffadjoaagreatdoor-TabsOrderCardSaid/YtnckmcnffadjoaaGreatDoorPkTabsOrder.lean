/- Lemmas for the law's walk. -/
import Derived.Test.YtnckmcnffadjoaaGreatDoorPk21
import Derived.Test.YtnckmcnffadjoaaGreatDoorTie
import Derived.Test.YtnckmcnffadjoaaGreatDoorCards
import Derived.LaidMore
import Derived.Lay
set_option maxRecDepth 100000
set_option maxHeartbeats 16000000
set_option linter.unusedSimpArgs false
namespace Go.Proofs.YtnckmcnffadjoaaGreatDoor
open Go.Proofs.Tryz
open Go.RowKit
variable {t:fB} {n M:Nat} {w w':World} {l:List ua}
def Cw(l:List ua)(n:Nat):Int:=l.foldl (fun a e=>if e.tab=n then e.fin else a) 0
theorem PJ(l:List ua)(e:ua)(n:Nat):Cw (l++[e]) n=if e.tab=n then e.fin else Cw l n:=by
 unfold Cw;rw[List.foldl_append];rfl
theorem Nc(n:Nat)(b:Int):∀(l:List ua) (a:Int),a<b->(∀e∈l,e.tab=n->e.fin<b)->l.foldl (fun a e=>if e.tab=n then e.fin else a) a<b
 |[],_,ha,_=>ha
 |e :: l,a,ha,h=>by
  refine Nc n b l _ ?_ (fun x hx=>h x (bN _ hx));dsimp only;split
  ·rename_i he;exact h e (cM ..) he
  ·exact ha
theorem jk.at{t:fB}(h:jk t){k:Nat}{ev:ua}(hk:t.cU[k]?=some ev):ev.iG<ev.fin/\Cw (t.cU.take k) ev.tab<ev.iG:=by
 have hm:=h.ev ev (bQ hk);refine⟨hm.2.1,Nc _ _ _ _ ab (fun e he ht=>?_)⟩;obtain⟨j,hj,hej⟩:=List.mem_iff_getElem.1 he;rw[aJ]at hj;rw[List.getElem_take]at hej;obtain⟨IX,hke⟩:=List.getElem?_eq_some_iff.1 hk;have:=(List.pairwise_iff_getElem.1 h.pw) j k ab IX ab;rw[hej,hke]at this;exact this.2 ht
theorem jk.prev(h:jk t){k:Nat}{ev e:ua}(hk:t.cU[k+1]?=some ev)(he:t.cU[k]?=some e):e.fin<ev.fin:=by
 obtain⟨IX,hke⟩:=List.getElem?_eq_some_iff.1 hk;obtain⟨hj',hje⟩:=List.getElem?_eq_some_iff.1 he;have:=(List.pairwise_iff_getElem.1 h.pw) k (k+1) hj' IX ab;rw[hke,hje]at this;exact this.1
def vy(t:fB):Prop:=∀e∈t.cU,e.tab<6
theorem JW{t1:fB}(h:vy t)(h1:t1.cU=t.cU)(hn:n<6)(r:kt):vy (ja t1 n r):=by
 intro e he;have he':e∈t1.cU++[⟨n,(t1.tab n).op,r,(t1.tab n).iG,t1.steps⟩]:=he;rw[h1]at he';rcases bL.1 he' with h2|h2
 ·exact h e h2
 ·rw[cH]at h2;subst h2;exact hn
theorem abF(h:vy t)(hn:n<6):vy (stepT t n).1:=by
 unfold stepT;split
 ·exact h
 ·split
  ·exact h
  ·unfold iB;split
   ·split
    ·exact JW (t1:={t with steps:=t.steps+1,w:=_,num:=_}) h rfl hn _
    ·exact JW (t1:={t with steps:=t.steps+1}) h rfl hn _
   ·split
    ·exact h
    ·exact JW (t1:=({t with steps:=t.steps+1}:fB).put n {t.tab n with fails:=(t.tab n).fails+1}) h rfl hn _
theorem abG(h:vy t)(m:J_):vy (oz t m):=by
 unfold oz;split
 ·intro e he;rw[BO]at he;exact h e he
 ·split
  ·intro e he;rw[Ib]at he;exact h e he
  ·split
   ·unfold lC;split
    ·rename_i ho;split
     ·exact h
     ·refine abF h ?_;unfold EP at ho;simp only[cy,du]at ho;omega
    ·exact h
   ·exact h
theorem run_in(l:List J_):vy (tT l):=by
 unfold tT;have:∀(l:List J_) (t:fB),vy t->vy (l.foldl oz t):=by
  intro l
  induction l with
  |nil=>intro t h;exact h
  |cons m l ih=>intro t h;exact ih _ (abG h m)
 exact this l _ (fun e he=>by cases he)
def qf(w:World)(M:Nat)(l:List ua):Prop :=
 ∃D:DataW Unit,Maps.IsMap D/\w.ownsMap prog 3 (plainElem prog 3) M l.length D/\∀n:Nat,D.atKey (.int .i64 n) (.lit (.int .i64 0))=.lit (.int .i64 (Cw l n))
theorem qf.made(w:World):qf (w.alloc (.map #[] 0)) w.heap.size [] :=
 ⟨.map [],Maps.isMap_empty,World.ownsMap_made w _ _ _,fun _=>rfl⟩
theorem qf.fr{S:dF}(h:qf w M l)(hf:Fr S w w')(hn:¬S M):qf w' M l:=by
 obtain⟨D,h1,⟨es,c,hb,h2⟩,h3⟩:=h;exact⟨D,h1,⟨es,c,hf.keep hb hn,h2⟩,h3⟩
theorem Yd(w:World):(zeroValue 3).run prog w=.ok (.int .i64 0) w:=by
 have hi:(prog.info? 3).map (·.zero)=some (some (.int .i64 0)):=af;cases Xu:prog.info? 3 with
 |none=>simp[Xu]at hi
 |some ie =>
  simp only[Xu,Option.map_some,eb]at hi;simp[zeroValue,typeInfo,Xu,hi,Sem.run_bind,Result.andThen]
theorem PK{n:Int}(h0:0<=n)(h1:n<1000):(Lit.int .i64 n).wf=true:=by
 have e1:IntKind.i64.min= -9223372036854775808:=ag;have e2:IntKind.i64.max=9223372036854775807:=ag;simp only[Lit.wf,e1,e2,cy,du];omega
theorem qf.look(h:qf w M l)(n:Nat)(hn:n<1000):(Instr.lookup 50 (.map (some M)) (.int .i64 n) false).run prog w=.ok (.int .i64 (Cw l n)) w:=by
 obtain⟨D,_,h2,h3⟩:=h;obtain⟨c,hr,dS,_⟩:=h2.lookup_int (t:=50) (Maps.int_keyed underlying3) underlying50 underlying3 (Yd w) (key:=.int .i64 n) (kl:=.int .i64 n) (Maps.keyOf_int_mk underlying3 (PK ab ab));rw[h3]at dS;obtain⟨_,e⟩:=Lit.int.inj (DataW.lit.inj dS);rw[hr, <-e]
theorem qf.put(h:qf w M l)(e:ua)(hn:e.tab<1000)(hl:l.length<1000)(hf:0<=e.fin/\e.fin<1000) :
  ∃w',(Instr.mapUpdate 50 (.map (some M)) (.int .i64 e.tab) (.int .i64 e.fin)).run prog w=.ok () w'/\qf w' M (l++[e])/\w.grownBy w' (some M):=by
 obtain⟨D,h1,h2,h3⟩:=h;obtain⟨w',hr,h4,h5⟩:=h2.update (t:=50) (Maps.int_keyed underlying3) underlying50 ft (key:=.int .i64 e.tab) (kl:=.int .i64 e.tab) (val:=.int .i64 e.fin) (Maps.keyOf_int_mk underlying3 (PK ab ab)) (plainElem_int underlying3 (PK ab ab));refine⟨w',hr,⟨_,h1.put _ _,by rw[aK];exact h4,fun n=>?_⟩,h5⟩;rw[PJ];by_cases hne:e.tab=n
 ·subst hne;rw[az rfl,Maps.atKey_put_same h1 (show WideAt.IsKeyLit (.int .i64 (e.tab:Int))from trivial)]
 ·rw[aq hne,Maps.atKey_put_other (fun h=>by injection h with _ h;omega),h3]
theorem Fr.Ye{a:World}(h:Fr aS a w)(hg:w.grownBy w' (some M))(hM:a.heap.size<=M):Fr aS a w' :=
 ⟨hg.os.trans h.os,hg.tape.trans h.tape,hg.output.trans h.output,aE h.size hg.size,fun k hk hS=>(hg.block k (cK hk h.size) (fun e=>by injection e with e;omega)).trans (h.block k hk hS)⟩
theorem Cx{P:Program}{ops:Array Oper}{rest:List Oper}{Q:Exit->Act->World->Prop}{a:Act}{w w':World}{o:Oper}(hg:o.guard=none)(hd:o.dst=none){t:TypeId}{m x v:Operand}(Hk:o.op=Op.mapUpdate t m x v)
  {b:Nat}{k s:Int}(hm:a.eval m=.map (some b))(hx:a.eval x=.int .i64 k)(hv:a.eval v=.int .i64 s)(adE:(Instr.mapUpdate t (.map (some b)) (.int .i64 k) (.int .i64 s)).run P w=.ok () w')(hK:wpList P ops Q rest a w'):wpList P ops Q (o :: rest) a w :=
 wpList_plain hg fun K hK'=>by
  unfold Oper.wp;simp[execOp,Hk,hm,hx,hv,adE,Result.andThen];refine hK' _ _ ?_;show wpList P ops Q rest (a.put o.dst undef) w';rw[hd];exact hK
def agv(u4:World)(M:Nat)(l:List ua)(i:Value)(wr:World):Prop:=∃k:Nat,k<=l.length/\i=.int .i64 k/\qf wr M (l.take k)/\Fr aS u4 wr
theorem Fo(v:Value)(ms:List tF)(w:World)(st0:xk w v ms)(pw:wU w)(md:tM w)(sh:tP w)(db:ow w 9 .u8 Rz) :
  aB 5 #[v] w fun e w'=>e=.returned (.bool true)/\Below w.heap.size w w':=by
 have ht:kO w:=⟨⟨db,md,sh⟩,pw⟩;have lO:=O st0;have HT:=O ht;have xn:=O (Ct w w (ae _ _) ht);clear st0 ht pw md sh db;go_enter func5,ntmps5;go_wp2_with fail
 refine xn.o.mono ?_;rintro e u1⟨rfl,dk⟩;have HM:=O (Ig v ms u1 (lO.o.dm dk));have ln:=O dk;clear dk xn;go_wp2_with fail
 refine HM.o.mono ?_;rintro e u2⟨rfl,dE⟩;have fU:=O (ln.o.trans dE);clear dE ln HM;cases hm:vw ms
 ·clear lO HT;go_wp2;go_ret;exact⟨rfl,fU.o.pJ⟩
 ·obtain⟨qL,hlen⟩:=vt.of lO.o hm;obtain⟨sZ,Ll⟩:=X4 qL hlen;have AO:=O sZ;have HT6:=O (show∀e∈(Ka ms).cU,e.tab<6 from run_in _);have yq:=O (show jk (Ka ms)from jk.run _);have HRN:=O (Q3 fU.o qL ab HT.o);clear qL hlen sZ hm lO HT;go_wp2_with fail
  refine HRN.o.mono ?_;rintro e u3⟨T,rfl,h3⟩;have HSY:=O (BQ h3 (show(Ka ms).cU.length<1000000 from ab));have il:=O h3.fr;clear h3 HRN fU;go_wp2_with fail
  refine HSY.o.mono ?_;rintro e u4⟨sv,rfl,J9,kS⟩;have j6:=O (il.o.trans kS);obtain⟨es,av,c,Gd,rfl,jx⟩:=J9.open;have agw:es.map (·.1)=(Ka ms).cU:=Gd;have afX:es.length<=150:=by rw[<-ai (f:=(·.1)),agw];exact Ll
  clear J9 kS Gd HSY il Ll;have Ug:=O agw;have Yh:=O jx;clear agw jx;obtain⟨M,hM⟩:∃M,M=u4.heap.size:=⟨_,rfl⟩;have HM0:=O (show qf (u4.alloc (.map #[] 0)) M []from by rw[hM];exact qf.made u4);have HM:=O hM;have hmm:∀t,(Instr.makeMap t none).run prog u4=.ok (.map (some M)) (u4.alloc (.map #[] 0)):=fun t=>by rw[hM];exact run_makeMap t u4
  clear hM;go_wp2;clear hmm;go_loopw[5] (agv u4 M ((Ka ms).cU)) (fun i _=>es.length-(intOf i).toNat)
  case atStart=>exact⟨0,aL _,rfl,HM0.o,(ae aS u4).alloc _⟩
  case round =>
   obtain⟨k,hk,rfl,hL,hF⟩:=hrel;have hlen:(Ka ms).cU.length=es.length:=by rw[<-Ug.o,ai]
   rw[hlen]at hk;clear hlen HM0;by_cases fe:k<es.length
   ·rcases Yh.o with rfl|⟨bk,o0,rfl,hsa⟩
    ·exact absurd fe (bV _)
    ·have hx:=List.getElem?_eq_getElem fe;generalize es[k]=x at hx;obtain⟨ev,o,hs⟩:=x;have J9:(Ka ms).cU[k]?=some ev:=by rw[<-Ug.o,List.getElem?_map,hx];rfl
     obtain⟨q1,q2⟩:=yq.o.at J9;have q3:=yq.o.ev ev (bQ J9);have q4:=AO.o.steps.2;have ht6:=HT6.o ev (bQ J9);have Fu:=O (show(Ka ms).cU.take (k+1)=(Ka ms).cU.take k++[ev]by rw[cj,J9];rfl);have HPT:=O (fun V (hV:Fr aS wr V)=>(hL.fr hV id).put ev ab (by rw[aJ];omega) ab)
     have hlk:∀nq,(Instr.lookup 50 (.map (some M)) (.int .i64 ev.tab) false).run prog (wr.drewN nq)=.ok (.int .i64 (Cw ((Ka ms).cU.take k) ev.tab)) (wr.drewN nq):=fun nq=>(hL.fr ((ae aS wr).drewN nq) id).look ev.tab ab;generalize Cw ((Ka ms).cU.take k) ev.tab=lst at *
     have HC:=O (fun V (hV:Fr aS u4 V)=>hsa.cell V hV k _ hx);have c26:wr.cell? ⟨bk,o0+k*28+26,none⟩=some (.int .i64 ev.iG):=HC.o wr hF 26 _ rfl;have c27:wr.cell? ⟨bk,o0+k*28+27,none⟩=some (.int .i64 ev.fin):=HC.o wr hF 27 _ rfl;have c0:wr.cell? ⟨bk,o0+k*28,none⟩=some (.int .i64 ev.tab):=HC.o wr hF 0 _ rfl;have d1:decide (ev.fin<=ev.iG)=false:=bj ab;have d2:decide (ev.iG<=lst)=false:=bj ab
     have qD:=O hF;by_cases JZ:k=0
     ·have d4:decide ((0:Int)<(k:Int))=false:=bj ab;have d6:decide (0<k)=false:=bj ab;have d7:¬0<k:=ab;have lZ:(k:Int)+1<=150:=ab;have v_:=O (fun nq=>qD.o.drewN nq);clear hsa hF hL q3 q4 J9 hx lZ JZ;go_wp2_with fail
      go_quiet (fail);have a27:(wr.drewN nq).cell? ⟨bk,o0+k*28+27,none⟩=some (.int .i64 ev.fin):=HC.o _ (qD.o.drewN nq) 27 _ rfl;have a0:(wr.drewN nq).cell? ⟨bk,o0+k*28,none⟩=some (.int .i64 ev.tab):=HC.o _ (qD.o.drewN nq) 0 _ rfl;have hfq:=qD.o.drewN nq;obtain⟨w5,yb,xN,hg5⟩:=HPT.o ((wr.drewN nq).drew) (((ae aS wr).drewN nq).drew);clear hlk c0 c26 c27 v_;generalize wr.drewN nq=wq at *
      have Ia:=O yb;have Nn:=O xN;have xo:=O (Fr.Ye hfq.drew hg5 (by rw[HM.o];exact ay _));clear yb xN hg5 hfq d1 d2;go_wp2_with fail
      go_still_tail 11,af
      change wpList _ _ _ _ _ wq.drew;refine Cx (t:=50) (m:=.tmp 65) (x:=.tmp 70) (v:=.tmp 75) rfl rfl rfl rfl rfl rfl Ia.o ?_;go_wp2;go_roundw
      case rel=>exact⟨k+1,by rw[<-Ug.o,ai];omega,bg,by rw[Fu.o];exact Nn.o,xo.o⟩
      case measure=>simp[intOf];omega
     ·have d4:decide ((0:Int)<(k:Int))=true:=bJ ab;have d6:decide (0<k)=true:=bJ ab;have d7:0<k:=ab;obtain⟨j,hkj⟩:∃j,k=j+1:=⟨k-1,ab⟩;have Zk:j<es.length:=ab;have hy:=List.getElem?_eq_getElem Zk;generalize es[j]=y at hy;obtain⟨ej,oj,hj2⟩:=y;have q5:=yq.o.prev (by rw[<-hkj];exact J9) (show(Ka ms).cU[j]?=some ej by rw[<-Ug.o,List.getElem?_map,hy];rfl)
      have p27:wr.cell? ⟨bk,o0+j*28+27,none⟩=some (.int .i64 ej.fin):=hsa.cell wr qD.o j _ hy 27 _ rfl;have d5:decide (ev.fin<=ej.fin)=false:=bj ab;have e2:((k:Int)-1).toNat=j:=ab;have e3:(0:Int)<=(k:Int)-1:=ab;have e4:(k:Int)-1<(es.length:Int):=ab;clear q5 hy hkj;have lZ:(k:Int)+1<=150:=ab;have v_:=O (fun nq=>qD.o.drewN nq);clear hsa hF hL q3 q4 J9 hx lZ JZ;go_wp2_with fail
      go_quiet (fail);have a27:(wr.drewN nq).cell? ⟨bk,o0+k*28+27,none⟩=some (.int .i64 ev.fin):=HC.o _ (qD.o.drewN nq) 27 _ rfl;have a0:(wr.drewN nq).cell? ⟨bk,o0+k*28,none⟩=some (.int .i64 ev.tab):=HC.o _ (qD.o.drewN nq) 0 _ rfl;have hfq:=qD.o.drewN nq;obtain⟨w5,yb,xN,hg5⟩:=HPT.o ((wr.drewN nq).drew) (((ae aS wr).drewN nq).drew);clear hlk c0 c26 c27 v_;generalize wr.drewN nq=wq at *
      have Ia:=O yb;have Nn:=O xN;have xo:=O (Fr.Ye hfq.drew hg5 (by rw[HM.o];exact ay _));clear yb xN hg5 hfq d1 d2;go_wp2_with fail
      go_still_tail 11,af
      change wpList _ _ _ _ _ wq.drew;refine Cx (t:=50) (m:=.tmp 65) (x:=.tmp 70) (v:=.tmp 75) rfl rfl rfl rfl rfl rfl Ia.o ?_;go_wp2;go_roundw
      case rel=>exact⟨k+1,by rw[<-Ug.o,ai];omega,bg,by rw[Fu.o];exact Nn.o,xo.o⟩
      case measure=>simp[intOf];omega
   ·have Rt:=O hF;clear hF hL;go_wp2;go_ret;exact⟨rfl,(j6.o.trans Rt.o).pJ⟩
end Go.Proofs.YtnckmcnffadjoaaGreatDoor
namespace Go.Proofs.YtnckmcnffadjoaaGreatDoor.tabsOrder
open Go.Proofs.Tryz
open Go.ChangeShapes Go.WideShapes Go.ChangeAt Go.RowKit
open Go.ChangeMaps (open_string shut_string)
theorem own:ownKnob prog.godebug=none:=af
theorem laidOut:laidOutB prog=true:=af
theorem lifted(os:Os)(started:os.Started)(H:Type)(enc:TypeId×Value->H) :
  ReturnsInHanded {} Tryz.checked os 5 .any (fun w args=>(Rows.tabsOrderSpec.pre enc prog Tryz.f5 Rows.tabsOrderRow.domain false w args/\laidMetH prog Rows.tabsOrderRow.laid w)/\sizedMet enc prog Tryz.f5 (OpenSpec.ofChange Rows.tabsOrderSpec) false w args)
   (Rows.tabsOrderSpec.post enc prog Tryz.f5 false true false false):=by
 refine returnsInHanded_of_change_and (C:=Tryz.checked) (X:=fun w _=>laidMetH prog Rows.tabsOrderRow.laid w) (fun _ _ _ hh h=>h.of_heap hh) own started af func5
  (ChangeSpec.witness_shaped (enc:=enc) (C:=Tryz.checked) (os:=os) (X:=fun w _=>laidMetH prog Rows.tabsOrderRow.laid w) false (World.laidAll prog os Rows.tabsOrderRow.laid) #[.slice none 0 0] 8 (World.laidAll_os _ _ _)
   (World.shaped_of_ZipB af af) af af af
   (by rw[MakeChecks.laidMetH_plain _ _ _ af];exact laidMet_laidAll _ af af)) ?_
 intro W base args ds gs before Nb hW _ Yc hL _;have xS:(DataW.weightsEach prog (Tryz.f5.params.toList++Rows.tabsOrderSpec.plain.varTypes prog) (ds++gs)).all (· <=reachBytes)=true:=Yc;clear Yc;have hval:∀(j:Nat) t v,Tryz.f5.params[j]?=some t->args[j]?=some v->Value.okWide prog W .any base t v:=Nb;have hW':=hW;obtain⟨p,q,hA0,hV,rfl,_,_⟩:=hW
 have hA:DataW.TrodAll enc prog W 0 (fun _=>true) true Tryz.f5.params.toList args.toList ds p:=hA0;rw[Tryz.params5]at hA hval xS;obtain⟨v0,vs0,d0,ds0,p0,q0,alG,rfl,rfl,h0,r0⟩:=trodAll_cons hA;obtain⟨rfl,rfl,rfl⟩:=trodAll_nil r0;obtain rfl:args= #[v0]:=by cases args;simp_all
 obtain⟨rfl,rfl⟩:=trodVars_none hV;have k0:=h0;have lt0:∀x∈p0,x.block<W.heap.size:=by obtain⟨m,hm⟩:=k0;exact DataW.trod_lt m _ _ _ hm
 obtain⟨ss0,st0⟩:=Cs (hval 0 22 v0 rfl rfl) h0 (MY xS (j:=0) (t:=22) rfl rfl);clear hA0 Nb;rw[MakeChecks.laidMetH_plain _ _ _ af]at hL;have tb0:=Ea hL (by refine⟨?_,?_⟩<;>repeat(first|exact True.intro|exact List.Mem.head _|refine List.Mem.tail _ ?_));have tb1:=Ce hL (by refine⟨?_,?_⟩<;>repeat(first|exact True.intro|exact List.Mem.head _|refine List.Mem.tail _ ?_))
 have tb2:=Cf hL (by refine⟨?_,?_⟩<;>repeat(first|exact True.intro|exact List.Mem.head _|refine List.Mem.tail _ ?_));have tb3:=D1 hL (by refine⟨?_,?_⟩<;>repeat(first|exact True.intro|exact List.Mem.head _|refine List.Mem.tail _ ?_));refine(Fo _ ss0  W st0 tb0 tb1 tb2 tb3).mono fun e W' ⟨he,ru⟩=>?_;subst he
 exact⟨_,rfl,_,_,_,[],_,[],hW',trodAll_mk1 (shut_bool underlying4 _),(trodAll_cons_mk (Below.trod laidOut af (of_decide_eq_true af) k0 ru lt0) trodAll_mk0),rfl,ru.frame _,fun h=>by cases h⟩
end Go.Proofs.YtnckmcnffadjoaaGreatDoor.tabsOrder
