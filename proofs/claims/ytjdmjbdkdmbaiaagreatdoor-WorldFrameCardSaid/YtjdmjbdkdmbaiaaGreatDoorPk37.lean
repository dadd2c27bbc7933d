/- Book6, WorldLaw2. -/
import Derived.Test.YtjdmjbdkdmbaiaaGreatDoorPk34
set_option maxRecDepth 100000
set_option maxHeartbeats 16000000
set_option linter.unusedSimpArgs false
namespace Go.Proofs.YtjdmjbdkdmbaiaaGreatDoor
open Go.RowKit
def aiy(ps:List bI)(r:lu)(now:Int)(w1:World)(out t:Value)(wr:World):Prop :=
 ∃k:Nat,k<=ps.length/\t=.int .i64 k/\OwnRows w1.heap.size 65 12 wr out ((dY (ps.take k) r now).map bI.cells)/\Fr ay w1 wr
theorem VA{ps:List bI}{r:lu}{now:Int}{k:Nat}{p:bI}(h:ps[k]?=some p)(hm:r.NP now p=true):dY (ps.take (k+1)) r now=dY (ps.take k) r now++[p]:=by
 unfold dY;rw[bz h,List.filter_append];simp[hm]
theorem Qc{ps:List bI}{r:lu}{now:Int}{k:Nat}{p:bI}(h:ps[k]?=some p)(hm:r.NP now p=false):dY (ps.take (k+1)) r now=dY (ps.take k) r now:=by
 unfold dY;rw[bz h,List.filter_append];simp[hm]
theorem VB(base:Nat)(w:World)(b:Nat)(v:Value)(ps:List bI)(r:dp Value)(hs:List dW)(now:Int)(h:cy base w b v ps)(hlen:ps.length<1000000) :
  Calls Tryz.prog 117 #[.pointer (some ⟨b,0,none⟩),.agg r.cells.toArray,.int .i64 now] w fun e w'=>∃v',e=.returned v'/\OwnRows w.heap.size 65 12 w' v' ((dY ps (r.bF hs) now).map bI.cells)/\Fr ay w w':=by
 obtain⟨rc,nw⟩:∃rc,rc=r.cells.toArray:=⟨_,rfl⟩;obtain⟨w1,jt⟩:∃w1,w1=w.alloc (.cells rc 29):=⟨_,rfl⟩;have bt:Fr ay w w1:=by rw[jt];exact(Fr.refl _ _).alloc _
 have gZ:w1.heap[w.heap.size]?=some (.cells rc 29 (0,0)):=by rw[jt];exact af _ _
 have h1:=h.bd bt;obtain⟨ak,ck,M8⟩:=h.form;subst M8;have ux:aN 12 w1 (.slice ak ps.length ck) (ps.map bI.cells):=h1.rows.at
 have HC:=O (show∀U,Fr ay w1 U->U.cell? ⟨w.heap.size,1,none⟩=some (.bool r.aI.ae)/\U.cell? ⟨w.heap.size,2,none⟩=some (.string r.aI.host)/\U.cell? ⟨w.heap.size,3,none⟩=some (.int .i64 r.aI.port)/\U.cell? ⟨w.heap.size,4,none⟩=some (.bool r.o.ae)/\U.cell? ⟨w.heap.size,5,none⟩=some (.string r.o.host)/\U.cell? ⟨w.heap.size,6,none⟩=some (.int .i64 r.o.port)/\U.cell? ⟨w.heap.size,7,none⟩=some (.string r.path)/\U.cell? ⟨w.heap.size,8,none⟩=some (.string r.query)/\U.cell? ⟨w.heap.size,11,none⟩=some (.bool r.bP)from fun U hU=>by
  have j:=hU.keep gZ (fun h=>h);rw[nw]at j;have hc:∀i u,r.cells[i]?=some u->U.cell? ⟨w.heap.size,i,none⟩=some u:=fun i u hu=>by simp only[World.cell?,j];simpa using hu
  exact⟨hc 1 _ rfl,hc 2 _ rfl,hc 3 _ rfl,hc 4 _ rfl,hc 5 _ rfl,hc 6 _ rfl,hc 7 _ rfl,hc 8 _ rfl,hc 11 _ rfl⟩)
 have HM:=O (show∀p:bI,(r.bF hs).NP now p=(p.alive now&&(p.aI.eN r.aI&&((p.o.eN r.o&&(p.path.toList==r.path.toList&&p.query.toList==r.query.toList))&&(p.bP||!r.bP))))from fun _=>rfl);generalize r.bF hs=rl at HM ⊢;have c0:=h1.c0;rw[jt]at c0;have D3:=O jt;have gV:=O bt;have zo:w.heap.size<=w1.heap.size:=bt.size;rw[<-nw];clear jt bt gZ h1 h nw;go_enter Tryz.func117,Tryz.ntmps117;go_wp2_with fail
 rw[<-D3.out];go_loopw[7,15] (aiy ps rl now w1) (fun _ t _=>ps.length-(intOf t).toNat)
 case atStart=>exact⟨0,Nat.zero_le _,rfl,OwnRows.nil _ _ _ _,Fr.refl _ _⟩
 case round =>
  obtain⟨k,hk,rfl,ho,aW⟩:=hrel;obtain⟨ao,co,Kz⟩:=ho.form;rw[List.length_map]at Kz;subst Kz;have MP:(dY (ps.take k) rl now).length<=1000000:=by
   have h1:=List.length_filter_le (rl.NP now) (ps.take k);rw[List.length_take]at h1;unfold dY;omega
  by_cases cG:k<ps.length
  ·have lf:(k:Int)<(ps.length:Int):=by omega
   have bC:=O (List.getElem?_eq_getElem cG);generalize ps[k]=p at bC;have gG:aN 12 wr (.slice ak ps.length ck) (ps.map bI.cells):=aN.bu ux aW;rcases gG.2 with ⟨_,_,_,e,_⟩|⟨bk,of,c,hf,g1,g2,g3,g4⟩
   ·have:ps.length=0:=by have:=congrArg List.length e;simpa using this
    omega
   rw[List.length_map]at hf g1;cases hf;unfold maxLen at g2;obtain⟨x,hx⟩:∃x,x=p.cells:=⟨_,rfl⟩;have gD:x.length=12:=by rw[hx];rfl
   have bG:∀u∈x,u.oneCell'=true:=by rw[hx];exact p.nL
   have hcell:=g4 k x (by rw[List.getElem?_map,bC.out,hx];rfl);have fR:=fun W=>run_storeCells_new (P:=Tryz.prog) W 65 zF x (by rw[gD];rfl) bG;have AD:(Tryz.prog.info? 65).map (·.size)=some x.length:=vd gD;have aaR:=O (show(Tryz.prog.info? 65).map (·.size)=some x.toArray.size by rw[List.size_toArray];exact AD);clear g4 gG;have HX:=O hx;have JF:=O AD;have qY:=O bG
   have VC:=O (af wr (.cells x.toArray 65));have bq:Fr ay wr (wr.alloc (.cells x.toArray 65)):=(Fr.refl _ _).alloc _;have HP:=O (show∀U,Fr ay (wr.alloc (.cells x.toArray 65)) U->U.heap[wr.heap.size]?=some (.cells x.toArray 65 (0,0))from fun U hU=>hU.keep (af _ _) (fun h=>h))
   have HPC:=O (show∀U,Fr ay (wr.alloc (.cells x.toArray 65)) U->U.cell? ⟨wr.heap.size,0,none⟩=some (.bool p.aI.ae)/\U.cell? ⟨wr.heap.size,1,none⟩=some (.string p.aI.host)/\U.cell? ⟨wr.heap.size,2,none⟩=some (.int .i64 p.aI.port)/\U.cell? ⟨wr.heap.size,3,none⟩=some (.bool p.o.ae)/\U.cell? ⟨wr.heap.size,4,none⟩=some (.string p.o.host)/\U.cell? ⟨wr.heap.size,5,none⟩=some (.int .i64 p.o.port)/\U.cell? ⟨wr.heap.size,6,none⟩=some (.string p.path)/\U.cell? ⟨wr.heap.size,7,none⟩=some (.string p.query)/\U.cell? ⟨wr.heap.size,8,none⟩=some (.bool p.bP)from fun U hU=>by
    have j:=HP.out U hU;rw[HX.out]at j;have hc:∀i u,p.cells[i]?=some u->U.cell? ⟨wr.heap.size,i,none⟩=some u:=fun i u hu=>by simp only[World.cell?,j];simpa using hu
    exact⟨hc 0 _ rfl,hc 1 _ rfl,hc 2 _ rfl,hc 3 _ rfl,hc 4 _ rfl,hc 5 _ rfl,hc 6 _ rfl,hc 7 _ rfl,hc 8 _ rfl⟩)
   have uR:=O (show∀U,Calls Tryz.prog 179 #[.agg x.toArray,.int .i64 now] U fun e w'=>e=.returned (.bool (p.alive now))/\Fr ay U w' from fun U=>by rw[HX.out];exact AU p now U);have hwr:w.heap.size<=wr.heap.size:=by have:=aW.size;omega
   have py:=O (aW.trans bq);have HO:=O (show∀U,Fr ay (wr.alloc (.cells x.toArray 65)) U->OwnRows w1.heap.size 65 12 U (.slice ao (dY (ps.take k) rl now).length co) ((dY (ps.take k) rl now).map bI.cells)from fun U hU=>(ho.alloc _).fr hU (fun _ _ h=>h));have Nc:=O (HM.out p);have yX:=O (fun hm=>VA (r:=rl) (now:=now) bC.out hm);have qt:=O (fun hm=>Qc (r:=rl) (now:=now) bC.out hm)
   obtain⟨fs,fM⟩:∃fs,fs=dY (ps.take k) rl now:=⟨_,rfl⟩;rw[<-fM]at HO yX qt MP ⊢;clear hx AD bG ho bq aW fM
   go_wp2_with (first|((with_reducible refine ag ⟨some 18,_,_,_,_,_⟩ ?_);go_must(refine wpList_load_mid rfl 65 (.tmp 17) rfl bk (of+k*12) rfl x _ hcell Tryz.underlying65 rfl JF.out ?_))|((with_reducible refine ag ⟨some 19,_,_,_,_,_⟩ ?_);go_must(refine wpList_load_row rfl 65 (.tmp 9) rfl wr.heap.size rfl _ x.toArray (0,0) _ VC.out Tryz.underlying65 rfl aaR.out ?_))|fail)
   have Eg:=tD x #[.bool false,.string ⟨#[]⟩,.int .i64 0,.bool false,.string ⟨#[]⟩,.int .i64 0,.string ⟨#[]⟩,.string ⟨#[]⟩,.bool false,.string ⟨#[]⟩,.string ⟨#[]⟩,.int .i64 0] (by rw[gD];rfl);clear fR hcell;generalize wr.alloc (.cells x.toArray 65)=W2 at *
   refine(uR.out W2).mono ?_;rintro e w3⟨rfl,dv⟩;obtain⟨p0,p1,p2,p3,p4,p5,p6,p7,p8⟩:=HPC.out w3 dv;have dV:=O (py.out.trans dv);obtain⟨r1,r2,r3,r4,r5,r6,r7,r8,r11⟩:=HC.out w3 dV.out;have zK:=O (HP.out w3 dv);have rR:=O (HO.out w3 dv);have h33:w1.heap.size<=w3.heap.size:=dV.out.size;have heq:=ey p.aI r.aI;have heu:=uf p.o p.path p.query r.o r.path r.query;clear uR HP HPC dv;cases ea:p.alive now
   ·have HN:=O (qt.out (by rw[Nc.out,ea];rfl));clear Nc yX qt ea heq heu;go_wp2;go_roundw
    case rel=>exact⟨k+1,by omega,by go_num,by rw[HN.out];exact rR.out,dV.out⟩
    case measure=>simp[intOf];omega
   ·cases e1:p.aI.eN r.aI
    ·rw[e1]at heq;have HN:=O (qt.out (by rw[Nc.out,ea,e1];rfl));clear Nc yX qt ea e1 heu;go_wp2;go_roundw
     case rel=>exact⟨k+1,by omega,by go_num,by rw[HN.out];exact rR.out,dV.out⟩
     case measure=>simp[intOf];omega
    ·rw[e1]at heq;cases e2:(p.o.eN r.o&&(p.path.toList==r.path.toList&&p.query.toList==r.query.toList))
     ·rw[e2]at heu;have HN:=O (qt.out (by rw[Nc.out,ea,e1,e2];rfl));clear Nc yX qt ea e1 e2;go_wp2;go_roundw
      case rel=>exact⟨k+1,by omega,by go_num,by rw[HN.out];exact rR.out,dV.out⟩
      case measure=>simp[intOf];omega
     ·rw[e2]at heu;cases e3:p.bP
      ·rw[e3]at p8;cases e4:r.bP
       ·rw[e4]at r11;have HY:=O (yX.out (by rw[Nc.out,ea,e1,e2,e3,e4];rfl));clear Nc yX qt ea e1 e2 e3 e4
        go_wp2_with (first|((with_reducible refine ag ⟨some 46,_,_,_,_,_⟩ ?_);go_must(refine wpList_load_row rfl 65 (.tmp 9) rfl wr.heap.size rfl _ x.toArray (0,0) _ zK.out Tryz.underlying65 rfl aaR.out ?_))|(at_builtin;go_must(refine lR rfl _ _ 60 65 rfl 12 144 (.agg zF) Tryz.underlying60 ve rfl (by decide) (by decide) w1.heap.size (.slice ao fs.length co) (fs.map bI.cells) rfl (rR.out.alloc _) w3.heap.size 1 x rfl gD qY.out (fun i u hi=>by rw[World.cell?_alloc_mark];simpa using hi) (by rw[List.length_map];omega) (by simp;omega) ?_);intro v' w4 cZ Ag))
        have fu:=O ((dV.out.alloc (.cells x.toArray 65)).cK Ag (fun j hj=>rR.out.block j hj));go_roundw
        case rel=>exact⟨k+1,by omega,by go_num,by rw[HY.out,List.map_append,List.map_cons,List.map_nil, <-HX.out];exact cZ,fu.out⟩
        case measure=>simp[intOf];omega
       ·rw[e4]at r11;have HN:=O (qt.out (by rw[Nc.out,ea,e1,e2,e3,e4];rfl));clear Nc yX qt ea e1 e2 e3 e4;go_wp2;go_roundw
        case rel=>exact⟨k+1,by omega,by go_num,by rw[HN.out];exact rR.out,dV.out⟩
        case measure=>simp[intOf];omega
      ·rw[e3]at p8;have HY:=O (yX.out (by rw[Nc.out,ea,e1,e2,e3];rfl));clear Nc yX qt ea e1 e2 e3
       go_wp2_with (first|((with_reducible refine ag ⟨some 46,_,_,_,_,_⟩ ?_);go_must(refine wpList_load_row rfl 65 (.tmp 9) rfl wr.heap.size rfl _ x.toArray (0,0) _ zK.out Tryz.underlying65 rfl aaR.out ?_))|(at_builtin;go_must(refine lR rfl _ _ 60 65 rfl 12 144 (.agg zF) Tryz.underlying60 ve rfl (by decide) (by decide) w1.heap.size (.slice ao fs.length co) (fs.map bI.cells) rfl (rR.out.alloc _) w3.heap.size 1 x rfl gD qY.out (fun i u hi=>by rw[World.cell?_alloc_mark];simpa using hi) (by rw[List.length_map];omega) (by simp;omega) ?_);intro v' w4 cZ Ag))
       have fu:=O ((dV.out.alloc (.cells x.toArray 65)).cK Ag (fun j hj=>rR.out.block j hj));go_roundw
       case rel=>exact⟨k+1,by omega,by go_num,by rw[HY.out,List.map_append,List.map_cons,List.map_nil, <-HX.out];exact cZ,fu.out⟩
       case measure=>simp[intOf];omega
  ·have lf:¬(k:Int)<(ps.length:Int):=by omega
   have Kw:ps.take k=ps:=List.take_of_length_le (by omega);rw[Kw]at ho MP ⊢;obtain⟨fs,fM⟩:∃fs,fs=dY ps rl now:=⟨_,rfl⟩;rw[<-fM]at ho MP ⊢;have HO:=O ho;have Us:=O fM;clear ho fM;go_wp2;go_ret;exact⟨.slice ao fs.length co,rfl,by rw[<-Us.out];exact HO.out.up zo,gV.out.trans aW⟩
theorem Lz{gs:List (ai aF)}{o:cO}{proxy:Bool}{path:ByteArray}(h:∀g∈gs,g.o.eN o=false):mD gs o proxy path=(gs,.error 8):=by
 have hr:∀y∈gs,eE o proxy path y<0:=fun y hy=>by unfold eE jS;rw[h y hy];simp
 have he:lj gs o proxy path= -1:=by
  unfold lj;rcases yF (eE o proxy path) gs with ⟨e,_⟩|⟨k,x,hx,_,h0,_⟩
  ·rw[e]
  ·have:=hr x (List.mem_of_getElem? hx);omega
 unfold mD;rw[he];rfl
theorem O_{ws:List (aG aF)}{o:cO}{proxy:Bool}(h:∀x∈ws,x.o.eN o=false):fk o proxy ws=(ws,none) :=
 oA (by rw[List.any_eq_false];intro x hx;unfold qf;rw[h x hx];simp)
structure O' (p:bH) (o:cO):Prop where
 g:∀x∈p.aH,x.o.eN o=false
 w:∀x∈p.waits,x.o.eN o=false
 c:∀x∈p.dh,x.1.eN o=false
theorem Pc(o:cO):O' qh o:=⟨fun _ h=>(by cases h),fun _ h=>(by cases h),fun _ h=>(by cases h)⟩
theorem oD{α:Type}{l:List α}{f:α->Bool}:∀x∈l.filter (fun x=>!f x),f x=false:=fun x hx=>by
 have:=(List.mem_filter.1 hx).2;simpa using this
theorem Ez(p:bH)(o:cO):O' (Ce p o) o:=⟨oD,oD,oD⟩
theorem ui{p:bH}{o:ib}(h:∀x∈p.aH,x.o.eN o.o=false):ft p o=(p,rep 2):=by
 unfold ft;rw[Lz h]
theorem qk{p:bH}{o:ib}(h:∀x∈p.waits,x.o.eN o.o=false):ef p o=(p,rep 2):=by
 unfold ef;rw[O_ h]
theorem GY{p:bH}{o:ib}(h:∀x∈p.dh,x.1.eN o.o=false):AV p o=rep 3:=by
 unfold AV;have:p.dh.find? (fun c=>c.1.eN o.o)=none:=by
  rw[List.find?_eq_none];intro x hx;rw[h x hx];simp
 rw[this]
theorem GZ{w:bW}{q:ib}(hw:q.what=1)(h:∀x∈(w.part q.part.toNat).aH,x.o.eN q.o=false):(cV w q).1=w/\((cV w q).2=rep 2\/(cV w q).2=rep 7):=by
 cases hr:q.right
 ·rw[gR hr];exact⟨rfl,Or.inr rfl⟩
 ·have e:lF (w.part q.part.toNat) w.now q=(w.part q.part.toNat,rep 2):=by unfold lF;rw[if_pos hw,ui h]
  rw[fI hr (by omega),e];exact⟨bW.ug _ _,Or.inl rfl⟩
theorem Cg{w:bW}{q:ib}(hw:q.what=3)(h:∀x∈(w.part q.part.toNat).waits,x.o.eN q.o=false):(cV w q).1=w/\((cV w q).2=rep 2\/(cV w q).2=rep 7):=by
 cases hr:q.right
 ·rw[gR hr];exact⟨rfl,Or.inr rfl⟩
 ·have e:lF (w.part q.part.toNat) w.now q=(w.part q.part.toNat,rep 2):=by unfold lF;rw[if_neg (by omega),if_neg (by omega),if_pos hw,qk h]
  rw[fI hr (by omega),e];exact⟨bW.ug _ _,Or.inl rfl⟩
theorem Pd{w:bW}{o:ib}(hw:o.what=8\/o.what=9)(h:(cV w o).2.what=1):o.right=true/\(cV w o).1=w.set o.part.toNat (kN (w.part o.part.toNat) o).1:=by
 cases hr:o.right
 ·rw[gR hr]at h;simp[rep]at h
 ·rw[fI hr (by omega)];refine⟨rfl,?_⟩;unfold lF;rw[if_neg (by omega),if_neg (by omega),if_neg (by omega),if_neg (by omega),if_neg (by omega),if_neg (by omega),if_neg (by omega)]
theorem EA{w:bW}{o q:ib}(h9:o.what=9)(h:(cV w o).2.what=1)(hq:o.all=false->q.o=o.o)(hp:q.part=o.part):O' ((cV w o).1.part q.part.toNat) q.o:=by
 obtain⟨_,e⟩:=Pd (Or.inr h9) h;rw[e,hp,bW.qj];unfold kN;cases ha:o.all
 ·simp only[Bool.false_and,Bool.false_eq_true,if_false];rw[if_pos (by simp[h9]),hq ha];exact Ez _ _
 ·rw[if_pos (by simp[h9])];exact Pc _
def rD(ws:List (aG aF)):Prop:=ws.Pairwise fun x y=>qf x.o x.proxy y=false
theorem uj{o:cO}{proxy:Bool}{x:aG aF}:qf o proxy x=true↔x.o=o/\x.proxy=proxy:=by
 unfold qf;rw[Bool.and_eq_true,cO.sW,beq_iff_eq]
theorem lM(o:cO)(proxy:Bool):∀ws:List (aG aF),(fk o proxy ws).1.Sublist ws
 |[]=>List.Sublist.slnil
 |g :: l=>by
  rw[fk];split
  ·exact List.sublist_cons_self _ _
  ·exact(lM o proxy l).cons_cons _
theorem sI{o:cO}{proxy:Bool}:∀ {ws:List (aG aF)},rD ws->∀x∈(fk o proxy ws).1,qf o proxy x=false
 |[],_,x,hx=>by cases hx
 |g :: l,hu,x,hx=>by
  have hu':=List.pairwise_cons.1 hu;rw[fk]at hx;cases hg:qf o proxy g
  ·rw[hg]at hx;simp only[Bool.false_eq_true,if_false]at hx;rcases List.mem_cons.1 hx with rfl|hx
   ·exact hg
   ·exact sI hu'.2 x hx
  ·rw[hg,if_pos rfl]at hx;have hx:x∈l:=hx;obtain⟨e1,e2⟩:=uj.1 hg;have:=hu'.1 x hx;rw[e1,e2]at this;exact this
theorem rD.sub{ws l:List (aG aF)}(h:rD ws)(hs:l.Sublist ws):rD l:=List.Pairwise.sublist hs h
theorem rD.ask{ws:List (aG aF)}(h:rD ws)(m:aG aF):rD (re ws m):=by
 unfold re;refine rD.sub (ws:=(fk m.o m.proxy ws).1++[m]) ?_ (List.drop_sublist _ _);unfold rD;rw[List.pairwise_append];refine⟨h.sub (lM _ _ _),List.pairwise_singleton _ _,fun x hx y hy=>?_⟩;rw[List.mem_singleton]at hy;subst hy;have:=sI h x hx;rw[Bool.eq_false_iff]at this ⊢;intro e;obtain⟨e1,e2⟩:=uj.1 e;exact this (uj.2 ⟨e1.symm,e2.symm⟩)
def zG(gs:List (ai aF)):Prop:=∀g∈gs,0<=g.count
structure jh (p:bH):Prop where
 uniq:rD p.waits
 nat:zG p.aH
 xc:p.aH.length<=8/\p.waits.length<=8/\p.book.length<=32/\p.dh.length<=8
theorem jh.no:jh qh:=⟨List.Pairwise.nil,fun _ h=>(by cases h),by decide⟩
theorem zG.filter{gs:List (ai aF)}(h:zG gs)(f:ai aF->Bool):zG (gs.filter f):=fun g hg=>h g (List.mem_filter.1 hg).1
theorem zG.put{gs:List (ai aF)}(h:zG gs){g:ai aF}(hg:0<=g.count):zG (oy gs g):=by
 unfold oy;intro x hx;have hx:=List.mem_of_mem_drop hx;rcases List.mem_append.1 hx with hx|hx
 ·exact h x (List.mem_filter.1 hx).1
 ·rw[List.mem_singleton]at hx;rw[hx];exact hg
theorem yG(gs:List (ai aF))(g:ai aF):(oy gs g).length<=8/\1<=(oy gs g).length:=by
 unfold oy;simp only[List.length_drop,List.length_append,List.length_singleton];omega
theorem US{gs:List (ai aF)}(h:zG gs)(o:cO)(proxy:Bool)(path:ByteArray):zG (mD gs o proxy path).1/\(mD gs o proxy path).1.length<=gs.length:=by
 unfold mD;split
 ·split
  ·rename_i g hg;have hk:=(List.getElem?_eq_some_iff.1 hg).1;have hl:zG (gs.take (lj gs o proxy path).toNat++gs.drop ((lj gs o proxy path).toNat+1)):=fun x hx=>by
    rcases List.mem_append.1 hx with hx|hx
    ·exact h x (List.mem_of_mem_take hx)
    ·exact h x (List.mem_of_mem_drop hx)
   simp only;split
   ·refine⟨hl,?_⟩;simp only[List.length_append,List.length_take,List.length_drop];omega
   ·refine⟨fun x hx=>?_,?_⟩
    ·rcases List.mem_append.1 hx with hx|hx
     ·exact hl x hx
     ·rw[List.mem_singleton]at hx;rw[hx];have:=h g (List.mem_of_getElem? hg);show 0<=g.count+1;omega
    ·simp only[List.length_append,List.length_take,List.length_drop,List.length_singleton];omega
  ·exact⟨h,Nat.le_refl _⟩
 ·exact⟨h,Nat.le_refl _⟩
theorem jh.lF{p:bH}(h:jh p)(now:Int)(o:ib):jh (lF p now o).1:=by
 obtain⟨hu,hn,f1,f2,f3,f4⟩:=h;unfold Go.Proofs.YtjdmjbdkdmbaiaaGreatDoor.lF;by_cases h1:o.what=1
 ·rw[if_pos h1];have hU:=US hn o.o o.proxy o.path;unfold ft;split
  ·rename_i gs e he;rw[he]at hU;exact⟨hu,hU.1,Nat.le_trans hU.2 f1,f2,f3,f4⟩
  ·rename_i gs g he;rw[he]at hU;split
   ·exact⟨hu,hU.1.filter _,Nat.le_trans (List.length_filter_le _ _) (Nat.le_trans hU.2 f1),f2,f3,f4⟩
   ·exact⟨hu,hU.1,Nat.le_trans hU.2 f1,f2,f3,f4⟩
 rw[if_neg h1];by_cases h2:o.what=2
 ·rw[if_pos h2];unfold ee;split
  ·exact⟨hu,hn,f1,f2,f3,f4⟩
  ·rename_i l _;split
   ·split
    ·rename_i g hg;have hc:0<=g.count:=by
      unfold yE at hg;split at hg
      ·split at hg
       ·cases hg;exact Int.le_refl _
       ·cases hg
      ·cases hg
     exact⟨hu,hn.put hc,(yG _ _).1,f2,f3,f4⟩
    ·exact⟨hu.ask _,hn.filter _,Nat.le_trans (List.length_filter_le _ _) f1,OV _ _,f3,f4⟩
   ·exact⟨hu,hn,f1,f2,f3,f4⟩
 rw[if_neg h2];by_cases h3:o.what=3
 ·rw[if_pos h3];have hs:=lM o.o o.proxy p.waits;unfold ef;split
  ·rename_i ws e;rw[e]at hs;exact⟨hu.sub hs,hn,f1,Nat.le_trans hs.length_le f2,f3,f4⟩
  ·rename_i ws x e;rw[e]at hs;exact⟨hu.sub hs,hn.put (Int.le_refl _),(yG _ _).1,Nat.le_trans hs.length_le f2,f3,f4⟩
 rw[if_neg h3];by_cases h4:o.what=4
 ·rw[if_pos h4];exact⟨hu,hn,f1,f2,f3,f4⟩
 rw[if_neg h4];by_cases h5:o.what=5
 ·rw[if_pos h5];unfold fS;split
  ·exact⟨hu,hn,f1,f2,f3,f4⟩
  ·split
   ·exact⟨hu,hn,f1,f2,Nat.le_trans (List.length_filter_le _ _) f3,f4⟩
   ·exact⟨hu,hn,f1,f2,DF _ _ _,f4⟩
 rw[if_neg h5];by_cases h6:o.what=6
 ·rw[if_pos h6];exact⟨hu,hn,f1,f2,f3,f4⟩
 rw[if_neg h6];by_cases h7:o.what=7
 ·rw[if_pos h7];unfold jU;split
  ·exact⟨hu,hn,f1,f2,f3,f4⟩
  ·refine⟨hu,hn,f1,f2,f3,?_⟩;show(rC p.dh o.o o.cert).length<=8;unfold rC;simp only[List.length_drop];omega
 rw[if_neg h7];unfold kN;split
 ·exact jh.no
 ·have NX:jh (qi p o.o):=⟨hu.sub List.filter_sublist,hn.filter _,Nat.le_trans (List.length_filter_le _ _) f1,Nat.le_trans (List.length_filter_le _ _) f2,f3,f4⟩;split
  ·exact⟨NX.uniq,NX.nat,NX.xc.1,NX.xc.2.1,Nat.le_trans (List.length_filter_le _ _) f3,Nat.le_trans (List.length_filter_le _ _) f4⟩
  ·exact NX
structure uk (w:bW):Prop where
 part:∀k,jh (w.part k)
 now:0<=w.now/\w.now<=1099511627776
theorem uk.new:uk yD:=⟨fun _=>jh.no,by decide,by decide⟩
theorem uk.cV{w:bW}(h:uk w)(o:ib):uk (cV w o).1:=by
 cases hr:o.right
 ·rw[gR hr];exact h
 ·by_cases hw:o.what=10
  ·rw[uh hr hw];split
   ·exact h
   ·rename_i hn;refine⟨h.part,?_⟩;show 0<=w.now+o.n/\w.now+o.n<=1099511627776;have:=h.now;omega
  ·rw[fI hr hw];refine⟨fun k=>?_,h.now⟩;by_cases hk:k=o.part.toNat
   ·subst hk;rw[bW.qj];exact(h.part _).lF _ _
   ·rw[bW.Cf _ _ hk];exact h.part k
theorem G0(l:List ib)(o:ib):nM (l++[o])=(cV (nM l) o).1:=by unfold nM;simp
theorem mf{o:ib}{n:Int}(h:o.right=true)(h1:1<=n)(h2:n<=10):({o with what:=n}:ib).right=true:=by
 unfold ib.right at h ⊢;simp only[Bool.and_eq_true,decide_eq_true_eq]at h ⊢;exact⟨h1,h2,h.2.2⟩
theorem AW{o:cO}{proxy:Bool}:∀ {ws:List (aG aF)},ws.any (qf o proxy)=true->∃g,(fk o proxy ws).2=some g
 |[],h=>by cases h
 |g :: l,h=>by
  rw[fk];cases hg:qf o proxy g
  ·rw[List.any_cons,hg,Bool.false_or]at h;simp only[Bool.false_eq_true,if_false];exact AW h
  ·exact⟨g,rfl⟩
theorem Pe(ws:List (aG aF))(m:aG aF):m∈re ws m:=by
 unfold re;show m∈((fk m.o m.proxy ws).1++[m]).drop (((fk m.o m.proxy ws).1++[m]).length-8);rw[List.drop_append_of_le_length (by simp)];exact List.mem_append_right _ (List.mem_singleton.2 rfl)
theorem Pf{w:bW}{o:ib}(hk:uk w)(h2:o.what=2)(h:(cV w o).2.what=3) :
  (cV (cV w o).1 {o with what:=3}).2.what=1/\(cV (cV (cV w o).1 {o with what:=3}).1 {o with what:=3}).2.what=2 /\
   1<=((cV (cV (cV w o).1 {o with what:=3}).1 {o with what:=3}).1.part o.part.toNat).aH.length:=by
 cases hr:o.right
 ·rw[gR hr]at h;simp[rep]at h
 have oT:=mf (n:=3) hr (by decide) (by decide);have jt:=hk.cV o;obtain⟨w1,e1⟩:∃w1,w1=(cV w o).1:=⟨_,rfl⟩;have ag6:∃m:aG aF,m∈(w1.part o.part.toNat).waits/\qf o.o o.proxy m=true:=by
  rw[fI hr (by omega)]at h e1;rw[e1,bW.qj];unfold lF at h ⊢;rw[if_neg (by omega),if_pos h2]at h ⊢;unfold ee at h ⊢;split at h
  ·simp[rep]at h
  ·split at h
   ·rename_i hs;rw[if_pos hs];split at h
    ·simp[rep]at h
    ·exact⟨_,Pe _ _,uj.2 ⟨rfl,rfl⟩⟩
   ·simp[rep]at h
 rw[<-e1]at jt ⊢;obtain⟨m,hm,hf⟩:=ag6;obtain⟨g,hg⟩:=AW (ws:=(w1.part o.part.toNat).waits) (List.any_eq_true.2 ⟨m,hm,hf⟩);have Xm:=sI (o:=o.o) (proxy:=o.proxy) (jt.part o.part.toNat).uniq;obtain⟨ws,sF⟩:∃ws,fk o.o o.proxy (w1.part o.part.toNat).waits=(ws,some g):=⟨_,by rw[<-hg]⟩;rw[sF]at Xm
 obtain⟨p2,vR⟩:∃p2:bH,p2={(w1.part o.part.toNat)with waits:=ws,aH:=oy (w1.part o.part.toNat).aH ⟨g.o,g.proxy,o.user,o.pass,g.a,0,iG g.a g.proxy g.path⟩}:=⟨_,rfl⟩;have d1:lF (w1.part o.part.toNat) w1.now {o with what:=3}=(p2,rep 1):=by
  unfold lF;rw[if_neg (by show¬(3:Int)=1;decide),if_neg (by show¬(3:Int)=2;decide),if_pos rfl];unfold ef;simp only;rw[sF,vR]
 have e2:cV w1 {o with what:=3}=(w1.set o.part.toNat p2,rep 1):=by
  rw[fI oT (by show(3:Int)≠10;decide)];show(w1.set o.part.toNat (lF (w1.part o.part.toNat) w1.now {o with what:=3}).1,(lF (w1.part o.part.toNat) w1.now {o with what:=3}).2)=_;rw[d1]
 rw[e2];have Cc:fk o.o o.proxy p2.waits=(p2.waits,none):=oA (by
  rw[List.any_eq_false];intro x hx;rw[vR]at hx;rw[Xm x hx];decide)
 have d3:lF p2 w1.now {o with what:=3}=(p2,rep 2):=by
  unfold lF;rw[if_neg (by show¬(3:Int)=1;decide),if_neg (by show¬(3:Int)=2;decide),if_pos rfl];unfold ef;simp only;rw[Cc]
 have e3:cV (w1.set o.part.toNat p2) {o with what:=3}=((w1.set o.part.toNat p2).set o.part.toNat p2,rep 2):=by
  rw[fI oT (by show(3:Int)≠10;decide)];show((w1.set o.part.toNat p2).set o.part.toNat (lF ((w1.set o.part.toNat p2).part o.part.toNat) w1.now {o with what:=3}).1,(lF ((w1.set o.part.toNat p2).part o.part.toNat) w1.now {o with what:=3}).2)=_;rw[bW.qj,d3]
 refine⟨rfl,?_,?_⟩
 ·show(cV (w1.set o.part.toNat p2) {o with what:=3}).2.what=2;rw[e3];rfl
 ·show 1<=((cV (w1.set o.part.toNat p2) {o with what:=3}).1.part o.part.toNat).aH.length;rw[e3];show 1<=(((w1.set o.part.toNat p2).set o.part.toNat p2).part o.part.toNat).aH.length;rw[bW.qj,vR];exact(yG _ _).2
end Go.Proofs.YtjdmjbdkdmbaiaaGreatDoor
