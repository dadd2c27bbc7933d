/- BankGet, May, Fields, WorldLaw. -/
import Derived.Test.YtjdmjbdkdmbaiaaGreatDoorPk32
set_option maxRecDepth 100000
set_option maxHeartbeats 16000000
set_option linter.unusedSimpArgs false
namespace Go.Proofs.YtjdmjbdkdmbaiaaGreatDoor
open Go.RowKit
theorem P7{α:Type}{p:α->Bool}{l:List α}{k:Nat}{x:α}(h:l[k]?=some x)(hp:p x=true)(hn:(l.take k).any p=false):l.find? p=some x:=by
 induction l generalizing k with
 |nil=>simp at h
 |cons a l ih =>
  cases k with
  |zero=>simp at h;subst h;rw[List.find?_cons_of_pos hp]
  |succ k =>
   simp only[List.getElem?_cons_succ]at h;simp only[List.take_succ_cons,List.any_cons,Bool.or_eq_false_iff]at hn;rw[List.find?_cons_of_neg (by rw[hn.1];exact Bool.false_ne_true)];exact ih h hn.2
theorem Mg{α:Type}{p:α->Bool}{l:List α}(hn:l.any p=false):l.find? p=none:=by
 rw[List.find?_eq_none];intro x hx;have:=(List.any_eq_false.1 hn) x hx;exact this
def ah9(w:World)(gs:List (ai aF))(o:cO)(proxy:Bool)(ar:ByteArray)(i:Value)(wr:World):Prop :=
 ∃k:Nat,k<=gs.length/\i=.int .i64 k/\(gs.take k).any (iv o proxy ar)=false/\Fr ay w wr
theorem P8(base:Nat)(w:World)(b:Nat)(gv wv:Value)(gs:List (ai aF))(ws:List (aG aF))(o:cO)(proxy:Bool)(ar:ByteArray)(h:ba base w b gv wv gs ws) :
  Calls Tryz.prog 112 #[.pointer (some ⟨b,0,none⟩),.agg o.cells.toArray,.bool proxy,.string ar] w (nJ base w (gs.find? (iv o proxy ar))):=by
 have HSA:=O (fun r U=>Ej r o proxy ar U);unfold cO.cells at *
 have pD:=h.lt;have kM:=h.low;have iJ:Fr ay w _:=((Fr.refl ay w).alloc (.cells #[.bool o.ae,.string o.host,.int .i64 o.port] 24)).alloc (.cells bZ 49);have b1:=af (w.alloc (.cells #[.bool o.ae,.string o.host,.int .i64 o.port] 24)) (.cells bZ 49);rw[show(w.alloc (.cells #[.bool o.ae,.string o.host,.int .i64 o.port] 24)).heap.size=w.heap.size+1 from by simp]at b1
 have b0:((w.alloc (.cells #[.bool o.ae,.string o.host,.int .i64 o.port] 24)).alloc (.cells bZ 49)).heap[w.heap.size]?=some (.cells #[.bool o.ae,.string o.host,.int .i64 o.port] 24 (0,0)):=by
  rw[Below.heap_alloc _ _ _ (by simp)];exact af w _
 have h1:=h.bd iJ;have d0:=h1.c0;obtain⟨av,cv,hgv⟩:=h1.aH.form;subst hgv;have B0:=O b0;have B1:=O b1;clear b0 b1 h;go_enter Tryz.func112,Tryz.ntmps112;go_wp2_with fail
 clear d0;generalize (w.alloc (.cells _ 24)).alloc _=W at *
 go_loopw[17] (ah9 W gs o proxy ar) (fun i _=>gs.length-(intOf i).toNat)
 case atStart=>exact⟨0,Nat.zero_le _,rfl,rfl,Fr.refl _ _⟩
 case round =>
  obtain⟨k,hk,rfl,dL,aW⟩:=hrel;have HAN:=O dL;clear dL;have h2:=h1.bd aW;have c0:=O (aW.keep B0.out (fun h=>h));have c1:=O (aW.keep B1.out (fun h=>h));have sF:w.heap.size+1<wr.heap.size:=aj c1.out;by_cases cG:k<gs.length
  ·have lf:(k:Int)<(gs.length:Int):=by omega
   obtain⟨bk,c,bq,nv,r,bG,hr,hcell⟩:=h2.aH.at cG;cases bq;unfold maxLen at nv;have bC:=O (List.getElem?_eq_getElem cG);generalize gs[k]=g at bC hr;have hsg:Ei o proxy ar r.cells=iv o proxy ar g:=wh hr o proxy ar;obtain⟨x,hx⟩:∃x,x=r.cells:=⟨_,rfl⟩;have gD:x.length=16:=by rw[hx];rfl
   rw[<-hx]at hcell bG;have fR:=fun W=>run_storeCells_new (P:=Tryz.prog) W 49 #[.bool false,.string ⟨#[]⟩,.int .i64 0,.bool false,.string ⟨#[]⟩,.string ⟨#[]⟩,.int .i64 0,.string ⟨#[]⟩,.string ⟨#[]⟩,.string ⟨#[]⟩,.bool false,.string ⟨#[]⟩,.bool false,.slice none 0 0,.int .i64 0,.slice none 0 0] x (by rw[gD];rfl) bG;have AD:=O (show(Tryz.prog.info? 49).map (·.size)=some x.length by rw[gD];kernel_rfl)
   have dF:Fr ay wr (wr.alloc (.cells x.toArray 49)):=(Fr.refl ay wr).alloc _;have nE:=O (af wr (.cells x.toArray 49));have HSM:=O (show∀U,Calls Tryz.prog 175 #[.agg x.toArray,.agg #[.bool o.ae,.string o.host,.int .i64 o.port],.bool proxy,.string ar] U fun e w'=>e=.returned (.bool (iv o proxy ar g))/\Fr ay U w' from fun U=>by
    have:=HSA.out r U;rw[hx];refine this.mono ?_;rintro e w' h';rw[<-hsg];exact h')
   have HR:=O (hr.mono (fun _ _ h=>h.bd dF));have nj:=O (aW.trans dF);have Kp:wr.heap.size<(wr.alloc (.cells x.toArray 49)).heap.size:=by simp
   have HX:=O hx;have c0a:=O (dF.keep c0.out (fun h=>h));have c1a:=O (dF.keep c1.out (fun h=>h));clear hx bG hr hsg dF
   go_wp2_with (first|((with_reducible refine ag ⟨some 20,_,_,_,_,_⟩ ?_);go_must(refine wpList_load_mid rfl 49 (.tmp 19) rfl bk (k*16) rfl x _ hcell Tryz.underlying49 rfl AD.out ?_))|((with_reducible refine ag ⟨some 21,_,_,_,_,_⟩ ?_);go_must(refine wpList_load_row rfl 49 (.tmp 11) rfl wr.heap.size rfl _ x.toArray (0,0) _ nE.out Tryz.underlying49 rfl (by rw[List.size_toArray];exact AD.out) ?_))|((with_reducible refine ag ⟨some 22,_,_,_,_,_⟩ ?_);go_must(refine wpList_load_row rfl 24 (.tmp 5) rfl w.heap.size rfl _ _ (0,0) _ c0a.out Tryz.underlying24 rfl (by kernel_rfl) ?_))|fail)
   clear fR hcell;generalize wr.alloc (.cells x.toArray 49)=V at *
   refine(HSM.out V).mono ?_;rintro e u1⟨rfl,bt⟩;cases kz:iv o proxy ar g
   ·have HN:=O (any_take_succ bC.out HAN.out kz);clear kz HSM;go_wp2;go_roundw
    case rel=>exact⟨k+1,by omega,by go_num,HN.out,nj.out.trans bt⟩
    case measure=>simp[intOf];omega
   ·have o8:=O (P7 bC.out kz HAN.out);have apv:=O (bt.keep nE.out (fun h=>h));have hub:base<=u1.heap.size:=by have:=bt.size;have:=h1.lt;have:=aW.size;omega
    have cF:=O (ov base r g u1 hub (HR.out.mono (fun _ _ h=>h.bd bt)));rw[<-HX.out]at cF;have c1b:=O (bt.keep c1a.out (fun h=>h));have gV:=O (iJ.trans (nj.out.trans bt));clear kz HSM
    go_wp2_with (first|((with_reducible refine ag ⟨some 26,_,_,_,_,_⟩ ?_);go_must(refine wpList_load_row rfl 49 (.tmp 11) rfl wr.heap.size rfl _ x.toArray (0,0) _ apv.out Tryz.underlying49 rfl (by rw[List.size_toArray];exact AD.out) ?_))|fail)
    refine cF.out.mono ?_;intro e w3 GG;obtain⟨r3,rfl,oT,ll,dv⟩:=GG;have b3:=O (dv.keep c1b.out (fun h=>h));have sg:(Tryz.prog.info? 49).map (·.size)=some r3.cells.toArray.size:=by kernel_rfl
    have dV:=gV.out.trans dv;obtain⟨y,hy⟩:∃y,y=r3.cells:=⟨_,rfl⟩;have HY:=O hy;rw[<-hy]at sg ll ⊢;have ze:=O (all_oneCell_toArray ll);have FH:=O (show bZ.size=y.toArray.size by rw[hy];rfl);clear hy cF
    go_wp2_with (first|((with_reducible refine ag ⟨none,.store 49 _ _,_,_,_,_⟩ ?_);go_must(refine wpList_store_row rfl 49 (.tmp 8) (.tmp 27) rfl (w.heap.size+1) y.toArray rfl rfl _ bZ b3.out sg FH.out ze.out ?_))|fail)
    have lZ:lT base w3 (one (w.heap.size+1)):=by
     rintro j rfl hj;exact⟨by omega,fun c f e=>by rw[b3.out]at e;cases e⟩
    have fM:Fr (one (w.heap.size+1)) w3 (w3.setRow (w.heap.size+1) y.toArray):=(Fr.refl (one (w.heap.size+1)) w3).setRow (fun _=>rfl) _;refine bodyPost_ret (results_cell_tmp (by rfl) _ _ (w.heap.size+1) 49 y.toArray (0,0) _ rfl (setRow_heap w3 (w.heap.size+1) _ _ _ _ b3.out) Tryz.underlying49 rfl sg) rfl ?_;have JL:∀u∈r3.cells,u.oneCell'=true:=by rw[<-HY.out];exact ll
    rw[HY.out]at *
    refine⟨dV.setRow (fun h=>absurd h (by omega)) _,?_⟩;rw[o8.out];exact⟨r3,rfl,oT.mono (fun _ _ h=>h.fr fM lZ),JL⟩
  ·have lf:¬(k:Int)<(gs.length:Int):=by omega
   have o8:=O (Mg (p:=iv o proxy ar) (l:=gs) (by have h:=HAN.out;rwa [List.take_of_length_le (by omega)]at h));have HF:=O (iJ.trans aW);go_wp2_with (first|((with_reducible refine ag ⟨none,.store 49 _ _,_,_,_,_⟩ ?_);go_must(refine wpList_store_row rfl 49 (.tmp 8) (.tmp 29) rfl (w.heap.size+1) bZ rfl rfl _ bZ c1.out (by kernel_rfl) rfl su ?_))|fail)
   refine bodyPost_ret (results_cell_tmp (by rfl) _ _ (w.heap.size+1) 49 bZ (0,0) _ rfl (setRow_heap wr (w.heap.size+1) _ _ _ _ c1.out) Tryz.underlying49 rfl (by kernel_rfl)) rfl ?_;refine⟨HF.out.setRow (fun h=>absurd h (by omega)) _,?_⟩;rw[o8.out];rfl
theorem Vv(r:dp Value)(v:Value)(ps:List ew)(w:World)(h:gu w v ps)(hz:fT ps)(ht:nI w)(h0: -9223372036854775808<=r.aI.port)(h1:r.aI.port<=9223372036854775807)(hs:r.aI.host.size<100000) :
  Calls Tryz.prog 66 #[.agg r.cells.toArray,v] w fun e w'=>e=.returned (.bool (Gc (ra r.aI).data.toList r.bP ps))/\Fr ay w w':=by
 have di:Hid (Gc (ra r.aI).data.toList r.bP ps=(if !kV ps lz then false else if(fQ ps lz== [42])&&!r.bP then true else if fQ ps lz !=(ra r.aI).data.toList then false else !r.bP||(fQ ps DH==gz))):=O rfl;generalize Gc (ra r.aI).data.toList r.bP ps=res at di ⊢;obtain⟨rc,nw⟩:∃rc,rc=r.cells.toArray:=⟨_,rfl⟩;obtain⟨wb,eQ⟩:∃wb,wb=w.alloc (.cells rc 29):=⟨_,rfl⟩
 have fa:Fr ay w wb:=by rw[eQ];exact(Fr.refl ay w).alloc _
 have gZ:wb.heap[w.heap.size]?=some (.cells rc 29 (0,0)):=by rw[eQ];exact af _ _
 have HC:=O (show∀U,Fr ay wb U->U.cell? ⟨w.heap.size,1,none⟩=some (.bool r.aI.ae)/\U.cell? ⟨w.heap.size,2,none⟩=some (.string r.aI.host)/\U.cell? ⟨w.heap.size,3,none⟩=some (.int .i64 r.aI.port)/\U.cell? ⟨w.heap.size,11,none⟩=some (.bool r.bP)from fun U hU=>by
  have j:=hU.keep gZ (fun h=>h);rw[nw]at j;have hc:∀i u,r.cells[i]?=some u->U.cell? ⟨w.heap.size,i,none⟩=some u:=fun i u hu=>by simp only[World.cell?,j];simpa using hu
  exact⟨hc 1 _ rfl,hc 2 _ rfl,hc 3 _ rfl,hc 11 _ rfl⟩)
 obtain⟨so,hso,mz⟩:=nO ps lz hz;obtain⟨sc,hsc,hcz⟩:=nO ps DH hz;have HG:=O (fun(u:World) (hu:Fr ay w u)=>qm v ps lz u (aN.bu h hu) hz (by decide) so _ hso rfl);have HK:=O (fun(u:World) (hu:Fr ay w u)=>qm v ps DH u (aN.bu h hu) hz (by decide) sc _ hsc rfl);have HT:=O (fun(u:World) (hu:Fr ay w u)=>Oz r.aI u (ht.fr hu) h0 h1 hs);have gS:=O fa;have lq:=O eQ;rw[hso,hsc]at di;obtain⟨av,cv,hv⟩:=gu.form h
 subst hv;clear h hz ht h0 h1 hs fa gZ hso hsc;rw[<-nw];clear nw eQ;generalize kV ps DH=bc at HK;cases hb:kV ps lz
 ·have HR:=O (show res=false by rw[di.out,hb];rfl);have Tg:=O (HG.out wb gS.out);rw[hb]at Tg;clear hb di;go_enter Tryz.func66,Tryz.ntmps66;go_wp2_with fail
  rw[<-lq.out];refine Tg.out.mono ?_;rintro e u1⟨rfl,bt⟩;go_wp2;go_ret;exact⟨by rw[HR.out];rfl,gS.out.trans bt⟩
 ·have Tg:=O (HG.out wb gS.out);rw[hb]at Tg di;clear hb;have HTT:=O (show so.toList=so.data.toList from ByteArray.toList_eq _);generalize ra r.aI=t at *
  cases e1:(so.toList== [42])
  ·have C0:=O (show res=(if so.data.toList !=t.data.toList then false else !r.bP||(sc.data.toList==gz))by rw[di.out, <-HTT.out,e1];rfl);clear di;go_enter Tryz.func66,Tryz.ntmps66;go_wp2_with fail
   rw[<-lq.out];refine Tg.out.mono ?_;rintro e u1⟨rfl,bt⟩;have gV:=O bt;obtain⟨k1,k2,k3,k4⟩:=HC.out u1 bt;clear bt;go_wp2_with fail
   refine(HT.out u1 (gS.out.trans gV.out)).mono ?_;rintro e u2⟨rfl,bq⟩;have dk:=O (gV.out.trans bq);clear bq k1 k2 k3 k4;cases e2:(so.data.toList==t.data.toList)
   ·have hne:¬so.toList=t.toList:=by
     rw[ByteArray.toList_eq,ByteArray.toList_eq];exact beq_eq_false_iff_ne.1 e2
    have Ox:(so.toList==t.toList)=false:=by rw[beq_eq_false_iff_ne];exact hne
    have HR:=O (show res=false by rw[C0.out];unfold bne;rw[e2];rfl);clear C0 e2;go_wp2;go_ret;exact⟨by rw[HR.out];rfl,gS.out.trans dk.out⟩
   ·have heq:so.toList=t.toList:=by
     rw[ByteArray.toList_eq,ByteArray.toList_eq];exact beq_iff_eq.1 e2
    have TK:=O (show res=(!r.bP||(sc.data.toList==gz))by rw[C0.out];unfold bne;rw[e2];rfl);have Us:=O heq;have Ox:(so.toList==t.toList)=true:=by rw[beq_iff_eq];exact heq
    clear C0 e2 heq;go_wp2_with fail
    refine(HK.out u2 (gS.out.trans dk.out)).mono ?_;rintro e u3⟨rfl,dv⟩;have dV:=O (dk.out.trans dv);obtain⟨k1,k2,k3,k4⟩:=HC.out u3 dV.out;clear dv;have HT3:=O (show sc.toList=sc.data.toList from ByteArray.toList_eq _);cases e4:r.bP
    ·rw[e4]at k4;have HR:=O (show res=true by rw[TK.out,e4];rfl);clear e4;go_wp2;go_ret;exact⟨by rw[HR.out];rfl,gS.out.trans dV.out⟩
    ·rw[e4]at k4 TK;clear e4;cases e3:(sc.toList== [116,114,117,101])
     ·have HR:=O (show res=false by rw[TK.out, <-HT3.out];exact e3);go_wp2;go_ret;exact⟨by rw[HR.out];rfl,gS.out.trans dV.out⟩
     ·have HR:=O (show res=true by rw[TK.out, <-HT3.out];exact e3);go_wp2;go_ret;exact⟨by rw[HR.out];rfl,gS.out.trans dV.out⟩
  ·cases e5:r.bP
   ·have HR:=O (show res=true by rw[di.out, <-HTT.out,e1,e5];rfl);clear di;go_enter Tryz.func66,Tryz.ntmps66;go_wp2_with fail
    rw[<-lq.out];refine Tg.out.mono ?_;rintro e u1⟨rfl,bt⟩;have gV:=O bt;obtain⟨k1,k2,k3,k4⟩:=HC.out u1 bt;clear bt;rw[e5]at k4;clear e5;go_wp2;go_ret;exact⟨by rw[HR.out];rfl,gS.out.trans gV.out⟩
   ·have C0:=O (show res=(if so.data.toList !=t.data.toList then false else !true||(sc.data.toList==gz))by rw[di.out, <-HTT.out,e1,e5];rfl);clear di;go_enter Tryz.func66,Tryz.ntmps66;go_wp2_with fail
    rw[<-lq.out];refine Tg.out.mono ?_;rintro e u1⟨rfl,bt⟩;have gV:=O bt;obtain⟨k1,k2,k3,k4⟩:=HC.out u1 bt;clear bt;rw[e5]at k4 HC;clear e5;go_wp2_with fail
    refine(HT.out u1 (gS.out.trans gV.out)).mono ?_;rintro e u2⟨rfl,bq⟩;have dk:=O (gV.out.trans bq);clear bq k1 k2 k3 k4;cases e2:(so.data.toList==t.data.toList)
    ·have hne:¬so.toList=t.toList:=by
      rw[ByteArray.toList_eq,ByteArray.toList_eq];exact beq_eq_false_iff_ne.1 e2
     have Ox:(so.toList==t.toList)=false:=by rw[beq_eq_false_iff_ne];exact hne
     have HR:=O (show res=false by rw[C0.out];unfold bne;rw[e2];rfl);clear C0 e2;go_wp2;go_ret;exact⟨by rw[HR.out];rfl,gS.out.trans dk.out⟩
    ·have heq:so.toList=t.toList:=by
      rw[ByteArray.toList_eq,ByteArray.toList_eq];exact beq_iff_eq.1 e2
     have TK:=O (show res=(!true||(sc.data.toList==gz))by rw[C0.out];unfold bne;rw[e2];rfl);have Us:=O heq;have Ox:(so.toList==t.toList)=true:=by rw[beq_iff_eq];exact heq
     clear C0 e2 heq;go_wp2_with fail
     refine(HK.out u2 (gS.out.trans dk.out)).mono ?_;rintro e u3⟨rfl,dv⟩;have dV:=O (dk.out.trans dv);obtain⟨k1,k2,k3,k4⟩:=HC.out u3 dV.out;clear dv;have HT3:=O (show sc.toList=sc.data.toList from ByteArray.toList_eq _);cases e3:(sc.toList== [116,114,117,101])
     ·have HR:=O (show res=false by rw[TK.out, <-HT3.out];exact e3);go_wp2;go_ret;exact⟨by rw[HR.out];rfl,gS.out.trans dV.out⟩
     ·have HR:=O (show res=true by rw[TK.out, <-HT3.out];exact e3);go_wp2;go_ret;exact⟨by rw[HR.out];rfl,gS.out.trans dV.out⟩
theorem aaO(l:Bs):Lib.trimSuffix l [13]=nC l:=by
 unfold Lib.trimSuffix Lib.hasSuffix nC;rcases List.eq_nil_or_concat l with rfl|⟨a,b,rfl⟩
 ·rfl
 ·have h1:(List.isSuffixOf [13] (a.concat b)=true)↔b=13:=by
   rw[List.isSuffixOf_iff_suffix,List.concat_eq_append];constructor
   ·rintro⟨t,ht⟩;have:=(List.append_inj' ht rfl).2;simpa using this.symm
   ·rintro rfl;exact⟨a,rfl⟩
  have h2:(a.concat b).getLast?=some b:=by rw[List.concat_eq_append];simp
  rw[h2];by_cases hb:b=13
  ·rw[if_pos (h1.2 hb),if_pos (by rw[hb]),List.dropLast_eq_take];rfl
  ·rw[if_neg (fun h=>hb (h1.1 h)),if_neg (fun h=>hb (Option.some.inj h))]
theorem Bf(l:Bs):(nC l).length<=l.length:=by unfold nC;split<;>simp
theorem Mi{c:UInt8}{s:ByteArray}(h:¬0<=Lib.indexByte s.data.toList c):hQ c s.data.toList=(s.data.toList,[],false) :=
 zY c _ (fun hc=>(xb _ _).1 h c hc rfl)
theorem Qa{c:UInt8}{s:ByteArray}{i:Nat}(h:Lib.indexByte s.data.toList c=(i:Int)):hQ c s.data.toList=(s.data.toList.take i,s.data.toList.drop (i+1),true):=by
 obtain⟨he,hn⟩:=qI _ _ _ h;have:=Du c (s.data.toList.take i) (s.data.toList.drop (i+1)) hn;rw[<-he]at this;exact this
theorem vu(c:UInt8):∀d:Bs,(bD c d).length<=d.length+1/\∀p∈bD c d,p.length<=d.length
 |[]=>by simp[bD]
 |x :: d=>by
  have ih:=vu c d;by_cases hx:x=c
  ·subst hx;rw[lO];refine⟨by simp;omega,fun p hp=>?_⟩;rcases List.mem_cons.1 hp with rfl|hp
   ·simp
   ·have:=ih.2 p hp;simp;omega
  ·cases e:bD c d with
   |nil=>exact absurd e (qA c d)
   |cons q qs =>
    rw[e]at ih;rw[jm hx e];refine⟨by simp at ih ⊢; omega,fun p hp=>?_⟩;rcases List.mem_cons.1 hp with rfl|hp
    ·have:=ih.2 q (List.mem_cons_self ..);simp;omega
    ·have:=ih.2 p (List.mem_cons_of_mem _ hp);simp;omega
def Hp(s:ByteArray)(w:World)(e:Ending)(w':World):Prop :=
 Fr ay w w'/\match ik s.data.toList with
 | .ok ps=>∃v,e=.returned (.tuple #[v,.nilIface])/\OwnRows w.heap.size 126 2 w' v (ps.map jB)
 | .error n=>∃er,e=.returned (.tuple #[.slice none 0 0,er])/\Po n er w'
def aiw(L:List Bs)(w:World)(out t:Value)(wr:World):Prop :=
 ∃(k:Nat) (acc:List ew),k<=L.length/\t=.int .i64 k/\OwnRows w.heap.size 126 2 wr out (acc.map jB)/\fE L []=fE (L.drop k) acc/\acc.length<=40/\Fr ay w wr
theorem Fc{L:List Bs}{k:Nat}{x:Bs}{acc:List ew}(h:L[k]?=some x):fE (L.drop k) acc=match xE x with
  |none=>.error 3
  |some none=>fE (L.drop (k+1)) acc
  |some (some p)=>if acc.length=40 then .error 4 else fE (L.drop (k+1)) (acc++[p]):=by
 have hk:=(List.getElem?_eq_some_iff.1 h).1;have hx:L.drop k=x :: L.drop (k+1):=by
  rw[List.drop_eq_getElem_cons hk];have:=(List.getElem?_eq_some_iff.1 h).2;rw[this]
 rw[hx,fE];rfl
theorem Hq(s:ByteArray)(w:World)(hs:s.size<100000) :
  Calls Tryz.prog 25 #[.string s] w (Hp s w):=by
 by_cases h3:3000<s.size
 ·have h3':(3000:Int)<(s.size:Int):=by omega
  have HE:=O (show ik s.data.toList=.error 4 by unfold ik;rw[if_pos (show 3000<s.data.toList.length from h3)]);go_enter Tryz.func25,Tryz.ntmps25;go_wp2;go_ret2;refine⟨Fr.refl _ _,?_⟩;rw[HE.out];exact⟨_,rfl,Or.inl rfl⟩
 ·have h3':¬(3000:Int)<(s.size:Int):=by omega
  have HE:=O (show ik s.data.toList=fE (bD 10 s.data.toList) []by unfold ik;rw[if_neg (show¬3000<s.data.toList.length from h3)]);have hle:=vu 10 s.data.toList;have wX:=O (sk s 10 w (by omega));obtain⟨L,hL⟩:∃L,L=bD 10 s.data.toList:=⟨_,rfl⟩;obtain⟨B,hB⟩:∃B,B=dX 10 s:=⟨_,rfl⟩;have hBL:B=L.map fun l=>(⟨l.toArray⟩:ByteArray):=by rw[hB,hL];rfl
  have hlen:B.length=L.length:=by rw[hBL,List.length_map]
  rw[<-hL]at HE hle;rw[<-hB]at wX;have TE:=O hle;have hL1:L.length<=3001:=by have h:=hle.1;have h2:s.data.toList.length=s.size:=rfl;omega
  have j8:=O hBL;have HSZ:=O (show∀p∈L,p.length<=3000 from fun p hp=>by have h:=hle.2 p hp;have h2:s.data.toList.length=s.size:=rfl;omega);clear hle hL hB hBL;go_enter Tryz.func25,Tryz.ntmps25;go_wp2_with fail
  refine wX.out.mono ?_;rintro e w0⟨rfl,pB⟩;have iJ:Fr ay w w0:=by rw[pB];exact(Fr.refl _ _).alloc _
  have o5:w0.heap[w.heap.size]?=some (.cells (B.map Value.string).toArray 9 (0,0)):=by rw[pB];exact af _ _
  have HC:=O (show∀U,Fr ay w0 U->∀(k:Nat) x,L[k]?=some x->U.cell? ⟨w.heap.size,k,none⟩=some (.string ⟨x.toArray⟩)from fun U hU k x hx=>by
   have h:=hU.keep o5 (fun h=>h);have e:(B.map Value.string)[k]?=some (.string ⟨x.toArray⟩):=by rw[List.getElem?_map,j8.out,List.getElem?_map,hx];rfl
   simp only[World.cell?,h];simpa using e)
  have oK:=O iJ;rw[hlen];clear pB iJ o5 wX j8 hlen;go_wp2;go_loopw[4,17] (aiw L w0) (fun _ t _=>L.length-(intOf t).toNat)
  case atStart=>exact⟨0,[],Nat.zero_le _,rfl,OwnRows.nil _ _ _ _,by rw[List.drop_zero],by decide,Fr.refl _ _⟩
  case round =>
   obtain⟨k,acc,hk,rfl,ho,hn,aft,aW⟩:=hrel;obtain⟨ao,co,Kz⟩:=ho.form;rw[List.length_map]at Kz;subst Kz;by_cases cG:k<L.length
   ·have lf:(k:Int)<(L.length:Int):=by omega
    have bC:=O (List.getElem?_eq_getElem cG);have ed:=O (List.getElem_mem cG);generalize L[k]=x at bC ed;have hxz:=HSZ.out x ed.out;have c0:=HC.out wr aW k x bC.out;obtain⟨lb,Tl⟩:∃lb:ByteArray,lb=⟨x.toArray⟩:=⟨_,rfl⟩;have Ac:lb.data.toList=x:=by rw[Tl]
    rw[<-Tl]at c0;obtain⟨y,hy⟩:∃y:ByteArray,y=⟨(Lib.trimSuffix lb.data.toList [13]).toArray⟩:=⟨_,rfl⟩;have hyl:y.data.toList=nC x:=by rw[hy,Ac,aaO]
    have hyz:y.size<=3000:=by
     have h:=Bf x;have h2:y.data.toList.length=y.size:=rfl;rw[hyl]at h2;omega
    have FP:lb.size<=3000:=by have h2:lb.data.toList.length=lb.size:=rfl;rw[Ac]at h2;omega
    have HTS:=O (show Calls Tryz.prog 68 #[.string lb,.string ⟨#[13]⟩] wr fun e w'=>e=.returned (.string y)/\wr=w' from(Tryz.strings_TrimSuffix lb ⟨#[13]⟩ wr (by omega)).mono (by rintro e w' ⟨rfl,rfl⟩;exact⟨by rw[hy],rfl⟩));have jn:=O (Fc (acc:=acc) bC.out);have HN:=O hn;have HO:=O ho
    have HLR:=O (show xE x=if y.data.toList.isEmpty then some none else if !(hQ 58 y.data.toList).2.2||!uN (hQ 58 y.data.toList).1 then none else some (some ((hQ 58 y.data.toList).1,trimB (hQ 58 y.data.toList).2.1))by rw[hyl];rfl);clear Tl Ac hy hyl hn ho;have MY:y.toList=y.data.toList:=ByteArray.toList_eq _;by_cases hy0:y.size=0
    ·have ze:=dw.2 hy0;have aaP:y.toList=[]:=by rw[MY];exact ze
     have apP:(y.toList== [])=true:=by rw[aaP];rfl
     have HR:=O (show fE L []=fE (L.drop (k+1)) acc by rw[HN.out,jn.out,HLR.out,ze];rfl);clear MY ze;go_wp2_with fail
     refine HTS.out.mono ?_;rintro e u⟨rfl,rfl⟩;go_wp2;go_roundw
     case rel=>exact⟨k+1,acc,by omega,by go_num,HO.out,HR.out,aft,aW⟩
     case measure=>simp[intOf];omega
    ·have ze:¬y.data.toList=[]:=fun h=>hy0 (dw.1 h);have aaP:¬y.toList=[]:=by rw[MY];exact ze
     have apP:(y.toList== [])=false:=by rw[beq_eq_false_iff_ne];exact aaP
     have Hr:=O (show xE x=if !(hQ 58 y.data.toList).2.2||!uN (hQ 58 y.data.toList).1 then none else some (some ((hQ 58 y.data.toList).1,trimB (hQ 58 y.data.toList).2.1))by
      rw[HLR.out,if_neg (by simpa using ze)])
     clear MY ze HLR;by_cases rm:0<=Lib.indexByte y.data.toList 58
     ·obtain⟨i,hi⟩:∃i:Nat,Lib.indexByte y.data.toList 58=(i:Int):=⟨(Lib.indexByte y.data.toList 58).toNat,by omega⟩;have hil:i<y.size:=Oi hi;have hcut:=Qa hi;obtain⟨nm,SW⟩:∃nm:ByteArray,nm=y.extract 0 i:=⟨_,rfl⟩;obtain⟨vl,TJ⟩:∃vl:ByteArray,vl=y.extract (i+1) y.size:=⟨_,rfl⟩;have mn:nm.data.toList=y.data.toList.take i:=by rw[SW,jR];simp
      have aaQ:vl.data.toList=y.data.toList.drop (i+1):=by
       rw[TJ,jR];exact List.take_of_length_le (by rw[List.length_drop];exact Nat.le_refl _)
      have hnz:nm.size<=3000:=by
       have h2:nm.data.toList.length=nm.size:=rfl;rw[mn,List.length_take]at h2;have h3:y.data.toList.length=y.size:=rfl;omega
      have Xv:vl.size<=3000:=by
       have h2:vl.data.toList.length=vl.size:=rfl;rw[aaQ,List.length_drop]at h2;have h3:y.data.toList.length=y.size:=rfl;omega
      have BF:=O (DA y 58 i wr (by omega) hi hil);rw[<-SW, <-TJ]at BF;rw[hcut]at Hr;simp only at Hr;rw[<-mn, <-aaQ]at Hr;clear SW TJ mn aaQ hcut;cases Ct:uN nm.data.toList
      ·have HR:=O (show ik s.data.toList=.error 3 by rw[HE.out,HN.out,jn.out,Hr.out,Ct];rfl);have XG:=O (fun U=>xo nm U (by omega));rw[Ct]at XG;clear Ct hi rm;go_wp2_with fail
       refine HTS.out.mono ?_;rintro e u⟨rfl,rfl⟩;go_wp2_with fail
       refine BF.out.mono ?_;rintro e u⟨rfl,n,rfl⟩;go_wp2_with fail
       refine(XG.out _).mono ?_;rintro e u⟨rfl,rfl⟩;have o5:=af (wr.drewN n) (.cells #[.int .i64 3,.int .i64 k] 124);have HBK:=O o5;have T_:=O ((aW.drewN n).alloc (.cells #[.int .i64 3,.int .i64 k] 124));clear o5;go_wp2;go_ret2;refine⟨oK.out.trans T_.out,?_⟩;rw[HR.out];exact⟨_,rfl,Or.inr ⟨_,k,rfl,HBK.out⟩⟩
      ·by_cases Bv:acc.length=40
       ·have HR:=O (show ik s.data.toList=.error 4 by rw[HE.out,HN.out,jn.out,Hr.out,Ct];simp[Bv]);have XG:=O (fun U=>xo nm U (by omega));rw[Ct]at XG;have i40:(acc.length:Int)=40:=by omega
        clear Ct hi rm;go_wp2_with fail
        refine HTS.out.mono ?_;rintro e u⟨rfl,rfl⟩;go_wp2_with fail
        refine BF.out.mono ?_;rintro e u⟨rfl,n,rfl⟩;go_wp2_with fail
        refine(XG.out _).mono ?_;rintro e u⟨rfl,rfl⟩;have T_:=O (aW.drewN n);go_wp2;go_ret2;refine⟨oK.out.trans T_.out,?_⟩;rw[HR.out];exact⟨_,rfl,Or.inl rfl⟩
       ·have XG:=O (fun U=>xo nm U (by omega));have HTR:=O (fun U=>mK vl ⟨#[32,9]⟩ U (by omega) (by decide) (by decide) (by decide));obtain⟨tv,htv⟩:∃tv:ByteArray,tv=⟨(Lib.trimS vl.data.toList [32,9]).toArray⟩:=⟨_,rfl⟩;have Kw:tv.data.toList=trimB vl.data.toList:=by rw[htv];rfl
        have apR:=O (show∀U,Calls Tryz.prog 71 #[.string vl,.string ⟨#[32,9]⟩] U fun e w'=>e=.returned (.string tv)/\Fr ay U w' from fun U=>by rw[htv];exact HTR.out U);have HPC:=O (show jB (nm.data.toList,tv.data.toList)=[.string nm,.string tv]by unfold jB;simp only[NA]);have HR:=O (show fE L []=fE (L.drop (k+1)) (acc++[(nm.data.toList,tv.data.toList)])by rw[HN.out,jn.out,Hr.out,Ct,Kw];simp[Bv])
        rw[Ct]at XG;have i40:¬(acc.length:Int)=40:=by omega
        clear Ct hi rm htv Kw HTR;go_wp2_with fail
        refine HTS.out.mono ?_;rintro e u⟨rfl,rfl⟩;go_wp2_with fail
        refine BF.out.mono ?_;rintro e u⟨rfl,n,rfl⟩;go_wp2_with fail
        refine(XG.out _).mono ?_;rintro e u⟨rfl,rfl⟩;go_wp2_with fail
        refine(apR.out _).mono ?_;rintro e u⟨rfl,hu⟩;have Na:=O ((aW.drewN n).trans hu);have HOU:=O (HO.out.drewN (n:=n) |>.fr hu (fun _ _ h=>h));have hsu:w0.heap.size<=u.heap.size:=Na.out.size;clear hu
        go_wp2_with (at_builtin;go_must(refine lR rfl _ _ 27 126 rfl 2 32 (.agg #[.string ⟨#[]⟩,.string ⟨#[]⟩]) Tryz.underlying27 DP rfl (by decide) (by decide) w0.heap.size (.slice ao acc.length co) (acc.map jB) rfl (HOU.out.alloc _) u.heap.size 1 [.string nm,.string tv] rfl rfl (by simp[Value.oneCell']) (fun i u hi=>by rw[World.cell?_alloc_mark];simpa using hi) (by rw[List.length_map];omega) (by simp;omega) ?_);intro v' w4 cZ Ag)
        have fu:=O ((Na.out.alloc (.cells #[.string nm,.string tv] 126)).cK Ag (fun j hj=>HOU.out.block j hj));go_roundw
        case rel=>exact⟨k+1,acc++[(nm.data.toList,tv.data.toList)],by omega,by go_num,by rw[List.map_append,List.map_cons,List.map_nil,HPC.out];exact cZ,HR.out,by simp;omega,fu.out⟩
        case measure=>simp[intOf];omega
     ·have hcut:=Mi rm;have HR:=O (show ik s.data.toList=.error 3 by rw[HE.out,HN.out,jn.out,Hr.out,hcut];rfl);have BF:=O (z_ y 58 wr rm);clear rm hcut;go_wp2_with fail
      refine HTS.out.mono ?_;rintro e u⟨rfl,rfl⟩;go_wp2_with fail
      refine BF.out.mono ?_;rintro e u⟨rfl,rfl⟩;have o5:=af u (.cells #[.int .i64 3,.int .i64 k] 124);have HBK:=O o5;have T_:=O (aW.alloc (.cells #[.int .i64 3,.int .i64 k] 124));clear o5;go_wp2;go_ret2;refine⟨oK.out.trans T_.out,?_⟩;rw[HR.out];exact⟨_,rfl,Or.inr ⟨_,k,rfl,HBK.out⟩⟩
   ·have lf:¬(k:Int)<(L.length:Int):=by omega
    have Ku:L.drop k=[]:=List.drop_of_length_le (by omega);have HR:=O (show ik s.data.toList=.ok acc by rw[HE.out,hn,Ku];rfl);have HO:=O ho;clear ho hn;go_wp2;go_ret2;refine⟨oK.out.trans aW,?_⟩;rw[HR.out];exact⟨_,rfl,HO.out.up oK.out.size⟩
theorem bW.eq{v w:bW}(h:∀i,v.part i=w.part i)(hn:v.now=w.now):v=w:=by
 cases v;cases w;simp only[bW.mk.injEq];exact⟨funext h,hn⟩
theorem bW.ug(w:bW)(k:Nat):w.set k (w.part k)=w:=by
 refine bW.eq (fun i=>?_) rfl;unfold bW.set;show(if i=k then w.part k else w.part i)=w.part i;split
 ·rename_i h;rw[h]
 ·rfl
theorem bW.qj(w:bW)(k:Nat)(p:bH):(w.set k p).part k=p:=by unfold bW.set;simp
theorem bW.Cf(w:bW){k i:Nat}(p:bH)(h:i≠k):(w.set k p).part i=w.part i:=by unfold bW.set;simp[h]
theorem gR{w:bW}{o:ib}(h:o.right=false):cV w o=(w,rep 7):=by unfold cV;rw[h];rfl
theorem fI{w:bW}{o:ib}(h:o.right=true)(hw:o.what≠10):cV w o=(w.set o.part.toNat (lF (w.part o.part.toNat) w.now o).1,(lF (w.part o.part.toNat) w.now o).2):=by
 unfold cV;rw[if_pos h,if_neg hw]
theorem uh{w:bW}{o:ib}(h:o.right=true)(hw:o.what=10):cV w o=if o.n<0\/1099511627776-w.now<o.n then(w,rep 7)else({w with now:=w.now+o.n},rep 1):=by
 unfold cV;rw[if_pos h,if_pos hw]
theorem fl{o:ib}(h:o.right=true):0<=o.part/\o.part<4:=by
 unfold ib.right ib.O8 at h;simp only[Bool.and_eq_true,decide_eq_true_eq]at h;exact⟨h.2.2.1.1,h.2.2.1.2.1⟩
theorem O9(w:bW)(o:ib):if o.what=10/\(cV w o).2.what=1 then(cV w o).1.now=w.now+o.n/\w.now<=(cV w o).1.now else(cV w o).1.now=w.now:=by
 cases hr:o.right
 ·rw[gR hr,if_neg]
  ·intro h;have h:=h.2;simp[rep]at h
 ·by_cases hw:o.what=10
  ·rw[uh hr hw];by_cases hn:o.n<0\/1099511627776-w.now<o.n
   ·rw[if_pos hn,if_neg];intro h;have h:=h.2;simp[rep]at h
   ·rw[if_neg hn,if_pos ⟨hw,rfl⟩];refine⟨rfl,?_⟩;show w.now<=w.now+o.n;omega
  ·rw[fI hr hw,if_neg (fun h=>hw h.1)];rfl
end Go.Proofs.YtjdmjbdkdmbaiaaGreatDoor
