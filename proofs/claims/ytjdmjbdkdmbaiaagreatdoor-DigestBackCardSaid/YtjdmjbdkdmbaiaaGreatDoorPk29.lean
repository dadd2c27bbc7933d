/- Book3, AskRead, OpenY. -/
import Derived.Test.YtjdmjbdkdmbaiaaGreatDoorPk27
set_option maxRecDepth 100000
set_option maxHeartbeats 16000000
set_option linter.unusedSimpArgs false
namespace Go.Proofs.YtjdmjbdkdmbaiaaGreatDoor
open Go.RowKit
theorem ve:(Tryz.prog.info? 65).map (fun i=>(i.zero,i.size,i.bytes))=some (some (.agg zF),12,144):=by kernel_rfl
theorem Lw{base:Nat}{w2 w4:World}{b:Nat}{v0 v:Value}{fs:List bI}{p:bI}{gg cap:Nat}(hl:base<=b)(hb:w2.heap[b]?=some (.cells #[v0] 141 (0,0)))(Of:¬own v b)(bT:Fr (own v) w2 w4)
  (cZ:w4.ownsRow base 65 12 (.slice (some ⟨gg,0,none⟩) (fs.length+1) cap) (fs.length+1) ((fs.map bI.cells).flatten++p.cells)) :
  cy base (w4.setCell ⟨b,0,none⟩ (.slice (some ⟨gg,0,none⟩) (fs.length+1) cap)) b (.slice (some ⟨gg,0,none⟩) (fs.length+1) cap) (fs++[p]):=by
 refine cy.set hl (bT.keep hb Of) ⟨?_,?_⟩
 ·intro x hx;obtain⟨q,_,rfl⟩:=List.mem_map.1 hx;exact⟨rfl,q.nL⟩
 ·rw[List.map_append,List.flatten_append,List.length_append,List.length_map];simpa using cZ
def agY(base:Nat)(w1:World)(b:Nat)(v:Value)(ps ls:List bI)(t:Value)(wr:World):Prop :=
 ∃k vk,k<=ls.length/\t=.int .i64 k/\cy base wr b vk ((ls.take k).foldl zt ps)/\Fr (dK b v) w1 wr/\∀j,dK b vk j->dK b v j\/w1.heap.size<=j
theorem Lx{ps ls:List bI}{k:Nat}{p:bI}(h:ls[k]?=some p):(ls.take (k+1)).foldl zt ps=((ls.take k).foldl zt ps).filter (fun q=>!p.like q)++[p]:=by
 rw[bz h,List.foldl_append];rfl
theorem lD(ps:List bI)(f:bI->Bool):(ps.map bI.cells).filter (fun x=>!f (Cd x))=(ps.filter (fun q=>!f q)).map bI.cells:=by
 rw[List.filter_map];rfl
theorem Ly{S:Nat->Prop}{n:Nat}{U w3:World}{x:List Value}{t:TypeId}(hU:U.heap[n]?=some (.cells x.toArray t (0,0)))(hf:Fr S U w3)(hn:¬S n):∀j u,x[j]?=some u->w3.cell? ((⟨n,0,none⟩:Addr).add j)=some u:=by
 intro j u hj;have h:=hf.keep hU hn;have e:(Addr.add ⟨n,0,none⟩ j)=⟨n,j,none⟩:=by unfold Addr.add;split<;>simp_all
 rw[e];simp only[World.cell?,h];simpa using hj
theorem Et(base:Nat)(w:World)(b:Nat)(v:Value)(ps:List bI)(lv:Value)(ls:List bI)(now:Int)(h:cy base w b v ps)(hl:oV w lv ls)(mn:ls≠ []->∀k,lv.ownBlock=some k->¬dK b v k)(hlen:ps.length+ls.length<1000000) :
  Calls Tryz.prog 119 #[.pointer (some ⟨b,0,none⟩),lv,.int .i64 now] w fun e w'=>e=.returned (.tuple #[])/\yB base w b v (ob ps ls now) w':=by
 obtain⟨al,cl,hlf⟩:=aN.form hl;rw[List.length_map]at hlf;subst hlf;obtain⟨w1,jt⟩:∃w1,w1=w.alloc (.cells #[.int .i64 now] 3):=⟨_,rfl⟩;have bt:Fr ay w w1:=by rw[jt];exact(Fr.refl _ _).alloc _
 have wJ:w1.heap[w.heap.size]?=some (.cells #[.int .i64 now] 3 (0,0)):=by rw[jt];exact af _ _
 have zo:w.heap.size<w1.heap.size:=aj wJ;have h1:=h.bd bt;have hl1:oV w1 (.slice al ls.length cl) ls:=aN.bu hl bt;have HLT:=O (show∀k,dK b v k->k<w.heap.size from fun k hk=>h.fO hk);have D3:=O jt;have gV:=O bt;have HNB:=O wJ;clear hl jt bt wJ h;go_enter Tryz.func119,Tryz.ntmps119;go_wp2_with fail
 rw[<-D3.out];go_loopw[11] (agY base w1 b v ps ls) (fun t _=>ls.length-(intOf t).toNat)
 case atStart=>exact⟨0,v,Nat.zero_le _,rfl,h1,Fr.refl _ _,fun _ h=>Or.inl h⟩
 case round =>
  obtain⟨k,vk,hk,rfl,hb,aW,M3⟩:=hrel;have kM:=hb.low;have zd:=DG (ls.take k) ps;rw[List.length_take]at zd;by_cases cG:k<ls.length
  ·have lf:(k:Int)<(ls.length:Int):=by omega
   have bC:=O (List.getElem?_eq_getElem cG);generalize ls[k]=p at bC;have jn:=O (Lx (ps:=ps) bC.out);generalize (ls.take k).foldl zt ps=fs at hb zd jn;have gG:aN 12 wr (.slice al ls.length cl) (ls.map bI.cells):=aN.fr hl1 aW (mn (fun e=>by rw[e]at bC;have:=bC.out;simp at this));rcases gG.2 with ⟨_,_,_,e,_⟩|⟨bk,of,c,hf,g1,g2,g3,g4⟩
   ·have:ls.length=0:=by have:=congrArg List.length e;simpa using this
    omega
   rw[List.length_map]at hf g1;cases hf;unfold maxLen at g2;obtain⟨x,hx⟩:∃x,x=p.cells:=⟨_,rfl⟩;have gD:x.length=12:=by rw[hx];rfl
   have bG:∀u∈x,u.oneCell'=true:=by rw[hx];exact p.nL
   have hcell:=g4 k x (by rw[List.getElem?_map,bC.out,hx];rfl);have fR:=fun W=>run_storeCells_new (P:=Tryz.prog) W 65 zF x (by rw[gD];rfl) bG;have AD:(Tryz.prog.info? 65).map (·.size)=some x.length:=vd gD;clear g4 gG;have HX:=O hx;have JF:=O AD;clear hx AD
   go_wp2_with (first|((with_reducible refine ag ⟨some 14,_,_,_,_,_⟩ ?_);go_must(refine wpList_load_mid rfl 65 (.tmp 13) rfl bk (of+k*12) rfl x _ hcell Tryz.underlying65 rfl JF.out ?_))|fail)
   have bq:Fr ay wr (wr.alloc (.cells x.toArray 65)):=(Fr.refl _ _).alloc _;have vR:(wr.alloc (.cells x.toArray 65)).heap[wr.heap.size]?=some (.cells x.toArray 65 (0,0)):=af _ _;have fe:=aW.alloc (.cells x.toArray 65);have fC:=hb.bd bq;have M7:¬own vk wr.heap.size:=fun hk=>by have:=hb.yC hk;omega
   have eQ:b<wr.heap.size:=hb.lt;have BD:=O (show wr.heap.size<(wr.alloc (.cells x.toArray 65)).heap.size from aj vR);clear fR hcell bq;generalize wr.alloc (.cells x.toArray 65)=W2 at *
   obtain⟨ak,ck,M8⟩:=fC.form;subst M8;obtain⟨Eu,UN⟩:∃Eu,Eu=fs.filter (fun q=>!p.like q):=⟨_,rfl⟩;have yr:Eu.length<=fs.length:=by rw[UN];exact List.length_filter_le _ _
   rw[<-UN]at jn
   have HK:=O (show∀U,Fr (dK b (.slice ak fs.length ck)) W2 U->(U.cell? ⟨wr.heap.size,0,none⟩=some (.bool p.aI.ae)/\U.cell? ⟨wr.heap.size,1,none⟩=some (.string p.aI.host)/\U.cell? ⟨wr.heap.size,2,none⟩=some (.int .i64 p.aI.port)/\U.cell? ⟨wr.heap.size,3,none⟩=some (.bool p.o.ae)/\U.cell? ⟨wr.heap.size,4,none⟩=some (.string p.o.host)/\U.cell? ⟨wr.heap.size,5,none⟩=some (.int .i64 p.o.port)/\U.cell? ⟨wr.heap.size,6,none⟩=some (.string p.path)/\U.cell? ⟨wr.heap.size,7,none⟩=some (.string p.query)/\U.cell? ⟨wr.heap.size,8,none⟩=some (.bool p.bP)/\U.cell? ⟨wr.heap.size,9,none⟩=some (.string p.method)/\U.cell? ⟨wr.heap.size,10,none⟩=some (.string p.head)/\U.cell? ⟨wr.heap.size,11,none⟩=some (.int .i64 p.kB))from fun U hU=>by
    have j2:=hU.keep vR (fun h=>by
     rcases h with h|h
     ·omega
     ·exact M7 h)
    rw[HX.out]at j2;have hc:∀i u,p.cells[i]?=some u->U.cell? ⟨wr.heap.size,i,none⟩=some u:=fun i u hu=>by simp only[World.cell?,j2];simpa using hu
    exact⟨hc 0 _ rfl,hc 1 _ rfl,hc 2 _ rfl,hc 3 _ rfl,hc 4 _ rfl,hc 5 _ rfl,hc 6 _ rfl,hc 7 _ rfl,hc 8 _ rfl,hc 9 _ rfl,hc 10 _ rfl,hc 11 _ rfl⟩)
   have HBC:=O (show∀U,Fr (own (.slice ak fs.length ck)) W2 U->U.cell? ⟨b,0,none⟩=some (.slice ak fs.length ck)from fun U hU=>by
    have j1:=hU.keep fC.cR fC.nb;simp[World.cell?,j1])
   have hb0:(⟨b,0,none⟩:Addr).block<W2.heap.size->dK b (.slice ak fs.length ck) (⟨b,0,none⟩:Addr).block:=fun _=>Or.inl rfl;have d0:=HBC.out W2 (Fr.refl _ _);have dA:∀o:Obj,(W2.alloc o).cell? ⟨b,0,none⟩=some (.slice ak fs.length ck):=fun o=>HBC.out _ ((Fr.refl _ _).alloc o);have ag1:=O (show∀U,Fr (own (.slice ak fs.length ck)) W2 U->U.frozen? ⟨b,0,none⟩=false from fun U hU=>by
    have j1:=hU.keep fC.cR fC.nb;simp[World.frozen?,j1])
   have cF:=O (show∀U,Fr ay W2 U->Calls Tryz.prog 180 #[.slice ak fs.length ck,.func (.func 182) #[] #[.pointer (some ⟨wr.heap.size,0,none⟩)]] U fun e w'=>∃a c,e=.returned (.slice a Eu.length c)/\OwnRows base 65 12 w' (.slice a Eu.length c) (Eu.map bI.cells)/\Fr (own (.slice ak fs.length ck)) U w'/\own (.slice a Eu.length c)=own (.slice ak fs.length ck)from fun U hU=>by
    have hd:=kD base 182 #[.pointer (some ⟨wr.heap.size,0,none⟩)] (fun y=>p.like (Cd y)) (.slice ak fs.length ck) (fs.map bI.cells) U Tryz.call182 (fun y hy u hu=>by
     obtain⟨q,_,rfl⟩:=List.mem_map.1 hy;have hpu:=hu.keep (hU.keep vR (fun h=>h)) M7;rw[HX.out]at hpu;exact O0 p q wr.heap.size u hpu) (fC.rows.fr hU (fun _ _ h=>h))
    rw[lD,List.length_map, <-UN]at hd;exact hd)
   clear UN;obtain⟨i0,qD,oZ,iy,gU⟩:=info_parts ve;have hnW:¬own (.slice ak fs.length ck) W2.heap.size:=fun hk=>by have:=fC.yC hk;omega
   have aom:base<=W2.heap.size:=by have:=BD.out;omega
   have P0:=HK.out W2 (Fr.refl _ _);obtain⟨x0,x1,x2,x3,x4,x5,x6,x7,x8,x9,UC,UD⟩:=P0;go_region_law (first
     |((with_reducible refine jM ⟨some 21,_,_,_,_,_⟩ ?_)
       refine uS rfl 180 _ (by go_simp) (cF.out _ (by repeat(first|exact Fr.refl _ _|apply Fr.drew|apply Fr.alloc))) ?_
       intro e w3 ld
       obtain⟨a3,c3,rfl,cz,dv,JN⟩:=ld
       refine⟨_,rfl,?_⟩
       have dV:Fr (own (.slice ak fs.length ck)) W2 w3:=Fr.step (S:=own (.slice ak fs.length ck)) (by repeat(first|exact Fr.refl _ _|apply Fr.drew|apply Fr.alloc)) dv (fun _ _ h=>h)
       have ag2:Fr (dK b (.slice ak fs.length ck)) W2 w3:=dV.mono (fun _ _ h=>Or.inr h)
       have O5:w3.ownsRow base 65 12 (.slice a3 Eu.length c3) Eu.length (Eu.map bI.cells).flatten:=by
         have h:=cz.2
         rw[List.length_map]at h
         exact h
       have BR:=HK.out w3 ag2
       have jQ:base<=w3.heap.size:=by have:=dV.size;omega)
     |((with_reducible refine jM ⟨some 24,_,_,_,_,_⟩ ?_)
       (first
         |refine step_append_lies _ (by rfl) _ _ _ (by rfl) base 65 i0 _ 12 144 Tryz.underlying60 qD oZ iy gU rfl (by omega) (.slice a3 Eu.length c3) Eu.length _ (by rfl) (by repeat(first|exact O5|apply World.ownsRow.alloc|apply World.ownsRow.drew)) ⟨w3.heap.size,0,none⟩ 1 1 p.cells (by rfl) (by rfl) (jo w3 p.cells _) p.nL (by omega) (by unfold maxLen;omega) (by omega) (by simp;omega) (w3.heap.size+1) (by simp) ?_
         |refine step_append_lies _ (by rfl) _ _ _ (by rfl) base 65 i0 _ 12 144 Tryz.underlying60 qD oZ iy gU rfl (by omega) (.slice a3 Eu.length c3) Eu.length _ (by rfl) (by repeat(first|exact O5|apply World.ownsRow.alloc|apply World.ownsRow.drew)) ⟨W2.heap.size,0,none⟩ 1 1 p.cells (by rfl) (by rfl) (Ly (by exact af _ _) dv hnW) p.nL (by omega) (by unfold maxLen;omega) (by omega) (by omega) (w3.heap.size) (by simp) ?_)
       intro gg cap w4 cZ gQ bC UF
       have fu:Fr (own (.slice ak fs.length ck)) W2 w4:=Fr.grown (by repeat(first|exact dV|apply Fr.drew|apply Fr.alloc)) gQ (fun k hk _=>by rw[<-JN];exact hk)
       have ag3:Fr (dK b (.slice ak fs.length ck)) W2 w4:=fu.mono (fun _ _ h=>Or.inr h)
       have k4:=HBC.out w4 fu
       have e4:=ag1.out w4 fu))
   all_goals
    have h5:=Lw (v:=.slice ak fs.length ck) kM fC.cR fC.nb fu cZ;rw[<-jn.out]at h5;have hF5:Fr (dK b v) w1 (w4.setCell ⟨b,0,none⟩ (.slice (some ⟨gg,0,none⟩) (Eu.length+1) cap)):=fe.step (ag3.setCell (p:=⟨b,0,none⟩) hb0 _) (fun j hj hb=>by
     rcases M3 j hb with h|h
     ·exact h
     ·omega)
    have Nv:w1.heap.size<=w3.heap.size:=by have h1:=fe.size;have h2:=dV.size;omega
    have Lp:∀j,dK b (.slice (some ⟨gg,0,none⟩) (Eu.length+1) cap) j->dK b v j\/w1.heap.size<=j:=by
     rintro j(hj|hj)
     ·exact Or.inl (Or.inl hj)
     ·have e:gg=j:=by simpa[own,Value.ownBlock]using hj
      subst e;rcases bC with bC|bC
      ·exact M3 gg (Or.inr (by rw[<-JN];exact bC))
      ·exact Or.inr (by omega)
    have H5:=O (And.intro h5 (And.intro hF5 Lp));clear cF HK HBC ag1 cZ gQ fu ag3 dV ag2 O5 k4 e4 BR x0 x1 x2 x3 x4 x5 x6 x7 x8 x9 UC UD d0 dA hb0 h5 hF5 Lp bC JN cz dv;generalize w4.setCell ⟨b,0,none⟩ (.slice (some ⟨gg,0,none⟩) (Eu.length+1) cap)=w5 at *
    go_wp2;go_roundw
    case rel=>exact⟨k+1,_,by omega,by go_num,H5.out.1,H5.out.2.1,H5.out.2.2⟩
    case measure=>simp[intOf];omega
  ·have lf:¬(k:Int)<(ls.length:Int):=by omega
   have Kw:ls.take k=ls:=List.take_of_length_le (by omega);rw[Kw]at hb zd;obtain⟨fs,fM⟩:∃fs,fs=ls.foldl zt ps:=⟨_,rfl⟩;rw[<-fM]at hb zd;have UE:¬own vk w.heap.size:=fun hk=>by
    rcases M3 _ (Or.inr hk)with h|h
    ·have:=HLT.out _ h;omega
    ·omega
   have aon:=aW.keep HNB.out (fun hk=>by have:=HLT.out _ hk;omega);have hd:=kD base 184 #[.pointer (some ⟨w.heap.size,0,none⟩)] (fun y=>!(Cd y).alive now) vk (fs.map bI.cells) wr Tryz.call184 (fun y hy u hu=>by
    obtain⟨q,_,rfl⟩:=List.mem_map.1 hy;exact O2 q now w.heap.size u (hu.keep aon UE)) hb.rows
   rw[lD fs (fun q=>!q.alive now),List.length_map]at hd;obtain⟨ys,DM⟩:∃ys,ys=fs.filter (fun q=>!!q.alive now):=⟨_,rfl⟩;rw[<-DM]at hd;have hyl:ys.length<=fs.length:=by rw[DM];exact List.length_filter_le _ _
   have di:=O (show ob ps ls now=ys.drop (ys.length-32)by
    rw[DM,fM];unfold ob;simp only[Bool.not_not])
   obtain⟨ak,ck,M8⟩:=hb.form;have hb':=hb;subst M8;have hd':=O hd;have c0:=hb.c0;have e0:=hb.free 0;have HB:=O hb;have py:=O aW;have M9:=O M3;have awu:b<w1.heap.size:=Nat.lt_trans (HLT.out b (Or.inl rfl)) zo;clear hd DM fM hb hb' aW M3;go_wp2_with fail
   refine hd'.out.mono ?_;rintro e w2⟨a2,c2,rfl,lr,bq,JN⟩;have Ev:=bq.keep HB.out.cR HB.out.nb;have d0:w2.cell? ⟨b,0,none⟩=some (.slice ak fs.length ck):=by simp[World.cell?,Ev]
   have e2:w2.frozen? ⟨b,0,none⟩=false:=by simp[World.frozen?,Ev]
   have h3:=cy.set HB.out.low Ev lr;have hF3:Fr (dK b v) w1 (w2.setCell ⟨b,0,none⟩ (.slice a2 ys.length c2)):=(py.out.step bq (fun j hj ho=>by
    rcases M9.out j (Or.inr ho)with h|h
    ·exact h
    ·omega)).setCell (p:=⟨b,0,none⟩) (fun _=>Or.inl rfl) _
   have ag4:∀j,dK b (.slice a2 ys.length c2) j->dK b v j\/w1.heap.size<=j:=by
    rintro j(hj|hj)
    ·exact Or.inl (Or.inl hj)
    ·exact M9.out j (Or.inr (by rw[<-JN];exact hj))
   have H3:=O (And.intro h3 (And.intro hF3 ag4));have d3:=h3.c0;have e3:=h3.free 0;clear h3 hF3 ag4 hd' lr Ev c0 e0 bq HB py M9 JN;by_cases Zx:32<ys.length
   ·have aoo:(32:Int)<(ys.length:Int):=by omega
    have mA:(0:Int)<(ys.length:Int)-32:=by omega
    obtain⟨n,hn⟩:∃n:Nat,ys.length=n+32:=⟨ys.length-32,by omega⟩;obtain⟨gg,rfl⟩:∃gg,a2=some ⟨gg,0,none⟩:=by
     rcases H3.out.1.rows.2.2 with ⟨hv,hq⟩|⟨g,cap,cur,hv,_⟩
     ·rw[List.length_map]at hq;omega
     ·injection hv with h1;exact⟨g,h1⟩
    have gG:=H3.out.1.rows;have nv:(ys.map bI.cells).length=ys.length:=List.length_map _;have ld:=Lv base gg c2 0 n (ys.map bI.cells) (w2.setCell ⟨b,0,none⟩ (.slice (some ⟨gg,0,none⟩) ys.length c2)) (by rw[nv];exact gG) (by omega) (by omega);rw[nv]at ld;have O7:=O ld;have HN:=O hn;clear ld hn gG nv;go_wp2_with fail
    rw[show((ys.length:Int)-32)=(n:Int)from by have:=HN.out;omega];clear d0 e2;generalize w2.setCell ⟨b,0,none⟩ (.slice (some ⟨gg,0,none⟩) ys.length c2)=w3 at *
    refine O7.out.mono ?_;rintro e w6⟨rfl,tI,jz⟩;have bG:∀j,one gg j->own (.slice (some ⟨gg,0,none⟩) ys.length c2) j:=fun j hj=>by have e:j=gg:=hj;rw[e];rfl
    have UO:=jz.keep H3.out.1.cR (fun h=>H3.out.1.nb (bG _ h));have d6:w6.cell? ⟨b,0,none⟩=some (.slice (some ⟨gg,0,none⟩) ys.length c2):=by simp[World.cell?,UO]
    have e6:w6.frozen? ⟨b,0,none⟩=false:=by simp[World.frozen?,UO]
    rw[List.take_zero,List.nil_append, <-List.map_drop,Nat.zero_add]at tI;rw[Nat.zero_add];have h7:=cy.set H3.out.1.low UO tI;have M5:Fr (dK b v) w1 (w6.setCell ⟨b,0,none⟩ (.slice (some ⟨gg,0,none⟩) (ys.length-n) c2)):=(H3.out.2.1.step jz (fun j hj ho=>by
     rcases H3.out.2.2 j (Or.inr (bG j ho))with h|h
     ·exact h
     ·omega)).setCell (p:=⟨b,0,none⟩) (fun _=>Or.inl rfl) _
    have UH:∀j,dK b (.slice (some ⟨gg,0,none⟩) (ys.length-n) c2) j->dK b v j\/w1.heap.size<=j:=by
     rintro j(hj|hj)
     ·exact Or.inl (Or.inl hj)
     ·exact H3.out.2.2 j (Or.inr hj)
    have H7:=O (And.intro h7 (And.intro M5 UH));clear h7 M5 UH tI jz UO O7 d3 e3;go_wp2;go_end0;refine⟨rfl,_,by rw[di.out,show ys.length-32=n from by have:=HN.out;omega];exact H7.out.1,Fr.step (gV.out.mono (fun _ _ h=>absurd h (fun h=>h))) H7.out.2.1 (fun _ _ h=>h),fun j hj=>?_⟩;rcases H7.out.2.2 j hj with h|h
    ·exact Or.inl h
    ·exact Or.inr (by omega)
   ·have aoo:¬(32:Int)<(ys.length:Int):=by omega
    have mA:¬(0:Int)<(ys.length:Int)-32:=by omega
    go_wp2;go_end0;refine⟨rfl,_,by rw[di.out,show ys.length-32=0 from by omega,List.drop_zero];exact H3.out.1,Fr.step (gV.out.mono (fun _ _ h=>absurd h (fun h=>h))) H3.out.2.1 (fun _ _ h=>h),fun j hj=>?_⟩;rcases H3.out.2.2 j hj with h|h
    ·exact Or.inl h
    ·exact Or.inr (by omega)
structure iI.Fit (x:iI):Prop where
 scheme:x.scheme.length<=100000
 token:x.token.length<=100000
 xc:x.params.length<=16
 tB:∀p∈x.params,p.1.length<=99999/\p.2.length<=99999
def gu(w:World)(v:Value)(ps:List ew):Prop:=aN 2 w v (ps.map jB)
def ED(w:World)(r:EB)(x:iI):Prop:=r.1=bA x.scheme/\r.2.1=bA x.token/\gu w r.2.2 x.params
def oF(w:World)(v:Value)(xs:List iI):Prop:=∃rs:List EB,aN 3 w v (rs.map vg)/\fF (ED w) rs xs
theorem Ph.rd{base:Nat}{w:World}{r:EB}{x:iI}(h:Ph base w r x):ED w r x:=⟨h.1,h.2.1,h.2.2.at⟩
theorem fP.at{base:Nat}{w:World}{v:Value}{xs:List iI}(h:fP base w v xs):oF w v xs:=by
 obtain⟨rs,h1,h2⟩:=h;exact⟨rs,h1.at,h2.mono (fun _ _ h=>h.rd)⟩
theorem ED.bu{w w':World}{r:EB}{x:iI}(h:ED w r x)(hf:Fr ay w w'):ED w' r x:=⟨h.1,h.2.1,aN.bu h.2.2 hf⟩
theorem oF.bu{w w':World}{v:Value}{xs:List iI}(h:oF w v xs)(hf:Fr ay w w'):oF w' v xs:=by
 obtain⟨rs,h1,h2⟩:=h;exact⟨rs,h1.bu hf,h2.mono (fun _ _ h=>h.bu hf)⟩
theorem oF.form{w:World}{v:Value}{xs:List iI}(h:oF w v xs):∃a c,v=.slice a xs.length c:=by
 obtain⟨rs,h1,h2⟩:=h;obtain⟨a,c,e⟩:=h1.form;exact⟨a,c,by rw[e,List.length_map,h2.len]⟩
theorem gu.form{w:World}{v:Value}{ps:List ew}(h:gu w v ps):∃a c,v=.slice a ps.length c:=by
 obtain⟨a,c,e⟩:=aN.form h;exact⟨a,c,by rw[e,List.length_map]⟩
theorem gu.cells{w:World}{a:Option Addr}{n c k:Nat}{ps:List ew}{p:ew}(h:gu w (.slice a n c) ps)(hk:ps[k]?=some p) :
  ∃bk o,a=some ⟨bk,o,none⟩/\n<=c/\c<=maxLen/\w.cell? ⟨bk,o+k*2,none⟩=some (.string (bA p.1))/\w.cell? ⟨bk,o+k*2+1,none⟩=some (.string (bA p.2)):=by
 have hl:=(List.getElem?_eq_some_iff.1 hk).1;rcases h.2 with ⟨_,_,_,e,_⟩|⟨bk,o,c',hf,h1,h2,h3,h4⟩
 ·have:ps.length=0:=by have:=congrArg List.length e;simpa using this
  omega
 ·cases hf;have hc:=h4 k (jB p) (by rw[List.getElem?_map,hk];rfl);exact⟨bk,o,rfl,h1,h2,hc 0 _ rfl,hc 1 _ rfl⟩
def aag(ps:List ew)(name:Bs):Value:=.tuple #[.string (bA ((eZ ps name).getD [])),.bool (eZ ps name).isSome]
theorem Pq{ps:List ew}{k:Nat}{p:ew}{n:Bs}(h:ps[k]?=some p)(hp:bf p.1 n=true)(hn:(ps.take k).any (fun q=>bf q.1 n)=false):eZ ps n=some p.2:=by
 unfold eZ;have:ps.find? (fun q=>bf q.1 n)=some p:=by
  induction ps generalizing k with
  |nil=>simp at h
  |cons a l ih =>
   cases k with
   |zero=>simp at h;subst h;simp[hp]
   |succ k =>
    simp only[List.take_succ_cons,List.any_cons,Bool.or_eq_false_iff]at hn;rw[List.find?_cons,hn.1];exact ih (by simpa using h) hn.2
 rw[this];rfl
theorem LD{ps:List ew}{n:Bs}(hn:ps.any (fun q=>bf q.1 n)=false):eZ ps n=none:=by
 unfold eZ;have:ps.find? (fun q=>bf q.1 n)=none:=by
  rw[List.find?_eq_none];intro q hq;rw[List.any_eq_false]at hn;exact hn q hq
 rw[this];rfl
def ahk(ps:List ew)(n:Bs)(w:World)(t:Value)(wr:World):Prop:=∃k:Nat,k<=ps.length/\t=.int .i64 k/\(ps.take k).any (fun q=>bf q.1 n)=false/\Fr ay w wr
def JP(ps:List ew):Prop:=ps.length<=1000000/\∀p∈ps,p.1.length<17592186044416/\p.2.length<17592186044416
theorem U2(sc tok:ByteArray)(pv:Value)(ps:List ew)(name:ByteArray)(w:World)(h:gu w pv ps)(hz:JP ps)(hn:name.size<17592186044416) :
  Calls Tryz.prog 48 #[.agg #[.string sc,.string tok,pv],.string name] w fun e w'=>e=.returned (aag ps name.data.toList)/\Fr ay w w':=by
 obtain⟨av,cv,hv⟩:=h.form;subst hv;obtain⟨w1,jt⟩:∃w1,w1=w.alloc (.cells #[.string sc,.string tok,.slice av ps.length cv] 88):=⟨_,rfl⟩;have bt:Fr ay w w1:=by rw[jt];exact(Fr.refl _ _).alloc _
 have Ee:gu w1 (.slice av ps.length cv) ps:=aN.bu h bt;have D3:=O jt;have HZ:=O hz;have FP:=hz.1;clear jt h hz;go_enter Tryz.func48,Tryz.ntmps48;go_wp2_with fail
 rw[<-D3.out];go_loopw[11] (ahk ps name.data.toList w1) (fun t _=>ps.length-(intOf t).toNat)
 case atStart=>exact⟨0,Nat.zero_le _,rfl,rfl,Fr.refl _ _⟩
 case round =>
  obtain⟨k,hk,rfl,UA,aW⟩:=hrel;have HN:=O UA;clear UA;by_cases cG:k<ps.length
  ·have lf:(k:Int)<(ps.length:Int):=by omega
   have bC:=O (List.getElem?_eq_getElem cG);have KK:=O (HZ.out.2 _ (List.getElem_mem cG));generalize ps[k]=q at bC KK;obtain⟨nm,vl⟩:=q;obtain⟨bk,of,rfl,h1,h2,c0,c1⟩:=gu.cells (aN.bu Ee aW) bC.out;unfold maxLen at h2;simp only at c0 c1;obtain⟨wb,eQ⟩:∃wb,wb=wr.alloc (.cells #[.string (bA nm),.string (bA vl)] 126):=⟨_,rfl⟩;have fa:Fr ay wr wb:=by rw[eQ];exact(Fr.refl ay wr).alloc _
   have ry:wb.heap[wr.heap.size]?=some (.cells #[.string (bA nm),.string (bA vl)] 126 (0,0)):=by rw[eQ];exact af _ _
   have lq:=O eQ;clear eQ;go_wp2_with fail
   rw[<-lq.out];refine(gX (bA nm) name wb (by have h:=KK.out.1;exact h) hn).mono ?_;rintro e w8⟨rfl,mO⟩;rw[cN];have KI:=O ((aW.trans fa).trans mO);cases kz:bf nm name.data.toList
   ·have kT:=O (pR bC.out HN.out kz);go_wp2;go_roundw
    case rel=>exact⟨k+1,by omega,by go_num,kT.out,KI.out⟩
    case measure=>simp[intOf];omega
   ·have HE:=O (Pq bC.out kz HN.out);have hb8:=mO.keep ry (fun h=>h);have c1:w8.cell? ⟨wr.heap.size,1,none⟩=some (.string (bA vl)):=by simp[World.cell?,hb8]
    go_wp2;go_ret2;refine⟨?_,bt.trans KI.out⟩;unfold aag;rw[HE.out];rfl
  ·have lf:¬(k:Int)<(ps.length:Int):=by omega
   have HE:=O (show eZ ps name.data.toList=none from LD (by have h:=HN.out;rw[List.take_of_length_le (by omega)]at h;exact h));go_wp2;go_ret2;refine⟨?_,bt.trans aW⟩;unfold aag;rw[HE.out];rfl
theorem oF.cells{w:World}{a:Option Addr}{n c k:Nat}{xs:List iI}{x:iI}(h:oF w (.slice a n c) xs)(hk:xs[k]?=some x) :
  ∃bk o pv,a=some ⟨bk,o,none⟩/\n<=c/\c<=maxLen/\w.cell? ⟨bk,o+k*3,none⟩=some (.string (bA x.scheme))/\w.cell? ⟨bk,o+k*3+1,none⟩=some (.string (bA x.token))/\w.cell? ⟨bk,o+k*3+2,none⟩=some pv/\gu w pv x.params:=by
 obtain⟨rs,hr,hb⟩:=h;have hl:=(List.getElem?_eq_some_iff.1 hk).1;have qW:=hb.len;obtain⟨r,sg⟩:∃r,rs[k]?=some r:=⟨_,List.getElem?_eq_getElem (by omega)⟩;obtain⟨x',hx',e1,e2,e3⟩:=hb.get sg;rw[hk]at hx';cases hx';rcases hr.2 with ⟨_,_,_,e,_⟩|⟨bk,o,c',hf,h1,h2,h3,h4⟩
 ·have:rs.length=0:=by have:=congrArg List.length e;simpa using this
  omega
 ·cases hf;have hc:=h4 k (vg r) (by rw[List.getElem?_map,sg];rfl);exact⟨bk,o,r.2.2,rfl,h1,h2,by rw[<-e1];exact hc 0 _ rfl,by rw[<-e2];exact hc 1 _ rfl,hc 2 _ rfl,e3⟩
open Go.ChangeShapes Go.WideShapes Go.ChangeAt Go.RowKit Go.Deep
variable {H : Type} {enc : TypeId × Value → H} {W : World}
structure Qn (w:World) (r:dp Value) (hs:List dW):Prop where
 cU:kU w r.cU hs
 xc:hs.length<=140737488355328
 small:∀p∈hs,p.1.size<=140737488351232/\p.2.size<=140737488351232
 sized:r.Ft
 body:r.body.size<=140737488351232
 part:(Lit.int .i64 r.part).wf=true
 Pu:(Lit.int .i64 r.aI.port).wf=true
 Pv:(Lit.int .i64 r.o.port).wf=true
theorem Qo{fuel:Nat}{cs:List Value}{x:DataW H×List MemPlace}(h:DataW.trod enc Tryz.prog W 0 (fun _=>true) true fuel 29 cs=some x) :
  ∃b:dp Value×List dW,(cs=b.1.cells/\kU W b.1.cU b.2/\(Lit.int .i64 b.1.part).wf=true/\(Lit.int .i64 b.1.aI.port).wf=true/\(Lit.int .i64 b.1.o.port).wf=true)/\cs.length=13/\(∀u∈cs,u.oneCell'=true) /\
   (kf Tryz.prog 29 x.1->Qn W b.1 b.2):=by
 obtain⟨hl,n,hf⟩:=ky Tryz.underlying29 h;rw[Bk]at hl;obtain⟨c0,c1,c2,c3,c4,c5,c6,c7,c8,c9,FT,Xl,c12,rfl⟩:=aiW hl;obtain⟨y0,h0,l0⟩:=hf 0 3 0 _ rfl nS;obtain⟨y1,h1,l1⟩:=hf 1 24 1 _ rfl vy;obtain⟨y2,h2,l2⟩:=hf 2 26 4 _ rfl Bj;obtain⟨y3,h3,l3⟩:=hf 3 9 9 _ rfl dT;obtain⟨y4,h4,l4⟩:=hf 4 27 10 _ rfl Hz;obtain⟨y5,h5,l5⟩:=hf 5 4 11 _ rfl oL;obtain⟨y6,h6,l6⟩:=hf 6 9 12 _ rfl dT
 simp only[List.drop,List.take]at h0 h1 h2 h3 h4 h5 h6;obtain⟨b0,e0,w0⟩:=ig Tryz.underlying3 h0;obtain⟨o,e1,w1,s1⟩:=Fu h1;obtain⟨o2,pa,qu,e2,w2,s2⟩:=Qm h2;obtain⟨b3,e3,w3⟩:=b_ Tryz.underlying9 h3;obtain⟨v4,ps,e4,hr,hs⟩:=Cx h4;obtain⟨b5,e5⟩:=i_ Tryz.underlying4 h5;obtain⟨b6,e6,w6⟩:=b_ Tryz.underlying9 h6;unfold cO.cells at e1 e2
 simp only[List.cons_append,List.nil_append,List.cons.injEq,and_true]at e0 e1 e2 e3 e4 e5 e6;obtain⟨rfl,rfl,rfl⟩:=e1;obtain⟨rfl,rfl,rfl,rfl,rfl⟩:=e2;subst e0 e3 e4 e5 e6;refine⟨(⟨b0,o,o2,pa,qu,b3,FT,b5,b6⟩,ps),⟨rfl,hr,w0,w1,w2⟩,rfl,?_,fun hL=>?_⟩
 ·intro u hu;obtain⟨a,c,ev⟩:=hr.form;simp only[List.mem_cons,List.not_mem_nil,or_false]at hu;rcases hu with rfl|rfl|rfl|rfl|rfl|rfl|rfl|rfl|rfl|rfl|rfl|rfl|rfl<;>first|rfl|(rw[ev];rfl)
 ·have hk:reachBytes=140737488351232:=rfl;obtain⟨g1,g2⟩:=hs (l4 hL);have q2:=s2 (l2 hL);have q1:=s1 (l1 hL);exact⟨hr,by show ps.length<=_;omega,g2,⟨w3 (l3 hL),q2.2.1,q2.2.2,q2.1,q1⟩,w6 (l6 hL),w0,w1,w2⟩
end Go.Proofs.YtjdmjbdkdmbaiaaGreatDoor
