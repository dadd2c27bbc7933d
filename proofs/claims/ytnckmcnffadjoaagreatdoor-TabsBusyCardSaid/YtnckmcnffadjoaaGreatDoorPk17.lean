/- Lemmas for the law's walk. -/
import Derived.Test.YtnckmcnffadjoaaGreatDoorPk16
set_option maxRecDepth 100000
set_option maxHeartbeats 16000000
set_option linter.unusedSimpArgs false
namespace Go.Proofs.YtnckmcnffadjoaaGreatDoor
open Go.Proofs.Tryz
open Go.RowKit
variable {k n base c:Nat} {w w':World} {r:Bs} {v:Value} {ps:List jy} {a:Option Addr} {p:jy}
theorem Bp:(prog.info? 155).map (fun i=>(i.zero,i.size,i.bytes))=some (some (.agg FJ),12,144):=af
theorem RS{base:Nat}{w2 w4:World}{b:Nat}{v0 v:Value}{fs:List ef}{p:ef}{gg cap:Nat}(hl:base<=b)(hb:w2.heap[b]?=some (.cells #[v0] 92 (0,0)))(U2:¬own v b)(kK:Fr (own v) w2 w4)
  (eY:w4.ownsRow base 155 12 (.slice (some ⟨gg,0,none⟩) (fs.length+1) cap) (fs.length+1) ((fs.map ef.cells).flatten++p.cells)) :
  eO base (w4.setCell ⟨b,0,none⟩ (.slice (some ⟨gg,0,none⟩) (fs.length+1) cap)) b (.slice (some ⟨gg,0,none⟩) (fs.length+1) cap) (fs++[p]):=by
 refine oX hl (kK.keep hb U2) ⟨?_,?_⟩
 ·intro x hx;obtain⟨q,_,rfl⟩:=bV.1 hx;exact⟨rfl,q.uk⟩
 ·rw[bH,ed,aM,ai];simpa using eY
def aiI(base:Nat)(w1:World)(b:Nat)(v:Value)(ps ls:List ef)(t:Value)(wr:World):Prop :=
 ∃k vk,k<=ls.length/\t=.int .i64 k/\eO base wr b vk ((ls.take k).foldl Fy ps)/\Fr (iA b v) w1 wr/\∀j,iA b vk j->iA b v j\/w1.heap.size<=j
theorem RT{ps ls:List ef}{p:ef}(h:ls[k]?=some p):(ls.take (k+1)).foldl Fy ps=((ls.take k).foldl Fy ps).filter (fun q=>!p.like q)++[p]:=by
 rw[dW h,List.foldl_append];rfl
theorem rk(ps:List ef)(f:ef->Bool):(ps.map ef.cells).filter (fun x=>!f (IZ x))=(ps.filter (fun q=>!f q)).map ef.cells:=by
 rw[List.filter_map];rfl
theorem RU{S:Nat->Prop}{U w3:World}{x:List Value}{t:TypeId}(hU:U.heap[n]?=some (.cells x.toArray t (0,0)))(hf:Fr S U w3)(hn:¬S n):∀j u,x[j]?=some u->w3.cell? ((⟨n,0,none⟩:Addr).add j)=some u:=by
 intro j u hj;have h:=hf.keep hU hn;have e:(Addr.add ⟨n,0,none⟩ j)=⟨n,j,none⟩:=by unfold Addr.add;split<;>simp_all
 rw[e];simp only[World.cell?,h];simpa using hj
theorem LB(base:Nat)(w:World)(b:Nat)(v:Value)(ps:List ef)(lv:Value)(ls:List ef)(now:Int)(h:eO base w b v ps)(hl:qQ w lv ls)(rW:ls≠ []->∀k,lv.ownBlock=some k->¬iA b v k)(hlen:ps.length+ls.length<1000000) :
  Calls prog 67 #[.pointer (some ⟨b,0,none⟩),lv,.int .i64 now] w fun e w'=>e=.returned (.tuple #[])/\Eo base w b v (uH ps ls now) w':=by
 obtain⟨al,cl,hlf⟩:=dQ hl;rw[ai]at hlf;subst hlf;obtain⟨w1,oB⟩:∃w1,w1=w.alloc (.cells #[.int .i64 now] 3):=⟨_,rfl⟩;have df:Fr aR w w1:=by rw[oB];exact(ae _ _).alloc _
 have AO:w1.heap[w.heap.size]?=some (.cells #[.int .i64 now] 3 (0,0)):=by rw[oB];exact aB _ _
 have Cp:w.heap.size<w1.heap.size:=bj AO;have h1:=h.dh df;have hl1:qQ w1 (.slice al ls.length cl) ls:=bg hl df;have HLT:=O (show∀k,iA b v k->k<w.heap.size from fun k hk=>h.jh hk);have IG:=O oB;have k_:=O df;have Er:=O AO;clear hl oB df AO h;go_enter func67,ntmps67;go_wp2_with fail
 rw[<-IG.o];go_loopw[11] (aiI base w1 b v ps ls) (fun t _=>ls.length-(intOf t).toNat)
 case atStart=>exact⟨0,v,aI _,rfl,h1,ae _ _,fun _ h=>Or.inl h⟩
 case round =>
  obtain⟨k,vk,hk,rfl,hb,cK,Fl⟩:=hrel;have lp:=hb.low;have Fg:=KC (ls.take k) ps;rw[aJ]at Fg;by_cases eX:k<ls.length
  ·have py:(k:Int)<(ls.length:Int):=ab;have dN:=O (List.getElem?_eq_getElem eX);generalize ls[k]=p at dN;have lH:=O (RT (ps:=ps) dN.o);generalize (ls.take k).foldl Fy ps=fs at hb Fg lH;have lZ:dV 12 wr (.slice al ls.length cl) (ls.map ef.cells):=dV.fr hl1 cK (rW (fun e=>by rw[e]at dN;have:=dN.o;simp at this));rcases lZ.2 with ⟨_,_,_,e,_⟩|⟨bk,of,c,hf,g1,g2,g3,g4⟩
   ·have:ls.length=0:=by have:=ar List.length e;simpa using this
    omega
   rw[ai]at hf g1;cases hf;unfold maxLen at g2;obtain⟨x,hx⟩:∃x,x=p.cells:=⟨_,rfl⟩;have lF:x.length=12:=by rw[hx];rfl
   have dY:∀u∈x,u.oneCell'=true:=by rw[hx];exact p.uk
   have hcell:=g4 k x (by rw[List.getElem?_map,dN.o,hx];rfl);have jq:=fun W=>run_storeCells_new (P:=prog) W 155 FJ x (by rw[lF];rfl) dY;have D8:(prog.info? 155).map (·.size)=some x.length:=Bo lF;clear g4 lZ;have HX:=O hx;have IP:=O D8;clear hx D8;go_wp2_with (first|((with_reducible refine cY 14 ?_);refine aU rfl 155 (.tmp 13) rfl bk (of+k*12) rfl x _ hcell underlying155 rfl IP.o ?_)|fail)
   have dy:Fr aR wr (wr.alloc (.cells x.toArray 155)):=(ae _ _).alloc _;have Dq:(wr.alloc (.cells x.toArray 155)).heap[wr.heap.size]?=some (.cells x.toArray 155 (0,0)):=aB _ _;have js:=cK.alloc (.cells x.toArray 155);have kC:=hb.dh dy;have Yk:¬own vk wr.heap.size:=fun hk=>by have:=hb.Ep hk;omega
   have j_:b<wr.heap.size:=hb.lt;have Y0:=O (show wr.heap.size<(wr.alloc (.cells x.toArray 155)).heap.size from bj Dq);clear jq hcell dy;generalize wr.alloc (.cells x.toArray 155)=W2 at *
   obtain⟨ak,ck,TQ⟩:=kC.form;subst TQ;obtain⟨LC,ZZ⟩:∃LC,LC=fs.filter (fun q=>!p.like q):=⟨_,rfl⟩;have zU:LC.length<=fs.length:=by rw[ZZ];exact bQ _ _
   rw[<-ZZ]at lH
   have HK:=O (show∀U,Fr (iA b (.slice ak fs.length ck)) W2 U->(U.cell? ⟨wr.heap.size,0,none⟩=some (.bool p.dm.aF)/\U.cell? ⟨wr.heap.size,1,none⟩=some (.string p.dm.host)/\U.cell? ⟨wr.heap.size,2,none⟩=some (.int .i64 p.dm.port)/\U.cell? ⟨wr.heap.size,3,none⟩=some (.bool p.o.aF)/\U.cell? ⟨wr.heap.size,4,none⟩=some (.string p.o.host)/\U.cell? ⟨wr.heap.size,5,none⟩=some (.int .i64 p.o.port)/\U.cell? ⟨wr.heap.size,6,none⟩=some (.string p.path)/\U.cell? ⟨wr.heap.size,7,none⟩=some (.string p.query)/\U.cell? ⟨wr.heap.size,8,none⟩=some (.bool p.fU)/\U.cell? ⟨wr.heap.size,9,none⟩=some (.string p.method)/\U.cell? ⟨wr.heap.size,10,none⟩=some (.string p.head)/\U.cell? ⟨wr.heap.size,11,none⟩=some (.int .i64 p.pX))from fun U hU=>by
    have j2:=hU.keep Dq (fun h=>by
     rcases h with h|h
     ·omega
     ·exact Yk h)
    rw[HX.o]at j2;have hc:∀i u,p.cells[i]?=some u->U.cell? ⟨wr.heap.size,i,none⟩=some u:=fun i u hu=>by simp only[World.cell?,j2];simpa using hu
    exact⟨hc 0 _ rfl,hc 1 _ rfl,hc 2 _ rfl,hc 3 _ rfl,hc 4 _ rfl,hc 5 _ rfl,hc 6 _ rfl,hc 7 _ rfl,hc 8 _ rfl,hc 9 _ rfl,hc 10 _ rfl,hc 11 _ rfl⟩)
   have HBC:=O (show∀U,Fr (own (.slice ak fs.length ck)) W2 U->U.cell? ⟨b,0,none⟩=some (.slice ak fs.length ck)from fun U hU=>by
    have j1:=hU.keep kC.eI kC.nb;simp[World.cell?,j1])
   have JQ:(⟨b,0,none⟩:Addr).block<W2.heap.size->iA b (.slice ak fs.length ck) (⟨b,0,none⟩:Addr).block:=fun _=>Or.inl rfl;have d0:=HBC.o W2 (ae _ _);have dA:∀o:Obj,(W2.alloc o).cell? ⟨b,0,none⟩=some (.slice ak fs.length ck):=fun o=>HBC.o _ ((ae _ _).alloc o);have aiK:=O (show∀U,Fr (own (.slice ak fs.length ck)) W2 U->U.frozen? ⟨b,0,none⟩=false from fun U hU=>by
    have j1:=hU.keep kC.eI kC.nb;simp[World.frozen?,j1])
   have fA:=O (show∀U,Fr aR W2 U->Calls prog 135 #[.slice ak fs.length ck,.func (.func 137) #[] #[.pointer (some ⟨wr.heap.size,0,none⟩)]] U fun e w'=>∃a c,e=.returned (.slice a LC.length c)/\OwnRows base 155 12 w' (.slice a LC.length c) (LC.map ef.cells)/\Fr (own (.slice ak fs.length ck)) U w'/\own (.slice a LC.length c)=own (.slice ak fs.length ck)from fun U hU=>by
    have hd:=p9 base 137 #[.pointer (some ⟨wr.heap.size,0,none⟩)] (fun y=>p.like (IZ y)) (.slice ak fs.length ck) (fs.map ef.cells) U call137 (fun y hy u hu=>by
     obtain⟨q,_,rfl⟩:=bV.1 hy;have hpu:=hu.keep (hU.keep Dq id) Yk;rw[HX.o]at hpu;exact VG p q wr.heap.size u hpu) (kC.rows.fr hU (fun _ _ h=>h))
    rw[rk,ai, <-ZZ]at hd;exact hd)
   clear ZZ;obtain⟨i0,qD,pq,kZ,lq⟩:=info_parts Bp;have hnW:¬own (.slice ak fs.length ck) W2.heap.size:=fun hk=>by have:=kC.Ep hk;omega
   have aor:base<=W2.heap.size:=by have:=Y0.o;omega
   have P0:=HK.o W2 (ae _ _);obtain⟨x0,x1,x2,x3,x4,x5,x6,x7,x8,x9,ZN,ZO⟩:=P0;go_region_law (first
     |((with_reducible refine mR ⟨some 21,_,_,_,_,_⟩ ?_)
       refine Ba rfl 135 _ (by go_simp) (fA.o _ (by repeat(first|exact ae _ _|apply aA|apply bz))) ?_
       intro e w3 qJ
       obtain⟨a3,c3,rfl,fo,iv,JU⟩:=qJ
       refine⟨_,rfl,?_⟩
       have ic:Fr (own (.slice ak fs.length ck)) W2 w3:=fX (S:=own (.slice ak fs.length ck)) (by repeat(first|exact ae _ _|apply aA|apply bz)) iv (fun _ _ h=>h)
       have aiL:Fr (iA b (.slice ak fs.length ck)) W2 w3:=ic.mono (fun _ _ h=>Or.inr h)
       have VI:w3.ownsRow base 155 12 (.slice a3 LC.length c3) LC.length (LC.map ef.cells).flatten:=by
         have h:=fo.2
         rw[ai]at h
         exact h
       have IA:=HK.o w3 aiL
       have tK:base<=w3.heap.size:=by have:=ic.size;omega)
     |((with_reducible refine mR ⟨some 24,_,_,_,_,_⟩ ?_)
       (first
         |refine step_append_lies _ bC _ _ _ bC base 155 i0 _ 12 144 underlying90 qD pq kZ lq rfl ab (.slice a3 LC.length c3) LC.length _ bC (by repeat(first|exact VI|apply World.ownsRow.alloc|apply World.ownsRow.drew)) ⟨w3.heap.size,0,none⟩ 1 1 p.cells bC bC (kQ w3 p.cells _) p.uk ab fq ab bG (w3.heap.size+1) aQ ?_
         |refine step_append_lies _ bC _ _ _ bC base 155 i0 _ 12 144 underlying90 qD pq kZ lq rfl ab (.slice a3 LC.length c3) LC.length _ bC (by repeat(first|exact VI|apply World.ownsRow.alloc|apply World.ownsRow.drew)) ⟨W2.heap.size,0,none⟩ 1 1 p.cells bC bC (RU (by exact aB _ _) iv hnW) p.uk ab fq ab ab (w3.heap.size) aQ ?_)
       intro gg cap w4 eY jC dN Ls
       have jV:Fr (own (.slice ak fs.length ck)) W2 w4:=fk (by repeat(first|exact ic|apply aA|apply bz)) jC (fun k hk _=>by rw[<-JU];exact hk)
       have aiM:Fr (iA b (.slice ak fs.length ck)) W2 w4:=jV.mono (fun _ _ h=>Or.inr h)
       have k4:=HBC.o w4 jV
       have e4:=aiK.o w4 jV))
   all_goals
    have h5:=RS (v:=.slice ak fs.length ck) lp kC.eI kC.nb jV eY;rw[<-lH.o]at h5;have sy:Fr (iA b v) w1 (w4.setCell ⟨b,0,none⟩ (.slice (some ⟨gg,0,none⟩) (LC.length+1) cap)):=js.step (aiM.setCell (p:=⟨b,0,none⟩) JQ _) (fun j hj hb=>by
     rcases Fl j hb with h|h
     ·exact h
     ·omega)
    have Ug:w1.heap.size<=w3.heap.size:=by have h1:=js.size;have h2:=ic.size;omega
    have RJ:∀j,iA b (.slice (some ⟨gg,0,none⟩) (LC.length+1) cap) j->iA b v j\/w1.heap.size<=j:=by
     rintro j(hj|hj)
     ·exact Or.inl (Or.inl hj)
     ·have e:gg=j:=by simpa[own,Value.ownBlock]using hj
      subst e;rcases dN with dN|dN
      ·exact Fl gg (Or.inr (by rw[<-JU];exact dN))
      ·exact Or.inr ab
    have H5:=O (And.intro h5 (And.intro sy RJ));clear fA HK HBC aiK eY jC jV aiM ic aiL VI k4 e4 IA x0 x1 x2 x3 x4 x5 x6 x7 x8 x9 ZN ZO d0 dA JQ h5 sy RJ dN JU fo iv;generalize w4.setCell ⟨b,0,none⟩ (.slice (some ⟨gg,0,none⟩) (LC.length+1) cap)=w5 at *
    go_wp2;go_roundw
    case rel=>exact⟨k+1,_,ab,a_,H5.o.1,H5.o.2.1,H5.o.2.2⟩
    case measure=>simp[intOf];omega
  ·have py:¬(k:Int)<(ls.length:Int):=ab;have Q3:ls.take k=ls:=aC ab;rw[Q3]at hb Fg;obtain⟨fs,kJ⟩:∃fs,fs=ls.foldl Fy ps:=⟨_,rfl⟩;rw[<-kJ]at hb Fg;have RI:¬own vk w.heap.size:=fun hk=>by
    rcases Fl _ (Or.inr hk)with h|h
    ·have:=HLT.o _ h;omega
    ·omega
   have aos:=cK.keep Er.o (fun hk=>by have:=HLT.o _ hk;omega);have hd:=p9 base 139 #[.pointer (some ⟨w.heap.size,0,none⟩)] (fun y=>!(IZ y).alive now) vk (fs.map ef.cells) wr call139 (fun y hy u hu=>by
    obtain⟨q,_,rfl⟩:=bV.1 hy;exact VH q now w.heap.size u (hu.keep aos RI)) hb.rows
   rw[rk fs (fun q=>!q.alive now),ai]at hd;obtain⟨ys,KI⟩:∃ys,ys=fs.filter (fun q=>!!q.alive now):=⟨_,rfl⟩;rw[<-KI]at hd;have hyl:ys.length<=fs.length:=by rw[KI];exact bQ _ _
   have gJ:=O (show uH ps ls now=ys.drop (ys.length-32)by
    rw[KI,kJ];unfold uH;simp only[Bool.not_not])
   obtain⟨ak,ck,TQ⟩:=hb.form;have hb':=hb;subst TQ;have tV:=O hd;have c0:=hb.c0;have e0:=hb.free 0;have HB:=O hb;have sx:=O cK;have TS:=O Fl;have avm:b<w1.heap.size:=Nat.lt_trans (HLT.o b (Or.inl rfl)) Cp;clear hd KI kJ hb hb' cK Fl;go_wp2_with fail
   refine tV.o.mono ?_;rintro e w2⟨a2,c2,rfl,q_,dy,JU⟩;have LD:=dy.keep HB.o.eI HB.o.nb;have d0:w2.cell? ⟨b,0,none⟩=some (.slice ak fs.length ck):=by simp[World.cell?,LD]
   have e2:w2.frozen? ⟨b,0,none⟩=false:=by simp[World.frozen?,LD]
   have h3:=oX HB.o.low LD q_;have Fm:Fr (iA b v) w1 (w2.setCell ⟨b,0,none⟩ (.slice a2 ys.length c2)):=(sx.o.step dy (fun j hj ho=>by
    rcases TS.o j (Or.inr ho)with h|h
    ·exact h
    ·omega)).setCell (p:=⟨b,0,none⟩) (fun _=>Or.inl rfl) _
   have aiN:∀j,iA b (.slice a2 ys.length c2) j->iA b v j\/w1.heap.size<=j:=by
    rintro j(hj|hj)
    ·exact Or.inl (Or.inl hj)
    ·exact TS.o j (Or.inr (by rw[<-JU];exact hj))
   have H3:=O (And.intro h3 (And.intro Fm aiN));have d3:=h3.c0;have e3:=h3.free 0;clear h3 Fm aiN tV q_ LD c0 e0 dy HB sx TS JU;by_cases h32:32<ys.length
   ·have aot:(32:Int)<(ys.length:Int):=ab;have qh:(0:Int)<(ys.length:Int)-32:=ab;obtain⟨n,hn⟩:∃n:Nat,ys.length=n+32:=⟨ys.length-32,ab⟩;obtain⟨gg,rfl⟩:∃gg,a2=some ⟨gg,0,none⟩:=by
     rcases H3.o.1.rows.2.2 with ⟨hv,hq⟩|⟨g,cap,cur,hv,_⟩
     ·rw[ai]at hq;omega
     ·injection hv with h1;exact⟨g,h1⟩
    have lZ:=H3.o.1.rows;have sZ:(ys.map ef.cells).length=ys.length:=ai _;have qJ:=RR base gg c2 0 n (ys.map ef.cells) (w2.setCell ⟨b,0,none⟩ (.slice (some ⟨gg,0,none⟩) ys.length c2)) (by rw[sZ];exact lZ) ab ab;rw[sZ]at qJ;have VJ:=O qJ;have HN:=O hn;clear qJ hn lZ sZ;go_wp2_with fail
    rw[show((ys.length:Int)-32)=(n:Int)from by have:=HN.o;omega];clear d0 e2;generalize w2.setCell ⟨b,0,none⟩ (.slice (some ⟨gg,0,none⟩) ys.length c2)=w3 at *
    refine VJ.o.mono ?_;rintro e w6⟨rfl,zF,nF⟩;have dY:∀j,one gg j->own (.slice (some ⟨gg,0,none⟩) ys.length c2) j:=fun j hj=>by have e:j=gg:=hj;rw[e];rfl
    have Z0:=nF.keep H3.o.1.eI (fun h=>H3.o.1.nb (dY _ h));have d6:w6.cell? ⟨b,0,none⟩=some (.slice (some ⟨gg,0,none⟩) ys.length c2):=by simp[World.cell?,Z0]
    have e6:w6.frozen? ⟨b,0,none⟩=false:=by simp[World.frozen?,Z0]
    rw[List.take_zero,List.nil_append, <-List.map_drop,bw]at zF;rw[bw];have h7:=oX H3.o.1.low Z0 zF;have TK:Fr (iA b v) w1 (w6.setCell ⟨b,0,none⟩ (.slice (some ⟨gg,0,none⟩) (ys.length-n) c2)):=(H3.o.2.1.step nF (fun j hj ho=>by
     rcases H3.o.2.2 j (Or.inr (dY j ho))with h|h
     ·exact h
     ·omega)).setCell (p:=⟨b,0,none⟩) (fun _=>Or.inl rfl) _
    have ZR:∀j,iA b (.slice (some ⟨gg,0,none⟩) (ys.length-n) c2) j->iA b v j\/w1.heap.size<=j:=by
     rintro j(hj|hj)
     ·exact Or.inl (Or.inl hj)
     ·exact H3.o.2.2 j (Or.inr hj)
    have H7:=O (And.intro h7 (And.intro TK ZR));clear h7 TK ZR zF nF Z0 VJ d3 e3;go_wp2;go_end0;refine⟨rfl,_,by rw[gJ.o,show ys.length-32=n from by have:=HN.o;omega];exact H7.o.1,fX (k_.o.mono (fun _ _ h=>absurd h id)) H7.o.2.1 (fun _ _ h=>h),fun j hj=>?_⟩;rcases H7.o.2.2 j hj with h|h
    ·exact Or.inl h
    ·exact Or.inr ab
   ·have aot:¬(32:Int)<(ys.length:Int):=ab;have qh:¬(0:Int)<(ys.length:Int)-32:=ab;go_wp2;go_end0;refine⟨rfl,_,by rw[gJ.o,show ys.length-32=0 from ab,eD];exact H3.o.1,fX (k_.o.mono (fun _ _ h=>absurd h id)) H3.o.2.1 (fun _ _ h=>h),fun j hj=>?_⟩;rcases H3.o.2.2 j hj with h|h
    ·exact Or.inl h
    ·exact Or.inr ab
structure nu.Fit (x:nu):Prop where
 scheme:x.scheme.length<=100000
 token:x.token.length<=100000
 tG:x.params.length<=16
 zz:∀p∈x.params,p.1.length<=99999/\p.2.length<=99999
def lQ(w:World)(v:Value)(ps:List jy):Prop:=dV 2 w v (ps.map oy)
def LM(w:World)(r:LK)(x:nu):Prop:=r.1=bA x.scheme/\r.2.1=bA x.token/\lQ w r.2.2 x.params
def uU(w:World)(v:Value)(xs:List nu):Prop:=∃rs:List LK,dV 3 w v (rs.map Bq)/\lg (LM w) rs xs
theorem VO.rd{r:LK}{x:nu}(h:VO base w r x):LM w r x:=⟨h.1,h.2.1,h.2.2.at⟩
theorem lr.at{xs:List nu}(h:lr base w v xs):uU w v xs:=by
 obtain⟨rs,h1,h2⟩:=h;exact⟨rs,h1.at,h2.mono (fun _ _ h=>h.rd)⟩
theorem LM.fH{r:LK}{x:nu}(h:LM w r x)(hf:Fr aR w w'):LM w' r x:=⟨h.1,h.2.1,bg h.2.2 hf⟩
theorem uU.fH{xs:List nu}(h:uU w v xs)(hf:Fr aR w w'):uU w' v xs:=by
 obtain⟨rs,h1,h2⟩:=h;exact⟨rs,h1.fH hf,h2.mono (fun _ _ h=>h.fH hf)⟩
theorem uU.form{xs:List nu}(h:uU w v xs):∃a c,v=.slice a xs.length c:=by
 obtain⟨rs,h1,h2⟩:=h;obtain⟨a,c,e⟩:=h1.form;exact⟨a,c,by rw[e,ai,h2.len]⟩
theorem lQ.form(h:lQ w v ps):∃a c,v=.slice a ps.length c:=by
 obtain⟨a,c,e⟩:=dQ h;exact⟨a,c,by rw[e,ai]⟩
theorem lQ.cells(h:lQ w (.slice a n c) ps)(hk:ps[k]?=some p) :
  ∃bk o,a=some ⟨bk,o,none⟩/\n<=c/\c<=maxLen/\w.cell? ⟨bk,o+k*2,none⟩=some (.string (bA p.1))/\w.cell? ⟨bk,o+k*2+1,none⟩=some (.string (bA p.2)):=by
 have hl:=(List.getElem?_eq_some_iff.1 hk).1;rcases h.2 with ⟨_,_,_,e,_⟩|⟨bk,o,c',hf,h1,h2,h3,h4⟩
 ·have:ps.length=0:=by have:=ar List.length e;simpa using this
  omega
 ·cases hf;have hc:=h4 k (oy p) (by rw[List.getElem?_map,hk];rfl);exact⟨bk,o,rfl,h1,h2,hc 0 _ rfl,hc 1 _ rfl⟩
def aey(ps:List jy)(name:Bs):Value:=.tuple #[.string (bA ((kr ps name).getD [])),.bool (kr ps name).isSome]
theorem VU{n:Bs}(h:ps[k]?=some p)(hp:dG p.1 n=true)(hn:(ps.take k).any (fun q=>dG q.1 n)=false):kr ps n=some p.2:=by
 unfold kr;have:ps.find? (fun q=>dG q.1 n)=some p:=by
  induction ps generalizing k with
  |nil=>simp at h
  |cons a l ih =>
   cases k with
   |zero=>simp at h;subst h;simp[hp]
   |succ k =>
    simp only[List.take_succ_cons,List.any_cons,eJ]at hn;rw[List.find?_cons,hn.1];exact ih (by simpa using h) hn.2
 rw[this];rfl
theorem RY{n:Bs}(hn:ps.any (fun q=>dG q.1 n)=false):kr ps n=none:=by
 unfold kr;have:ps.find? (fun q=>dG q.1 n)=none:=by
  rw[List.find?_eq_none];intro q hq;rw[eW]at hn;exact hn q hq
 rw[this];rfl
def ai3(ps:List jy)(n:Bs)(w:World)(t:Value)(wr:World):Prop:=∃k:Nat,k<=ps.length/\t=.int .i64 k/\(ps.take k).any (fun q=>dG q.1 n)=false/\Fr aR w wr
def Qs(ps:List jy):Prop:=ps.length<=1000000/\∀p∈ps,p.1.length<17592186044416/\p.2.length<17592186044416
theorem aad(sc tok:aj)(pv:Value)(ps:List jy)(name:aj)(w:World)(h:lQ w pv ps)(hz:Qs ps)(hn:name.size<17592186044416) :
  Calls prog 172 #[.agg #[.string sc,.string tok,pv],.string name] w fun e w'=>e=.returned (aey ps name.data.toList)/\Fr aR w w':=by
 obtain⟨av,cv,hv⟩:=h.form;subst hv;obtain⟨w1,oB⟩:∃w1,w1=w.alloc (.cells #[.string sc,.string tok,.slice av ps.length cv] 198):=⟨_,rfl⟩;have df:Fr aR w w1:=by rw[oB];exact(ae _ _).alloc _
 have GH:lQ w1 (.slice av ps.length cv) ps:=bg h df;have IG:=O oB;have HZ:=O hz;have M1:=hz.1;clear oB h hz;go_enter func172,ntmps172;go_wp2_with fail
 rw[<-IG.o];go_loopw[11] (ai3 ps name.data.toList w1) (fun t _=>ps.length-(intOf t).toNat)
 case atStart=>exact⟨0,aI _,rfl,rfl,ae _ _⟩
 case round =>
  obtain⟨k,hk,rfl,JS,cK⟩:=hrel;have HN:=O JS;clear JS;by_cases eX:k<ps.length
  ·have py:(k:Int)<(ps.length:Int):=ab;have dN:=O (List.getElem?_eq_getElem eX);have X_:=O (HZ.o.2 _ (bL eX));generalize ps[k]=q at dN X_;obtain⟨nm,vl⟩:=q;obtain⟨bk,of,rfl,h1,h2,c0,c1⟩:=lQ.cells (bg GH cK) dN.o;unfold maxLen at h2;simp only at c0 c1;obtain⟨wb,j_⟩:∃wb,wb=wr.alloc (.cells #[.string (bA nm),.string (bA vl)] 171):=⟨_,rfl⟩;have ks:Fr aR wr wb:=by rw[j_];exact(ae aR wr).alloc _
   have xW:wb.heap[wr.heap.size]?=some (.cells #[.string (bA nm),.string (bA vl)] 171 (0,0)):=by rw[j_];exact aB _ _
   have qY:=O j_;clear j_;go_wp2_with fail
   rw[<-qY.o];refine(mA (bA nm) name wb (by have h:=X_.o.1;exact h) hn).mono ?_;rintro e w8⟨rfl,rK⟩;rw[fT];have Nz:=O ((cK.trans ks).trans rK);cases pk:dG nm name.data.toList
   ·have qi:=O (wF dN.o HN.o pk);go_wp2;go_roundw
    case rel=>exact⟨k+1,ab,a_,qi.o,Nz.o⟩
    case measure=>simp[intOf];omega
   ·have HE:=O (VU dN.o pk HN.o);have hb8:=rK.keep xW id;have c1:w8.cell? ⟨wr.heap.size,1,none⟩=some (.string (bA vl)):=by simp[World.cell?,hb8]
    go_wp2;go_ret2;refine⟨?_,df.trans Nz.o⟩;unfold aey;rw[HE.o];rfl
  ·have py:¬(k:Int)<(ps.length:Int):=ab;have HE:=O (show kr ps name.data.toList=none from RY (by have h:=HN.o;rw[aC ab]at h;exact h));go_wp2;go_ret2;refine⟨?_,df.trans cK⟩;unfold aey;rw[HE.o];rfl
theorem uU.cells{xs:List nu}{x:nu}(h:uU w (.slice a n c) xs)(hk:xs[k]?=some x) :
  ∃bk o pv,a=some ⟨bk,o,none⟩/\n<=c/\c<=maxLen/\w.cell? ⟨bk,o+k*3,none⟩=some (.string (bA x.scheme))/\w.cell? ⟨bk,o+k*3+1,none⟩=some (.string (bA x.token))/\w.cell? ⟨bk,o+k*3+2,none⟩=some pv/\lQ w pv x.params:=by
 obtain⟨rs,hr,hb⟩:=h;have hl:=(List.getElem?_eq_some_iff.1 hk).1;have vI:=hb.len;obtain⟨r,za⟩:∃r,rs[k]?=some r:=⟨_,List.getElem?_eq_getElem ab⟩;obtain⟨x',Ur,e1,e2,e3⟩:=hb.get za;rw[hk]at Ur;cases Ur;rcases hr.2 with ⟨_,_,_,e,_⟩|⟨bk,o,c',hf,h1,h2,h3,h4⟩
 ·have:rs.length=0:=by have:=ar List.length e;simpa using this
  omega
 ·cases hf;have hc:=h4 k (Bq r) (by rw[List.getElem?_map,za];rfl);exact⟨bk,o,r.2.2,rfl,h1,h2,by rw[<-e1];exact hc 0 _ rfl,by rw[<-e2];exact hc 1 _ rfl,hc 2 _ rfl,e3⟩
open Go.ChangeShapes Go.WideShapes Go.ChangeAt Go.RowKit Go.Deep
variable {H : Type} {enc : TypeId × Value → H} {W : World}
structure XF (w:World) (r:gq Value) (hs:List gZ):Prop where
 eo:oO w r.eo hs
 tG:hs.length<=140737488355328
 small:∀p∈hs,p.1.size<=140737488351232/\p.2.size<=140737488351232
 sized:r.MF
 body:r.body.size<=140737488351232
 part:(Lit.int .i64 r.part).wf=true
 VY:(Lit.int .i64 r.dm.port).wf=true
 ai5:(Lit.int .i64 r.o.port).wf=true
theorem XG{fuel:Nat}{cs:List Value}{x:DataW H×List MemPlace}(h:DataW.trod enc prog W 0 (fun _=>true) true fuel 37 cs=some x) :
  ∃b:gq Value×List gZ,(cs=b.1.cells/\oO W b.1.eo b.2/\(Lit.int .i64 b.1.part).wf=true/\(Lit.int .i64 b.1.dm.port).wf=true/\(Lit.int .i64 b.1.o.port).wf=true)/\cs.length=13/\(∀u∈cs,u.oneCell'=true) /\
   (pC prog 37 x.1->XF W b.1 b.2):=by
 obtain⟨hl,n,hf⟩:=n9 underlying37 h;rw[Hy]at hl;obtain⟨c0,c1,c2,c3,c4,c5,c6,c7,c8,c9,G1,TP,c12,rfl⟩:=akT hl;obtain⟨y0,h0,l0⟩:=hf 0 3 0 _ rfl pV;obtain⟨y1,h1,l1⟩:=hf 1 32 1 _ rfl BH;obtain⟨y2,h2,l2⟩:=hf 2 34 4 _ rfl Hx;obtain⟨y3,h3,l3⟩:=hf 3 9 9 _ rfl iW;obtain⟨y4,h4,l4⟩:=hf 4 35 10 _ rfl Pm;obtain⟨y5,h5,l5⟩:=hf 5 4 11 _ rfl vh;obtain⟨y6,h6,l6⟩:=hf 6 9 12 _ rfl iW
 simp only[List.drop,List.take]at h0 h1 h2 h3 h4 h5 h6;obtain⟨b0,e0,w0⟩:=kI underlying3 h0;obtain⟨o,e1,w1,s1⟩:=MG h1;obtain⟨o2,pa,qu,e2,w2,s2⟩:=XE h2;obtain⟨b3,e3,w3⟩:=fl underlying9 h3;obtain⟨v4,ps,e4,hr,hs⟩:=Jz h4;obtain⟨b5,e5⟩:=nN underlying4 h5;obtain⟨b6,e6,w6⟩:=fl underlying9 h6;unfold gz.cells at e1 e2;simp only[List.cons_append,List.nil_append,fE,iL]at e0 e1 e2 e3 e4 e5 e6
 obtain⟨rfl,rfl,rfl⟩:=e1;obtain⟨rfl,rfl,rfl,rfl,rfl⟩:=e2;subst e0 e3 e4 e5 e6;refine⟨(⟨b0,o,o2,pa,qu,b3,G1,b5,b6⟩,ps),⟨rfl,hr,w0,w1,w2⟩,rfl,?_,fun hL=>?_⟩
 ·intro u hu;obtain⟨a,c,ev⟩:=hr.form;simp only[bB,cq,dU]at hu;rcases hu with rfl|rfl|rfl|rfl|rfl|rfl|rfl|rfl|rfl|rfl|rfl|rfl|rfl<;>first|rfl|(rw[ev];rfl)
 ·have hk:reachBytes=140737488351232:=rfl;obtain⟨g1,g2⟩:=hs (l4 hL);have q2:=s2 (l2 hL);have q1:=s1 (l1 hL);exact⟨hr,by show ps.length<=_;omega,g2,⟨w3 (l3 hL),q2.2.1,q2.2.2,q2.1,q1⟩,w6 (l6 hL),w0,w1,w2⟩
def Ac(ws:List (bI bD))(m:bI bD):List (bI bD) :=
 let l:=(mj m.o m.proxy ws).1++[m]
 l.drop (l.length-8)
theorem VB(ws:List (bI bD))(m:bI bD):(Ac ws m).length<=8:=by
 unfold Ac;simp only[bJ];omega
def GZ(base:Nat)(w:World)(b:Nat)(gv wv:Value)(gs:List (aP bD))(ws:List (bI bD))(e:Ending)(w':World):Prop :=
 e=.returned (.tuple #[])/\kF base w b gv wv gs ws w'
theorem N_{base:Nat}{w3 w4:World}{b:Nat}{gv wv:Value}{gs:List (aP bD)}{fs:List (bI bD)}{m:bI bD}{r3:bI Value}{rs:List (bI Value)}{gg cap:Nat}(h3:dB base w3 b gv wv gs fs)
  (ho:OwnRows base 133 13 w3 wv (rs.map bI.cells))(kC:lg (bI.Reads (dr base w3)) rs fs)(rJ:bI.Reads (dr base w3) r3 m)(qO:∀u∈r3.cells,u.oneCell'=true)(kK:Fr (own wv) w3 w4)
  (eY:w4.ownsRow base 133 13 (.slice (some ⟨gg,0,none⟩) (fs.length+1) cap) (fs.length+1) ((rs.map bI.cells).flatten++r3.cells))(dN:wv.ownBlock=some gg\/w3.heap.size<=gg) :
  dB base (w4.setCell ⟨b,1,none⟩ (.slice (some ⟨gg,0,none⟩) (fs.length+1) cap)) b gv (.slice (some ⟨gg,0,none⟩) (fs.length+1) cap) gs (fs++[m]) /\
  Fr (dt b gv wv) w3 (w4.setCell ⟨b,1,none⟩ (.slice (some ⟨gg,0,none⟩) (fs.length+1) cap))/\∀k,dt b gv (.slice (some ⟨gg,0,none⟩) (fs.length+1) cap) k->dt b gv wv k\/w3.heap.size<=k:=by
 have lp:=h3.low;have vI:=kC.len;have Ef:sr base w3 (own wv):=ho.off (ay _) ag;have vL:lg (bI.Reads (dr base w4)) (rs++[r3]) (fs++[m]) :=
  (kC.mono (fun _ _ h=>h.mono (fun _ _ h=>h.fr kK Ef))).app (.cons (rJ.mono (fun _ _ h=>h.fr kK Ef)) .nil)
 have Ct:kl base w4 (.slice (some ⟨gg,0,none⟩) (fs.length+1) cap) (fs++[m]):=by
  refine⟨rs++[r3],⟨?_,?_⟩,vL⟩
  ·intro x hx;rw[bH]at hx;rcases bK.1 hx with hx|hx
   ·exact ho.1 x hx
   ·simp at hx;subst hx;exact⟨rfl,qO⟩
  ·rw[bH,ed,aM,ai,vI];simpa using eY
 have tC:=kK.keep h3.eI h3.wb;have qF:f_ base w4 gv gs:=h3.bF.fr kK Ef (fun k hk hg=>h3.gw hk hg);have UH:Fr (dt b gv wv) w3 w4:=kK.mono (fun _ _ hk=>Or.inr (Or.inr hk));refine⟨dB.ad1 lp tC qF Ct,UH.setCell (p:=⟨b,1,none⟩) (fun _=>Or.inl rfl) _,?_⟩;rintro k(hk|hk|hk)
 ·exact Or.inl (Or.inl hk)
 ·exact Or.inl (Or.inr (Or.inl hk))
 ·have e:gg=k:=by simpa[own,Value.ownBlock]using hk
  subst e;rcases dN with dN|dN
  ·exact Or.inl (Or.inr (Or.inr dN))
  ·exact Or.inr dN
theorem nC.ret{b:Nat}{gv wv:Value}{gs:List (aP bD)}{u:List (bI bD)×Option (bI bD)}{e:Ending}(h:nC base w b gv wv gs u e w'):∃v,e=.returned v:=by
 obtain⟨_,h⟩:=h;split at h
 ·exact⟨_,h⟩
 ·obtain⟨r,h,_⟩:=h;exact⟨_,h⟩
theorem VC{r:bI Value}(h1:r.a.dom=.slice a n c):∀u∈r.cells,u.oneCell'=true:=by
 intro u hu;simp only[bI.cells,bB,cq,dU]at hu;rcases hu with rfl|rfl|rfl|rfl|rfl|rfl|rfl|rfl|rfl|rfl|rfl|rfl|rfl<;>first|rfl|(rw[h1];rfl)
theorem Oa(base:Nat)(w:World)(b:Nat)(gv wv:Value)(gs:List (aP bD))(ws:List (bI bD))(g:bI Value)(m:bI bD)(h:dB base w b gv wv gs ws)(hg:g.Reads (dr base w) m)(Fh:ws.length<17179869184) :
  Calls prog 58 #[.pointer (some ⟨b,0,none⟩),.agg g.cells.toArray] w (GZ base w b gv wv gs (Ac ws m)):=by
 obtain⟨x,hx⟩:∃x,x=g.cells:=⟨_,rfl⟩;have lF:x.length=13:=by rw[hx];rfl
 have sO:=h.lt;have lp:=h.low;obtain⟨ad,cd,xV⟩:=hg.2.2.2.2.2.2.2.2.2.2.rd.form;have pg:Fr aR w (w.alloc (.cells x.toArray 133)):=(ae aR w).alloc _;have h1:=h.dh pg;have F8:=hg.mono (fun _ _ h=>h.dh pg);have qp:(w.alloc (.cells x.toArray 133)).heap[w.heap.size]?=some (.cells x.toArray 133 (0,0)):=aB _ _
 have np:∀i u,g.cells[i]?=some u->(w.alloc (.cells x.toArray 133)).cell? ⟨w.heap.size,i,none⟩=some u:=fun i u hu=>by
  rw[<-hx]at hu;simp only[World.cell?,qp];simpa using hu
 have c0:=np 0 _ rfl;have c1:=np 1 _ rfl;have c2:=np 2 _ rfl;have c3:=np 3 _ rfl;have rI:=O (Lx base _ b gv wv gs ws g.o g.proxy h1 ab);have ud:=O qp;have HG:=O F8;have HX:=O hx;have HDV:=O xV;rw[<-hx];clear hg F8 qp np hx xV;go_enter func58,ntmps58;go_wp2_with fail
 clear c0 c1 c2 c3;have aon:w.heap.size<(w.alloc (.cells x.toArray 133)).heap.size:=aQ;generalize w.alloc (.cells x.toArray 133)=W at *
 refine rI.o.mono ?_;intro e w2 hpd;obtain⟨rv,rfl⟩:=hpd.ret;obtain⟨⟨gv2,wv2,h2,dy,Lr⟩,_⟩:=hpd;have mU:=h1.off;have hup:∀j,dt b gv wv j->j<w.heap.size:=fun j hj=>by
  rcases hj with hj|hj|hj
  ·omega
  ·obtain⟨cc,e⟩:=h.uj hj;exact bj e
  ·obtain⟨cc,e⟩:=h.wQ hj;exact bj e
 have qi:¬dt b gv wv w.heap.size:=fun hh=>by have:=hup _ hh;omega
 have zZ:=O (dy.keep ud.o qi);have xN:=HG.o.mono (fun _ _ h=>h.fr dy mU);have hll:=GX g.o g.proxy ws;have js:Fr (dt b gv wv) w w2:=fX (pg.mono (fun _ _ h=>absurd h id)) dy (fun _ _ h=>h);have VD:∀j,dt b gv2 wv2 j->dt b gv wv j\/w.heap.size<j:=fun j hj=>by
  rcases Lr j hj with h|h
  ·exact Or.inl h
  ·exact Or.inr ab
 obtain⟨fs,kJ⟩:∃fs,fs=(mj g.o g.proxy ws).1:=⟨_,rfl⟩;rw[<-kJ]at h2 hll;have D1:=O (show Ac ws m=(fs++[m]).drop (fs.length+1-8)by
  unfold Ac;rw[<-xN.1, <-xN.2.1, <-kJ];simp)
 have xY:=xN.2.2.2.2.2.2.2.2.2.2;rw[HDV.o]at xY;have c12:w2.cell? ⟨w.heap.size,12,none⟩=some (.slice ad m.a.dom.length cd):=by
  have e:=HX.o;have hd:=HDV.o;have hu:x[12]?=some (.slice ad m.a.dom.length cd):=by rw[e, <-hd];rfl
  simp only[World.cell?,zZ.o];simpa using hu
 have CL:=O (rR base _ _ _ xY);have TM:=O xN;have avh:w.heap.size<w2.heap.size:=bj zZ.o;clear rI pg dy mU kJ h1 xN xY Lr ud HG aon;go_wp2_with fail
 refine CL.o.mono ?_;rintro e w3⟨a3,c3,rfl,Ug,iv⟩;have Eh:=iv.keep zZ.o id;have avi:w.heap.size<w3.heap.size:=bj Eh;have aiA:w3.cell? ⟨w.heap.size,12,none⟩=some (.slice ad m.a.dom.length cd):=by
  have e:=HX.o;have hd:=HDV.o;have hu:x[12]?=some (.slice ad m.a.dom.length cd):=by rw[e, <-hd];rfl
  simp only[World.cell?,Eh];simpa using hu
 have f12:w3.frozen? ⟨w.heap.size,12,none⟩=false:=by simp[World.frozen?,Eh]
 have rS:sr base w3 (one w.heap.size):=by
  rintro j rfl _;exact⟨ab,fun c f e=>by rw[Eh]at e;cases e⟩
 have kJ:Fr (one w.heap.size) w3 (w3.setCell ⟨w.heap.size,12,none⟩ (.slice a3 m.a.dom.length c3)):=(ae (one w.heap.size) w3).setCell (p:=⟨w.heap.size,12,none⟩) (fun _=>rfl) _;have ZV:¬dt b gv2 wv2 w.heap.size:=fun hh=>by
  rcases VD _ hh with h|h
  ·exact qi h
  ·omega
 have h4:=(h2.dh iv).fr kJ rS (fun hh=>ZV (Or.inl (by have e:b=w.heap.size:=hh;rw[e]))) (fun j hj hh=>ZV (Or.inr (Or.inl (by have e:j=w.heap.size:=hh;rw[<-e];exact hj)))) (fun j hj hh=>ZV (Or.inr (Or.inr (by have e:j=w.heap.size:=hh;rw[<-e];exact hj))));have vX:(g.mV (.slice a3 m.a.dom.length c3)).Reads (dr base (w3.setCell ⟨w.heap.size,12,none⟩ (.slice a3 m.a.dom.length c3))) m:=by
  have q:=TM.o;exact⟨q.1,q.2.1,q.2.2.1,q.2.2.2.1,q.2.2.2.2.1,q.2.2.2.2.2.1,q.2.2.2.2.2.2.1,q.2.2.2.2.2.2.2.1,q.2.2.2.2.2.2.2.2.1,q.2.2.2.2.2.2.2.2.2.1,Ug.fr kJ rS⟩
 have Ek:∀u∈(g.mV (.slice a3 m.a.dom.length c3)).cells,u.oneCell'=true:=VC rfl;have vL:=b_ Eh 12 (.slice a3 m.a.dom.length c3);have hye:x.toArray.setIfInBounds 12 (.slice a3 m.a.dom.length c3)=(g.mV (.slice a3 m.a.dom.length c3)).cells.toArray:=by rw[HX.o];rfl
 rw[hye]at vL;have hFV:Fr (dt b gv wv) w (w3.setCell ⟨w.heap.size,12,none⟩ (.slice a3 m.a.dom.length c3)):=(js.trans (iv.mono (fun _ _ h=>absurd h id))).setCell (p:=⟨w.heap.size,12,none⟩) (fun hl=>absurd hl aQ) _;have H4:=O h4;have Yj:=O vX;have aci:=O Ek;have ZS:=O vL;have hVl:w.heap.size<(w3.setCell ⟨w.heap.size,12,none⟩ (.slice a3 m.a.dom.length c3)).heap.size:=bj vL
 clear rS kJ hye vL h4 vX Ek h2 Ug iv Eh CL TM ZV js;obtain⟨av,cv,Vl⟩:=H4.o.waits.form;subst Vl;have d1:=H4.o.c1;have e1:=H4.o.free 1;have oz:∀i u,(g.mV (.slice a3 m.a.dom.length c3)).cells[i]?=some u->(w3.setCell ⟨w.heap.size,12,none⟩ (.slice a3 m.a.dom.length c3)).cell? ⟨w.heap.size,i,none⟩=some u:=fun i u hu=>by
  simp only[World.cell?,ZS.o];simpa using hu
 have x0:=oz 0 _ rfl;have x1:=oz 1 _ rfl;have x2:=oz 2 _ rfl;have x3:=oz 3 _ rfl;have x4:=oz 4 _ rfl;have x5:=oz 5 _ rfl;have x6:=oz 6 _ rfl;have x7:=oz 7 _ rfl;have x8:=oz 8 _ rfl;have x9:=oz 9 _ rfl;have ZN:=oz 10 _ rfl;have ZO:=oz 11 _ rfl;have x12:=oz 12 _ rfl;obtain⟨i0,qD,pq,kZ,lq⟩:=info_parts GQ;obtain⟨rs,ho,kC⟩:=H4.o.waits;have HO:=O ho;have pZ:=O kC;have hbV:=H4.o.lt
 have cP:(w3.setCell ⟨w.heap.size,12,none⟩ (.slice a3 m.a.dom.length c3)).ownsRow base 133 13 (.slice av fs.length cv) fs.length (rs.map bI.cells).flatten:=by
  have hh:=ho.2;rw[ai,kC.len]at hh;exact hh
 have AO:¬own (.slice av fs.length cv) b:=H4.o.wb;clear ho kC oz;go_wp2_with fail
 clear c12 aiA f12;generalize w3.setCell ⟨w.heap.size,12,none⟩ (.slice a3 m.a.dom.length c3)=V at *
 simp only[bI.mV]at x0 x1 x2 x3 x4 x5 x6 x7 x8 x9 ZN ZO x12
 go_region_law ((with_reducible refine mR ⟨some 24,_,_,_,_,_⟩ ?_)
                refine step_append_lies _ bC _ _ _ bC base 133 i0 _ 13 168 underlying87 qD pq kZ lq rfl ab (.slice av fs.length cv) fs.length _ bC (by repeat(first|exact cP|apply World.ownsRow.alloc|apply World.ownsRow.drew)) ⟨V.heap.size,0,none⟩ 1 1 (g.mV (.slice a3 m.a.dom.length c3)).cells bC bC (kQ V (g.mV (.slice a3 m.a.dom.length c3)).cells _) aci.o ab fq ab bG (V.heap.size+1) aQ ?_
                intro gg cap w5 wG jC dN adv
                have rf:Fr (own (.slice av fs.length cv)) V w5:=fk (by repeat(first|exact ae _ _|apply aA|apply bz)) jC (fun _ hk _=>hk)
                have k4:w5.cell? ⟨b,1,none⟩=some (.slice av fs.length cv):=(rf.cell (p:=⟨b,1,none⟩) hbV AO).trans d1
                have e4:w5.frozen? ⟨b,1,none⟩=false:=(rf.frozen (p:=⟨b,1,none⟩) hbV AO).trans e1)
 all_goals
  obtain⟨h5,sy,RJ⟩:=N_ (m:=m) H4.o HO.o pZ.o Yj.o aci.o rf wG (dN.imp id (fun h=>ab));have d5:=h5.c1;have e5:=h5.free 1;clear x0 x1 x2 x3 x4 x5 x6 x7 x8 x9 ZN ZO x12 d1 e1 k4 e4 jC wG cP rf;generalize w5.setCell ⟨b,1,none⟩ (.slice (some ⟨gg,0,none⟩) (fs.length+1) cap)=w6 at *
  have Bj:(fs++[m]).length=fs.length+1:=aQ;have TJ:=O Bj;have yI:Fr (dt b gv wv) w w6:=hFV.step sy (fun k hk hb=>by
   rcases VD k hb with h|h
   ·exact h
   ·omega)
  have FG:∀k,dt b gv2 (.slice (some ⟨gg,0,none⟩) (fs.length+1) cap) k->dt b gv wv k\/w.heap.size<=k:=fun k hk=>by
   rcases RJ k hk with h|h
   ·rcases VD k h with h|h
    ·exact Or.inl h
    ·exact Or.inr ab
   ·exact Or.inr ab
  by_cases h8:8<=fs.length
  ·have h8':(8:Int)<(fs.length:Int)+1:=ab;obtain⟨n,hn⟩:∃n:Nat,fs.length+1=n+8:=⟨fs.length+1-8,ab⟩;rw[<-Bj]at h5;obtain⟨rs5,MZ,FH⟩:=h5.waits;have N2:=O (show(rs5.map bI.cells).length=fs.length+1 by rw[ai,FH.len,Bj]);have qJ:=O (GN base gg cap 0 n (rs5.map bI.cells) w6 (by rw[N2.o, <-Bj];exact MZ) ab (by rw[N2.o];omega));have RL:=O hn;rw[N2.o]at qJ;clear hn Bj;go_wp2_with fail
   rw[show((fs.length:Int)+1-8)=(n:Int)from by have:=RL.o;omega];refine qJ.o.mono ?_;rintro e w7⟨rfl,zF,nF⟩;obtain⟨h7,TK,d7,e7⟩:=GY (i:=0) (n:=n) h5 FH (by rw[TJ.o];exact zF) nF;rw[TJ.o,bw]at h7 TK;rw[TJ.o]at d7;rw[List.take_zero,List.nil_append]at h7;have H7:=O h7;have Gt:=O TK;clear h7 TK qJ zF FH MZ;go_wp2_with fail
   go_end0;refine⟨rfl,_,_,by rw[D1.o,show fs.length+1-8=n from by have:=RL.o;omega];exact H7.o,yI.step Gt.o (fun k hk hb=>by
    rcases FG k hb with h|h
    ·exact h
    ·omega),fun k hk=>FG k ?_⟩
   rcases hk with h|h|h
   ·exact Or.inl h
   ·exact Or.inr (Or.inl h)
   ·exact Or.inr (Or.inr h)
  ·have h8':¬(8:Int)<(fs.length:Int)+1:=ab;go_wp2_with fail
   go_end0;exact⟨rfl,_,_,by rw[D1.o,show fs.length+1-8=0 from ab,eD];exact h5,yI,FG⟩
theorem Af(base:Nat)(w:World)(b:Nat)(v:Value)(ps:List ef)(h:eO base w b v ps)(hlen:ps.length<1000000) :
  Calls prog 149 #[.pointer (some ⟨b,0,none⟩)] w fun e w'=>∃v',e=.returned v'/\OwnRows w.heap.size 155 12 w' v' (ps.map ef.cells)/\Fr aR w w':=by
 obtain⟨av,cv,hv⟩:=h.form;subst hv;have c0:=h.c0;have hc:=O (Z2 _ _ w h.rows.at (by rw[ai];omega));clear h;go_enter func149,ntmps149;go_wp2_with fail
 refine hc.o.mono ?_;rintro e u⟨v',rfl,ho,hf⟩;obtain⟨a',c',sH⟩:=ho.form;subst sH;rw[ai]at ho;have HO:=O ho;clear ho;go_wp2;go_ret;exact⟨_,rfl,HO.o,hf⟩
def ef.vu(r:ra)(p:ef):Bool:=p.dm.ll r.dm&&(p.o.ll r.o&&(p.path.toList==r.path.toList&&p.query.toList==r.query.toList))
def ef.wT(o:gz)(p:ef):Bool:=p.dm.ll o||p.o.ll o
theorem Ag(o:gz)(pa qu:aj)(o':gz)(pa' qu':aj)(w:World):(binOp .eql 34 (.agg #[.bool o.aF,.string o.host,.int .i64 o.port,.string pa,.string qu]) (.agg #[.bool o'.aF,.string o'.host,.int .i64 o'.port,.string pa',.string qu'])).run prog w=.ok (.bool (o.ll o'&&(pa.toList==pa'.toList&&qu.toList==qu'.toList))) w:=by
 go_simp;simp only[show∀(P:Prop) [Decidable P] (W:World) (b:Bool),(if P then(Result.ok (Value.bool b) W:Result Value)else .ok (.bool false) W)=.ok (.bool (decide P&&b)) W from fun P _ W b=>by by_cases h:P<;>simp[h]]
 congr 2
 rw[fa];simp only[gz.ll,cD,dD,dT,and_assoc,iL]
theorem LF(p:ef)(r:gq Value)(hs:List gZ)(br:Nat)(w:World)(hr:w.heap[br]?=some (.cells r.cells.toArray 37 (0,0))) :
  Calls prog 136 #[.agg p.cells.toArray,.pointer (some ⟨br,0,none⟩)] w fun e w'=>e=.returned (.bool (p.vu (r.dS hs)))/\Fr aR w w':=by
 have heq:=jz p.dm r.dm;have heu:=Ag p.o p.path p.query r.o r.path r.query;have gS:Fr aR w (w.alloc (.cells p.cells.toArray 155)):=(ae aR w).alloc _;have g0:=gS.keep hr id;have g1:(w.alloc (.cells p.cells.toArray 155)).heap[w.heap.size]?=some (.cells p.cells.toArray 155 (0,0)):=aB _ _
 have hc:∀i u,r.cells[i]?=some u->(w.alloc (.cells p.cells.toArray 155)).cell? ⟨br,i,none⟩=some u:=fun i u hu=>by simp only[World.cell?,g0];simpa using hu
 have c1:=hc 1 _ rfl;have c2:=hc 2 _ rfl;have c3:=hc 3 _ rfl;have c4:=hc 4 _ rfl;have c5:=hc 5 _ rfl;have c6:=hc 6 _ rfl;have c7:=hc 7 _ rfl;have c8:=hc 8 _ rfl;have HF:=O gS;clear hr g0 g1 hc gS;unfold ef.cells at *
 cases e1:p.dm.ll r.dm
 ·have HR:=O (show p.vu (r.dS hs)=false by unfold ef.vu gq.dS;simp only;rw[e1];rfl);rw[e1]at heq;clear e1;go_enter func136,ntmps136;go_wp2;go_ret;exact⟨by rw[HR.o];rfl,HF.o⟩
 ·have HR:=O (show p.vu (r.dS hs)=(p.o.ll r.o&&(p.path.toList==r.path.toList&&p.query.toList==r.query.toList))by unfold ef.vu gq.dS;simp only;rw[e1];rfl);rw[e1]at heq;generalize (p.o.ll r.o&&(p.path.toList==r.path.toList&&p.query.toList==r.query.toList))=res at *
  clear e1;go_enter func136,ntmps136;go_wp2;go_ret;exact⟨by rw[HR.o];rfl,HF.o⟩
theorem LG(p:ef)(o:gz)(bo:Nat)(w:World)(ho:w.heap[bo]?=some (.cells #[.bool o.aF,.string o.host,.int .i64 o.port] 32 (0,0))) :
  Calls prog 146 #[.agg p.cells.toArray,.pointer (some ⟨bo,0,none⟩)] w fun e w'=>e=.returned (.bool (p.wT o))/\Fr aR w w':=by
 have heq:=jz p.dm o;have heo:=jz p.o o;have gS:Fr aR w (w.alloc (.cells p.cells.toArray 155)):=(ae aR w).alloc _;have g0:=gS.keep ho id;have c0:(w.alloc (.cells p.cells.toArray 155)).cell? ⟨bo,0,none⟩=some (.bool o.aF):=by simp[World.cell?,g0]
 have c1:(w.alloc (.cells p.cells.toArray 155)).cell? ⟨bo,1,none⟩=some (.string o.host):=by simp[World.cell?,g0]
 have c2:(w.alloc (.cells p.cells.toArray 155)).cell? ⟨bo,2,none⟩=some (.int .i64 o.port):=by simp[World.cell?,g0]
 have HF:=O gS;clear ho g0 gS;unfold ef.cells at *
 cases e1:p.dm.ll o
 ·have HR:=O (show p.wT o=p.o.ll o by unfold ef.wT;rw[e1];rfl);rw[e1]at heq;generalize p.o.ll o=res at *
  clear e1;go_enter func146,ntmps146;go_wp2;go_ret;exact⟨by rw[HR.o];rfl,HF.o⟩
 ·have HR:=O (show p.wT o=true by unfold ef.wT;rw[e1];rfl);rw[e1]at heq;clear e1;go_enter func146,ntmps146;go_wp2;go_ret;exact⟨by rw[HR.o];rfl,HF.o⟩
def xt(M:Nat)(ps:List jy):Prop:=∀p∈ps,p.1.length<=M/\p.2.length<=M
theorem yb(M:Nat):∀(f:Nat) (ps:List jy) (r:Bs) (q:List jy×Bs),r.length<=M->xt M ps->gU f ps r=.ok q->xt M q.1
 |0,ps,r,q,_,hp,h=>by rw[gU]at h;cases h;exact hp
 |f+1,ps,r,q,hr,hp,h=>by
  rw[gU]at h;cases hq:ld ps r with
  |error e=>rw[hq]at h;cases h
  |ok p =>
   obtain⟨p,r1⟩:=p;rw[hq]at h;have hle:=t_ hq;have hg:=oL r1;have hn:xt M (ps++[p]):=by
    intro a ha;rcases bK.1 ha with g|g
    ·exact hp a g
    ·simp at g;subst g;exact⟨ab,ab⟩
   simp only at h;split at h
   ·split at h
    ·exact yb M f _ _ q ab hn h
    ·cases h;exact hn
   ·cases h
structure nu.Le (M:Nat) (x:nu):Prop where
 scheme:x.scheme.length<=M
 token:x.token.length<=M
 zz:xt M x.params
theorem Og{M:Nat}{x:nu}{z:Bs}(hr:r.length<=M)(h:pn k r=.ok (x,z)):x.Le M:=by
 have hw:=ry r;have hb:=lM (iy r);unfold pn at h;split at h
 ·cases h
 split at h
 ·cases h
 split at h
 ·cases h;exact⟨by show(h_ r).length<=M;omega,aI _,fun p hp=>by cases hp⟩
 split at h
 ·cases h
 split at h
 ·rename_i q hq;obtain⟨t,z'⟩:=q;have:=Dg hq;cases h;exact⟨by show(h_ r).length<=M;omega,by show t.length<=M;omega,fun p hp=>by cases hp⟩
 ·split at h
  ·cases h
  ·rename_i q hq;have:=yb M _ _ _ _ ab (fun p hp=>by cases hp) hq;cases h;exact⟨by show(h_ r).length<=M;omega,aI _,this⟩
theorem Ah(M:Nat):∀(f:Nat) (acc:List nu) (r:Bs) (l:List nu),r.length<=M->(∀x∈acc,x.Le M)->ki f acc r=.ok l->∀x∈l,x.Le M
 |0,acc,r,l,_,ha,h=>by rw[ki]at h;cases h;exact ha
 |f+1,acc,r,l,hr,ha,h=>by
  rw[ki]at h;split at h
  ·cases h;exact ha
  ·cases ho:pn acc.length (iG r)with
   |error e=>rw[ho]at h;cases h
   |ok q =>
    obtain⟨x,r1⟩:=q;rw[ho]at h;have h1:=CP ho;have h2:=oL r;have hx:=Og (M:=M) ab ho;refine Ah M f _ _ l ab (fun y hy=>?_) h;rcases bK.1 hy with g|g
    ·exact ha y g
    ·simp at g;subst g;exact hx
theorem Ce{l:List nu}(h:mC r=.ok l):∀x∈l,x.Le r.length:=by
 unfold mC at h;split at h
 ·cases h
 ·exact Ah _ _ _ _ _ (ay _) (fun x hx=>by cases hx) h
theorem Cf{l:List nu}(h:mC r=.ok l):r.length<=3000:=by
 unfold mC at h;split at h
 ·cases h
 ·omega
theorem RZ{l:List nu}(h:mC r=.ok l):∀x∈l,x.Fit:=by
 intro x hx;have h1:=Ce h x hx;have h2:=Cf h;have h3:=(KF h).1 x hx;exact⟨by have:=h1.scheme;omega,by have:=h1.token;omega,h3.tG,fun p hp=>by have:=h1.zz p hp;omega⟩
