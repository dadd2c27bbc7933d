/- Lemmas for the law's walk. -/
import Derived.Test.YtnckmcnffadjoaaGreatDoorPm26
import Derived.Test.YtnckmcnffadjoaaGreatDoorPm25
import Derived.Test.YtnckmcnffadjoaaGreatDoorPm27
set_option maxRecDepth 100000
set_option maxHeartbeats 16000000
set_option linter.unusedSimpArgs false
namespace Go.Proofs.YtnckmcnffadjoaaGreatDoor
open Go.Proofs.Tryz
open Go.RowKit
variable {w U w':World} {p:Addr} {u v:Value} {base xL B B' i b o n T k j:Nat} {pv yJ:Nat->cV} {x y:dI} {S:dC} {cs:aX} {t:iy} {c:bS}
theorem fb(h:w.cell? p=some u)(hf:Fr aS w U):U.cell? p=some u:=by
 unfold World.cell? at h ⊢;cases hb:w.heap[p.block]? with
 |none=>rw[hb]at h;cases h
 |some o=>rw[hb]at h;rw[hf.keep hb id];exact h
def XH(w:World)(n:Nat)(i:Value)(wr:World):Prop:=∃k:Nat,k<=n/\i=.int .i64 k/\Fr aS w wr
theorem Av(a:gA)(w:World):(binOp .neq 32 (.agg #[.bool a.aE,.string a.host,.int .i64 a.port]) (.agg #[.bool a.aE,.string a.host,.int .i64 a.port])).run prog w=.ok (.bool false) w:=by
 go_simp
theorem Jm(h:cD base w B pv x)(h':cD xL w B' yJ y)(CE:xE x)(i:Nat)(h4:i<4)(hxy:y.part i=x.part i) :
  aB 37 #[.pointer (some ⟨B,0,none⟩),.pointer (some ⟨B',0,none⟩),.int .i64 i] w fun e w'=>e=.returned (.bool true)/\Fr aS w w':=by
 obtain⟨l1,l2,l3,l4⟩:=(CE.part i).tP;have Ii:=O (EI base w B pv x h i h4 ab);have nI:=O (fun U (hU:Fr aS w U)=>EI xL U B' yJ y (h'.dm hU) i h4 (by rw[hxy];omega));have Qu:=O (fun U (hU:Fr aS w U)=>EJ base U B pv x (h.dm hU) i h4 ab);have wV:=O (fun U (hU:Fr aS w U)=>EJ xL U B' yJ y (h'.dm hU) i h4 (by rw[hxy];omega));have Sj:=O (fun U (hU:Fr aS w U)=>wL base U B pv x (h.dm hU) i h4 ab)
 have Tz:=O (fun U (hU:Fr aS w U)=>wL xL U B' yJ y (h'.dm hU) i h4 (by rw[hxy];omega));have HP1:=O (fun U (hU:Fr aS w U)=>Cc base U B pv x (h.dm hU) i h4 ab);have HP2:=O (fun U (hU:Fr aS w U)=>Cc xL U B' yJ y (h'.dm hU) i h4 (by rw[hxy];omega));rw[hxy]at nI wV Tz HP2;obtain⟨gs,hgs⟩:∃gs,gs=(x.part i).bH:=⟨_,rfl⟩;obtain⟨ws,yn⟩:∃ws,ws=(x.part i).waits:=⟨_,rfl⟩
 obtain⟨ps,hps⟩:∃ps,ps=(x.part i).book:=⟨_,rfl⟩;obtain⟨cs,hcs⟩:∃cs,cs=(x.part i).dL:=⟨_,rfl⟩;rw[<-yn]at Ii nI l2;rw[<-hcs]at Qu wV l4;rw[<-hgs]at Sj Tz;rw[<-hps]at HP1 HP2;have HL2:=O l2;have HL4:=O l4;have HE:=O (fun g:bJ bE=>Av g.o);clear h h' CE h4 hxy l1 l2 l3 l4 hgs yn hps hcs;go_enter func37,ntmps37;go_wp2_with fail
 refine Ii.o.mono ?_;rintro e u1⟨v1,rfl,⟨EZ,_⟩,ui⟩;have HV1:=O EZ;have IG:=O ui;clear EZ ui Ii;go_wp2_with fail
 refine(nI.o _ IG.o).mono ?_;rintro e u2⟨v2,rfl,⟨hv2,_⟩,nu⟩;have HV2:=O hv2;have tI:=O (IG.o.trans nu);have ak1:=O (HV1.o.fr nu (fE _ _) (fun _ _ h=>h));clear hv2 nu nI HV1;go_wp2_with fail
 refine(Qu.o _ tI.o).mono ?_;rintro e u3⟨v3,rfl,BD,zD⟩;have TF:=O BD.at;have Yb:=O (tI.o.trans zD);have HV1:=O (ak1.o.fr zD (fE _ _) (fun _ _ h=>h));have afY:=O (HV2.o.fr zD (fE _ _) (fun _ _ h=>h));clear BD zD Qu HV2 ak1;go_wp2_with fail
 refine(wV.o _ Yb.o).mono ?_;rintro e u4⟨v4,rfl,Pq,CJ⟩;obtain⟨a1,c1,f1⟩:=(HV1.o.fr CJ (fE _ _) (fun _ _ h=>h)).form;obtain⟨a2,c2,f2⟩:=(afY.o.fr CJ (fE _ _) (fun _ _ h=>h)).form;obtain⟨a3,c3,f3⟩:=(bh TF.o CJ).form;obtain⟨a4,c4,f4⟩:=Pq.at.form;rw[ai]at f3 f4;subst f1 f2 f3 f4;have MU:=O (HV1.o.fr CJ (fE _ _) (fun _ _ h=>h));have Qg:=O (afY.o.fr CJ (fE _ _) (fun _ _ h=>h));have TG:=O (bh TF.o CJ)
 have HX4:=O Pq.at;have HU4:=O (Yb.o.trans CJ);clear Pq CJ wV HV1 afY TF;go_wp2_with fail
 go_loopw[11] (XH u4 ws.length) (fun i _=>ws.length-(intOf i).toNat)
 case atStart=>exact⟨0,aQ _,rfl,ae _ _⟩
 case round =>
  obtain⟨k,hk,rfl,cL⟩:=hrel;have h8:=HL2.o;by_cases fo:k<ws.length
  ·have pq:(k:Int)<(ws.length:Int):=ab;have N7:(0:Int)<=(k:Int):=ab;obtain⟨ba,ca,e1,m1,r1,o1,q1,g1⟩:=(MU.o.fr cL (fE _ _) (fun _ _ h=>h)).at fo;obtain⟨bb,cb,e2,m2,r2,o2,q2,g2⟩:=(Qg.o.fr cL (fE _ _) (fun _ _ h=>h)).at fo;cases e1;cases e2;unfold maxLen at m1 m2;generalize ws[k]=g at q1 q2;have QA1:=O q1.2.2.2;have QA2:=O q2.2.2.2;obtain⟨p1,p2,p3,d1,d2,d3,d4,d5,d6,d7,d8⟩:=q1
   obtain⟨p1',p2',p3',d1',d2',d3',d4',d5',d6',d7',d8'⟩:=q2;obtain⟨ad,cd,yS⟩:=d8.rd.form;obtain⟨Ta,Tb,sI⟩:=d8'.rd.form
   have x1:r1.cells=[.bool g.o.aE,.string g.o.host,.int .i64 g.o.port,.bool g.proxy,.string g.path,.int .i64 g.a.scheme,.string g.a.aK,.string g.a.bq,.string g.a.cy,.bool g.a.cA,.string g.a.eH,.bool g.a.cN,.slice ad g.a.dom.length cd]:=by unfold bJ.cells;rw[p1,p2,p3,d1,d2,d3,d4,d5,d6,d7,yS]
   have x2:r2.cells=[.bool g.o.aE,.string g.o.host,.int .i64 g.o.port,.bool g.proxy,.string g.path,.int .i64 g.a.scheme,.string g.a.aK,.string g.a.bq,.string g.a.cy,.bool g.a.cA,.string g.a.eH,.bool g.a.cN,.slice Ta g.a.dom.length Tb]:=by unfold bJ.cells;rw[p1',p2',p3',d1',d2',d3',d4',d5',d6',d7',sI]
   have y1:r1.a.cells=[.int .i64 g.a.scheme,.string g.a.aK,.string g.a.bq,.string g.a.cy,.bool g.a.cA,.string g.a.eH,.bool g.a.cN,.slice ad g.a.dom.length cd]:=by unfold fK.cells;rw[d1,d2,d3,d4,d5,d6,d7,yS]
   have y2:r2.a.cells=[.int .i64 g.a.scheme,.string g.a.aK,.string g.a.bq,.string g.a.cy,.bool g.a.cA,.string g.a.eH,.bool g.a.cN,.slice Ta g.a.dom.length Tb]:=by unfold fK.cells;rw[d1',d2',d3',d4',d5',d6',d7',sI]
   have hlen:g.a.dom.length<=9223372036854775807:=by have:=d8.tP;omega
   rw[x1]at g1;rw[x2]at g2
   have HS:=O (show∀U,Fr aS wr U->(U.cell? ⟨ba,k*13,none⟩=some (.bool g.o.aE)/\U.cell? ⟨ba,k*13+1,none⟩=some (.string g.o.host)/\U.cell? ⟨ba,k*13+2,none⟩=some (.int .i64 g.o.port)/\U.cell? ⟨ba,k*13+3,none⟩=some (.bool g.proxy)/\U.cell? ⟨ba,k*13+4,none⟩=some (.string g.path)/\U.cell? ⟨ba,k*13+5,none⟩=some (.int .i64 g.a.scheme)/\U.cell? ⟨ba,k*13+6,none⟩=some (.string g.a.aK)/\U.cell? ⟨ba,k*13+7,none⟩=some (.string g.a.bq)/\U.cell? ⟨ba,k*13+8,none⟩=some (.string g.a.cy)/\U.cell? ⟨ba,k*13+9,none⟩=some (.bool g.a.cA)/\U.cell? ⟨ba,k*13+10,none⟩=some (.string g.a.eH)/\U.cell? ⟨ba,k*13+11,none⟩=some (.bool g.a.cN)/\U.cell? ⟨ba,k*13+12,none⟩=some (.slice ad g.a.dom.length cd)/\U.cell? ⟨bb,k*13,none⟩=some (.bool g.o.aE)/\U.cell? ⟨bb,k*13+1,none⟩=some (.string g.o.host)/\U.cell? ⟨bb,k*13+2,none⟩=some (.int .i64 g.o.port)/\U.cell? ⟨bb,k*13+3,none⟩=some (.bool g.proxy)/\U.cell? ⟨bb,k*13+4,none⟩=some (.string g.path)/\U.cell? ⟨bb,k*13+5,none⟩=some (.int .i64 g.a.scheme)/\U.cell? ⟨bb,k*13+6,none⟩=some (.string g.a.aK)/\U.cell? ⟨bb,k*13+7,none⟩=some (.string g.a.bq)/\U.cell? ⟨bb,k*13+8,none⟩=some (.string g.a.cy)/\U.cell? ⟨bb,k*13+9,none⟩=some (.bool g.a.cA)/\U.cell? ⟨bb,k*13+10,none⟩=some (.string g.a.eH)/\U.cell? ⟨bb,k*13+11,none⟩=some (.bool g.a.cN)/\U.cell? ⟨bb,k*13+12,none⟩=some (.slice Ta g.a.dom.length Tb))from fun U hU=>by
    refine⟨fb (g1 0 _ rfl) hU,fb (g1 1 _ rfl) hU,fb (g1 2 _ rfl) hU,fb (g1 3 _ rfl) hU,fb (g1 4 _ rfl) hU,fb (g1 5 _ rfl) hU,fb (g1 6 _ rfl) hU,fb (g1 7 _ rfl) hU,fb (g1 8 _ rfl) hU,fb (g1 9 _ rfl) hU,fb (g1 10 _ rfl) hU,fb (g1 11 _ rfl) hU,fb (g1 12 _ rfl) hU,fb (g2 0 _ rfl) hU,fb (g2 1 _ rfl) hU,fb (g2 2 _ rfl) hU,fb (g2 3 _ rfl) hU,fb (g2 4 _ rfl) hU,fb (g2 5 _ rfl) hU,fb (g2 6 _ rfl) hU,fb (g2 7 _ rfl) hU,fb (g2 8 _ rfl) hU,fb (g2 9 _ rfl) hU,fb (g2 10 _ rfl) hU,fb (g2 11 _ rfl) hU,fb (g2 12 _ rfl) hU⟩)
   have HSA:=O (show∀U,Fr aS wr U->aB 74 #[.agg #[.int .i64 g.a.scheme,.string g.a.aK,.string g.a.bq,.string g.a.cy,.bool g.a.cA,.string g.a.eH,.bool g.a.cN,.slice ad g.a.dom.length cd],.agg #[.int .i64 g.a.scheme,.string g.a.aK,.string g.a.bq,.string g.a.cy,.bool g.a.cA,.string g.a.eH,.bool g.a.cN,.slice Ta g.a.dom.length Tb]] U (fun e w'=>e=.returned (.bool true)/\Fr aS U w')from fun U hU=>by
    have h:=Au r1.a r2.a g.a U (QA1.o.mono (fun _ _ h=>(h.dm hU).rd)) (QA2.o.mono (fun _ _ h=>(h.dm hU).rd)) hlen;rw[y1,y2]at h;exact h)
   have tA:=O cL;have heq:=HE.o g;clear p1 p2 p3 d1 d2 d3 d4 d5 d6 d7 d8 p1' p2' p3' d1' d2' d3' d4' d5' d6' d7' d8' yS sI x1 x2 y1 y2 hlen o1 o2 g1 g2 cL QA1 QA2;go_wp2_with fail
   go_region_held3 (fun U=>Fr aS wr U/\U.cell? ⟨ba,k*13,none⟩=some (.bool g.o.aE)/\U.cell? ⟨ba,k*13+1,none⟩=some (.string g.o.host)/\U.cell? ⟨ba,k*13+2,none⟩=some (.int .i64 g.o.port)/\U.cell? ⟨ba,k*13+3,none⟩=some (.bool g.proxy)/\U.cell? ⟨ba,k*13+4,none⟩=some (.string g.path)/\U.cell? ⟨ba,k*13+5,none⟩=some (.int .i64 g.a.scheme)/\U.cell? ⟨ba,k*13+6,none⟩=some (.string g.a.aK)/\U.cell? ⟨ba,k*13+7,none⟩=some (.string g.a.bq)/\U.cell? ⟨ba,k*13+8,none⟩=some (.string g.a.cy)/\U.cell? ⟨ba,k*13+9,none⟩=some (.bool g.a.cA)/\U.cell? ⟨ba,k*13+10,none⟩=some (.string g.a.eH)/\U.cell? ⟨ba,k*13+11,none⟩=some (.bool g.a.cN)/\U.cell? ⟨ba,k*13+12,none⟩=some (.slice ad g.a.dom.length cd)/\U.cell? ⟨bb,k*13,none⟩=some (.bool g.o.aE)/\U.cell? ⟨bb,k*13+1,none⟩=some (.string g.o.host)/\U.cell? ⟨bb,k*13+2,none⟩=some (.int .i64 g.o.port)/\U.cell? ⟨bb,k*13+3,none⟩=some (.bool g.proxy)/\U.cell? ⟨bb,k*13+4,none⟩=some (.string g.path)/\U.cell? ⟨bb,k*13+5,none⟩=some (.int .i64 g.a.scheme)/\U.cell? ⟨bb,k*13+6,none⟩=some (.string g.a.aK)/\U.cell? ⟨bb,k*13+7,none⟩=some (.string g.a.bq)/\U.cell? ⟨bb,k*13+8,none⟩=some (.string g.a.cy)/\U.cell? ⟨bb,k*13+9,none⟩=some (.bool g.a.cA)/\U.cell? ⟨bb,k*13+10,none⟩=some (.string g.a.eH)/\U.cell? ⟨bb,k*13+11,none⟩=some (.bool g.a.cN)/\U.cell? ⟨bb,k*13+12,none⟩=some (.slice Ta g.a.dom.length Tb)) ((refine(fun hU=>⟨hU,HS.o _ hU⟩) ?_;first|exact aA (ae _ _)|assumption))
    ((first
     |(go_at_call 74;refine(HSA.o _ (aA (ae _ _))).mono ?_;rintro e u6 ⟨rfl,AZ⟩;have Fz:Fr aS wr u6:=(aA (ae _ _)).trans AZ)))
   go_wp2;go_roundw
   case rel=>exact⟨k+1,ab,bg,tA.o.trans Fz⟩
   case measure=>simp[intOf];omega
  ·have pq:¬(k:Int)<(ws.length:Int):=ab;have HX5:=O (bh TG.o cL);have HX6:=O (bh HX4.o cL);have HU5:=O (HU4.o.trans cL);clear cL MU Qg TG HX4 HU4 HE h8;go_wp2_with fail
   go_loopw[12] (XH wr cs.length) (fun i _=>cs.length-(intOf i).toNat)
   case atStart=>exact⟨0,aQ _,rfl,ae _ _⟩
   case round =>
    obtain⟨j,hj,rfl,jq⟩:=hrel;have h9:=HL4.o;by_cases hjs:j<cs.length
    ·have FU:(j:Int)<(cs.length:Int):=ab;have axv:(0:Int)<=(j:Int):=ab;rcases(bh HX5.o jq).2 with ⟨_,_,_,e,_⟩|⟨bk,of,c,hf,h1,h2,h3,h4⟩
     ·rw[List.map_eq_nil_iff]at e;rw[e]at hjs;exact absurd hjs (ct _)
     rcases(bh HX6.o jq).2 with ⟨_,_,_,e,_⟩|⟨Jy,of',c',UR,Ir,h2',h3',h4'⟩
     ·rw[List.map_eq_nil_iff]at e;rw[e]at hjs;exact absurd hjs (ct _)
     rw[ai]at hf UR;cases hf;cases UR;unfold maxLen at h2 h2';rw[ai]at h1 Ir;have d:=h4 j (ln cs[j]) (by rw[List.getElem?_map,List.getElem?_eq_getElem hjs];rfl);have d':=h4' j (ln cs[j]) (by rw[List.getElem?_map,List.getElem?_eq_getElem hjs];rfl);generalize cs[j]=g at d d';have d0:wr.cell? ⟨bk,of+j*4,none⟩=some (.bool g.1.aE):=d 0 _ rfl
     have d1:wr.cell? ⟨bk,of+j*4+1,none⟩=some (.string g.1.host):=d 1 _ rfl;have d2:wr.cell? ⟨bk,of+j*4+2,none⟩=some (.int .i64 g.1.port):=d 2 _ rfl;have d3:wr.cell? ⟨bk,of+j*4+3,none⟩=some (.int .i64 g.2):=d 3 _ rfl;have d4:wr.cell? ⟨Jy,of'+j*4,none⟩=some (.bool g.1.aE):=d' 0 _ rfl;have d5:wr.cell? ⟨Jy,of'+j*4+1,none⟩=some (.string g.1.host):=d' 1 _ rfl
     have d6:wr.cell? ⟨Jy,of'+j*4+2,none⟩=some (.int .i64 g.1.port):=d' 2 _ rfl;have d7:wr.cell? ⟨Jy,of'+j*4+3,none⟩=some (.int .i64 g.2):=d' 3 _ rfl;have heq:=Av g.1;have tA:=O jq;clear d d' h4 h4' h1 Ir h3 h3' jq;go_wp2_with fail
     go_quiet (fail);go_wp2;go_roundw
     case rel=>exact⟨j+1,ab,bg,tA.o.drewN _⟩
     case measure=>simp[intOf];omega
    ·have FU:¬(j:Int)<(cs.length:Int):=ab;have HU6:=O (HU5.o.trans jq);clear jq HX5 HX6 HU5 h9;go_wp2_with fail
     refine(Sj.o _ HU6.o).mono ?_;rintro e u6⟨g1,rfl,⟨FF,_⟩,hu6⟩;have HU7:=O (HU6.o.trans hu6);have HGA:=O FF;clear hu6 FF HU6;go_wp2_with fail
     refine(Tz.o _ HU7.o).mono ?_;rintro e u7⟨g2,rfl,⟨xk,_⟩,hu7⟩;have HU8:=O (HU7.o.trans hu7);have HEQ:=O (Tc (HGA.o.fr hu7 (fE _ _) (fun _ _ h=>h)) xk);clear hu7 xk HU7 HGA;go_wp2_with fail
     refine HEQ.o.mono ?_;rintro e u8⟨rfl,hu8⟩;have HU9:=O (HU8.o.trans hu8);clear hu8 HU8 HEQ;go_wp2_with fail
     refine(HP1.o _ HU9.o).mono ?_;rintro e u9⟨p1,rfl,Gj,hu9⟩;have afZ:=O (HU9.o.trans hu9);have HPA:=O Gj.at;clear hu9 Gj HU9;go_wp2_with fail
     refine(HP2.o _ afZ.o).mono ?_;rintro e u10⟨p2,rfl,C_,af0⟩;have aqV:=O (afZ.o.trans af0);have HEP:=O (Jl p1 p2 ps _ (bh HPA.o af0) C_.at);clear af0 C_ afZ HPA;go_wp2_with fail
     refine HEP.o.mono ?_;rintro e V7⟨rfl,aqW⟩;go_wp2_with fail
     go_ret;exact⟨rfl,aqV.o.trans aqW⟩
def af1(w:World)(i:Value)(wr:World):Prop:=∃k:Nat,k<=4/\i=.int .i64 k/\Fr aS w wr
theorem FB(h:cD base w B pv x)(h':cD xL w B' yJ x)(CE:xE x) :
  aB 15 #[.pointer (some ⟨B,0,none⟩),.pointer (some ⟨B',0,none⟩)] w fun e w'=>e=.returned (.bool true)/\Fr aS w w':=by
 have HP:=O (fun(i:Nat) (h4:i<4) U (hU:Fr aS w U)=>Jm (h.dm hU) (h'.dm hU) CE i h4 rfl);have HN1:=O (fun U (hU:Fr aS w U)=>EF base U B pv x (h.dm hU));have HN2:=O (fun U (hU:Fr aS w U)=>EF xL U B' yJ x (h'.dm hU));clear h h' CE;go_enter func15,ntmps15;go_wp2_with fail
 go_loopw[5] (af1 w) (fun i _=>4-(intOf i).toNat)
 case atStart=>exact⟨0,ag,rfl,ae _ _⟩
 case round =>
  obtain⟨k,hk,rfl,cL⟩:=hrel;have HF:=O cL;clear cL;by_cases fo:k<4
  ·have pq:(k:Int)<4:=ab;go_wp2_with fail
   refine(HP.o k fo _ HF.o).mono ?_;rintro e u⟨rfl,hu⟩;go_wp2_with fail
   go_roundw
   case rel=>exact⟨k+1,ab,bg,HF.o.trans hu⟩
   case measure=>simp[intOf];omega
  ·have pq:¬(k:Int)<4:=ab;go_wp2_with fail
   refine(HN1.o _ HF.o).mono ?_;rintro e u⟨rfl,hu⟩;rw[hu];clear hu;go_wp2_with fail
   refine(HN2.o _ HF.o).mono ?_;rintro e u⟨rfl,hu⟩;rw[hu];clear hu;go_wp2_with fail
   go_ret;exact⟨rfl,HF.o⟩
structure qI where
 o:jQ
 hs:List ig
 sp:Value
def qp(r:kI):aX:=[.int .i64 r.what,.string r.head,.int .i64 r.cert]
def lh(f:Nat->Nat->Int):aX:=[.int .i64 (f 0 0),.int .i64 (f 0 1),.int .i64 (f 0 2),.int .i64 (f 0 3),.int .i64 (f 1 0),.int .i64 (f 1 1),.int .i64 (f 1 2),.int .i64 (f 1 3),.int .i64 (f 2 0),.int .i64 (f 2 1),.int .i64 (f 2 2),.int .i64 (f 2 3),.int .i64 (f 3 0),.int .i64 (f 3 1),.int .i64 (f 3 2),.int .i64 (f 3 3)]
def mV(x:wB)(v:qI):aX:=.int .i64 x.does :: (v.o.cells++(.int .i64 x.fails :: .int .i64 x.mY :: v.sp :: (lh x.num++qp x.jm)))
theorem qq(x:wB)(v:qI):(mV x v).length=45:=rfl
theorem nD(f:Nat->Nat->Int):(lh f).length=16:=rfl
theorem Qo(f:Nat->Nat->Int){p:Nat}(hp:p<4)(hi:i<4):(lh f)[p*4+i]?=some (.int .i64 (f p i)):=by
 rcases(show p=0\/p=1\/p=2\/p=3 from ab)with rfl|rfl|rfl|rfl<;>rcases(show i=0\/i=1\/i=2\/i=3 from ab)with rfl|rfl|rfl|rfl<;>rfl
structure gj (U:World) (T B:Nat) (g:Nat->qI) (sv:Value) (t:iy):Prop where
 eL:∃cs,U.heap[T]?=some (.cells cs 75 (0,0))/\cs.size=289
 main:U.cell? ⟨T,0,none⟩=some (.pointer (some ⟨B,0,none⟩))
 num:U.rangeAt T 1 (lh t.num)
 tab:∀n,n<6->U.rangeAt T (17+n*45) (mV (t.tab n) (g n))
 steps:U.cell? ⟨T,287,none⟩=some (.int .i64 t.steps)
 st:U.cell? ⟨T,288,none⟩=some sv
section
variable {U U' : World} {T B : Nat} {g : Nat → qI} {sv : Value} {t : iy}
theorem o9(h:w.cell? p=some u)(hf:Fr S w U)(hn:¬S p.block):U.cell? p=some u:=by
 unfold World.cell? at h ⊢;cases hb:w.heap[p.block]? with
 |none=>rw[hb]at h;cases h
 |some o=>rw[hb]at h;rw[hf.keep hb hn];exact h
theorem pX(h:w.rangeAt b o cs)(hf:Fr S w U)(hn:¬S b):U.rangeAt b o cs:=fun j v hv=>o9 (h j v hv) hf hn
theorem gj.fr(h:gj U T B g sv t)(hf:Fr S U U')(hn:¬S T):gj U' T B g sv t:=by
 obtain⟨cs,hb,hs⟩:=h.eL;exact⟨⟨cs,hf.keep hb hn,hs⟩,o9 h.main hf hn,pX h.num hf hn,fun n hl=>pX (h.tab n hl) hf hn,o9 h.steps hf hn,o9 h.st hf hn⟩
theorem gj.lt(h:gj U T B g sv t):T<U.heap.size:=by obtain⟨cs,hb,_⟩:=h.eL;exact bj hb
theorem gj.there(h:gj U T B g sv t)(hn:o+n<=289):U.there T o n:=by
 obtain⟨cs,hb,hs⟩:=h.eL;intro j hj;have hl:o+j<cs.size:=ab;exact⟨by simp[World.cell?,hb,hl],by simp[World.frozen?,hb]⟩
theorem gj.free(h:gj U T B g sv t)(k:Nat):U.frozen? ⟨T,k,none⟩=false:=by
 obtain⟨cs,hb,_⟩:=h.eL;simp[World.frozen?,hb]
theorem lO(T:Nat)(ty:TypeId)(n:Nat):∀(vs:aX) (o:Nat) (U:World),(∃cs,U.heap[T]?=some (.cells cs ty (0,0))/\cs.size=n)->∃cs,(U.setCells T o vs).heap[T]?=some (.cells cs ty (0,0))/\cs.size=n
 |[],_,_,h=>h
 |v :: r,o,U,⟨cs,hb,hs⟩=>by
  rw[World.setCells];exact lO T ty n r (o+1) _ ⟨_,cg hb o v,by simpa using hs⟩
theorem mJ{a:World}(T:Nat):∀(vs:aX) (o:Nat) (U:World),Fr (one T) a U->Fr (one T) a (U.setCells T o vs)
 |[],_,_,h=>h
 |v :: r,o,U,h=>by
  rw[World.setCells];exact mJ T r (o+1) _ (h.setCell (p:=⟨T,o,none⟩) (fun _=>rfl) v)
theorem eU{vs:aX}(h:U.cell? ⟨T,k,none⟩=some u)(YQ:k<o\/o+vs.length<=k):(U.setCells T o vs).cell? ⟨T,k,none⟩=some u:=by
 rw[World.cell?_setCells_out T vs o U ⟨T,k,none⟩ (fun _ _=>YQ)];exact h
theorem gj.Oq(h:gj U T B g sv t)(hn:n<6)(x:wB)(v:qI):gj (U.setCells T (17+n*45) (mV x v)) T B (fun i=>if i=n then v else g i) sv (t.put n x)/\Fr (one T) U (U.setCells T (17+n*45) (mV x v)):=by
 have hl:=qq x v;refine⟨⟨lO T _ _ _ _ _ h.eL,eU h.main (Or.inl ab),bZ h.num _ _ _ (Or.inr (Or.inl (by rw[nD];omega))),fun m hm=>?_,eU h.steps (Or.inr ab),eU h.st (Or.inr ab)⟩,mJ T _ _ _ (ae _ _)⟩;by_cases e:m=n
 ·subst e;show World.rangeAt _ T (17+m*45) (mV (if m=m then x else t.tab m) (if m=m then v else g m));rw[az rfl,az rfl];exact World.rangeAt_setCells_same _ _ _ _ (h.there (by rw[hl];omega))
 ·show World.rangeAt _ T (17+m*45) (mV (if m=n then x else t.tab m) (if m=n then v else g m));rw[aq e,aq e];exact bZ (h.tab m hm) _ _ _ (by
   right;rw[hl,qq];rcases fH m n with q|q
   ·left;omega
   ·right;omega)
theorem GZ(h:U.rangeAt T o cs)(hj:j<cs.length):(U.setCell ⟨T,o+j,none⟩ v).rangeAt T o (cs.set j v):=by
 intro k u hk;have hc:=h j _ (List.getElem?_eq_getElem hj);by_cases e:k=j
 ·subst e;rw[List.getElem?_set_self hj]at hk;cases hk;exact World.cell?_setCell_same' U ⟨T,o+k,none⟩ _ (by rw[hc];rfl)
 ·rw[List.getElem?_set_ne (kZ e)]at hk;rw[World.cell?_setCell_other U ⟨T,o+j,none⟩ ⟨T,o+k,none⟩ v (fun q=>e (by injection q with q1 q2;omega))];exact h k u hk
theorem gj.CM(h:gj U T B g sv t)(hn:n<6)(hj:j<45)(v:Value){x:wB}{w:qI}(hx:(mV (t.tab n) (g n)).set j v=mV x w):gj (U.setCell ⟨T,17+n*45+j,none⟩ v) T B (fun i=>if i=n then w else g i) sv (t.put n x)/\Fr (one T) U (U.setCell ⟨T,17+n*45+j,none⟩ v):=by
 have hl:([v]:aX).length=1:=rfl;refine⟨⟨lO T _ _ [v] _ _ h.eL,eU (vs:=[v]) h.main (Or.inl ab),bZ h.num T (17+n*45+j) [v] (Or.inr (Or.inl (by rw[nD];omega))),fun m hm=>?_,eU (vs:=[v]) h.steps (Or.inr ab),eU (vs:=[v]) h.st (Or.inr ab)⟩,mJ T [v] _ _ (ae _ _)⟩;by_cases e:m=n
 ·subst e;show World.rangeAt _ T (17+m*45) (mV (if m=m then x else t.tab m) (if m=m then w else g m));rw[az rfl,az rfl, <-hx];exact GZ (h.tab m hm) (by rw[qq];exact hj)
 ·show World.rangeAt _ T (17+m*45) (mV (if m=n then x else t.tab m) (if m=n then w else g m));rw[aq e,aq e];exact bZ (h.tab m hm) T (17+n*45+j) [v] (by
   right;rw[hl,qq];rcases fH m n with q|q
   ·left;omega
   ·right;omega)
theorem gj.Eo(h:gj U T B g sv t)(k:Int):gj (U.setCell ⟨T,287,none⟩ (.int .i64 k)) T B g sv {t with steps:=k}/\Fr (one T) U (U.setCell ⟨T,287,none⟩ (.int .i64 k)):=by
 refine⟨⟨lO T _ _ [_] _ _ h.eL,eU (vs:=[_]) h.main (Or.inl ag),bZ h.num T 287 [_] (Or.inr (Or.inl (by rw[nD];decide))),fun m hm=>bZ (h.tab m hm) T 287 [_] (Or.inr (Or.inl (by rw[qq];omega))),?_,eU (vs:=[_]) h.st (Or.inr (ay _))⟩,mJ T [_] _ _ (ae _ _)⟩;exact World.cell?_setCell_same' U ⟨T,287,none⟩ _ (by rw[h.steps];rfl)
theorem gj.WD(h:gj U T B g sv t)(v:Value)(s:List WB):gj (U.setCell ⟨T,288,none⟩ v) T B g v {t with gz:=s}/\Fr (one T) U (U.setCell ⟨T,288,none⟩ v):=by
 refine⟨⟨lO T _ _ [_] _ _ h.eL,eU (vs:=[_]) h.main (Or.inl ag),bZ h.num T 288 [_] (Or.inr (Or.inl (by rw[nD];decide))),fun m hm=>bZ (h.tab m hm) T 288 [_] (Or.inr (Or.inl (by rw[qq];omega))),eU (vs:=[_]) h.steps (Or.inl ag),?_⟩,mJ T [_] _ _ (ae _ _)⟩;exact World.cell?_setCell_same' U ⟨T,288,none⟩ _ (by rw[h.st];rfl)
theorem gj.ae9(h:gj U T B g sv t){p:Nat}(hp:p<4)(hi:i<4)(v:Int){f:Nat->Nat->Int}(hf:(lh t.num).set (p*4+i) (.int .i64 v)=lh f):gj (U.setCell ⟨T,1+(p*4+i),none⟩ (.int .i64 v)) T B g sv {t with num:=f}/\Fr (one T) U (U.setCell ⟨T,1+(p*4+i),none⟩ (.int .i64 v)):=by
 refine⟨⟨lO T _ _ [_] _ _ h.eL,eU (vs:=[_]) h.main (Or.inl ab),?_,fun m hm=>bZ (h.tab m hm) T (1+(p*4+i)) [_] (Or.inr (Or.inr (by show 1+(p*4+i)+1<=_;omega))),eU (vs:=[_]) h.steps (Or.inr (by show 1+(p*4+i)+1<=_;omega)),eU (vs:=[_]) h.st (Or.inr (by show 1+(p*4+i)+1<=_;omega))⟩,mJ T [_] _ _ (ae _ _)⟩;show World.rangeAt _ T 1 (lh f);rw[<-hf];exact GZ h.num (by rw[nD];omega)
end
theorem step1(h:(t.tab n).does=1):stepT t n=({(t.put n {t.tab n with seen:=t.w,num:=t.num,does:=2})with steps:=t.steps+1},rep 0,false):=by unfold stepT;rw[az h]
theorem step2(h:(t.tab n).does=2):stepT t n=({(t.put n {t.tab n with jm:=(ku (t.tab n).seen (t.tab n).op).2,seen:=(ku (t.tab n).seen (t.tab n).op).1,does:=3})with steps:=t.steps+1},rep 0,false):=by unfold stepT;rw[aq ab,az h]
theorem acM(h:(t.tab n).does=3):stepT t n=jt {t with steps:=t.steps+1} n:=by unfold stepT;rw[aq ab,aq ab]
theorem SQ{x:wB}(hx:t.tab n=x)(h:x.does=1) :
  (stepT t n).2.2=false/\(stepT (stepT t n).1 n).2.2=false/\(stepT (stepT (stepT t n).1 n).1 n).2=((ku t.w x.op).2,true)/\(stepT (stepT (stepT t n).1 n).1 n).1.w=(ku t.w x.op).1/\((stepT (stepT (stepT t n).1 n).1 n).1.tab n).does=0:=by
 subst hx;rw[step1 h];obtain⟨T1,SR⟩:∃T,T=({(t.put n {t.tab n with seen:=t.w,num:=t.num,does:=2})with steps:=t.steps+1}:iy):=⟨_,rfl⟩;have e1:T1.tab n={t.tab n with seen:=t.w,num:=t.num,does:=2}:=by rw[SR];exact ma t n _
 have w1:T1.w=t.w:=by rw[SR];rfl
 have n1:T1.num=t.num:=by rw[SR];rfl
 rw[<-SR];refine⟨rfl,?_⟩;show(stepT T1 n).2.2=false/\(stepT (stepT T1 n).1 n).2=_/\(stepT (stepT T1 n).1 n).1.w=_/\((stepT (stepT T1 n).1 n).1.tab n).does=0;rw[step2 (by rw[e1])];obtain⟨T2,hT2⟩:∃T,T=({(T1.put n {T1.tab n with jm:=(ku (T1.tab n).seen (T1.tab n).op).2,seen:=(ku (T1.tab n).seen (T1.tab n).op).1,does:=3})with steps:=T1.steps+1}:iy):=⟨_,rfl⟩
 have e2:T2.tab n={t.tab n with seen:=(ku t.w (t.tab n).op).1,num:=t.num,does:=3,jm:=(ku t.w (t.tab n).op).2}:=by
  rw[hT2];show(T1.put n _).tab n=_;rw[ma,e1]
 have w2:T2.w=t.w:=by rw[hT2];exact w1
 have n2:T2.num=t.num:=by rw[hT2];exact n1
 rw[<-hT2];refine⟨rfl,?_⟩;show(stepT T2 n).2=_/\(stepT T2 n).1.w=_/\((stepT T2 n).1.tab n).does=0;rw[acM (by rw[e2])]
 have hz:jt {T2 with steps:=T2.steps+1} n=(lW (if(dp (t.tab n).op).2 then{T2 with steps:=T2.steps+1,w:=kP t.w (ku t.w (t.tab n).op).1 (t.tab n).op.part (dp (t.tab n).op).1,num:=En (t.tab n).op t.num}else{T2 with steps:=T2.steps+1}) n (ku t.w (t.tab n).op).2,(ku t.w (t.tab n).op).2,true):=by
  unfold jt;simp only[e2,w2,n2];rw[az trivial]
 rw[hz];refine⟨rfl,?_,?_⟩
 ·cases hw:(dp (t.tab n).op).2
  ·show T2.w=_;rw[w2,Oo hw]
  ·show kP t.w (ku t.w (t.tab n).op).1 (t.tab n).op.part (dp (t.tab n).op).1=_;exact Sg _ _
 ·show((lW _ n _).tab n).does=0;rw[aaZ];rfl
open Go.ChangeShapes Go.WideShapes Go.ChangeAt Go.RowKit Go.Deep
structure wK (w:World) (v:Value) (ms:List tJ):Prop where
 rows:dY 24 w v (ms.map tJ.cells)
 fit:∀m∈ms,gI w m.o m.hs
theorem wK.dm{ms:List tJ}(h:wK w v ms)(hf:Fr aS w w'):wK w' v ms:=⟨bh h.rows hf,fun m hm=>(h.fit m hm).dm hf⟩
variable {H : Type} {enc : TypeId × Value → H} {W : World}
structure Ap (w:World) (m:tJ):Prop where
 op:sV w m.o m.hs
 kind:(Lit.int .i64 m.kind).wf=true
 tab:(Lit.int .i64 m.tab).wf=true
abbrev yF(w:World)(v:Value)(ms:List tJ):Prop:=dY 24 w v (ms.map tJ.cells)/\ms.length<=140737488355328/\∀m∈ms,Ap w m
theorem Mt:prog.cellsOf 66=24:=af
theorem akL{α:Type}{l:List α}(h:l.length=24):∃(a0 a1:α) (r:List α),l=a0 :: a1 :: r/\r.length=22:=by
 match l,h with
 |a0 :: a1 :: r,h=>exact⟨a0,a1,r,rfl,by simpa using h⟩
theorem aa8{fuel:Nat}{x:DataW H×List MemPlace}(h:DataW.trod enc prog W 0 (fun _=>true) true fuel 66 cs=some x) :
  ∃b:tJ,cs=b.cells/\cs.length=24/\(∀u∈cs,u.oneCell'=true)/\(o_ prog 66 x.1->Ap W b):=by
 obtain⟨hl,n,hf⟩:=nZ underlying66 h;rw[Mt]at hl;obtain⟨c0,c1,cr,rfl,hcr⟩:=akL hl;obtain⟨y0,h0,l0⟩:=hf 0 3 0 _ rfl pR;obtain⟨y1,h1,l1⟩:=hf 1 3 1 _ rfl pR;obtain⟨y2,h2,l2⟩:=hf 2 41 2 _ rfl Ms;simp only[List.drop,List.take]at h0 h1 h2;rw[aD ab]at h2;obtain⟨b0,e0,w0⟩:=kG underlying3 h0;obtain⟨b1,e1,w1⟩:=kG underlying3 h1;obtain⟨b2,e2,_,o2,s2⟩:=Qy h2;simp only[fF,iM]at e0 e1;subst e0 e1
 refine⟨⟨b0,b1,b2.1,b2.2⟩,by rw[e2];rfl,hl,fun u hu=>?_,fun hL=>⟨s2 (l2 hL),w0,w1⟩⟩;rcases bB.1 hu with rfl|hu
 ·rfl
 rcases bB.1 hu with rfl|hu
 ·rfl
 ·exact o2 u hu
instance:Inhabited tJ:=⟨⟨0,0,(default:jQ×List ig).1,[]⟩⟩
theorem Mu{d:DataW H}{p:List MemPlace}(hv:Value.okWide prog W .any base 22 v)(h:DataW.Trod enc prog W 0 (fun _=>true) true 22 v d p)(hL:o_ prog 22 d) :
  ∃ms:List tJ,yF W v ms:=by
 obtain⟨a,len,cap,rfl⟩:=okWide_slice underlying22 hv;obtain⟨fuel,hf⟩:=h;obtain⟨v',css,bs,e,hr,hb,hs⟩:=EB (Q:=fun cs (b:tJ)=>cs=b.cells) (S:=fun b=>Ap W b) underlying22 Mt ag (by kernel_rfl:prog.bytesOf 66=288) aa8 hf;simp only[Value.cells,fF,iM]at e;subst e;rw[EC hb]at hr;have h2:=hs hL;refine⟨bs,hr,?_,h2.2⟩;have hk:reachBytes=140737488351232:=rfl;have:=h2.1;omega
structure kO (w:World):Prop where
 ZQ:xa w
 pw:xz w
theorem kO.fr(h:kO w)(hf:Fr aS w w'):kO w':=⟨h.ZQ.fr hf,h.pw.fr hf⟩
def jY(base:Nat)(w:World)(B:Nat)(pv:Nat->cV)(r:dI×kI)(e:Ending)(w':World):Prop :=
 e=.returned r.2.val/\dn base w B pv r.1 w'
section
variable {base : Nat} {a w w' : World} {B : Nat} {pv : Nat → cV} {x : dI}
theorem dn.after(hf:Fr aS a w)(h:dn base w B pv x w'):dn base a B pv x w':=by
 obtain⟨yJ,h1,h2,h3⟩:=h;refine⟨yJ,h1,fV (S:=lN B pv) (hf.mono (fun _ _ h=>absurd h id)) h2 (fun _ _ h=>h),fun k hk=>?_⟩;rcases h3 k hk with h|h
 ·exact Or.inl h
 ·exact Or.inr (aG hf.size h)
theorem dn.then(h:dn base a B pv x w)(hf:Fr aS w w'):dn base a B pv x w':=by
 obtain⟨yJ,h1,h2,h3⟩:=h;exact⟨yJ,h1.dm hf,h2.step (T:=aS) hf (fun _ _ h=>absurd h id),h3⟩
theorem dn.row(h:dn base w B pv x w'){n:Nat}{old:bS}{t:TypeId}(oB:base<=w.heap.size)(hB:B<w.heap.size)(hn:w.heap.size<=n)(hr:w'.heap[n]?=some (.cells old t (0,0)))
  (ht:eZ t)(hs:t≠9)(new:bS):dn base w B pv x (w'.setRow n new):=by
 obtain⟨yJ,h1,h2,h3⟩:=h;have kH:Fr (one n) w' (w'.setRow n new):=(ae (one n) w').setRow (fun _=>rfl) _;have mS:rY base w' (one n):=by
  rintro k rfl _;exact⟨ab,fun c f e=>by rw[hr]at e;cases e;exact hs rfl⟩
 refine⟨yJ,h1.fr kH mS (fun i hi e=>?_),h2.step kH (fun k hk e=>?_),h3⟩
 ·have e':i=n:=e;subst e';rcases hi with rfl|⟨j,hj,hi⟩
  ·omega
  ·exact(h1.part j hj).fi hr ht hi
 ·have e':k=n:=e;omega
theorem nY(h:cD base w B pv x){t:TypeId}{p:dS}(hi:i<4)(hp:dk base w B (iQ pv x.now) (i*3) (pv i) p w')(hn:w.heap[n]?=some (.cells c t (0,0)))(ht:eZ t)(hB:n≠B):w'.heap[n]?=some (.cells c t (0,0)):=by
 obtain⟨v',h1,h2,h3,h4⟩:=hp;exact eK (h.part i hi) h2 hn ht hB
end
theorem qo{o:iY}(hr:o.right=true)(hi:o.part=(i:Int))(hw:o.what≠10):ku x o=(x.set i (sP (x.part i) x.now o).1,(sP (x.part i) x.now o).2):=by
 rw[wh hr hw,hi];rfl
theorem Wo{p:dS}{n:Int}{o:iY}(h:o.what=8\/o.what=9):sP p n o=qm p o:=by
 unfold sP;rcases h with h|h<;>rw[h]<;>rfl
theorem cD.wA(h:cD base w B pv x){t:TypeId}(hn:w.heap[n]?=some (.cells c t (0,0)))(ht:eZ t)(hw:t≠86):¬lN B pv n:=fun hk=>by
 rcases hk with rfl|⟨i,hi,hk⟩
 ·rw[h.eL]at hn;cases hn;exact hw rfl
 ·exact(h.part i hi).fi hn ht hk
abbrev cH := @dn.after
abbrev eA := @dn.row
def xi(k:Nat):Value:=if k=0 then .nilIface else .iface 105 (.int .i64 k)
section
variable {U : World} {T B : Nat} {g : Nat → qI} {sv : Value} {t : iy}
theorem CN{n:Int}(h:yy n=true):∃i:Nat,n=(i:Int)/\i<6:=by
 unfold yy at h;simp only[cF,dG]at h;exact⟨n.toNat,ab,ab⟩
theorem Ot(U:World)(T:Nat)(hi:i<6) :
  aB 42 #[.pointer (some ⟨T,0,none⟩),.int .i64 i] U fun e w'=>e=.returned (.tuple #[.pointer (some ⟨T,17+i*45,none⟩),.nilIface])/\w'=U:=by
 have h1:(i:Int)<6:=ab;have h0:¬(i:Int)<0:=ab;have h2:¬(6:Int)<=(i:Int):=ab;have h3:(0:Int)<=(i:Int):=ab;go_enter func42,ntmps42;go_wp2;go_ret2;exact⟨rfl,rfl⟩
theorem IU(U:World)(T:Nat){n:Int}(hn:yy n=false) :
  aB 42 #[.pointer (some ⟨T,0,none⟩),.int .i64 n] U fun e w'=>e=.returned (.tuple #[.pointer none,xi 2])/\w'=U:=by
 have hh:¬(0<=n/\n<6):=by
  intro hh;unfold yy at hn;simp[hh.1,hh.2]at hn
 clear hn;by_cases h0:n<0
 ·have h1:¬(0:Int)<=n:=ab;clear hh;go_enter func42,ntmps42;go_wp2;go_ret2;exact⟨rfl,rfl⟩
 ·have h1:(0:Int)<=n:=ab;have h4:(6:Int)<=n:=ab;have h5:¬n<6:=ab;clear hh;go_enter func42,ntmps42;go_wp2;go_ret2;exact⟨rfl,rfl⟩
end
def xj(base:Nat)(U:World)(ws:Nat->Option (Nat×dI)):Prop :=
 ∃pv:Nat->Nat->cV,(∀i B x,ws i=some (B,x)->cD base U B (pv i) x)/\∀i j B x C y,i≠j->ws i=some (B,x)->ws j=some (C,y)->∀k,lN B (pv i) k->¬lN C (pv j) k
section
variable {base : Nat} {a U U' : World} {ws : Nat → Option (Nat × dI)}
theorem xj.dm(h:xj base U ws)(hf:Fr aS U U'):xj base U' ws:=by
 obtain⟨pv,h1,h2⟩:=h;exact⟨pv,fun i B x hi=>(h1 i B x hi).dm hf,h2⟩
theorem xj.sub{ws':Nat->Option (Nat×dI)}(h:xj base U ws)(hs:∀i p,ws' i=some p->ws i=some p):xj base U ws':=by
 obtain⟨pv,h1,h2⟩:=h;exact⟨pv,fun i B x hi=>h1 i B x (hs _ _ hi),fun i j B x C y QR hi hj=>h2 i j B x C y QR (hs _ _ hi) (hs _ _ hj)⟩
theorem xj.one(h:xj base U ws)(oB:base<=n){t:TypeId}(hb:U.heap[n]?=some (.cells c t (0,0)))(ht:eZ t)(hw:t≠86)(hs:t≠9)(hf:Fr (one n) U U'):xj base U' ws:=by
 obtain⟨pv,h1,h2⟩:=h;refine⟨pv,fun i B x hi=>(h1 i B x hi).fr hf ?_ (fun k hk e=>?_),h2⟩
 ·rintro k rfl _;exact⟨oB,fun c f e=>by rw[hb]at e;cases e;exact hs rfl⟩
 ·cases(show k=n from e);exact(h1 i B x hi).wA hb ht hw hk
theorem xj.at(h:xj base U ws)(hi:ws i=some (B,x)):∃pv,cD base U B pv x:=by
 obtain⟨pv,h1,_⟩:=h;exact⟨pv i,h1 i B x hi⟩
def Kept(U U':World):Prop:=∃S:dC,Fr S U U'/\∀(n:Nat) (c:bS) (t:TypeId),U.heap[n]?=some (.cells c t (0,0))->eZ t->t≠86->¬S n
theorem Kept.aay(h:Fr aS U U'):Kept U U':=⟨aS,h,fun _ _ _ _ _ _ h=>h⟩
theorem Kept.rows(h:Kept U U'){e:TypeId}{xs:cZ}(hr:OwnRows b e k U v xs)(ht:eZ e)(hw:e≠86):OwnRows b e k U' v xs:=by
 obtain⟨S,hf,hs⟩:=h;refine hr.fr hf fun g hg=>?_;obtain⟨c,hc⟩:=hr.BM hg;exact hs g c e hc ht hw
theorem Kept.eL(h:Kept U U'){g:Nat->qI}{sv:Value}(hb:gj U T B g sv t):gj U' T B g sv t:=by
 obtain⟨S,hf,hs⟩:=h;obtain⟨c,hc,_⟩:=hb.eL;exact hb.fr hf (hs T c _ hc (by unfold eZ;decide) ag)
theorem xj.act{f:FuncId}{args:bS}{R:Ending->Prop}(h:xj base U ws)(hf:Fr aS a U)(sa:a.heap.size<=base){i B:Nat}{x x':dI}(hi:ws i=some (B,x))
  (hc:∀pv,cD base U B pv x->aB f args U fun e w'=>R e/\dn base U B pv x' w') :
  aB f args U fun e w'=>R e/\xj base w' (fun j=>if j=i then some (B,x')else ws j)/\Fr aS a w'/\Kept U w':=by
 obtain⟨pv,h1,h2⟩:=h;have g:=h1 i B x hi;refine(hc (pv i) g).mono fun e w' hh=>⟨hh.1,?_,hh.2.frame g hf sa,?_⟩
 ·obtain⟨yJ,g1,g2,g3⟩:=hh.2;refine⟨fun j=>if j=i then yJ else pv j,fun j C y hj=>?_,fun j k C y D z hjk hj hk q hq G0=>?_⟩
  ·by_cases e:j=i
   ·simp only[az e,ez,iT]at hj ⊢;obtain⟨rfl,rfl⟩:=hj;exact g1
   ·simp only[aq e]at hj ⊢;exact(h1 j C y hj).fr g2 g.off (fun k hk=>h2 j i C y B x e hj hi k hk)
  ·by_cases e:j=i
   ·have e':¬k=i:=fun e'=>hjk (e.trans e'.symm);simp only[az e,aq e',ez,iT]at hj hk hq G0;obtain⟨rfl,rfl⟩:=hj;rcases g3 q hq with r|r
    ·exact h2 k i D z B x e' hk hi q G0 r
    ·have:=(h1 k D z hk).jr G0;omega
   ·by_cases e':k=i
    ·simp only[az e',aq e,ez,iT]at hj hk hq G0;obtain⟨rfl,rfl⟩:=hk;rcases g3 q G0 with r|r
     ·exact h2 j i C y B x e hj hi q hq r
     ·have:=(h1 j C y hj).jr hq;omega
    ·simp only[aq e',aq e]at hj hk hq G0;exact h2 j k C y D z hjk hj hk q hq G0
 ·obtain⟨yJ,g1,g2,g3⟩:=hh.2;exact⟨_,g2,fun n c t hn ht hw=>g.wA hn ht hw⟩
theorem xj.add(h:xj base U ws)(hf:Fr aS U U'){C:Nat}{qv:Nat->cV}(hc:cD base U' C qv y)(hn:∀j,lN C qv j->U.heap.size<=j):xj base U' (fun j=>if j=i then some (C,y)else ws j):=by
 obtain⟨pv,h1,h2⟩:=h;refine⟨fun j=>if j=i then qv else pv j,fun j D z hj=>?_,fun j k D z E z' hjk hj hk q hq G0=>?_⟩
 ·by_cases e:j=i
  ·simp only[az e,ez,iT]at hj ⊢;obtain⟨rfl,rfl⟩:=hj;exact hc
  ·simp only[aq e]at hj ⊢;exact(h1 j D z hj).dm hf
 ·by_cases e:j=i
  ·have e':¬k=i:=fun e'=>hjk (e.trans e'.symm);simp only[az e,aq e',ez,iT]at hj hk hq G0;obtain⟨rfl,rfl⟩:=hj;have a1:=hn q hq;have a2:=(h1 k E z' hk).jr G0;omega
  ·by_cases e':k=i
   ·simp only[az e',aq e,ez,iT]at hj hk hq G0;obtain⟨rfl,rfl⟩:=hk;have a1:=hn q G0;have a2:=(h1 j D z hj).jr hq;omega
   ·simp only[aq e',aq e]at hj hk hq G0;exact h2 j k D z E z' hjk hj hk q hq G0
end
abbrev ju := @Kept.aay
theorem ae_(base:Nat)(w:World)(B:Nat)(pv:Nat->cV)(x:dI)(o:jQ)(hs:List ig)(h:cD base w B pv x)(hf:gI w o hs)(hi:lV x)(a:World)(tC:kO a)(sa:a.heap.size<=base)(tD:Fr aS a w)(hr:(o.dR hs).right=false) :
  aB 14 #[.pointer (some ⟨B,0,none⟩),.agg o.cells.toArray] w (jY base w B pv (ku x (o.dR hs))):=by
 have uM:B<w.heap.size:=h.lt;have oB:=h.low;obtain⟨ah,ch,gH⟩:=hf.gZ;obtain⟨w2,eE⟩:∃w2,w2=(w.alloc (.cells o.cells.toArray 41)).alloc (.cells bT 30):=⟨_,rfl⟩;have dB:Fr aS w w2:=by rw[eE];exact((ae aS w).alloc _).alloc _
 have k1:w2.heap[w.heap.size]?=some (.cells o.cells.toArray 41 (0,0)):=by rw[eE];exact((ae aS _).alloc _).keep (aC _ _) id
 have k2:w2.heap[w.heap.size+1]?=some (.cells bT 30 (0,0)):=by
  have h:=aC (w.alloc (.cells o.cells.toArray 41)) (.cells bT 30);rw[bO]at h;rw[eE];exact h
 have tE:=O (lu o hs w2 (hf.dm dB));have HH:=O (h.dm dB);have HF:=O (hf.dm dB);have lD:=O gH;have HI:=O hi;have f_:=O dB;have mN:=O k1;have qO:=O k2;have ph:=O (show base<=w.heap.size from ab);have xe:=O oB;have o7:=O uM;have Sb:=O tC;have Sa:=O (tD.trans dB);have Yk:=O sa;rw[eE]at k1;rw[d_ gH]at eE tE k1 ⊢;unfold bT at eE k1;have nI:=O eE;have vt:=O k1;clear eE gH dB k1 k2 h hf hi tC sa tD
 have HR:=O (show ku x (o.dR hs)=(x,rep 7)from zQ hr);rw[hr]at tE;clear hr;go_enter func14,ntmps14;go_wp2_with (first|((with_reducible refine di 8 ?_);refine aH rfl 41 (.tmp 3) rfl w.heap.size rfl _ _ (0,0) _ vt.o underlying41 rfl af ?_)|fail)
 rw[<-nI.o];refine tE.o.mono ?_;rintro e u⟨rfl,hu⟩;have HU:=O hu;have HP:=O (show dn base w B pv x u from cH f_.o (fA HH.o hu));have pg:=O (hu.keep qO.o id);clear hu vt;go_wp2_with (first|((with_reducible refine cW 30 ?_);refine aF rfl 30 (.tmp 4) (.tmp 11) rfl (w.heap.size+1) #[.int .i64 7,.string ⟨#[]⟩,.int .i64 0] rfl rfl _ bT pg.o (bf _ rfl) rfl bW ?_)|fail)
 refine aU (bu bC _ _ (w.heap.size+1) 30 #[.int .i64 7,.string ⟨#[]⟩,.int .i64 0] (0,0) _ rfl (aY _ (w.heap.size+1) _ _ _ _ pg.o) underlying30 rfl (bf _ rfl)) rfl ?_;unfold jY;rw[HR.o];exact⟨rfl,eA HP.o ph.o o7.o (bV _) pg.o dM ag _⟩
theorem Si(base:Nat)(w:World)(B:Nat)(pv:Nat->cV)(x:dI)(o:jQ)(hs:List ig)(h:cD base w B pv x)(hf:gI w o hs)(hi:lV x)(a:World)(tC:kO a)(sa:a.heap.size<=base)(tD:Fr aS a w)(hr:(o.dR hs).right=true)(hw:o.what=1) :
  aB 14 #[.pointer (some ⟨B,0,none⟩),.agg o.cells.toArray] w (jY base w B pv (ku x (o.dR hs))):=by
 have uM:B<w.heap.size:=h.lt;have oB:=h.low;obtain⟨ah,ch,gH⟩:=hf.gZ;obtain⟨w2,eE⟩:∃w2,w2=(w.alloc (.cells o.cells.toArray 41)).alloc (.cells bT 30):=⟨_,rfl⟩;have dB:Fr aS w w2:=by rw[eE];exact((ae aS w).alloc _).alloc _
 have k1:w2.heap[w.heap.size]?=some (.cells o.cells.toArray 41 (0,0)):=by rw[eE];exact((ae aS _).alloc _).keep (aC _ _) id
 have k2:w2.heap[w.heap.size+1]?=some (.cells bT 30 (0,0)):=by
  have h:=aC (w.alloc (.cells o.cells.toArray 41)) (.cells bT 30);rw[bO]at h;rw[eE];exact h
 have tE:=O (lu o hs w2 (hf.dm dB));have HH:=O (h.dm dB);have HF:=O (hf.dm dB);have lD:=O gH;have HI:=O hi;have f_:=O dB;have mN:=O k1;have qO:=O k2;have ph:=O (show base<=w.heap.size from ab);have xe:=O oB;have o7:=O uM;have Sb:=O tC;have Sa:=O (tD.trans dB);have Yk:=O sa;rw[eE]at k1;rw[d_ gH]at eE tE k1 ⊢;unfold bT at eE k1;have nI:=O eE;have vt:=O k1;clear eE gH dB k1 k2 h hf hi tC sa tD
 obtain⟨i,vz,AB⟩:∃i:Nat,o.aJ.part=(i:Int)/\i<4:=by
  obtain⟨h0,h1⟩:=jT hr;have TJ:0<=o.aJ.part:=h0;have Ir:o.aJ.part<4:=h1;exact⟨o.aJ.part.toNat,ab,ab⟩
 have M4:(i:Int)<4:=ab;have qA:¬(i:Int)<0:=ab;have Ny:¬(4:Int)<=(i:Int):=ab;have KP:(0:Int)<=(i:Int):=ab;have sU:=O AB;have AD:=O vz;obtain⟨r,B_⟩:∃r,r=iP (x.part i) (o.dR hs):=⟨_,rfl⟩;have HR:=O (show ku x (o.dR hs)=(x.set i r.1,r.2)by rw[qo hr vz (by show o.what≠10;omega),B_,ae2 (show(o.dR hs).what=1 from hw)]);rw[hr]at tE
 have HM:=O (show∀U,Fr aS w2 U->aB 30 #[.pointer (some ⟨B,i*3,none⟩),.agg o.cells.toArray] U (eI base U B (iQ pv x.now) (i*3) (pv i) r)from fun U hU=>by
  have h:=Oj base U B (i*3) (iQ pv x.now) (pv i) (x.part i) o hs ((HH.o.dm hU).part i sU.o) ((HH.o.dm hU).partAt sU.o) xe.o (HF.o.dm hU) (HI.o.ok.part i) (HI.o.sm i) a Sb.o.ZQ Yk.o (Sa.o.trans hU);rw[<-B_]at h;exact h)
 rw[d_ lD.o]at HM;have HW:=O hw;clear hr hw B_ AB vz;go_enter func14,ntmps14;go_wp2_with (first|((with_reducible refine di 8 ?_);refine aH rfl 41 (.tmp 3) rfl w.heap.size rfl _ _ (0,0) _ vt.o underlying41 rfl af ?_)|fail)
 rw[<-nI.o];refine tE.o.mono ?_;rintro e u⟨rfl,hu⟩;obtain⟨a0,a1,a2,a3,a4,a5,a6,a7,a8,a9,jI,jJ,a12,jG,jK,jo,jV,jW,jX,ka,a20,a21⟩:=ep (hu.keep mN.o id) lD.o;rw[AD.o]at a1;clear a0 a2 a3 a4 a5 a6 a7 a8 a9 jI jJ a12 jG jK jo jV jW jX ka a20 a21;have qt:=O (show∀n,Fr aS w2 (u.drewN n)from fun n=>dD n hu);clear hu vt;go_wp2_with fail
 go_quiet (fail);clear a1;have mL:=qt.o nq;generalize u.drewN nq=u1 at mL ⊢;have tF:=O mL;clear mL qt;have EX:=O (tF.o.keep mN.o id);rw[d_ lD.o]at EX;obtain⟨a0,a1,a2,a3,a4,a5,a6,a7,a8,a9,jI,jJ,a12,jG,jK,jo,jV,jW,jX,ka,a20,a21⟩:=ep (tF.o.keep mN.o id) lD.o;rw[AD.o]at a1;have xh:=HW.o;rw[xh]at a0;clear xh;clear a1 a2 a3 a4 a5 a6 a7 a8 a9 jI jJ a12 jG jK jo jV jW jX ka a20 a21
 go_wp2_with (first|((with_reducible refine di 24 ?_);refine aH rfl 41 (.tmp 3) rfl w.heap.size rfl _ _ (0,0) _ EX.o underlying41 rfl af ?_)|fail)
 have tG:=tF.o;refine(HM.o _ tG).mono ?_;rintro e u5⟨rfl,hp⟩;unfold kI.val;have LS:=tG.keep qO.o id;have pg:=O (nY (HH.o.dm tG) sU.o hp LS dM ab);have HP:=O (show dn base w B pv (x.set i r.1) u5 from cH f_.o (cH tG (kx (HH.o.dm tG) sU.o hp)));clear hp LS tG HM
 go_wp2_with (first|((with_reducible refine cW 30 ?_);refine aF rfl 30 (.tmp 4) (.tmp 25) rfl (w.heap.size+1) #[.int .i64 r.2.what,.string r.2.head,.int .i64 r.2.cert] rfl rfl _ bT pg.o (bf _ rfl) rfl bW ?_)|fail)
 refine aU (bu bC _ _ (w.heap.size+1) 30 #[.int .i64 r.2.what,.string r.2.head,.int .i64 r.2.cert] (0,0) _ rfl (aY _ (w.heap.size+1) _ _ _ _ pg.o) underlying30 rfl (bf _ rfl)) rfl ?_;unfold jY;rw[HR.o];exact⟨rfl,eA HP.o ph.o o7.o (bV _) pg.o dM ag _⟩
theorem OC(base:Nat)(w:World)(B:Nat)(pv:Nat->cV)(x:dI)(o:jQ)(hs:List ig)(h:cD base w B pv x)(hf:gI w o hs)(hi:lV x)(a:World)(tC:kO a)(sa:a.heap.size<=base)(tD:Fr aS a w)(hr:(o.dR hs).right=true)(hw:o.what=2) :
  aB 14 #[.pointer (some ⟨B,0,none⟩),.agg o.cells.toArray] w (jY base w B pv (ku x (o.dR hs))):=by
 have uM:B<w.heap.size:=h.lt;have oB:=h.low;obtain⟨ah,ch,gH⟩:=hf.gZ;obtain⟨w2,eE⟩:∃w2,w2=(w.alloc (.cells o.cells.toArray 41)).alloc (.cells bT 30):=⟨_,rfl⟩;have dB:Fr aS w w2:=by rw[eE];exact((ae aS w).alloc _).alloc _
 have k1:w2.heap[w.heap.size]?=some (.cells o.cells.toArray 41 (0,0)):=by rw[eE];exact((ae aS _).alloc _).keep (aC _ _) id
 have k2:w2.heap[w.heap.size+1]?=some (.cells bT 30 (0,0)):=by
  have h:=aC (w.alloc (.cells o.cells.toArray 41)) (.cells bT 30);rw[bO]at h;rw[eE];exact h
 have tE:=O (lu o hs w2 (hf.dm dB));have HH:=O (h.dm dB);have HF:=O (hf.dm dB);have lD:=O gH;have HI:=O hi;have f_:=O dB;have mN:=O k1;have qO:=O k2;have ph:=O (show base<=w.heap.size from ab);have xe:=O oB;have o7:=O uM;have Sb:=O tC;have Sa:=O (tD.trans dB);have Yk:=O sa;rw[eE]at k1;rw[d_ gH]at eE tE k1 ⊢;unfold bT at eE k1;have nI:=O eE;have vt:=O k1;clear eE gH dB k1 k2 h hf hi tC sa tD
 obtain⟨i,vz,AB⟩:∃i:Nat,o.aJ.part=(i:Int)/\i<4:=by
  obtain⟨h0,h1⟩:=jT hr;have TJ:0<=o.aJ.part:=h0;have Ir:o.aJ.part<4:=h1;exact⟨o.aJ.part.toNat,ab,ab⟩
 have M4:(i:Int)<4:=ab;have qA:¬(i:Int)<0:=ab;have Ny:¬(4:Int)<=(i:Int):=ab;have KP:(0:Int)<=(i:Int):=ab;have sU:=O AB;have AD:=O vz;obtain⟨r,B_⟩:∃r,r=fM (x.part i) (o.dR hs):=⟨_,rfl⟩;have HR:=O (show ku x (o.dR hs)=(x.set i r.1,r.2)by rw[qo hr vz (by show o.what≠10;omega),B_,ae3 (show(o.dR hs).what=2 from hw)]);rw[hr]at tE
 have HM:=O (show∀U,Fr aS w2 U->aB 31 #[.pointer (some ⟨B,i*3,none⟩),.agg o.cells.toArray] U (eI base U B (iQ pv x.now) (i*3) (pv i) r)from fun U hU=>by
  have h:=L7 base U B (i*3) (iQ pv x.now) (pv i) (x.part i) o hs ((HH.o.dm hU).part i sU.o) ((HH.o.dm hU).partAt sU.o) xe.o (HF.o.dm hU) (HI.o.ok.part i);rw[<-B_]at h;exact h)
 rw[d_ lD.o]at HM;have HW:=O hw;clear hr hw B_ AB vz;go_enter func14,ntmps14;go_wp2_with (first|((with_reducible refine di 8 ?_);refine aH rfl 41 (.tmp 3) rfl w.heap.size rfl _ _ (0,0) _ vt.o underlying41 rfl af ?_)|fail)
 rw[<-nI.o];refine tE.o.mono ?_;rintro e u⟨rfl,hu⟩;obtain⟨a0,a1,a2,a3,a4,a5,a6,a7,a8,a9,jI,jJ,a12,jG,jK,jo,jV,jW,jX,ka,a20,a21⟩:=ep (hu.keep mN.o id) lD.o;rw[AD.o]at a1;clear a0 a2 a3 a4 a5 a6 a7 a8 a9 jI jJ a12 jG jK jo jV jW jX ka a20 a21;have qt:=O (show∀n,Fr aS w2 (u.drewN n)from fun n=>dD n hu);clear hu vt;go_wp2_with fail
 go_quiet (fail);clear a1;have mL:=qt.o nq;generalize u.drewN nq=u1 at mL ⊢;have tF:=O mL;clear mL qt;have EX:=O (tF.o.keep mN.o id);rw[d_ lD.o]at EX;obtain⟨a0,a1,a2,a3,a4,a5,a6,a7,a8,a9,jI,jJ,a12,jG,jK,jo,jV,jW,jX,ka,a20,a21⟩:=ep (tF.o.keep mN.o id) lD.o;rw[AD.o]at a1;have xh:=HW.o;rw[xh]at a0;clear xh;clear a1 a2 a3 a4 a5 a6 a7 a8 a9 jI jJ a12 jG jK jo jV jW jX ka a20 a21
 go_wp2_with (first|((with_reducible refine di 29 ?_);refine aH rfl 41 (.tmp 3) rfl w.heap.size rfl _ _ (0,0) _ EX.o underlying41 rfl af ?_)|fail)
 have tG:=tF.o;refine(HM.o _ tG).mono ?_;rintro e u5⟨rfl,hp⟩;unfold kI.val;have LS:=tG.keep qO.o id;have pg:=O (nY (HH.o.dm tG) sU.o hp LS dM ab);have HP:=O (show dn base w B pv (x.set i r.1) u5 from cH f_.o (cH tG (kx (HH.o.dm tG) sU.o hp)));clear hp LS tG HM
 go_wp2_with (first|((with_reducible refine cW 30 ?_);refine aF rfl 30 (.tmp 4) (.tmp 30) rfl (w.heap.size+1) #[.int .i64 r.2.what,.string r.2.head,.int .i64 r.2.cert] rfl rfl _ bT pg.o (bf _ rfl) rfl bW ?_)|fail)
 refine aU (bu bC _ _ (w.heap.size+1) 30 #[.int .i64 r.2.what,.string r.2.head,.int .i64 r.2.cert] (0,0) _ rfl (aY _ (w.heap.size+1) _ _ _ _ pg.o) underlying30 rfl (bf _ rfl)) rfl ?_;unfold jY;rw[HR.o];exact⟨rfl,eA HP.o ph.o o7.o (bV _) pg.o dM ag _⟩
theorem Mb(base:Nat)(w:World)(B:Nat)(pv:Nat->cV)(x:dI)(o:jQ)(hs:List ig)(h:cD base w B pv x)(hf:gI w o hs)(hi:lV x)(a:World)(tC:kO a)(sa:a.heap.size<=base)(tD:Fr aS a w)(hr:(o.dR hs).right=true)(hw:o.what=3) :
  aB 14 #[.pointer (some ⟨B,0,none⟩),.agg o.cells.toArray] w (jY base w B pv (ku x (o.dR hs))):=by
 have uM:B<w.heap.size:=h.lt;have oB:=h.low;obtain⟨ah,ch,gH⟩:=hf.gZ;obtain⟨w2,eE⟩:∃w2,w2=(w.alloc (.cells o.cells.toArray 41)).alloc (.cells bT 30):=⟨_,rfl⟩;have dB:Fr aS w w2:=by rw[eE];exact((ae aS w).alloc _).alloc _
 have k1:w2.heap[w.heap.size]?=some (.cells o.cells.toArray 41 (0,0)):=by rw[eE];exact((ae aS _).alloc _).keep (aC _ _) id
 have k2:w2.heap[w.heap.size+1]?=some (.cells bT 30 (0,0)):=by
  have h:=aC (w.alloc (.cells o.cells.toArray 41)) (.cells bT 30);rw[bO]at h;rw[eE];exact h
 have tE:=O (lu o hs w2 (hf.dm dB));have HH:=O (h.dm dB);have HF:=O (hf.dm dB);have lD:=O gH;have HI:=O hi;have f_:=O dB;have mN:=O k1;have qO:=O k2;have ph:=O (show base<=w.heap.size from ab);have xe:=O oB;have o7:=O uM;have Sb:=O tC;have Sa:=O (tD.trans dB);have Yk:=O sa;rw[eE]at k1;rw[d_ gH]at eE tE k1 ⊢;unfold bT at eE k1;have nI:=O eE;have vt:=O k1;clear eE gH dB k1 k2 h hf hi tC sa tD
 obtain⟨i,vz,AB⟩:∃i:Nat,o.aJ.part=(i:Int)/\i<4:=by
  obtain⟨h0,h1⟩:=jT hr;have TJ:0<=o.aJ.part:=h0;have Ir:o.aJ.part<4:=h1;exact⟨o.aJ.part.toNat,ab,ab⟩
 have M4:(i:Int)<4:=ab;have qA:¬(i:Int)<0:=ab;have Ny:¬(4:Int)<=(i:Int):=ab;have KP:(0:Int)<=(i:Int):=ab;have sU:=O AB;have AD:=O vz;obtain⟨r,B_⟩:∃r,r=gy (x.part i) (o.dR hs):=⟨_,rfl⟩;have HR:=O (show ku x (o.dR hs)=(x.set i r.1,r.2)by rw[qo hr vz (by show o.what≠10;omega),B_,ae4 (show(o.dR hs).what=3 from hw)]);rw[hr]at tE
 have HM:=O (show∀U,Fr aS w2 U->aB 32 #[.pointer (some ⟨B,i*3,none⟩),.agg o.cells.toArray] U (eI base U B (iQ pv x.now) (i*3) (pv i) r)from fun U hU=>by
  have h:=IX base U B (i*3) (iQ pv x.now) (pv i) (x.part i) o hs ((HH.o.dm hU).part i sU.o) ((HH.o.dm hU).partAt sU.o) xe.o (HF.o.dm hU) (HI.o.ok.part i) (HI.o.path i);rw[<-B_]at h;exact h)
 rw[d_ lD.o]at HM;have HW:=O hw;clear hr hw B_ AB vz;go_enter func14,ntmps14;go_wp2_with (first|((with_reducible refine di 8 ?_);refine aH rfl 41 (.tmp 3) rfl w.heap.size rfl _ _ (0,0) _ vt.o underlying41 rfl af ?_)|fail)
 rw[<-nI.o];refine tE.o.mono ?_;rintro e u⟨rfl,hu⟩;obtain⟨a0,a1,a2,a3,a4,a5,a6,a7,a8,a9,jI,jJ,a12,jG,jK,jo,jV,jW,jX,ka,a20,a21⟩:=ep (hu.keep mN.o id) lD.o;rw[AD.o]at a1;clear a0 a2 a3 a4 a5 a6 a7 a8 a9 jI jJ a12 jG jK jo jV jW jX ka a20 a21;have qt:=O (show∀n,Fr aS w2 (u.drewN n)from fun n=>dD n hu);clear hu vt;go_wp2_with fail
 go_quiet (fail);clear a1;have mL:=qt.o nq;generalize u.drewN nq=u1 at mL ⊢;have tF:=O mL;clear mL qt;have EX:=O (tF.o.keep mN.o id);rw[d_ lD.o]at EX;obtain⟨a0,a1,a2,a3,a4,a5,a6,a7,a8,a9,jI,jJ,a12,jG,jK,jo,jV,jW,jX,ka,a20,a21⟩:=ep (tF.o.keep mN.o id) lD.o;rw[AD.o]at a1;have xh:=HW.o;rw[xh]at a0;clear xh;clear a1 a2 a3 a4 a5 a6 a7 a8 a9 jI jJ a12 jG jK jo jV jW jX ka a20 a21
 go_wp2_with (first|((with_reducible refine di 34 ?_);refine aH rfl 41 (.tmp 3) rfl w.heap.size rfl _ _ (0,0) _ EX.o underlying41 rfl af ?_)|fail)
 have tG:=tF.o;refine(HM.o _ tG).mono ?_;rintro e u5⟨rfl,hp⟩;unfold kI.val;have LS:=tG.keep qO.o id;have pg:=O (nY (HH.o.dm tG) sU.o hp LS dM ab);have HP:=O (show dn base w B pv (x.set i r.1) u5 from cH f_.o (cH tG (kx (HH.o.dm tG) sU.o hp)));clear hp LS tG HM
 go_wp2_with (first|((with_reducible refine cW 30 ?_);refine aF rfl 30 (.tmp 4) (.tmp 35) rfl (w.heap.size+1) #[.int .i64 r.2.what,.string r.2.head,.int .i64 r.2.cert] rfl rfl _ bT pg.o (bf _ rfl) rfl bW ?_)|fail)
 refine aU (bu bC _ _ (w.heap.size+1) 30 #[.int .i64 r.2.what,.string r.2.head,.int .i64 r.2.cert] (0,0) _ rfl (aY _ (w.heap.size+1) _ _ _ _ pg.o) underlying30 rfl (bf _ rfl)) rfl ?_;unfold jY;rw[HR.o];exact⟨rfl,eA HP.o ph.o o7.o (bV _) pg.o dM ag _⟩
theorem WN(base:Nat)(w:World)(B:Nat)(pv:Nat->cV)(x:dI)(o:jQ)(hs:List ig)(h:cD base w B pv x)(hf:gI w o hs)(hi:lV x)(a:World)(tC:kO a)(sa:a.heap.size<=base)(tD:Fr aS a w)(hr:(o.dR hs).right=true)(hw:o.what=4) :
  aB 14 #[.pointer (some ⟨B,0,none⟩),.agg o.cells.toArray] w (jY base w B pv (ku x (o.dR hs))):=by
 have uM:B<w.heap.size:=h.lt;have oB:=h.low;obtain⟨ah,ch,gH⟩:=hf.gZ;obtain⟨w2,eE⟩:∃w2,w2=(w.alloc (.cells o.cells.toArray 41)).alloc (.cells bT 30):=⟨_,rfl⟩;have dB:Fr aS w w2:=by rw[eE];exact((ae aS w).alloc _).alloc _
 have k1:w2.heap[w.heap.size]?=some (.cells o.cells.toArray 41 (0,0)):=by rw[eE];exact((ae aS _).alloc _).keep (aC _ _) id
 have k2:w2.heap[w.heap.size+1]?=some (.cells bT 30 (0,0)):=by
  have h:=aC (w.alloc (.cells o.cells.toArray 41)) (.cells bT 30);rw[bO]at h;rw[eE];exact h
 have tE:=O (lu o hs w2 (hf.dm dB));have HH:=O (h.dm dB);have HF:=O (hf.dm dB);have lD:=O gH;have HI:=O hi;have f_:=O dB;have mN:=O k1;have qO:=O k2;have ph:=O (show base<=w.heap.size from ab);have xe:=O oB;have o7:=O uM;have Sb:=O tC;have Sa:=O (tD.trans dB);have Yk:=O sa;rw[eE]at k1;rw[d_ gH]at eE tE k1 ⊢;unfold bT at eE k1;have nI:=O eE;have vt:=O k1;clear eE gH dB k1 k2 h hf hi tC sa tD
 obtain⟨i,vz,AB⟩:∃i:Nat,o.aJ.part=(i:Int)/\i<4:=by
  obtain⟨h0,h1⟩:=jT hr;have TJ:0<=o.aJ.part:=h0;have Ir:o.aJ.part<4:=h1;exact⟨o.aJ.part.toNat,ab,ab⟩
 have M4:(i:Int)<4:=ab;have qA:¬(i:Int)<0:=ab;have Ny:¬(4:Int)<=(i:Int):=ab;have KP:(0:Int)<=(i:Int):=ab;have sU:=O AB;have AD:=O vz;have JE:=O (show ku x (o.dR hs)=(x,rep (if mF (x.part i).book (o.aJ.dR hs) x.now then 5 else 4))by
  rw[qo hr vz (by show o.what≠10;omega),ae5 (show(o.dR hs).what=4 from hw),oW];rfl)
 rw[hr]at tE
 have xg:=O (show∀U,Fr aS w2 U->aB 33 #[.pointer (some ⟨(pv i).k,0,none⟩),.agg #[.int .i64 (i:Int),.bool o.aJ.cX.aE,.string o.aJ.cX.host,.int .i64 o.aJ.cX.port,.bool o.aJ.o.aE,.string o.aJ.o.host,.int .i64 o.aJ.o.port,.string o.aJ.path,.string o.aJ.query,.string o.aJ.method,.slice ah hs.length ch,.bool o.aJ.fN,.string o.aJ.body],.int .i64 x.now] U fun e w'=>e=.returned (.bool (mF (x.part i).book (o.aJ.dR hs) x.now))/\Fr aS U w' from fun U hU=>by
  have h:=LZ base U (pv i).k (pv i).kv (x.part i).book o.aJ hs x.now ((HH.o.dm hU).part i sU.o).book (iL (HI.o.ok.part i).tP.2.2.1 ag) (HF.o.dm hU).ey HF.o.aJ;rw[zW lD.o,AD.o]at h;exact h)
 have HC:=O (show∀U,Fr aS w2 U->(U.cell? ⟨B,i*3+1,none⟩=some (.pointer (some ⟨(pv i).k,0,none⟩))/\U.cell? ⟨B,12,none⟩=some (.int .i64 x.now)/\U.cell? ⟨w.heap.size,1,none⟩=some (.int .i64 (i:Int))/\U.cell? ⟨w.heap.size,2,none⟩=some (.bool o.aJ.cX.aE)/\U.cell? ⟨w.heap.size,3,none⟩=some (.string o.aJ.cX.host)/\U.cell? ⟨w.heap.size,4,none⟩=some (.int .i64 o.aJ.cX.port)/\U.cell? ⟨w.heap.size,5,none⟩=some (.bool o.aJ.o.aE)/\U.cell? ⟨w.heap.size,6,none⟩=some (.string o.aJ.o.host)/\U.cell? ⟨w.heap.size,7,none⟩=some (.int .i64 o.aJ.o.port)/\U.cell? ⟨w.heap.size,8,none⟩=some (.string o.aJ.path)/\U.cell? ⟨w.heap.size,9,none⟩=some (.string o.aJ.query)/\U.cell? ⟨w.heap.size,10,none⟩=some (.string o.aJ.method)/\U.cell? ⟨w.heap.size,11,none⟩=some (.slice ah hs.length ch)/\U.cell? ⟨w.heap.size,12,none⟩=some (.bool o.aJ.fN)/\U.cell? ⟨w.heap.size,13,none⟩=some (.string o.aJ.body))from fun U hU=>by
  have j1:=(HH.o.dm hU).partAt sU.o;have j2:=(HH.o.dm hU).eL;obtain⟨a0,a1,a2,a3,a4,a5,a6,a7,a8,a9,jI,jJ,a12,jG,jK,jo,jV,jW,jX,ka,a20,a21⟩:=ep (hU.keep mN.o id) lD.o;rw[AD.o]at a1;exact⟨j1.h_,by simp only[World.cell?,j2];rfl,a1,a2,a3,a4,a5,a6,a7,a8,a9,jI,jJ,a12,jG⟩)
 have HW:=O hw;clear hr hw AB vz;go_enter func14,ntmps14;go_wp2_with (first|((with_reducible refine di 8 ?_);refine aH rfl 41 (.tmp 3) rfl w.heap.size rfl _ _ (0,0) _ vt.o underlying41 rfl af ?_)|fail)
 rw[<-nI.o];refine tE.o.mono ?_;rintro e u⟨rfl,hu⟩;obtain⟨a0,a1,a2,a3,a4,a5,a6,a7,a8,a9,jI,jJ,a12,jG,jK,jo,jV,jW,jX,ka,a20,a21⟩:=ep (hu.keep mN.o id) lD.o;rw[AD.o]at a1;clear a0 a2 a3 a4 a5 a6 a7 a8 a9 jI jJ a12 jG jK jo jV jW jX ka a20 a21;have qt:=O (show∀n,Fr aS w2 (u.drewN n)from fun n=>dD n hu);clear hu vt;go_wp2_with fail
 go_quiet (fail);clear a1;have mL:=qt.o nq;generalize u.drewN nq=u1 at mL ⊢;have tF:=O mL;clear mL qt;have EX:=O (tF.o.keep mN.o id);rw[d_ lD.o]at EX;obtain⟨a0,a1,a2,a3,a4,a5,a6,a7,a8,a9,jI,jJ,a12,jG,jK,jo,jV,jW,jX,ka,a20,a21⟩:=ep (tF.o.keep mN.o id) lD.o;rw[AD.o]at a1;have xh:=HW.o;rw[xh]at a0;clear xh;clear a1 a2 a3 a4 a5 a6 a7 a8 a9 jI jJ a12 jG jK jo jV jW jX ka a20 a21
 cases hb:mF (x.part i).book (o.aJ.dR hs) x.now
 ·skip
  have HR:=O (JE.o.trans (by rw[hb];rfl:_=(x,rep 4)));rw[hb]at xg;clear hb JE;go_wp2_with fail
  go_region_held3 (fun U=>Fr aS w2 U/\U.cell? ⟨B,i*3+1,none⟩=some (.pointer (some ⟨(pv i).k,0,none⟩))/\U.cell? ⟨B,12,none⟩=some (.int .i64 x.now)/\U.cell? ⟨w.heap.size,1,none⟩=some (.int .i64 (i:Int))/\U.cell? ⟨w.heap.size,2,none⟩=some (.bool o.aJ.cX.aE)/\U.cell? ⟨w.heap.size,3,none⟩=some (.string o.aJ.cX.host)/\U.cell? ⟨w.heap.size,4,none⟩=some (.int .i64 o.aJ.cX.port)/\U.cell? ⟨w.heap.size,5,none⟩=some (.bool o.aJ.o.aE)/\U.cell? ⟨w.heap.size,6,none⟩=some (.string o.aJ.o.host)/\U.cell? ⟨w.heap.size,7,none⟩=some (.int .i64 o.aJ.o.port)/\U.cell? ⟨w.heap.size,8,none⟩=some (.string o.aJ.path)/\U.cell? ⟨w.heap.size,9,none⟩=some (.string o.aJ.query)/\U.cell? ⟨w.heap.size,10,none⟩=some (.string o.aJ.method)/\U.cell? ⟨w.heap.size,11,none⟩=some (.slice ah hs.length ch)/\U.cell? ⟨w.heap.size,12,none⟩=some (.bool o.aJ.fN)/\U.cell? ⟨w.heap.size,13,none⟩=some (.string o.aJ.body)) ((refine(fun hU=>⟨hU,HC.o _ hU⟩) ?_;first|exact aA tF.o|assumption))
   ((first
    |(go_at_call 33;refine(xg.o _ (aA tF.o)).mono ?_;rintro e u5 ⟨rfl,lQ⟩;have ud:Fr aS w2 u5:=(aA tF.o).trans lQ)))
  have HP:=O (show dn base w B pv x u5 from cH f_.o (fA HH.o ud));have pg:=O (ud.keep qO.o id);clear lQ ud HC xg;go_wp2_with (first|((with_reducible refine cW 30 ?_);refine aF rfl 30 (.tmp 4) (.tmp 50) rfl (w.heap.size+1) #[.int .i64 4,.string ⟨#[]⟩,.int .i64 0] rfl rfl _ bT pg.o (bf _ rfl) rfl bW ?_)|fail)
  refine aU (bu bC _ _ (w.heap.size+1) 30 #[.int .i64 4,.string ⟨#[]⟩,.int .i64 0] (0,0) _ rfl (aY _ (w.heap.size+1) _ _ _ _ pg.o) underlying30 rfl (bf _ rfl)) rfl ?_;unfold jY;rw[HR.o];exact⟨rfl,eA HP.o ph.o o7.o (bV _) pg.o dM ag _⟩
 ·skip
  have HR:=O (JE.o.trans (by rw[hb];rfl:_=(x,rep 5)));rw[hb]at xg;clear hb JE;go_wp2_with fail
  go_region_held3 (fun U=>Fr aS w2 U/\U.cell? ⟨B,i*3+1,none⟩=some (.pointer (some ⟨(pv i).k,0,none⟩))/\U.cell? ⟨B,12,none⟩=some (.int .i64 x.now)/\U.cell? ⟨w.heap.size,1,none⟩=some (.int .i64 (i:Int))/\U.cell? ⟨w.heap.size,2,none⟩=some (.bool o.aJ.cX.aE)/\U.cell? ⟨w.heap.size,3,none⟩=some (.string o.aJ.cX.host)/\U.cell? ⟨w.heap.size,4,none⟩=some (.int .i64 o.aJ.cX.port)/\U.cell? ⟨w.heap.size,5,none⟩=some (.bool o.aJ.o.aE)/\U.cell? ⟨w.heap.size,6,none⟩=some (.string o.aJ.o.host)/\U.cell? ⟨w.heap.size,7,none⟩=some (.int .i64 o.aJ.o.port)/\U.cell? ⟨w.heap.size,8,none⟩=some (.string o.aJ.path)/\U.cell? ⟨w.heap.size,9,none⟩=some (.string o.aJ.query)/\U.cell? ⟨w.heap.size,10,none⟩=some (.string o.aJ.method)/\U.cell? ⟨w.heap.size,11,none⟩=some (.slice ah hs.length ch)/\U.cell? ⟨w.heap.size,12,none⟩=some (.bool o.aJ.fN)/\U.cell? ⟨w.heap.size,13,none⟩=some (.string o.aJ.body)) ((refine(fun hU=>⟨hU,HC.o _ hU⟩) ?_;first|exact aA tF.o|assumption))
   ((first
    |(go_at_call 33;refine(xg.o _ (aA tF.o)).mono ?_;rintro e u5 ⟨rfl,lQ⟩;have ud:Fr aS w2 u5:=(aA tF.o).trans lQ)))
  have HP:=O (show dn base w B pv x u5 from cH f_.o (fA HH.o ud));have pg:=O (ud.keep qO.o id);clear lQ ud HC xg;go_wp2_with (first|((with_reducible refine cW 30 ?_);refine aF rfl 30 (.tmp 4) (.tmp 49) rfl (w.heap.size+1) #[.int .i64 5,.string ⟨#[]⟩,.int .i64 0] rfl rfl _ bT pg.o (bf _ rfl) rfl bW ?_)|fail)
  refine aU (bu bC _ _ (w.heap.size+1) 30 #[.int .i64 5,.string ⟨#[]⟩,.int .i64 0] (0,0) _ rfl (aY _ (w.heap.size+1) _ _ _ _ pg.o) underlying30 rfl (bf _ rfl)) rfl ?_;unfold jY;rw[HR.o];exact⟨rfl,eA HP.o ph.o o7.o (bV _) pg.o dM ag _⟩
theorem Ss{t:TypeId}(h:w.heap[b]?=some (.cells cs.toArray t (0,0))):w.rangeAt b 0 cs:=fun j v hv=>by
 simp only[World.cell?,h];simpa using hv
theorem OD(base:Nat)(w:World)(B:Nat)(pv:Nat->cV)(x:dI)(o:jQ)(hs:List ig)(h:cD base w B pv x)(hf:gI w o hs)(hi:lV x)(a:World)(tC:kO a)(sa:a.heap.size<=base)(tD:Fr aS a w)(hr:(o.dR hs).right=true)(hw:o.what=5) :
  aB 14 #[.pointer (some ⟨B,0,none⟩),.agg o.cells.toArray] w (jY base w B pv (ku x (o.dR hs))):=by
 have uM:B<w.heap.size:=h.lt;have oB:=h.low;obtain⟨ah,ch,gH⟩:=hf.gZ;obtain⟨w2,eE⟩:∃w2,w2=(w.alloc (.cells o.cells.toArray 41)).alloc (.cells bT 30):=⟨_,rfl⟩;have dB:Fr aS w w2:=by rw[eE];exact((ae aS w).alloc _).alloc _
 have k1:w2.heap[w.heap.size]?=some (.cells o.cells.toArray 41 (0,0)):=by rw[eE];exact((ae aS _).alloc _).keep (aC _ _) id
 have k2:w2.heap[w.heap.size+1]?=some (.cells bT 30 (0,0)):=by
  have h:=aC (w.alloc (.cells o.cells.toArray 41)) (.cells bT 30);rw[bO]at h;rw[eE];exact h
 have tE:=O (lu o hs w2 (hf.dm dB));have HH:=O (h.dm dB);have HF:=O (hf.dm dB);have lD:=O gH;have HI:=O hi;have f_:=O dB;have mN:=O k1;have qO:=O k2;have ph:=O (show base<=w.heap.size from ab);have xe:=O oB;have o7:=O uM;have Sb:=O tC;have Sa:=O (tD.trans dB);have Yk:=O sa;rw[eE]at k1;rw[d_ gH]at eE tE k1 ⊢;unfold bT at eE k1;have nI:=O eE;have vt:=O k1;clear eE gH dB k1 k2 h hf hi tC sa tD
 obtain⟨i,vz,AB⟩:∃i:Nat,o.aJ.part=(i:Int)/\i<4:=by
  obtain⟨h0,h1⟩:=jT hr;have TJ:0<=o.aJ.part:=h0;have Ir:o.aJ.part<4:=h1;exact⟨o.aJ.part.toNat,ab,ab⟩
 have M4:(i:Int)<4:=ab;have qA:¬(i:Int)<0:=ab;have Ny:¬(4:Int)<=(i:Int):=ab;have KP:(0:Int)<=(i:Int):=ab;have sU:=O AB;have AD:=O vz;obtain⟨r,B_⟩:∃r,r=gY (x.part i) x.now (o.dR hs):=⟨_,rfl⟩;have HR:=O (show ku x (o.dR hs)=(x.set i r.1,r.2)by rw[qo hr vz (by show o.what≠10;omega),B_,ae6 (show(o.dR hs).what=5 from hw)]);rw[hr]at tE
 have HM:=O (show∀U,Fr aS w2 U->aB 34 #[.pointer (some ⟨B,i*3,none⟩),.agg o.cells.toArray,.int .i64 x.now] U (eI base U B (iQ pv x.now) (i*3) (pv i) r)from fun U hU=>by
  have h:=L0 base U B (i*3) (iQ pv x.now) (pv i) (x.part i) o hs x.now ((HH.o.dm hU).part i sU.o) ((HH.o.dm hU).partAt sU.o) xe.o (HF.o.dm hU) (HI.o.ok.part i) (Sb.o.pw.fr (Sa.o.trans hU)) HI.o.ok.now.1 HI.o.ok.now.2;rw[<-B_]at h;exact h)
 rw[d_ lD.o]at HM
 have HC:=O (show∀U,Fr aS w2 U->(U.heap[w.heap.size]?=some (.cells #[.int .i64 o.what,.int .i64 o.aJ.part,.bool o.aJ.cX.aE,.string o.aJ.cX.host,.int .i64 o.aJ.cX.port,.bool o.aJ.o.aE,.string o.aJ.o.host,.int .i64 o.aJ.o.port,.string o.aJ.path,.string o.aJ.query,.string o.aJ.method,.slice ah hs.length ch,.bool o.aJ.fN,.string o.aJ.body,.bool o.proxy,.string o.text,.string o.user,.string o.pass,.string o.bL,.int .i64 o.cert,.bool o.all,.int .i64 o.n] 41 (0,0))/\U.cell? ⟨B,12,none⟩=some (.int .i64 x.now))from fun U hU=>by
  have j2:=(HH.o.dm hU).eL;exact⟨by rw[<-d_ lD.o];exact hU.keep mN.o id,by simp only[World.cell?,j2];rfl⟩)
 have HW:=O hw;clear hr hw B_ AB vz;go_enter func14,ntmps14;go_wp2_with (first|((with_reducible refine di 8 ?_);refine aH rfl 41 (.tmp 3) rfl w.heap.size rfl _ _ (0,0) _ vt.o underlying41 rfl af ?_)|fail)
 rw[<-nI.o];refine tE.o.mono ?_;rintro e u⟨rfl,hu⟩;obtain⟨a0,a1,a2,a3,a4,a5,a6,a7,a8,a9,jI,jJ,a12,jG,jK,jo,jV,jW,jX,ka,a20,a21⟩:=ep (hu.keep mN.o id) lD.o;rw[AD.o]at a1;clear a0 a2 a3 a4 a5 a6 a7 a8 a9 jI jJ a12 jG jK jo jV jW jX ka a20 a21;have qt:=O (show∀n,Fr aS w2 (u.drewN n)from fun n=>dD n hu);clear hu vt;go_wp2_with fail
 go_quiet (fail);clear a1;have mL:=qt.o nq;generalize u.drewN nq=u1 at mL ⊢;have tF:=O mL;clear mL qt;have EX:=O (tF.o.keep mN.o id);rw[d_ lD.o]at EX;obtain⟨a0,a1,a2,a3,a4,a5,a6,a7,a8,a9,jI,jJ,a12,jG,jK,jo,jV,jW,jX,ka,a20,a21⟩:=ep (tF.o.keep mN.o id) lD.o;rw[AD.o]at a1;have xh:=HW.o;rw[xh]at a0;clear xh;clear a1 a2 a3 a4 a5 a6 a7 a8 a9 jI jJ a12 jG jK jo jV jW jX ka a20 a21;go_wp2_with fail
 refine wp_region_held_drew (S:=(fun U=>U.heap[w.heap.size]?=some (.cells #[.int .i64 o.what,.int .i64 o.aJ.part,.bool o.aJ.cX.aE,.string o.aJ.cX.host,.int .i64 o.aJ.cX.port,.bool o.aJ.o.aE,.string o.aJ.o.host,.int .i64 o.aJ.o.port,.string o.aJ.path,.string o.aJ.query,.string o.aJ.method,.slice ah hs.length ch,.bool o.aJ.fN,.string o.aJ.body,.bool o.proxy,.string o.text,.string o.user,.string o.pass,.string o.bL,.int .i64 o.cert,.bool o.all,.int .i64 o.n] 41 (0,0))/\U.cell? ⟨B,12,none⟩=some (.int .i64 x.now))) af (HC.o _ (aA tF.o)) ?_
 intro Az;refine aW 0 53 rfl ?_
 refine wF 1 54 rfl (gW bC 41 (.tmp 3) rfl w.heap.size 0 rfl [.int .i64 o.what,.int .i64 o.aJ.part,.bool o.aJ.cX.aE,.string o.aJ.cX.host,.int .i64 o.aJ.cX.port,.bool o.aJ.o.aE,.string o.aJ.o.host,.int .i64 o.aJ.o.port,.string o.aJ.path,.string o.aJ.query,.string o.aJ.method,.slice ah hs.length ch,.bool o.aJ.fN,.string o.aJ.body,.bool o.proxy,.string o.text,.string o.user,.string o.pass,.string o.bL,.int .i64 o.cert,.bool o.all,.int .i64 o.n] _ (fun U hU=>Ss hU.1) underlying41 rfl af) ?_
 try simp only[Act.put,sA,sB,sC]
 refine aW 2 55 rfl ?_;refine aW 3 56 rfl ?_;refine aW 4 57 rfl ?_;refine aW 5 58 rfl ?_;refine eT 6 rfl fun K hK=>?_;go_simp;have tG:=aA tF.o;refine(HM.o _ tG).mono ?_;rintro e u5⟨rfl,hp⟩;unfold kI.val;have LS:=tG.keep qO.o id;have pg:=O (nY (HH.o.dm tG) sU.o hp LS dM ab);have hko:=nY (HH.o.dm tG) sU.o hp (HC.o _ tG).1 jl ab
 have HP:=O (show dn base w B pv (x.set i r.1) u5 from cH f_.o (cH tG (kx (HH.o.dm tG) sU.o hp)));have aav:u5.cell? ⟨B,12,none⟩=some (.int .i64 x.now):=by
  obtain⟨v',_,_,_,h4⟩:=hp;rw[yt pv x.now sU.o]at h4;simp only[World.cell?,h4];rfl
 have HS5:=O (And.intro hko aav);have HB5:=O (show B<u5.heap.size by obtain⟨v',_,_,_,h4⟩:=hp;exact bj h4);clear hp LS tG HM hko aav;refine hK.out _ _ HS5.o ?_;intro yu;clear hK Az K
 try simp only[Act.put,sA,sB,sC]
 refine eT 7 rfl fun K hK=>?_;refine jU rfl 30 (.tmp 4) (.tmp 59) rfl (w.heap.size+1) #[.int .i64 r.2.what,.string r.2.head,.int .i64 r.2.cert] rfl rfl 30 bT pg.o (bf _ rfl) rfl bW ?_;have cL:=(ae (one (w.heap.size+1)) u5).setRow (fun _=>rfl) #[.int .i64 r.2.what,.string r.2.head,.int .i64 r.2.cert]
 refine hK.out _ _ ⟨cL.keep HS5.o.1 (fun e=>by have e':w.heap.size=w.heap.size+1:=e;omega),(cL.cell (p:=⟨B,12,none⟩) HB5.o (fun e=>by have e':B=w.heap.size+1:=e;have:=o7.o;omega)).trans HS5.o.2⟩ ?_;intro B7;clear hK yu K B7 cL
 try simp only[Act.put,sA,sB,sC]
 refine wpAnyH_done af ?_ _;go_wp2_with fail
 refine aU (bu bC _ _ (w.heap.size+1) 30 #[.int .i64 r.2.what,.string r.2.head,.int .i64 r.2.cert] (0,0) _ rfl (aY _ (w.heap.size+1) _ _ _ _ pg.o) underlying30 rfl (bf _ rfl)) rfl ?_;unfold jY;rw[HR.o];exact⟨rfl,eA HP.o ph.o o7.o (bV _) pg.o dM ag _⟩
