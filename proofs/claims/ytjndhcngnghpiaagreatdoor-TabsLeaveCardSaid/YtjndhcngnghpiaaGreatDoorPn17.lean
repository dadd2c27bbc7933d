/- Lemmas for the law's walk. -/
import Derived.Test.YtjndhcngnghpiaaGreatDoorPn25
import Derived.Test.YtjndhcngnghpiaaGreatDoorPn24
import Derived.Test.YtjndhcngnghpiaaGreatDoorPn26
set_option maxRecDepth 100000
set_option maxHeartbeats 16000000
set_option linter.unusedSimpArgs false
namespace Go.Proofs.YtjndhcngnghpiaaGreatDoor
open Go.Proofs.Tryz
open Go.RowKit
variable {w U w':World} {p:Addr} {u v:Value} {base xD B B' i b o n T k j:Nat} {pv yA:Nat->cU} {x y:dN} {S:dB} {cs:aX} {t:im} {c:bS}
theorem fa(h:w.cell? p=some u)(hf:Fr aS w U):U.cell? p=some u:=by
 unfold World.cell? at h ⊢;cases hb:w.heap[p.block]? with
 |none=>rw[hb]at h;cases h
 |some o=>rw[hb]at h;rw[hf.keep hb id];exact h
def Xa(w:World)(n:Nat)(i:Value)(wr:World):Prop:=∃k:Nat,k<=n/\i=.int .i64 k/\Fr aS w wr
theorem Ag(a:gq)(w:World):(binOp .neq 24 (.agg #[.bool a.aE,.string a.host,.int .i64 a.port]) (.agg #[.bool a.aE,.string a.host,.int .i64 a.port])).run prog w=.ok (.bool false) w:=by
 go_simp
theorem I7(h:cE base w B pv x)(h':cE xD w B' yA y)(Cn:xu x)(i:Nat)(h4:i<4)(hxy:y.part i=x.part i) :
  aB 34 #[.pointer (some ⟨B,0,none⟩),.pointer (some ⟨B',0,none⟩),.int .i64 i] w fun e w'=>e=.returned (.bool true)/\Fr aS w w':=by
 obtain⟨l1,l2,l3,l4⟩:=(Cn.part i).qZ;have Ho:=O (Er base w B pv x h i h4 ab);have nD:=O (fun U (hU:Fr aS w U)=>Er xD U B' yA y (h'.di hU) i h4 (by rw[hxy];omega));have Qc:=O (fun U (hU:Fr aS w U)=>Es base U B pv x (h.di hU) i h4 ab);have wJ:=O (fun U (hU:Fr aS w U)=>Es xD U B' yA y (h'.di hU) i h4 (by rw[hxy];omega));have RY:=O (fun U (hU:Fr aS w U)=>wk base U B pv x (h.di hU) i h4 ab)
 have Te:=O (fun U (hU:Fr aS w U)=>wk xD U B' yA y (h'.di hU) i h4 (by rw[hxy];omega));have HP1:=O (fun U (hU:Fr aS w U)=>BN base U B pv x (h.di hU) i h4 ab);have HP2:=O (fun U (hU:Fr aS w U)=>BN xD U B' yA y (h'.di hU) i h4 (by rw[hxy];omega));rw[hxy]at nD wJ Te HP2;obtain⟨gs,hgs⟩:∃gs,gs=(x.part i).bU:=⟨_,rfl⟩;obtain⟨ws,yf⟩:∃ws,ws=(x.part i).waits:=⟨_,rfl⟩
 obtain⟨ps,hps⟩:∃ps,ps=(x.part i).book:=⟨_,rfl⟩;obtain⟨cs,hcs⟩:∃cs,cs=(x.part i).eB:=⟨_,rfl⟩;rw[<-yf]at Ho nD l2;rw[<-hcs]at Qc wJ l4;rw[<-hgs]at RY Te;rw[<-hps]at HP1 HP2;have HL2:=O l2;have HL4:=O l4;have HE:=O (fun g:bI bE=>Ag g.o);clear h h' Cn h4 hxy l1 l2 l3 l4 hgs yf hps hcs;go_enter func34,ntmps34;go_wp2_with fail
 refine Ho.o.mono ?_;rintro e u1⟨v1,rfl,⟨EE,_⟩,tY⟩;have HV1:=O EE;have Ii:=O tY;clear EE tY Ho;go_wp2_with fail
 refine(nD.o _ Ii.o).mono ?_;rintro e u2⟨v2,rfl,⟨hv2,_⟩,nj⟩;have ZL:=O hv2;have tu:=O (Ii.o.trans nj);have akq:=O (HV1.o.fr nj (fC _ _) (fun _ _ h=>h));clear hv2 nj nD HV1;go_wp2_with fail
 refine(Qc.o _ tu.o).mono ?_;rintro e u3⟨v3,rfl,Bk,zu⟩;have Tk:=O Bk.at;have XG:=O (tu.o.trans zu);have HV1:=O (akq.o.fr zu (fC _ _) (fun _ _ h=>h));have afo:=O (ZL.o.fr zu (fC _ _) (fun _ _ h=>h));clear Bk zu Qc ZL akq;go_wp2_with fail
 refine(wJ.o _ XG.o).mono ?_;rintro e u4⟨v4,rfl,O5,Cr⟩;obtain⟨a1,c1,f1⟩:=(HV1.o.fr Cr (fC _ _) (fun _ _ h=>h)).form;obtain⟨a2,c2,f2⟩:=(afo.o.fr Cr (fC _ _) (fun _ _ h=>h)).form;obtain⟨a3,c3,f3⟩:=(bh Tk.o Cr).form;obtain⟨a4,c4,f4⟩:=O5.at.form;rw[ai]at f3 f4;subst f1 f2 f3 f4;have Mu:=O (HV1.o.fr Cr (fC _ _) (fun _ _ h=>h));have PZ:=O (afo.o.fr Cr (fC _ _) (fun _ _ h=>h));have Tl:=O (bh Tk.o Cr)
 have HX4:=O O5.at;have HU4:=O (XG.o.trans Cr);clear O5 Cr wJ HV1 afo Tk;go_wp2_with fail
 go_loopw[11] (Xa u4 ws.length) (fun i _=>ws.length-(intOf i).toNat)
 case atStart=>exact⟨0,aQ _,rfl,ae _ _⟩
 case round =>
  obtain⟨k,hk,rfl,cL⟩:=hrel;have h8:=HL2.o;by_cases fk:k<ws.length
  ·have o_:(k:Int)<(ws.length:Int):=ab;have NP:(0:Int)<=(k:Int):=ab;obtain⟨ba,ca,e1,m1,r1,o1,q1,g1⟩:=(Mu.o.fr cL (fC _ _) (fun _ _ h=>h)).at fk;obtain⟨bb,cb,e2,m2,r2,o2,q2,g2⟩:=(PZ.o.fr cL (fC _ _) (fun _ _ h=>h)).at fk;cases e1;cases e2;unfold maxLen at m1 m2;generalize ws[k]=g at q1 q2;have QA1:=O q1.2.2.2;have QA2:=O q2.2.2.2;obtain⟨p1,p2,p3,d1,d2,d3,d4,d5,d6,d7,d8⟩:=q1
   obtain⟨p1',p2',p3',d1',d2',d3',d4',d5',d6',d7',d8'⟩:=q2;obtain⟨ad,cd,yJ⟩:=d8.rd.form;obtain⟨SF,SH,su⟩:=d8'.rd.form
   have x1:r1.cells=[.bool g.o.aE,.string g.o.host,.int .i64 g.o.port,.bool g.proxy,.string g.path,.int .i64 g.a.scheme,.string g.a.aK,.string g.a.bq,.string g.a.cy,.bool g.a.cA,.string g.a.eF,.bool g.a.cN,.slice ad g.a.dom.length cd]:=by unfold bI.cells;rw[p1,p2,p3,d1,d2,d3,d4,d5,d6,d7,yJ]
   have x2:r2.cells=[.bool g.o.aE,.string g.o.host,.int .i64 g.o.port,.bool g.proxy,.string g.path,.int .i64 g.a.scheme,.string g.a.aK,.string g.a.bq,.string g.a.cy,.bool g.a.cA,.string g.a.eF,.bool g.a.cN,.slice SF g.a.dom.length SH]:=by unfold bI.cells;rw[p1',p2',p3',d1',d2',d3',d4',d5',d6',d7',su]
   have y1:r1.a.cells=[.int .i64 g.a.scheme,.string g.a.aK,.string g.a.bq,.string g.a.cy,.bool g.a.cA,.string g.a.eF,.bool g.a.cN,.slice ad g.a.dom.length cd]:=by unfold fI.cells;rw[d1,d2,d3,d4,d5,d6,d7,yJ]
   have y2:r2.a.cells=[.int .i64 g.a.scheme,.string g.a.aK,.string g.a.bq,.string g.a.cy,.bool g.a.cA,.string g.a.eF,.bool g.a.cN,.slice SF g.a.dom.length SH]:=by unfold fI.cells;rw[d1',d2',d3',d4',d5',d6',d7',su]
   have hlen:g.a.dom.length<=9223372036854775807:=by have:=d8.qZ;omega
   rw[x1]at g1;rw[x2]at g2
   have HS:=O (show∀U,Fr aS wr U->(U.cell? ⟨ba,k*13,none⟩=some (.bool g.o.aE)/\U.cell? ⟨ba,k*13+1,none⟩=some (.string g.o.host)/\U.cell? ⟨ba,k*13+2,none⟩=some (.int .i64 g.o.port)/\U.cell? ⟨ba,k*13+3,none⟩=some (.bool g.proxy)/\U.cell? ⟨ba,k*13+4,none⟩=some (.string g.path)/\U.cell? ⟨ba,k*13+5,none⟩=some (.int .i64 g.a.scheme)/\U.cell? ⟨ba,k*13+6,none⟩=some (.string g.a.aK)/\U.cell? ⟨ba,k*13+7,none⟩=some (.string g.a.bq)/\U.cell? ⟨ba,k*13+8,none⟩=some (.string g.a.cy)/\U.cell? ⟨ba,k*13+9,none⟩=some (.bool g.a.cA)/\U.cell? ⟨ba,k*13+10,none⟩=some (.string g.a.eF)/\U.cell? ⟨ba,k*13+11,none⟩=some (.bool g.a.cN)/\U.cell? ⟨ba,k*13+12,none⟩=some (.slice ad g.a.dom.length cd)/\U.cell? ⟨bb,k*13,none⟩=some (.bool g.o.aE)/\U.cell? ⟨bb,k*13+1,none⟩=some (.string g.o.host)/\U.cell? ⟨bb,k*13+2,none⟩=some (.int .i64 g.o.port)/\U.cell? ⟨bb,k*13+3,none⟩=some (.bool g.proxy)/\U.cell? ⟨bb,k*13+4,none⟩=some (.string g.path)/\U.cell? ⟨bb,k*13+5,none⟩=some (.int .i64 g.a.scheme)/\U.cell? ⟨bb,k*13+6,none⟩=some (.string g.a.aK)/\U.cell? ⟨bb,k*13+7,none⟩=some (.string g.a.bq)/\U.cell? ⟨bb,k*13+8,none⟩=some (.string g.a.cy)/\U.cell? ⟨bb,k*13+9,none⟩=some (.bool g.a.cA)/\U.cell? ⟨bb,k*13+10,none⟩=some (.string g.a.eF)/\U.cell? ⟨bb,k*13+11,none⟩=some (.bool g.a.cN)/\U.cell? ⟨bb,k*13+12,none⟩=some (.slice SF g.a.dom.length SH))from fun U hU=>by
    refine⟨fa (g1 0 _ rfl) hU,fa (g1 1 _ rfl) hU,fa (g1 2 _ rfl) hU,fa (g1 3 _ rfl) hU,fa (g1 4 _ rfl) hU,fa (g1 5 _ rfl) hU,fa (g1 6 _ rfl) hU,fa (g1 7 _ rfl) hU,fa (g1 8 _ rfl) hU,fa (g1 9 _ rfl) hU,fa (g1 10 _ rfl) hU,fa (g1 11 _ rfl) hU,fa (g1 12 _ rfl) hU,fa (g2 0 _ rfl) hU,fa (g2 1 _ rfl) hU,fa (g2 2 _ rfl) hU,fa (g2 3 _ rfl) hU,fa (g2 4 _ rfl) hU,fa (g2 5 _ rfl) hU,fa (g2 6 _ rfl) hU,fa (g2 7 _ rfl) hU,fa (g2 8 _ rfl) hU,fa (g2 9 _ rfl) hU,fa (g2 10 _ rfl) hU,fa (g2 11 _ rfl) hU,fa (g2 12 _ rfl) hU⟩)
   have HSA:=O (show∀U,Fr aS wr U->aB 59 #[.agg #[.int .i64 g.a.scheme,.string g.a.aK,.string g.a.bq,.string g.a.cy,.bool g.a.cA,.string g.a.eF,.bool g.a.cN,.slice ad g.a.dom.length cd],.agg #[.int .i64 g.a.scheme,.string g.a.aK,.string g.a.bq,.string g.a.cy,.bool g.a.cA,.string g.a.eF,.bool g.a.cN,.slice SF g.a.dom.length SH]] U (fun e w'=>e=.returned (.bool true)/\Fr aS U w')from fun U hU=>by
    have h:=Af r1.a r2.a g.a U (QA1.o.mono (fun _ _ h=>(h.di hU).rd)) (QA2.o.mono (fun _ _ h=>(h.di hU).rd)) hlen;rw[y1,y2]at h;exact h)
   have sX:=O cL;have heq:=HE.o g;clear p1 p2 p3 d1 d2 d3 d4 d5 d6 d7 d8 p1' p2' p3' d1' d2' d3' d4' d5' d6' d7' d8' yJ su x1 x2 y1 y2 hlen o1 o2 g1 g2 cL QA1 QA2;go_wp2_with fail
   go_region_held3 (fun U=>Fr aS wr U/\U.cell? ⟨ba,k*13,none⟩=some (.bool g.o.aE)/\U.cell? ⟨ba,k*13+1,none⟩=some (.string g.o.host)/\U.cell? ⟨ba,k*13+2,none⟩=some (.int .i64 g.o.port)/\U.cell? ⟨ba,k*13+3,none⟩=some (.bool g.proxy)/\U.cell? ⟨ba,k*13+4,none⟩=some (.string g.path)/\U.cell? ⟨ba,k*13+5,none⟩=some (.int .i64 g.a.scheme)/\U.cell? ⟨ba,k*13+6,none⟩=some (.string g.a.aK)/\U.cell? ⟨ba,k*13+7,none⟩=some (.string g.a.bq)/\U.cell? ⟨ba,k*13+8,none⟩=some (.string g.a.cy)/\U.cell? ⟨ba,k*13+9,none⟩=some (.bool g.a.cA)/\U.cell? ⟨ba,k*13+10,none⟩=some (.string g.a.eF)/\U.cell? ⟨ba,k*13+11,none⟩=some (.bool g.a.cN)/\U.cell? ⟨ba,k*13+12,none⟩=some (.slice ad g.a.dom.length cd)/\U.cell? ⟨bb,k*13,none⟩=some (.bool g.o.aE)/\U.cell? ⟨bb,k*13+1,none⟩=some (.string g.o.host)/\U.cell? ⟨bb,k*13+2,none⟩=some (.int .i64 g.o.port)/\U.cell? ⟨bb,k*13+3,none⟩=some (.bool g.proxy)/\U.cell? ⟨bb,k*13+4,none⟩=some (.string g.path)/\U.cell? ⟨bb,k*13+5,none⟩=some (.int .i64 g.a.scheme)/\U.cell? ⟨bb,k*13+6,none⟩=some (.string g.a.aK)/\U.cell? ⟨bb,k*13+7,none⟩=some (.string g.a.bq)/\U.cell? ⟨bb,k*13+8,none⟩=some (.string g.a.cy)/\U.cell? ⟨bb,k*13+9,none⟩=some (.bool g.a.cA)/\U.cell? ⟨bb,k*13+10,none⟩=some (.string g.a.eF)/\U.cell? ⟨bb,k*13+11,none⟩=some (.bool g.a.cN)/\U.cell? ⟨bb,k*13+12,none⟩=some (.slice SF g.a.dom.length SH)) ((refine(fun hU=>⟨hU,HS.o _ hU⟩) ?_;first|exact az (ae _ _)|assumption))
    ((first
     |(go_at_call 59;refine(HSA.o _ (az (ae _ _))).mono ?_;rintro e u6 ⟨rfl,AJ⟩;have Fa:Fr aS wr u6:=(az (ae _ _)).trans AJ)))
   go_wp2;go_roundw
   case rel=>exact⟨k+1,ab,bg,sX.o.trans Fa⟩
   case measure=>simp[intOf];omega
  ·have o_:¬(k:Int)<(ws.length:Int):=ab;have HX5:=O (bh Tl.o cL);have HX6:=O (bh HX4.o cL);have HU5:=O (HU4.o.trans cL);clear cL Mu PZ Tl HX4 HU4 HE h8;go_wp2_with fail
   go_loopw[12] (Xa wr cs.length) (fun i _=>cs.length-(intOf i).toNat)
   case atStart=>exact⟨0,aQ _,rfl,ae _ _⟩
   case round =>
    obtain⟨j,hj,rfl,je⟩:=hrel;have h9:=HL4.o;by_cases hjs:j<cs.length
    ·have Fw:(j:Int)<(cs.length:Int):=ab;have awT:(0:Int)<=(j:Int):=ab;rcases(bh HX5.o je).2 with ⟨_,_,_,e,_⟩|⟨bk,of,c,hf,h1,h2,h3,h4⟩
     ·rw[List.map_eq_nil_iff]at e;rw[e]at hjs;exact absurd hjs (cq _)
     rcases(bh HX6.o je).2 with ⟨_,_,_,e,_⟩|⟨Jf,of',c',Uw,Hv,h2',h3',Z4⟩
     ·rw[List.map_eq_nil_iff]at e;rw[e]at hjs;exact absurd hjs (cq _)
     rw[ai]at hf Uw;cases hf;cases Uw;unfold maxLen at h2 h2';rw[ai]at h1 Hv;have d:=h4 j (kY cs[j]) (by rw[List.getElem?_map,List.getElem?_eq_getElem hjs];rfl);have d':=Z4 j (kY cs[j]) (by rw[List.getElem?_map,List.getElem?_eq_getElem hjs];rfl);generalize cs[j]=g at d d';have d0:wr.cell? ⟨bk,of+j*4,none⟩=some (.bool g.1.aE):=d 0 _ rfl
     have d1:wr.cell? ⟨bk,of+j*4+1,none⟩=some (.string g.1.host):=d 1 _ rfl;have d2:wr.cell? ⟨bk,of+j*4+2,none⟩=some (.int .i64 g.1.port):=d 2 _ rfl;have d3:wr.cell? ⟨bk,of+j*4+3,none⟩=some (.int .i64 g.2):=d 3 _ rfl;have d4:wr.cell? ⟨Jf,of'+j*4,none⟩=some (.bool g.1.aE):=d' 0 _ rfl;have d5:wr.cell? ⟨Jf,of'+j*4+1,none⟩=some (.string g.1.host):=d' 1 _ rfl
     have d6:wr.cell? ⟨Jf,of'+j*4+2,none⟩=some (.int .i64 g.1.port):=d' 2 _ rfl;have d7:wr.cell? ⟨Jf,of'+j*4+3,none⟩=some (.int .i64 g.2):=d' 3 _ rfl;have heq:=Ag g.1;have sX:=O je;clear d d' h4 Z4 h1 Hv h3 h3' je;go_wp2_with fail
     go_quiet (fail);go_wp2;go_roundw
     case rel=>exact⟨j+1,ab,bg,sX.o.drewN _⟩
     case measure=>simp[intOf];omega
    ·have Fw:¬(j:Int)<(cs.length:Int):=ab;have HU6:=O (HU5.o.trans je);clear je HX5 HX6 HU5 h9;go_wp2_with fail
     refine(RY.o _ HU6.o).mono ?_;rintro e u6⟨g1,rfl,⟨Fh,_⟩,hu6⟩;have HU7:=O (HU6.o.trans hu6);have HGA:=O Fh;clear hu6 Fh HU6;go_wp2_with fail
     refine(Te.o _ HU7.o).mono ?_;rintro e u7⟨g2,rfl,⟨xb,_⟩,hu7⟩;have HU8:=O (HU7.o.trans hu7);have HEQ:=O (SI (HGA.o.fr hu7 (fC _ _) (fun _ _ h=>h)) xb);clear hu7 xb HU7 HGA;go_wp2_with fail
     refine HEQ.o.mono ?_;rintro e u8⟨rfl,hu8⟩;have HU9:=O (HU8.o.trans hu8);clear hu8 HU8 HEQ;go_wp2_with fail
     refine(HP1.o _ HU9.o).mono ?_;rintro e u9⟨p1,rfl,FU,hu9⟩;have afp:=O (HU9.o.trans hu9);have HPA:=O FU.at;clear hu9 FU HU9;go_wp2_with fail
     refine(HP2.o _ afp.o).mono ?_;rintro e u10⟨p2,rfl,CS,afq⟩;have aqo:=O (afp.o.trans afq);have HEP:=O (I2 p1 p2 ps _ (bh HPA.o afq) CS.at);clear afq CS afp HPA;go_wp2_with fail
     refine HEP.o.mono ?_;rintro e VK⟨rfl,aqp⟩;go_wp2_with fail
     go_ret;exact⟨rfl,aqo.o.trans aqp⟩
def afr(w:World)(i:Value)(wr:World):Prop:=∃k:Nat,k<=4/\i=.int .i64 k/\Fr aS w wr
theorem Fc(h:cE base w B pv x)(h':cE xD w B' yA x)(Cn:xu x) :
  aB 18 #[.pointer (some ⟨B,0,none⟩),.pointer (some ⟨B',0,none⟩)] w fun e w'=>e=.returned (.bool true)/\Fr aS w w':=by
 have HP:=O (fun(i:Nat) (h4:i<4) U (hU:Fr aS w U)=>I7 (h.di hU) (h'.di hU) Cn i h4 rfl);have HN1:=O (fun U (hU:Fr aS w U)=>En base U B pv x (h.di hU));have HN2:=O (fun U (hU:Fr aS w U)=>En xD U B' yA x (h'.di hU));clear h h' Cn;go_enter func18,ntmps18;go_wp2_with fail
 go_loopw[5] (afr w) (fun i _=>4-(intOf i).toNat)
 case atStart=>exact⟨0,ag,rfl,ae _ _⟩
 case round =>
  obtain⟨k,hk,rfl,cL⟩:=hrel;have HF:=O cL;clear cL;by_cases fk:k<4
  ·have o_:(k:Int)<4:=ab;go_wp2_with fail
   refine(HP.o k fk _ HF.o).mono ?_;rintro e u⟨rfl,hu⟩;go_wp2_with fail
   go_roundw
   case rel=>exact⟨k+1,ab,bg,HF.o.trans hu⟩
   case measure=>simp[intOf];omega
  ·have o_:¬(k:Int)<4:=ab;go_wp2_with fail
   refine(HN1.o _ HF.o).mono ?_;rintro e u⟨rfl,hu⟩;rw[hu];clear hu;go_wp2_with fail
   refine(HN2.o _ HF.o).mono ?_;rintro e u⟨rfl,hu⟩;rw[hu];clear hu;go_wp2_with fail
   go_ret;exact⟨rfl,HF.o⟩
structure qB where
 o:jz
 hs:List gY
 sp:Value
def qg(r:kM):aX:=[.int .i64 r.what,.string r.head,.int .i64 r.cert]
def kU(f:Nat->Nat->Int):aX:=[.int .i64 (f 0 0),.int .i64 (f 0 1),.int .i64 (f 0 2),.int .i64 (f 0 3),.int .i64 (f 1 0),.int .i64 (f 1 1),.int .i64 (f 1 2),.int .i64 (f 1 3),.int .i64 (f 2 0),.int .i64 (f 2 1),.int .i64 (f 2 2),.int .i64 (f 2 3),.int .i64 (f 3 0),.int .i64 (f 3 1),.int .i64 (f 3 2),.int .i64 (f 3 3)]
def mQ(x:w_)(v:qB):aX:=.int .i64 x.does :: (v.o.cells++(.int .i64 x.fails :: .int .i64 x.ng :: v.sp :: (kU x.num++qg x.jy)))
theorem qh(x:w_)(v:qB):(mQ x v).length=45:=rfl
theorem ny(f:Nat->Nat->Int):(kU f).length=16:=rfl
theorem P9(f:Nat->Nat->Int){p:Nat}(hp:p<4)(hi:i<4):(kU f)[p*4+i]?=some (.int .i64 (f p i)):=by
 rcases(show p=0\/p=1\/p=2\/p=3 from ab)with rfl|rfl|rfl|rfl<;>rcases(show i=0\/i=1\/i=2\/i=3 from ab)with rfl|rfl|rfl|rfl<;>rfl
structure f_ (U:World) (T B:Nat) (g:Nat->qB) (sv:Value) (t:im):Prop where
 eJ:∃cs,U.heap[T]?=some (.cells cs 78 (0,0))/\cs.size=289
 main:U.cell? ⟨T,0,none⟩=some (.pointer (some ⟨B,0,none⟩))
 num:U.rangeAt T 1 (kU t.num)
 tab:∀n,n<6->U.rangeAt T (17+n*45) (mQ (t.tab n) (g n))
 steps:U.cell? ⟨T,287,none⟩=some (.int .i64 t.steps)
 st:U.cell? ⟨T,288,none⟩=some sv
section
variable {U U' : World} {T B : Nat} {g : Nat → qB} {sv : Value} {t : im}
theorem nQ(h:w.cell? p=some u)(hf:Fr S w U)(hn:¬S p.block):U.cell? p=some u:=by
 unfold World.cell? at h ⊢;cases hb:w.heap[p.block]? with
 |none=>rw[hb]at h;cases h
 |some o=>rw[hb]at h;rw[hf.keep hb hn];exact h
theorem pQ(h:w.rangeAt b o cs)(hf:Fr S w U)(hn:¬S b):U.rangeAt b o cs:=fun j v hv=>nQ (h j v hv) hf hn
theorem f_.fr(h:f_ U T B g sv t)(hf:Fr S U U')(hn:¬S T):f_ U' T B g sv t:=by
 obtain⟨cs,hb,hs⟩:=h.eJ;exact⟨⟨cs,hf.keep hb hn,hs⟩,nQ h.main hf hn,pQ h.num hf hn,fun n hl=>pQ (h.tab n hl) hf hn,nQ h.steps hf hn,nQ h.st hf hn⟩
theorem f_.lt(h:f_ U T B g sv t):T<U.heap.size:=by obtain⟨cs,hb,_⟩:=h.eJ;exact bj hb
theorem f_.there(h:f_ U T B g sv t)(hn:o+n<=289):U.there T o n:=by
 obtain⟨cs,hb,hs⟩:=h.eJ;intro j hj;have hl:o+j<cs.size:=ab;exact⟨by simp[World.cell?,hb,hl],by simp[World.frozen?,hb]⟩
theorem f_.free(h:f_ U T B g sv t)(k:Nat):U.frozen? ⟨T,k,none⟩=false:=by
 obtain⟨cs,hb,_⟩:=h.eJ;simp[World.frozen?,hb]
theorem lK(T:Nat)(ty:TypeId)(n:Nat):∀(vs:aX) (o:Nat) (U:World),(∃cs,U.heap[T]?=some (.cells cs ty (0,0))/\cs.size=n)->∃cs,(U.setCells T o vs).heap[T]?=some (.cells cs ty (0,0))/\cs.size=n
 |[],_,_,h=>h
 |v :: r,o,U,⟨cs,hb,hs⟩=>by
  rw[World.setCells];exact lK T ty n r (o+1) _ ⟨_,b_ hb o v,by simpa using hs⟩
theorem mF{a:World}(T:Nat):∀(vs:aX) (o:Nat) (U:World),Fr (one T) a U->Fr (one T) a (U.setCells T o vs)
 |[],_,_,h=>h
 |v :: r,o,U,h=>by
  rw[World.setCells];exact mF T r (o+1) _ (h.setCell (p:=⟨T,o,none⟩) (fun _=>rfl) v)
theorem eU{vs:aX}(h:U.cell? ⟨T,k,none⟩=some u)(Yl:k<o\/o+vs.length<=k):(U.setCells T o vs).cell? ⟨T,k,none⟩=some u:=by
 rw[World.cell?_setCells_out T vs o U ⟨T,k,none⟩ (fun _ _=>Yl)];exact h
theorem f_.N7(h:f_ U T B g sv t)(hn:n<6)(x:w_)(v:qB):f_ (U.setCells T (17+n*45) (mQ x v)) T B (fun i=>if i=n then v else g i) sv (t.put n x)/\Fr (one T) U (U.setCells T (17+n*45) (mQ x v)):=by
 have hl:=qh x v;refine⟨⟨lK T _ _ _ _ _ h.eJ,eU h.main (Or.inl ab),bX h.num _ _ _ (Or.inr (Or.inl (by rw[ny];omega))),fun m hm=>?_,eU h.steps (Or.inr ab),eU h.st (Or.inr ab)⟩,mF T _ _ _ (ae _ _)⟩;by_cases e:m=n
 ·subst e;show World.rangeAt _ T (17+m*45) (mQ (if m=m then x else t.tab m) (if m=m then v else g m));rw[aA rfl,aA rfl];exact World.rangeAt_setCells_same _ _ _ _ (h.there (by rw[hl];omega))
 ·show World.rangeAt _ T (17+m*45) (mQ (if m=n then x else t.tab m) (if m=n then v else g m));rw[ar e,ar e];exact bX (h.tab m hm) _ _ _ (by
   right;rw[hl,qh];rcases fF m n with q|q
   ·left;omega
   ·right;omega)
theorem Gx(h:U.rangeAt T o cs)(hj:j<cs.length):(U.setCell ⟨T,o+j,none⟩ v).rangeAt T o (cs.set j v):=by
 intro k u hk;have hc:=h j _ (List.getElem?_eq_getElem hj);by_cases e:k=j
 ·subst e;rw[List.getElem?_set_self hj]at hk;cases hk;exact World.cell?_setCell_same' U ⟨T,o+k,none⟩ _ (by rw[hc];rfl)
 ·rw[List.getElem?_set_ne (kO e)]at hk;rw[World.cell?_setCell_other U ⟨T,o+j,none⟩ ⟨T,o+k,none⟩ v (fun q=>e (by injection q with q1 q2;omega))];exact h k u hk
theorem f_.Ct(h:f_ U T B g sv t)(hn:n<6)(hj:j<45)(v:Value){x:w_}{w:qB}(hx:(mQ (t.tab n) (g n)).set j v=mQ x w):f_ (U.setCell ⟨T,17+n*45+j,none⟩ v) T B (fun i=>if i=n then w else g i) sv (t.put n x)/\Fr (one T) U (U.setCell ⟨T,17+n*45+j,none⟩ v):=by
 have hl:([v]:aX).length=1:=rfl;refine⟨⟨lK T _ _ [v] _ _ h.eJ,eU (vs:=[v]) h.main (Or.inl ab),bX h.num T (17+n*45+j) [v] (Or.inr (Or.inl (by rw[ny];omega))),fun m hm=>?_,eU (vs:=[v]) h.steps (Or.inr ab),eU (vs:=[v]) h.st (Or.inr ab)⟩,mF T [v] _ _ (ae _ _)⟩;by_cases e:m=n
 ·subst e;show World.rangeAt _ T (17+m*45) (mQ (if m=m then x else t.tab m) (if m=m then w else g m));rw[aA rfl,aA rfl, <-hx];exact Gx (h.tab m hm) (by rw[qh];exact hj)
 ·show World.rangeAt _ T (17+m*45) (mQ (if m=n then x else t.tab m) (if m=n then w else g m));rw[ar e,ar e];exact bX (h.tab m hm) T (17+n*45+j) [v] (by
   right;rw[hl,qh];rcases fF m n with q|q
   ·left;omega
   ·right;omega)
theorem f_.D8(h:f_ U T B g sv t)(k:Int):f_ (U.setCell ⟨T,287,none⟩ (.int .i64 k)) T B g sv {t with steps:=k}/\Fr (one T) U (U.setCell ⟨T,287,none⟩ (.int .i64 k)):=by
 refine⟨⟨lK T _ _ [_] _ _ h.eJ,eU (vs:=[_]) h.main (Or.inl ag),bX h.num T 287 [_] (Or.inr (Or.inl (by rw[ny];decide))),fun m hm=>bX (h.tab m hm) T 287 [_] (Or.inr (Or.inl (by rw[qh];omega))),?_,eU (vs:=[_]) h.st (Or.inr (ay _))⟩,mF T [_] _ _ (ae _ _)⟩;exact World.cell?_setCell_same' U ⟨T,287,none⟩ _ (by rw[h.steps];rfl)
theorem f_.V7(h:f_ U T B g sv t)(v:Value)(s:List P7):f_ (U.setCell ⟨T,288,none⟩ v) T B g v {t with fJ:=s}/\Fr (one T) U (U.setCell ⟨T,288,none⟩ v):=by
 refine⟨⟨lK T _ _ [_] _ _ h.eJ,eU (vs:=[_]) h.main (Or.inl ag),bX h.num T 288 [_] (Or.inr (Or.inl (by rw[ny];decide))),fun m hm=>bX (h.tab m hm) T 288 [_] (Or.inr (Or.inl (by rw[qh];omega))),eU (vs:=[_]) h.steps (Or.inl ag),?_⟩,mF T [_] _ _ (ae _ _)⟩;exact World.cell?_setCell_same' U ⟨T,288,none⟩ _ (by rw[h.st];rfl)
theorem f_.aey(h:f_ U T B g sv t){p:Nat}(hp:p<4)(hi:i<4)(v:Int){f:Nat->Nat->Int}(hf:(kU t.num).set (p*4+i) (.int .i64 v)=kU f):f_ (U.setCell ⟨T,1+(p*4+i),none⟩ (.int .i64 v)) T B g sv {t with num:=f}/\Fr (one T) U (U.setCell ⟨T,1+(p*4+i),none⟩ (.int .i64 v)):=by
 refine⟨⟨lK T _ _ [_] _ _ h.eJ,eU (vs:=[_]) h.main (Or.inl ab),?_,fun m hm=>bX (h.tab m hm) T (1+(p*4+i)) [_] (Or.inr (Or.inr (by show 1+(p*4+i)+1<=_;omega))),eU (vs:=[_]) h.steps (Or.inr (by show 1+(p*4+i)+1<=_;omega)),eU (vs:=[_]) h.st (Or.inr (by show 1+(p*4+i)+1<=_;omega))⟩,mF T [_] _ _ (ae _ _)⟩;show World.rangeAt _ T 1 (kU f);rw[<-hf];exact Gx h.num (by rw[ny];omega)
end
theorem step1(h:(t.tab n).does=1):stepT t n=({(t.put n {t.tab n with seen:=t.w,num:=t.num,does:=2})with steps:=t.steps+1},rep 0,false):=by unfold stepT;rw[aA h]
theorem step2(h:(t.tab n).does=2):stepT t n=({(t.put n {t.tab n with jy:=(mi (t.tab n).seen (t.tab n).op).2,seen:=(mi (t.tab n).seen (t.tab n).op).1,does:=3})with steps:=t.steps+1},rep 0,false):=by unfold stepT;rw[ar ab,aA h]
theorem aj4(h:(t.tab n).does=3):stepT t n=jZ {t with steps:=t.steps+1} n:=by unfold stepT;rw[ar ab,ar ab]
theorem OB(h:(t.tab n).does=1\/(t.tab n).does=2):(stepT t n).1.w=t.w/\(stepT t n).1.fJ=t.fJ/\((stepT t n).1.tab n).does=(t.tab n).does+1:=by
 rcases h with h|h
 ·rw[step1 h];refine⟨rfl,rfl,?_⟩;show((t.put n _).tab n).does=_;rw[mH,h]
 ·rw[step2 h];refine⟨rfl,rfl,?_⟩;show((t.put n _).tab n).does=_;rw[mH,h]
open Go.ChangeShapes Go.WideShapes Go.ChangeAt Go.RowKit Go.Deep
structure wj (w:World) (v:Value) (ms:List tz):Prop where
 rows:dV 24 w v (ms.map tz.cells)
 fit:∀m∈ms,gB w m.o m.hs
theorem wj.di{ms:List tz}(h:wj w v ms)(hf:Fr aS w w'):wj w' v ms:=⟨bh h.rows hf,fun m hm=>(h.fit m hm).di hf⟩
variable {H : Type} {enc : TypeId × Value → H} {W : World}
structure Ac (w:World) (m:tz):Prop where
 op:sM w m.o m.hs
 kind:(Lit.int .i64 m.kind).wf=true
 tab:(Lit.int .i64 m.tab).wf=true
abbrev yw(w:World)(v:Value)(ms:List tz):Prop:=dV 24 w v (ms.map tz.cells)/\ms.length<=140737488355328/\∀m∈ms,Ac w m
theorem L':prog.cellsOf 50=24:=af
theorem aj'{α:Type}{l:List α}(h:l.length=24):∃(a0 a1:α) (r:List α),l=a0 :: a1 :: r/\r.length=22:=by
 match l,h with
 |a0 :: a1 :: r,h=>exact⟨a0,a1,r,rfl,by simpa using h⟩
theorem aaw{fuel:Nat}{x:DataW H×List MemPlace}(h:DataW.trod enc prog W 0 (fun _=>true) true fuel 50 cs=some x) :
  ∃b:tz,cs=b.cells/\cs.length=24/\(∀u∈cs,u.oneCell'=true)/\(oV prog 50 x.1->Ac W b):=by
 obtain⟨hl,n,hf⟩:=nS underlying50 h;rw[L']at hl;obtain⟨c0,c1,cr,rfl,hcr⟩:=aj' hl;obtain⟨y0,h0,l0⟩:=hf 0 3 0 _ rfl pJ;obtain⟨y1,h1,l1⟩:=hf 1 3 1 _ rfl pJ;obtain⟨y2,h2,l2⟩:=hf 2 33 2 _ rfl L_;simp only[List.drop,List.take]at h0 h1 h2;rw[aD ab]at h2;obtain⟨b0,e0,w0⟩:=ku underlying3 h0;obtain⟨b1,e1,w1⟩:=ku underlying3 h1;obtain⟨b2,e2,_,o2,s2⟩:=Qg h2;simp only[fD,iE]at e0 e1;subst e0 e1
 refine⟨⟨b0,b1,b2.1,b2.2⟩,by rw[e2];rfl,hl,fun u hu=>?_,fun hL=>⟨s2 (l2 hL),w0,w1⟩⟩;rcases bB.1 hu with rfl|hu
 ·rfl
 rcases bB.1 hu with rfl|hu
 ·rfl
 ·exact o2 u hu
instance:Inhabited tz:=⟨⟨0,0,(default:jz×List gY).1,[]⟩⟩
theorem Ma{d:DataW H}{p:List MemPlace}(hv:Value.okWide prog W .any base 22 v)(h:DataW.Trod enc prog W 0 (fun _=>true) true 22 v d p)(hL:oV prog 22 d) :
  ∃ms:List tz,yw W v ms:=by
 obtain⟨a,len,cap,rfl⟩:=okWide_slice underlying22 hv;obtain⟨fuel,hf⟩:=h;obtain⟨v',css,bs,e,hr,hb,hs⟩:=Ej (Q:=fun cs (b:tz)=>cs=b.cells) (S:=fun b=>Ac W b) underlying22 L' ag (by kernel_rfl:prog.bytesOf 50=288) aaw hf;simp only[Value.cells,fD,iE]at e;subst e;rw[Ek hb]at hr;have h2:=hs hL;refine⟨bs,hr,?_,h2.2⟩;have hk:reachBytes=140737488351232:=rfl;have:=h2.1;omega
structure kC (w:World):Prop where
 Zj:wQ w
 pw:xn w
theorem kC.fr(h:kC w)(hf:Fr aS w w'):kC w':=⟨h.Zj.fr hf,h.pw.fr hf⟩
def jN(base:Nat)(w:World)(B:Nat)(pv:Nat->cU)(r:dN×kM)(e:Ending)(w':World):Prop :=
 e=.returned r.2.val/\dr base w B pv r.1 w'
section
variable {base : Nat} {a w w' : World} {B : Nat} {pv : Nat → cU} {x : dN}
theorem dr.after(hf:Fr aS a w)(h:dr base w B pv x w'):dr base a B pv x w':=by
 obtain⟨yA,h1,h2,h3⟩:=h;refine⟨yA,h1,fU (S:=lJ B pv) (hf.mono (fun _ _ h=>absurd h id)) h2 (fun _ _ h=>h),fun k hk=>?_⟩;rcases h3 k hk with h|h
 ·exact Or.inl h
 ·exact Or.inr (aF hf.size h)
theorem dr.then(h:dr base a B pv x w)(hf:Fr aS w w'):dr base a B pv x w':=by
 obtain⟨yA,h1,h2,h3⟩:=h;exact⟨yA,h1.di hf,h2.step (T:=aS) hf (fun _ _ h=>absurd h id),h3⟩
theorem dr.row(h:dr base w B pv x w'){n:Nat}{old:bS}{t:TypeId}(ou:base<=w.heap.size)(hB:B<w.heap.size)(hn:w.heap.size<=n)(hr:w'.heap[n]?=some (.cells old t (0,0)))
  (ht:eY t)(hs:t≠9)(new:bS):dr base w B pv x (w'.setRow n new):=by
 obtain⟨yA,h1,h2,h3⟩:=h;have kx:Fr (one n) w' (w'.setRow n new):=(ae (one n) w').setRow (fun _=>rfl) _;have mO:rR base w' (one n):=by
  rintro k rfl _;exact⟨ab,fun c f e=>by rw[hr]at e;cases e;exact hs rfl⟩
 refine⟨yA,h1.fr kx mO (fun i hi e=>?_),h2.step kx (fun k hk e=>?_),h3⟩
 ·have e':i=n:=e;subst e';rcases hi with rfl|⟨j,hj,hi⟩
  ·omega
  ·exact(h1.part j hj).fg hr ht hi
 ·have e':k=n:=e;omega
theorem nP(h:cE base w B pv x){t:TypeId}{p:eD}(hi:i<4)(hp:dm base w B (iG pv x.now) (i*3) (pv i) p w')(hn:w.heap[n]?=some (.cells c t (0,0)))(ht:eY t)(hB:n≠B):w'.heap[n]?=some (.cells c t (0,0)):=by
 obtain⟨v',h1,h2,h3,h4⟩:=hp;exact eI (h.part i hi) h2 hn ht hB
end
theorem qf{o:kl}(hr:o.right=true)(hi:o.part=(i:Int))(hw:o.what≠10):mi x o=(x.set i (wK (x.part i) x.now o).1,(wK (x.part i) x.now o).2):=by
 rw[DT hr hw,hi];rfl
theorem V2{p:eD}{n:Int}{o:kl}(h:o.what=8\/o.what=9):wK p n o=rK p o:=by
 unfold wK;rcases h with h|h<;>rw[h]<;>rfl
theorem cE.vX(h:cE base w B pv x){t:TypeId}(hn:w.heap[n]?=some (.cells c t (0,0)))(ht:eY t)(hw:t≠97):¬lJ B pv n:=fun hk=>by
 rcases hk with rfl|⟨i,hi,hk⟩
 ·rw[h.eJ]at hn;cases hn;exact hw rfl
 ·exact(h.part i hi).fg hn ht hk
abbrev cH := @dr.after
abbrev ep := @dr.row
def xa(k:Nat):Value:=if k=0 then .nilIface else .iface 82 (.int .i64 k)
section
variable {U : World} {T B : Nat} {g : Nat → qB} {sv : Value} {t : im}
theorem Cu{n:Int}(h:yn n=true):∃i:Nat,n=(i:Int)/\i<6:=by
 unfold yn at h;simp only[cF,dF]at h;exact⟨n.toNat,ab,ab⟩
theorem N8(U:World)(T:Nat)(hi:i<6) :
  aB 28 #[.pointer (some ⟨T,0,none⟩),.int .i64 i] U fun e w'=>e=.returned (.tuple #[.pointer (some ⟨T,17+i*45,none⟩),.nilIface])/\w'=U:=by
 have h1:(i:Int)<6:=ab;have h0:¬(i:Int)<0:=ab;have h2:¬(6:Int)<=(i:Int):=ab;have h3:(0:Int)<=(i:Int):=ab;go_enter func28,ntmps28;go_wp2;go_ret2;exact⟨rfl,rfl⟩
theorem Iv(U:World)(T:Nat){n:Int}(hn:yn n=false) :
  aB 28 #[.pointer (some ⟨T,0,none⟩),.int .i64 n] U fun e w'=>e=.returned (.tuple #[.pointer none,xa 2])/\w'=U:=by
 have hh:¬(0<=n/\n<6):=by
  intro hh;unfold yn at hn;simp[hh.1,hh.2]at hn
 clear hn;by_cases h0:n<0
 ·have h1:¬(0:Int)<=n:=ab;clear hh;go_enter func28,ntmps28;go_wp2;go_ret2;exact⟨rfl,rfl⟩
 ·have h1:(0:Int)<=n:=ab;have h4:(6:Int)<=n:=ab;have h5:¬n<6:=ab;clear hh;go_enter func28,ntmps28;go_wp2;go_ret2;exact⟨rfl,rfl⟩
end
def xz(base:Nat)(U:World)(ws:Nat->Option (Nat×dN)):Prop :=
 ∃pv:Nat->Nat->cU,(∀i B x,ws i=some (B,x)->cE base U B (pv i) x)/\∀i j B x C y,i≠j->ws i=some (B,x)->ws j=some (C,y)->∀k,lJ B (pv i) k->¬lJ C (pv j) k
section
variable {base : Nat} {a U U' : World} {ws : Nat → Option (Nat × dN)}
theorem xz.di(h:xz base U ws)(hf:Fr aS U U'):xz base U' ws:=by
 obtain⟨pv,h1,h2⟩:=h;exact⟨pv,fun i B x hi=>(h1 i B x hi).di hf,h2⟩
theorem xz.sub{ws':Nat->Option (Nat×dN)}(h:xz base U ws)(hs:∀i p,ws' i=some p->ws i=some p):xz base U ws':=by
 obtain⟨pv,h1,h2⟩:=h;exact⟨pv,fun i B x hi=>h1 i B x (hs _ _ hi),fun i j B x C y Qz hi hj=>h2 i j B x C y Qz (hs _ _ hi) (hs _ _ hj)⟩
theorem xz.one(h:xz base U ws)(ou:base<=n){t:TypeId}(hb:U.heap[n]?=some (.cells c t (0,0)))(ht:eY t)(hw:t≠97)(hs:t≠9)(hf:Fr (one n) U U'):xz base U' ws:=by
 obtain⟨pv,h1,h2⟩:=h;refine⟨pv,fun i B x hi=>(h1 i B x hi).fr hf ?_ (fun k hk e=>?_),h2⟩
 ·rintro k rfl _;exact⟨ou,fun c f e=>by rw[hb]at e;cases e;exact hs rfl⟩
 ·cases(show k=n from e);exact(h1 i B x hi).vX hb ht hw hk
theorem xz.at(h:xz base U ws)(hi:ws i=some (B,x)):∃pv,cE base U B pv x:=by
 obtain⟨pv,h1,_⟩:=h;exact⟨pv i,h1 i B x hi⟩
def Kept(U U':World):Prop:=∃S:dB,Fr S U U'/\∀(n:Nat) (c:bS) (t:TypeId),U.heap[n]?=some (.cells c t (0,0))->eY t->t≠97->¬S n
theorem Kept.Z3(h:Fr aS U U'):Kept U U':=⟨aS,h,fun _ _ _ _ _ _ h=>h⟩
theorem Kept.rows(h:Kept U U'){e:TypeId}{xs:cY}(hr:OwnRows b e k U v xs)(ht:eY e)(hw:e≠97):OwnRows b e k U' v xs:=by
 obtain⟨S,hf,hs⟩:=h;refine hr.fr hf fun g hg=>?_;obtain⟨c,hc⟩:=hr.Bt hg;exact hs g c e hc ht hw
theorem Kept.eJ(h:Kept U U'){g:Nat->qB}{sv:Value}(hb:f_ U T B g sv t):f_ U' T B g sv t:=by
 obtain⟨S,hf,hs⟩:=h;obtain⟨c,hc,_⟩:=hb.eJ;exact hb.fr hf (hs T c _ hc (by unfold eY;decide) ag)
theorem xz.act{f:FuncId}{args:bS}{R:Ending->Prop}(h:xz base U ws)(hf:Fr aS a U)(rU:a.heap.size<=base){i B:Nat}{x x':dN}(hi:ws i=some (B,x))
  (hc:∀pv,cE base U B pv x->aB f args U fun e w'=>R e/\dr base U B pv x' w') :
  aB f args U fun e w'=>R e/\xz base w' (fun j=>if j=i then some (B,x')else ws j)/\Fr aS a w'/\Kept U w':=by
 obtain⟨pv,h1,h2⟩:=h;have g:=h1 i B x hi;refine(hc (pv i) g).mono fun e w' hh=>⟨hh.1,?_,hh.2.frame g hf rU,?_⟩
 ·obtain⟨yA,g1,g2,g3⟩:=hh.2;refine⟨fun j=>if j=i then yA else pv j,fun j C y hj=>?_,fun j k C y D z hjk hj hk q hq Gy=>?_⟩
  ·by_cases e:j=i
   ·simp only[aA e,eo,iI]at hj ⊢;obtain⟨rfl,rfl⟩:=hj;exact g1
   ·simp only[ar e]at hj ⊢;exact(h1 j C y hj).fr g2 g.off (fun k hk=>h2 j i C y B x e hj hi k hk)
  ·by_cases e:j=i
   ·have e':¬k=i:=fun e'=>hjk (e.trans e'.symm);simp only[aA e,ar e',eo,iI]at hj hk hq Gy;obtain⟨rfl,rfl⟩:=hj;rcases g3 q hq with r|r
    ·exact h2 k i D z B x e' hk hi q Gy r
    ·have:=(h1 k D z hk).jf Gy;omega
   ·by_cases e':k=i
    ·simp only[aA e',ar e,eo,iI]at hj hk hq Gy;obtain⟨rfl,rfl⟩:=hk;rcases g3 q Gy with r|r
     ·exact h2 j i C y B x e hj hi q hq r
     ·have:=(h1 j C y hj).jf hq;omega
    ·simp only[ar e',ar e]at hj hk hq Gy;exact h2 j k C y D z hjk hj hk q hq Gy
 ·obtain⟨yA,g1,g2,g3⟩:=hh.2;exact⟨_,g2,fun n c t hn ht hw=>g.vX hn ht hw⟩
theorem xz.add(h:xz base U ws)(hf:Fr aS U U'){C:Nat}{qv:Nat->cU}(hc:cE base U' C qv y)(hn:∀j,lJ C qv j->U.heap.size<=j):xz base U' (fun j=>if j=i then some (C,y)else ws j):=by
 obtain⟨pv,h1,h2⟩:=h;refine⟨fun j=>if j=i then qv else pv j,fun j D z hj=>?_,fun j k D z E z' hjk hj hk q hq Gy=>?_⟩
 ·by_cases e:j=i
  ·simp only[aA e,eo,iI]at hj ⊢;obtain⟨rfl,rfl⟩:=hj;exact hc
  ·simp only[ar e]at hj ⊢;exact(h1 j D z hj).di hf
 ·by_cases e:j=i
  ·have e':¬k=i:=fun e'=>hjk (e.trans e'.symm);simp only[aA e,ar e',eo,iI]at hj hk hq Gy;obtain⟨rfl,rfl⟩:=hj;have a1:=hn q hq;have a2:=(h1 k E z' hk).jf Gy;omega
  ·by_cases e':k=i
   ·simp only[aA e',ar e,eo,iI]at hj hk hq Gy;obtain⟨rfl,rfl⟩:=hk;have a1:=hn q Gy;have a2:=(h1 j D z hj).jf hq;omega
   ·simp only[ar e',ar e]at hj hk hq Gy;exact h2 j k D z E z' hjk hj hk q hq Gy
end
abbrev jh := @Kept.Z3
theorem aez(base:Nat)(w:World)(B:Nat)(pv:Nat->cU)(x:dN)(o:jz)(hs:List gY)(h:cE base w B pv x)(hf:gB w o hs)(hi:lI x)(a:World)(sY:kC a)(rU:a.heap.size<=base)(sZ:Fr aS a w)(hr:(o.dS hs).right=false) :
  aB 30 #[.pointer (some ⟨B,0,none⟩),.agg o.cells.toArray] w (jN base w B pv (mi x (o.dS hs))):=by
 have uA:B<w.heap.size:=h.lt;have ou:=h.low;obtain⟨ah,ch,gD⟩:=hf.gT;obtain⟨w2,eA⟩:∃w2,w2=(w.alloc (.cells o.cells.toArray 33)).alloc (.cells bR 46):=⟨_,rfl⟩;have dz:Fr aS w w2:=by rw[eA];exact((ae aS w).alloc _).alloc _
 have k1:w2.heap[w.heap.size]?=some (.cells o.cells.toArray 33 (0,0)):=by rw[eA];exact((ae aS _).alloc _).keep (aC _ _) id
 have k2:w2.heap[w.heap.size+1]?=some (.cells bR 46 (0,0)):=by
  have h:=aC (w.alloc (.cells o.cells.toArray 33)) (.cells bR 46);rw[bN]at h;rw[eA];exact h
 have td:=O (ll o hs w2 (hf.di dz));have HH:=O (h.di dz);have HF:=O (hf.di dz);have lu:=O gD;have HI:=O hi;have fY:=O dz;have mJ:=O k1;have qG:=O k2;have oY:=O (show base<=w.heap.size from ab);have wW:=O ou;have oT:=O uA;have RQ:=O sY;have RP:=O (sZ.trans dz);have XP:=O rU;rw[eA]at k1;rw[dZ gD]at eA td k1 ⊢;unfold bR at eA k1;have nD:=O eA;have u_:=O k1;clear eA gD dz k1 k2 h hf hi sY rU sZ
 have HR:=O (show mi x (o.dS hs)=(x,rep 7)from Ic hr);rw[hr]at td;clear hr;go_enter func30,ntmps30;go_wp2_with (first|((with_reducible refine dk 8 ?_);refine aI rfl 33 (.tmp 3) rfl w.heap.size rfl _ _ (0,0) _ u_.o underlying33 rfl af ?_)|fail)
 rw[<-nD.o];refine td.o.mono ?_;rintro e u⟨rfl,hu⟩;have HU:=O hu;have HP:=O (show dr base w B pv x u from cH fY.o (fx HH.o hu));have oX:=O (hu.keep qG.o id);clear hu u_;go_wp2_with (first|((with_reducible refine cV 46 ?_);refine aG rfl 46 (.tmp 4) (.tmp 11) rfl (w.heap.size+1) #[.int .i64 7,.string ⟨#[]⟩,.int .i64 0] rfl rfl _ bR oX.o (bf _ rfl) rfl ct ?_)|fail)
 refine aU (bu bC _ _ (w.heap.size+1) 46 #[.int .i64 7,.string ⟨#[]⟩,.int .i64 0] (0,0) _ rfl (aY _ (w.heap.size+1) _ _ _ _ oX.o) underlying46 rfl (bf _ rfl)) rfl ?_;unfold jN;rw[HR.o];exact⟨rfl,ep HP.o oY.o oT.o (bV _) oX.o dJ ag _⟩
theorem RX(base:Nat)(w:World)(B:Nat)(pv:Nat->cU)(x:dN)(o:jz)(hs:List gY)(h:cE base w B pv x)(hf:gB w o hs)(hi:lI x)(a:World)(sY:kC a)(rU:a.heap.size<=base)(sZ:Fr aS a w)(hr:(o.dS hs).right=true)(hw:o.what=1) :
  aB 30 #[.pointer (some ⟨B,0,none⟩),.agg o.cells.toArray] w (jN base w B pv (mi x (o.dS hs))):=by
 have uA:B<w.heap.size:=h.lt;have ou:=h.low;obtain⟨ah,ch,gD⟩:=hf.gT;obtain⟨w2,eA⟩:∃w2,w2=(w.alloc (.cells o.cells.toArray 33)).alloc (.cells bR 46):=⟨_,rfl⟩;have dz:Fr aS w w2:=by rw[eA];exact((ae aS w).alloc _).alloc _
 have k1:w2.heap[w.heap.size]?=some (.cells o.cells.toArray 33 (0,0)):=by rw[eA];exact((ae aS _).alloc _).keep (aC _ _) id
 have k2:w2.heap[w.heap.size+1]?=some (.cells bR 46 (0,0)):=by
  have h:=aC (w.alloc (.cells o.cells.toArray 33)) (.cells bR 46);rw[bN]at h;rw[eA];exact h
 have td:=O (ll o hs w2 (hf.di dz));have HH:=O (h.di dz);have HF:=O (hf.di dz);have lu:=O gD;have HI:=O hi;have fY:=O dz;have mJ:=O k1;have qG:=O k2;have oY:=O (show base<=w.heap.size from ab);have wW:=O ou;have oT:=O uA;have RQ:=O sY;have RP:=O (sZ.trans dz);have XP:=O rU;rw[eA]at k1;rw[dZ gD]at eA td k1 ⊢;unfold bR at eA k1;have nD:=O eA;have u_:=O k1;clear eA gD dz k1 k2 h hf hi sY rU sZ
 obtain⟨i,vh,Al⟩:∃i:Nat,o.aJ.part=(i:Int)/\i<4:=by
  obtain⟨h0,h1⟩:=ks hr;have Tn:0<=o.aJ.part:=h0;have Hv:o.aJ.part<4:=h1;exact⟨o.aJ.part.toNat,ab,ab⟩
 have MG:(i:Int)<4:=ab;have qp:¬(i:Int)<0:=ab;have Nb:¬(4:Int)<=(i:Int):=ab;have Kt:(0:Int)<=(i:Int):=ab;have sL:=O Al;have Am:=O vh;obtain⟨r,B9⟩:∃r,r=lG (x.part i) (o.dS hs):=⟨_,rfl⟩;have HR:=O (show mi x (o.dS hs)=(x.set i r.1,r.2)by rw[qf hr vh (by show o.what≠10;omega),B9,aoT (show(o.dS hs).what=1 from hw)]);rw[hr]at td
 have HM:=O (show∀U,Fr aS w2 U->aB 42 #[.pointer (some ⟨B,i*3,none⟩),.agg o.cells.toArray] U (eG base U B (iG pv x.now) (i*3) (pv i) r)from fun U hU=>by
  have h:=N2 base U B (i*3) (iG pv x.now) (pv i) (x.part i) o hs ((HH.o.di hU).part i sL.o) ((HH.o.di hU).partAt sL.o) wW.o (HF.o.di hU) (HI.o.ok.part i) (HI.o.sm i) a RQ.o.Zj XP.o (RP.o.trans hU);rw[<-B9]at h;exact h)
 rw[dZ lu.o]at HM;have HW:=O hw;clear hr hw B9 Al vh;go_enter func30,ntmps30;go_wp2_with (first|((with_reducible refine dk 8 ?_);refine aI rfl 33 (.tmp 3) rfl w.heap.size rfl _ _ (0,0) _ u_.o underlying33 rfl af ?_)|fail)
 rw[<-nD.o];refine td.o.mono ?_;rintro e u⟨rfl,hu⟩;obtain⟨a0,a1,a2,a3,a4,a5,a6,a7,a8,a9,jA,jB,a12,jx,jC,jd,jK,jL,jM,jU,a20,a21⟩:=eh (hu.keep mJ.o id) lu.o;rw[Am.o]at a1;clear a0 a2 a3 a4 a5 a6 a7 a8 a9 jA jB a12 jx jC jd jK jL jM jU a20 a21;have qi:=O (show∀n,Fr aS w2 (u.drewN n)from fun n=>dC n hu);clear hu u_;go_wp2_with fail
 go_quiet (fail);clear a1;have mG:=qi.o nq;generalize u.drewN nq=u1 at mG ⊢;have th:=O mG;clear mG qi;have EB:=O (th.o.keep mJ.o id);rw[dZ lu.o]at EB;obtain⟨a0,a1,a2,a3,a4,a5,a6,a7,a8,a9,jA,jB,a12,jx,jC,jd,jK,jL,jM,jU,a20,a21⟩:=eh (th.o.keep mJ.o id) lu.o;rw[Am.o]at a1;have wZ:=HW.o;rw[wZ]at a0;clear wZ;clear a1 a2 a3 a4 a5 a6 a7 a8 a9 jA jB a12 jx jC jd jK jL jM jU a20 a21
 go_wp2_with (first|((with_reducible refine dk 24 ?_);refine aI rfl 33 (.tmp 3) rfl w.heap.size rfl _ _ (0,0) _ EB.o underlying33 rfl af ?_)|fail)
 have tj:=th.o;refine(HM.o _ tj).mono ?_;rintro e u5⟨rfl,hp⟩;unfold kM.val;have Lv:=tj.keep qG.o id;have oX:=O (nP (HH.o.di tj) sL.o hp Lv dJ ab);have HP:=O (show dr base w B pv (x.set i r.1) u5 from cH fY.o (cH tj (ki (HH.o.di tj) sL.o hp)));clear hp Lv tj HM
 go_wp2_with (first|((with_reducible refine cV 46 ?_);refine aG rfl 46 (.tmp 4) (.tmp 25) rfl (w.heap.size+1) #[.int .i64 r.2.what,.string r.2.head,.int .i64 r.2.cert] rfl rfl _ bR oX.o (bf _ rfl) rfl ct ?_)|fail)
 refine aU (bu bC _ _ (w.heap.size+1) 46 #[.int .i64 r.2.what,.string r.2.head,.int .i64 r.2.cert] (0,0) _ rfl (aY _ (w.heap.size+1) _ _ _ _ oX.o) underlying46 rfl (bf _ rfl)) rfl ?_;unfold jN;rw[HR.o];exact⟨rfl,ep HP.o oY.o oT.o (bV _) oX.o dJ ag _⟩
theorem Og(base:Nat)(w:World)(B:Nat)(pv:Nat->cU)(x:dN)(o:jz)(hs:List gY)(h:cE base w B pv x)(hf:gB w o hs)(hi:lI x)(a:World)(sY:kC a)(rU:a.heap.size<=base)(sZ:Fr aS a w)(hr:(o.dS hs).right=true)(hw:o.what=2) :
  aB 30 #[.pointer (some ⟨B,0,none⟩),.agg o.cells.toArray] w (jN base w B pv (mi x (o.dS hs))):=by
 have uA:B<w.heap.size:=h.lt;have ou:=h.low;obtain⟨ah,ch,gD⟩:=hf.gT;obtain⟨w2,eA⟩:∃w2,w2=(w.alloc (.cells o.cells.toArray 33)).alloc (.cells bR 46):=⟨_,rfl⟩;have dz:Fr aS w w2:=by rw[eA];exact((ae aS w).alloc _).alloc _
 have k1:w2.heap[w.heap.size]?=some (.cells o.cells.toArray 33 (0,0)):=by rw[eA];exact((ae aS _).alloc _).keep (aC _ _) id
 have k2:w2.heap[w.heap.size+1]?=some (.cells bR 46 (0,0)):=by
  have h:=aC (w.alloc (.cells o.cells.toArray 33)) (.cells bR 46);rw[bN]at h;rw[eA];exact h
 have td:=O (ll o hs w2 (hf.di dz));have HH:=O (h.di dz);have HF:=O (hf.di dz);have lu:=O gD;have HI:=O hi;have fY:=O dz;have mJ:=O k1;have qG:=O k2;have oY:=O (show base<=w.heap.size from ab);have wW:=O ou;have oT:=O uA;have RQ:=O sY;have RP:=O (sZ.trans dz);have XP:=O rU;rw[eA]at k1;rw[dZ gD]at eA td k1 ⊢;unfold bR at eA k1;have nD:=O eA;have u_:=O k1;clear eA gD dz k1 k2 h hf hi sY rU sZ
 obtain⟨i,vh,Al⟩:∃i:Nat,o.aJ.part=(i:Int)/\i<4:=by
  obtain⟨h0,h1⟩:=ks hr;have Tn:0<=o.aJ.part:=h0;have Hv:o.aJ.part<4:=h1;exact⟨o.aJ.part.toNat,ab,ab⟩
 have MG:(i:Int)<4:=ab;have qp:¬(i:Int)<0:=ab;have Nb:¬(4:Int)<=(i:Int):=ab;have Kt:(0:Int)<=(i:Int):=ab;have sL:=O Al;have Am:=O vh;obtain⟨r,B9⟩:∃r,r=jw (x.part i) (o.dS hs):=⟨_,rfl⟩;have HR:=O (show mi x (o.dS hs)=(x.set i r.1,r.2)by rw[qf hr vh (by show o.what≠10;omega),B9,aoU (show(o.dS hs).what=2 from hw)]);rw[hr]at td
 have HM:=O (show∀U,Fr aS w2 U->aB 43 #[.pointer (some ⟨B,i*3,none⟩),.agg o.cells.toArray] U (eG base U B (iG pv x.now) (i*3) (pv i) r)from fun U hU=>by
  have h:=LF base U B (i*3) (iG pv x.now) (pv i) (x.part i) o hs ((HH.o.di hU).part i sL.o) ((HH.o.di hU).partAt sL.o) wW.o (HF.o.di hU) (HI.o.ok.part i);rw[<-B9]at h;exact h)
 rw[dZ lu.o]at HM;have HW:=O hw;clear hr hw B9 Al vh;go_enter func30,ntmps30;go_wp2_with (first|((with_reducible refine dk 8 ?_);refine aI rfl 33 (.tmp 3) rfl w.heap.size rfl _ _ (0,0) _ u_.o underlying33 rfl af ?_)|fail)
 rw[<-nD.o];refine td.o.mono ?_;rintro e u⟨rfl,hu⟩;obtain⟨a0,a1,a2,a3,a4,a5,a6,a7,a8,a9,jA,jB,a12,jx,jC,jd,jK,jL,jM,jU,a20,a21⟩:=eh (hu.keep mJ.o id) lu.o;rw[Am.o]at a1;clear a0 a2 a3 a4 a5 a6 a7 a8 a9 jA jB a12 jx jC jd jK jL jM jU a20 a21;have qi:=O (show∀n,Fr aS w2 (u.drewN n)from fun n=>dC n hu);clear hu u_;go_wp2_with fail
 go_quiet (fail);clear a1;have mG:=qi.o nq;generalize u.drewN nq=u1 at mG ⊢;have th:=O mG;clear mG qi;have EB:=O (th.o.keep mJ.o id);rw[dZ lu.o]at EB;obtain⟨a0,a1,a2,a3,a4,a5,a6,a7,a8,a9,jA,jB,a12,jx,jC,jd,jK,jL,jM,jU,a20,a21⟩:=eh (th.o.keep mJ.o id) lu.o;rw[Am.o]at a1;have wZ:=HW.o;rw[wZ]at a0;clear wZ;clear a1 a2 a3 a4 a5 a6 a7 a8 a9 jA jB a12 jx jC jd jK jL jM jU a20 a21
 go_wp2_with (first|((with_reducible refine dk 29 ?_);refine aI rfl 33 (.tmp 3) rfl w.heap.size rfl _ _ (0,0) _ EB.o underlying33 rfl af ?_)|fail)
 have tj:=th.o;refine(HM.o _ tj).mono ?_;rintro e u5⟨rfl,hp⟩;unfold kM.val;have Lv:=tj.keep qG.o id;have oX:=O (nP (HH.o.di tj) sL.o hp Lv dJ ab);have HP:=O (show dr base w B pv (x.set i r.1) u5 from cH fY.o (cH tj (ki (HH.o.di tj) sL.o hp)));clear hp Lv tj HM
 go_wp2_with (first|((with_reducible refine cV 46 ?_);refine aG rfl 46 (.tmp 4) (.tmp 30) rfl (w.heap.size+1) #[.int .i64 r.2.what,.string r.2.head,.int .i64 r.2.cert] rfl rfl _ bR oX.o (bf _ rfl) rfl ct ?_)|fail)
 refine aU (bu bC _ _ (w.heap.size+1) 46 #[.int .i64 r.2.what,.string r.2.head,.int .i64 r.2.cert] (0,0) _ rfl (aY _ (w.heap.size+1) _ _ _ _ oX.o) underlying46 rfl (bf _ rfl)) rfl ?_;unfold jN;rw[HR.o];exact⟨rfl,ep HP.o oY.o oT.o (bV _) oX.o dJ ag _⟩
theorem LK(base:Nat)(w:World)(B:Nat)(pv:Nat->cU)(x:dN)(o:jz)(hs:List gY)(h:cE base w B pv x)(hf:gB w o hs)(hi:lI x)(a:World)(sY:kC a)(rU:a.heap.size<=base)(sZ:Fr aS a w)(hr:(o.dS hs).right=true)(hw:o.what=3) :
  aB 30 #[.pointer (some ⟨B,0,none⟩),.agg o.cells.toArray] w (jN base w B pv (mi x (o.dS hs))):=by
 have uA:B<w.heap.size:=h.lt;have ou:=h.low;obtain⟨ah,ch,gD⟩:=hf.gT;obtain⟨w2,eA⟩:∃w2,w2=(w.alloc (.cells o.cells.toArray 33)).alloc (.cells bR 46):=⟨_,rfl⟩;have dz:Fr aS w w2:=by rw[eA];exact((ae aS w).alloc _).alloc _
 have k1:w2.heap[w.heap.size]?=some (.cells o.cells.toArray 33 (0,0)):=by rw[eA];exact((ae aS _).alloc _).keep (aC _ _) id
 have k2:w2.heap[w.heap.size+1]?=some (.cells bR 46 (0,0)):=by
  have h:=aC (w.alloc (.cells o.cells.toArray 33)) (.cells bR 46);rw[bN]at h;rw[eA];exact h
 have td:=O (ll o hs w2 (hf.di dz));have HH:=O (h.di dz);have HF:=O (hf.di dz);have lu:=O gD;have HI:=O hi;have fY:=O dz;have mJ:=O k1;have qG:=O k2;have oY:=O (show base<=w.heap.size from ab);have wW:=O ou;have oT:=O uA;have RQ:=O sY;have RP:=O (sZ.trans dz);have XP:=O rU;rw[eA]at k1;rw[dZ gD]at eA td k1 ⊢;unfold bR at eA k1;have nD:=O eA;have u_:=O k1;clear eA gD dz k1 k2 h hf hi sY rU sZ
 obtain⟨i,vh,Al⟩:∃i:Nat,o.aJ.part=(i:Int)/\i<4:=by
  obtain⟨h0,h1⟩:=ks hr;have Tn:0<=o.aJ.part:=h0;have Hv:o.aJ.part<4:=h1;exact⟨o.aJ.part.toNat,ab,ab⟩
 have MG:(i:Int)<4:=ab;have qp:¬(i:Int)<0:=ab;have Nb:¬(4:Int)<=(i:Int):=ab;have Kt:(0:Int)<=(i:Int):=ab;have sL:=O Al;have Am:=O vh;obtain⟨r,B9⟩:∃r,r=lh (x.part i) (o.dS hs):=⟨_,rfl⟩;have HR:=O (show mi x (o.dS hs)=(x.set i r.1,r.2)by rw[qf hr vh (by show o.what≠10;omega),B9,aoV (show(o.dS hs).what=3 from hw)]);rw[hr]at td
 have HM:=O (show∀U,Fr aS w2 U->aB 44 #[.pointer (some ⟨B,i*3,none⟩),.agg o.cells.toArray] U (eG base U B (iG pv x.now) (i*3) (pv i) r)from fun U hU=>by
  have h:=IA base U B (i*3) (iG pv x.now) (pv i) (x.part i) o hs ((HH.o.di hU).part i sL.o) ((HH.o.di hU).partAt sL.o) wW.o (HF.o.di hU) (HI.o.ok.part i) (HI.o.path i);rw[<-B9]at h;exact h)
 rw[dZ lu.o]at HM;have HW:=O hw;clear hr hw B9 Al vh;go_enter func30,ntmps30;go_wp2_with (first|((with_reducible refine dk 8 ?_);refine aI rfl 33 (.tmp 3) rfl w.heap.size rfl _ _ (0,0) _ u_.o underlying33 rfl af ?_)|fail)
 rw[<-nD.o];refine td.o.mono ?_;rintro e u⟨rfl,hu⟩;obtain⟨a0,a1,a2,a3,a4,a5,a6,a7,a8,a9,jA,jB,a12,jx,jC,jd,jK,jL,jM,jU,a20,a21⟩:=eh (hu.keep mJ.o id) lu.o;rw[Am.o]at a1;clear a0 a2 a3 a4 a5 a6 a7 a8 a9 jA jB a12 jx jC jd jK jL jM jU a20 a21;have qi:=O (show∀n,Fr aS w2 (u.drewN n)from fun n=>dC n hu);clear hu u_;go_wp2_with fail
 go_quiet (fail);clear a1;have mG:=qi.o nq;generalize u.drewN nq=u1 at mG ⊢;have th:=O mG;clear mG qi;have EB:=O (th.o.keep mJ.o id);rw[dZ lu.o]at EB;obtain⟨a0,a1,a2,a3,a4,a5,a6,a7,a8,a9,jA,jB,a12,jx,jC,jd,jK,jL,jM,jU,a20,a21⟩:=eh (th.o.keep mJ.o id) lu.o;rw[Am.o]at a1;have wZ:=HW.o;rw[wZ]at a0;clear wZ;clear a1 a2 a3 a4 a5 a6 a7 a8 a9 jA jB a12 jx jC jd jK jL jM jU a20 a21
 go_wp2_with (first|((with_reducible refine dk 34 ?_);refine aI rfl 33 (.tmp 3) rfl w.heap.size rfl _ _ (0,0) _ EB.o underlying33 rfl af ?_)|fail)
 have tj:=th.o;refine(HM.o _ tj).mono ?_;rintro e u5⟨rfl,hp⟩;unfold kM.val;have Lv:=tj.keep qG.o id;have oX:=O (nP (HH.o.di tj) sL.o hp Lv dJ ab);have HP:=O (show dr base w B pv (x.set i r.1) u5 from cH fY.o (cH tj (ki (HH.o.di tj) sL.o hp)));clear hp Lv tj HM
 go_wp2_with (first|((with_reducible refine cV 46 ?_);refine aG rfl 46 (.tmp 4) (.tmp 35) rfl (w.heap.size+1) #[.int .i64 r.2.what,.string r.2.head,.int .i64 r.2.cert] rfl rfl _ bR oX.o (bf _ rfl) rfl ct ?_)|fail)
 refine aU (bu bC _ _ (w.heap.size+1) 46 #[.int .i64 r.2.what,.string r.2.head,.int .i64 r.2.cert] (0,0) _ rfl (aY _ (w.heap.size+1) _ _ _ _ oX.o) underlying46 rfl (bf _ rfl)) rfl ?_;unfold jN;rw[HR.o];exact⟨rfl,ep HP.o oY.o oT.o (bV _) oX.o dJ ag _⟩
theorem Wf(base:Nat)(w:World)(B:Nat)(pv:Nat->cU)(x:dN)(o:jz)(hs:List gY)(h:cE base w B pv x)(hf:gB w o hs)(hi:lI x)(a:World)(sY:kC a)(rU:a.heap.size<=base)(sZ:Fr aS a w)(hr:(o.dS hs).right=true)(hw:o.what=4) :
  aB 30 #[.pointer (some ⟨B,0,none⟩),.agg o.cells.toArray] w (jN base w B pv (mi x (o.dS hs))):=by
 have uA:B<w.heap.size:=h.lt;have ou:=h.low;obtain⟨ah,ch,gD⟩:=hf.gT;obtain⟨w2,eA⟩:∃w2,w2=(w.alloc (.cells o.cells.toArray 33)).alloc (.cells bR 46):=⟨_,rfl⟩;have dz:Fr aS w w2:=by rw[eA];exact((ae aS w).alloc _).alloc _
 have k1:w2.heap[w.heap.size]?=some (.cells o.cells.toArray 33 (0,0)):=by rw[eA];exact((ae aS _).alloc _).keep (aC _ _) id
 have k2:w2.heap[w.heap.size+1]?=some (.cells bR 46 (0,0)):=by
  have h:=aC (w.alloc (.cells o.cells.toArray 33)) (.cells bR 46);rw[bN]at h;rw[eA];exact h
 have td:=O (ll o hs w2 (hf.di dz));have HH:=O (h.di dz);have HF:=O (hf.di dz);have lu:=O gD;have HI:=O hi;have fY:=O dz;have mJ:=O k1;have qG:=O k2;have oY:=O (show base<=w.heap.size from ab);have wW:=O ou;have oT:=O uA;have RQ:=O sY;have RP:=O (sZ.trans dz);have XP:=O rU;rw[eA]at k1;rw[dZ gD]at eA td k1 ⊢;unfold bR at eA k1;have nD:=O eA;have u_:=O k1;clear eA gD dz k1 k2 h hf hi sY rU sZ
 obtain⟨i,vh,Al⟩:∃i:Nat,o.aJ.part=(i:Int)/\i<4:=by
  obtain⟨h0,h1⟩:=ks hr;have Tn:0<=o.aJ.part:=h0;have Hv:o.aJ.part<4:=h1;exact⟨o.aJ.part.toNat,ab,ab⟩
 have MG:(i:Int)<4:=ab;have qp:¬(i:Int)<0:=ab;have Nb:¬(4:Int)<=(i:Int):=ab;have Kt:(0:Int)<=(i:Int):=ab;have sL:=O Al;have Am:=O vh;have Jm:=O (show mi x (o.dS hs)=(x,rep (if mA (x.part i).book (o.aJ.dS hs) x.now then 5 else 4))by
  rw[qf hr vh (by show o.what≠10;omega),aoW (show(o.dS hs).what=4 from hw),dN.KY];rfl)
 rw[hr]at td
 have wY:=O (show∀U,Fr aS w2 U->aB 45 #[.pointer (some ⟨(pv i).k,0,none⟩),.agg #[.int .i64 (i:Int),.bool o.aJ.cW.aE,.string o.aJ.cW.host,.int .i64 o.aJ.cW.port,.bool o.aJ.o.aE,.string o.aJ.o.host,.int .i64 o.aJ.o.port,.string o.aJ.path,.string o.aJ.query,.string o.aJ.method,.slice ah hs.length ch,.bool o.aJ.fN,.string o.aJ.body],.int .i64 x.now] U fun e w'=>e=.returned (.bool (mA (x.part i).book (o.aJ.dS hs) x.now))/\Fr aS U w' from fun U hU=>by
  have h:=LB base U (pv i).k (pv i).kv (x.part i).book o.aJ hs x.now ((HH.o.di hU).part i sL.o).book (iD (HI.o.ok.part i).qZ.2.2.1 ag) (HF.o.di hU).en HF.o.aJ;rw[zL lu.o,Am.o]at h;exact h)
 have HC:=O (show∀U,Fr aS w2 U->(U.cell? ⟨B,i*3+1,none⟩=some (.pointer (some ⟨(pv i).k,0,none⟩))/\U.cell? ⟨B,12,none⟩=some (.int .i64 x.now)/\U.cell? ⟨w.heap.size,1,none⟩=some (.int .i64 (i:Int))/\U.cell? ⟨w.heap.size,2,none⟩=some (.bool o.aJ.cW.aE)/\U.cell? ⟨w.heap.size,3,none⟩=some (.string o.aJ.cW.host)/\U.cell? ⟨w.heap.size,4,none⟩=some (.int .i64 o.aJ.cW.port)/\U.cell? ⟨w.heap.size,5,none⟩=some (.bool o.aJ.o.aE)/\U.cell? ⟨w.heap.size,6,none⟩=some (.string o.aJ.o.host)/\U.cell? ⟨w.heap.size,7,none⟩=some (.int .i64 o.aJ.o.port)/\U.cell? ⟨w.heap.size,8,none⟩=some (.string o.aJ.path)/\U.cell? ⟨w.heap.size,9,none⟩=some (.string o.aJ.query)/\U.cell? ⟨w.heap.size,10,none⟩=some (.string o.aJ.method)/\U.cell? ⟨w.heap.size,11,none⟩=some (.slice ah hs.length ch)/\U.cell? ⟨w.heap.size,12,none⟩=some (.bool o.aJ.fN)/\U.cell? ⟨w.heap.size,13,none⟩=some (.string o.aJ.body))from fun U hU=>by
  have j1:=(HH.o.di hU).partAt sL.o;have j2:=(HH.o.di hU).eJ;obtain⟨a0,a1,a2,a3,a4,a5,a6,a7,a8,a9,jA,jB,a12,jx,jC,jd,jK,jL,jM,jU,a20,a21⟩:=eh (hU.keep mJ.o id) lu.o;rw[Am.o]at a1;exact⟨j1.gW,by simp only[World.cell?,j2];rfl,a1,a2,a3,a4,a5,a6,a7,a8,a9,jA,jB,a12,jx⟩)
 have HW:=O hw;clear hr hw Al vh;go_enter func30,ntmps30;go_wp2_with (first|((with_reducible refine dk 8 ?_);refine aI rfl 33 (.tmp 3) rfl w.heap.size rfl _ _ (0,0) _ u_.o underlying33 rfl af ?_)|fail)
 rw[<-nD.o];refine td.o.mono ?_;rintro e u⟨rfl,hu⟩;obtain⟨a0,a1,a2,a3,a4,a5,a6,a7,a8,a9,jA,jB,a12,jx,jC,jd,jK,jL,jM,jU,a20,a21⟩:=eh (hu.keep mJ.o id) lu.o;rw[Am.o]at a1;clear a0 a2 a3 a4 a5 a6 a7 a8 a9 jA jB a12 jx jC jd jK jL jM jU a20 a21;have qi:=O (show∀n,Fr aS w2 (u.drewN n)from fun n=>dC n hu);clear hu u_;go_wp2_with fail
 go_quiet (fail);clear a1;have mG:=qi.o nq;generalize u.drewN nq=u1 at mG ⊢;have th:=O mG;clear mG qi;have EB:=O (th.o.keep mJ.o id);rw[dZ lu.o]at EB;obtain⟨a0,a1,a2,a3,a4,a5,a6,a7,a8,a9,jA,jB,a12,jx,jC,jd,jK,jL,jM,jU,a20,a21⟩:=eh (th.o.keep mJ.o id) lu.o;rw[Am.o]at a1;have wZ:=HW.o;rw[wZ]at a0;clear wZ;clear a1 a2 a3 a4 a5 a6 a7 a8 a9 jA jB a12 jx jC jd jK jL jM jU a20 a21
 cases hb:mA (x.part i).book (o.aJ.dS hs) x.now
 ·skip
  have HR:=O (Jm.o.trans (by rw[hb];rfl:_=(x,rep 4)));rw[hb]at wY;clear hb Jm;go_wp2_with fail
  go_region_held3 (fun U=>Fr aS w2 U/\U.cell? ⟨B,i*3+1,none⟩=some (.pointer (some ⟨(pv i).k,0,none⟩))/\U.cell? ⟨B,12,none⟩=some (.int .i64 x.now)/\U.cell? ⟨w.heap.size,1,none⟩=some (.int .i64 (i:Int))/\U.cell? ⟨w.heap.size,2,none⟩=some (.bool o.aJ.cW.aE)/\U.cell? ⟨w.heap.size,3,none⟩=some (.string o.aJ.cW.host)/\U.cell? ⟨w.heap.size,4,none⟩=some (.int .i64 o.aJ.cW.port)/\U.cell? ⟨w.heap.size,5,none⟩=some (.bool o.aJ.o.aE)/\U.cell? ⟨w.heap.size,6,none⟩=some (.string o.aJ.o.host)/\U.cell? ⟨w.heap.size,7,none⟩=some (.int .i64 o.aJ.o.port)/\U.cell? ⟨w.heap.size,8,none⟩=some (.string o.aJ.path)/\U.cell? ⟨w.heap.size,9,none⟩=some (.string o.aJ.query)/\U.cell? ⟨w.heap.size,10,none⟩=some (.string o.aJ.method)/\U.cell? ⟨w.heap.size,11,none⟩=some (.slice ah hs.length ch)/\U.cell? ⟨w.heap.size,12,none⟩=some (.bool o.aJ.fN)/\U.cell? ⟨w.heap.size,13,none⟩=some (.string o.aJ.body)) ((refine(fun hU=>⟨hU,HC.o _ hU⟩) ?_;first|exact az th.o|assumption))
   ((first
    |(go_at_call 45;refine(wY.o _ (az th.o)).mono ?_;rintro e u5 ⟨rfl,lL⟩;have tS:Fr aS w2 u5:=(az th.o).trans lL)))
  have HP:=O (show dr base w B pv x u5 from cH fY.o (fx HH.o tS));have oX:=O (tS.keep qG.o id);clear lL tS HC wY;go_wp2_with (first|((with_reducible refine cV 46 ?_);refine aG rfl 46 (.tmp 4) (.tmp 50) rfl (w.heap.size+1) #[.int .i64 4,.string ⟨#[]⟩,.int .i64 0] rfl rfl _ bR oX.o (bf _ rfl) rfl ct ?_)|fail)
  refine aU (bu bC _ _ (w.heap.size+1) 46 #[.int .i64 4,.string ⟨#[]⟩,.int .i64 0] (0,0) _ rfl (aY _ (w.heap.size+1) _ _ _ _ oX.o) underlying46 rfl (bf _ rfl)) rfl ?_;unfold jN;rw[HR.o];exact⟨rfl,ep HP.o oY.o oT.o (bV _) oX.o dJ ag _⟩
 ·skip
  have HR:=O (Jm.o.trans (by rw[hb];rfl:_=(x,rep 5)));rw[hb]at wY;clear hb Jm;go_wp2_with fail
  go_region_held3 (fun U=>Fr aS w2 U/\U.cell? ⟨B,i*3+1,none⟩=some (.pointer (some ⟨(pv i).k,0,none⟩))/\U.cell? ⟨B,12,none⟩=some (.int .i64 x.now)/\U.cell? ⟨w.heap.size,1,none⟩=some (.int .i64 (i:Int))/\U.cell? ⟨w.heap.size,2,none⟩=some (.bool o.aJ.cW.aE)/\U.cell? ⟨w.heap.size,3,none⟩=some (.string o.aJ.cW.host)/\U.cell? ⟨w.heap.size,4,none⟩=some (.int .i64 o.aJ.cW.port)/\U.cell? ⟨w.heap.size,5,none⟩=some (.bool o.aJ.o.aE)/\U.cell? ⟨w.heap.size,6,none⟩=some (.string o.aJ.o.host)/\U.cell? ⟨w.heap.size,7,none⟩=some (.int .i64 o.aJ.o.port)/\U.cell? ⟨w.heap.size,8,none⟩=some (.string o.aJ.path)/\U.cell? ⟨w.heap.size,9,none⟩=some (.string o.aJ.query)/\U.cell? ⟨w.heap.size,10,none⟩=some (.string o.aJ.method)/\U.cell? ⟨w.heap.size,11,none⟩=some (.slice ah hs.length ch)/\U.cell? ⟨w.heap.size,12,none⟩=some (.bool o.aJ.fN)/\U.cell? ⟨w.heap.size,13,none⟩=some (.string o.aJ.body)) ((refine(fun hU=>⟨hU,HC.o _ hU⟩) ?_;first|exact az th.o|assumption))
   ((first
    |(go_at_call 45;refine(wY.o _ (az th.o)).mono ?_;rintro e u5 ⟨rfl,lL⟩;have tS:Fr aS w2 u5:=(az th.o).trans lL)))
  have HP:=O (show dr base w B pv x u5 from cH fY.o (fx HH.o tS));have oX:=O (tS.keep qG.o id);clear lL tS HC wY;go_wp2_with (first|((with_reducible refine cV 46 ?_);refine aG rfl 46 (.tmp 4) (.tmp 49) rfl (w.heap.size+1) #[.int .i64 5,.string ⟨#[]⟩,.int .i64 0] rfl rfl _ bR oX.o (bf _ rfl) rfl ct ?_)|fail)
  refine aU (bu bC _ _ (w.heap.size+1) 46 #[.int .i64 5,.string ⟨#[]⟩,.int .i64 0] (0,0) _ rfl (aY _ (w.heap.size+1) _ _ _ _ oX.o) underlying46 rfl (bf _ rfl)) rfl ?_;unfold jN;rw[HR.o];exact⟨rfl,ep HP.o oY.o oT.o (bV _) oX.o dJ ag _⟩
theorem Sa{t:TypeId}(h:w.heap[b]?=some (.cells cs.toArray t (0,0))):w.rangeAt b 0 cs:=fun j v hv=>by
 simp only[World.cell?,h];simpa using hv
theorem Oh(base:Nat)(w:World)(B:Nat)(pv:Nat->cU)(x:dN)(o:jz)(hs:List gY)(h:cE base w B pv x)(hf:gB w o hs)(hi:lI x)(a:World)(sY:kC a)(rU:a.heap.size<=base)(sZ:Fr aS a w)(hr:(o.dS hs).right=true)(hw:o.what=5) :
  aB 30 #[.pointer (some ⟨B,0,none⟩),.agg o.cells.toArray] w (jN base w B pv (mi x (o.dS hs))):=by
 have uA:B<w.heap.size:=h.lt;have ou:=h.low;obtain⟨ah,ch,gD⟩:=hf.gT;obtain⟨w2,eA⟩:∃w2,w2=(w.alloc (.cells o.cells.toArray 33)).alloc (.cells bR 46):=⟨_,rfl⟩;have dz:Fr aS w w2:=by rw[eA];exact((ae aS w).alloc _).alloc _
 have k1:w2.heap[w.heap.size]?=some (.cells o.cells.toArray 33 (0,0)):=by rw[eA];exact((ae aS _).alloc _).keep (aC _ _) id
 have k2:w2.heap[w.heap.size+1]?=some (.cells bR 46 (0,0)):=by
  have h:=aC (w.alloc (.cells o.cells.toArray 33)) (.cells bR 46);rw[bN]at h;rw[eA];exact h
 have td:=O (ll o hs w2 (hf.di dz));have HH:=O (h.di dz);have HF:=O (hf.di dz);have lu:=O gD;have HI:=O hi;have fY:=O dz;have mJ:=O k1;have qG:=O k2;have oY:=O (show base<=w.heap.size from ab);have wW:=O ou;have oT:=O uA;have RQ:=O sY;have RP:=O (sZ.trans dz);have XP:=O rU;rw[eA]at k1;rw[dZ gD]at eA td k1 ⊢;unfold bR at eA k1;have nD:=O eA;have u_:=O k1;clear eA gD dz k1 k2 h hf hi sY rU sZ
 obtain⟨i,vh,Al⟩:∃i:Nat,o.aJ.part=(i:Int)/\i<4:=by
  obtain⟨h0,h1⟩:=ks hr;have Tn:0<=o.aJ.part:=h0;have Hv:o.aJ.part<4:=h1;exact⟨o.aJ.part.toNat,ab,ab⟩
 have MG:(i:Int)<4:=ab;have qp:¬(i:Int)<0:=ab;have Nb:¬(4:Int)<=(i:Int):=ab;have Kt:(0:Int)<=(i:Int):=ab;have sL:=O Al;have Am:=O vh;obtain⟨r,B9⟩:∃r,r=lj (x.part i) x.now (o.dS hs):=⟨_,rfl⟩;have HR:=O (show mi x (o.dS hs)=(x.set i r.1,r.2)by rw[qf hr vh (by show o.what≠10;omega),B9,aoX (show(o.dS hs).what=5 from hw)]);rw[hr]at td
 have HM:=O (show∀U,Fr aS w2 U->aB 46 #[.pointer (some ⟨B,i*3,none⟩),.agg o.cells.toArray,.int .i64 x.now] U (eG base U B (iG pv x.now) (i*3) (pv i) r)from fun U hU=>by
  have h:=LC base U B (i*3) (iG pv x.now) (pv i) (x.part i) o hs x.now ((HH.o.di hU).part i sL.o) ((HH.o.di hU).partAt sL.o) wW.o (HF.o.di hU) (HI.o.ok.part i) (RQ.o.pw.fr (RP.o.trans hU)) HI.o.ok.now.1 HI.o.ok.now.2;rw[<-B9]at h;exact h)
 rw[dZ lu.o]at HM
 have HC:=O (show∀U,Fr aS w2 U->(U.heap[w.heap.size]?=some (.cells #[.int .i64 o.what,.int .i64 o.aJ.part,.bool o.aJ.cW.aE,.string o.aJ.cW.host,.int .i64 o.aJ.cW.port,.bool o.aJ.o.aE,.string o.aJ.o.host,.int .i64 o.aJ.o.port,.string o.aJ.path,.string o.aJ.query,.string o.aJ.method,.slice ah hs.length ch,.bool o.aJ.fN,.string o.aJ.body,.bool o.proxy,.string o.text,.string o.user,.string o.pass,.string o.bK,.int .i64 o.cert,.bool o.all,.int .i64 o.n] 33 (0,0))/\U.cell? ⟨B,12,none⟩=some (.int .i64 x.now))from fun U hU=>by
  have j2:=(HH.o.di hU).eJ;exact⟨by rw[<-dZ lu.o];exact hU.keep mJ.o id,by simp only[World.cell?,j2];rfl⟩)
 have HW:=O hw;clear hr hw B9 Al vh;go_enter func30,ntmps30;go_wp2_with (first|((with_reducible refine dk 8 ?_);refine aI rfl 33 (.tmp 3) rfl w.heap.size rfl _ _ (0,0) _ u_.o underlying33 rfl af ?_)|fail)
 rw[<-nD.o];refine td.o.mono ?_;rintro e u⟨rfl,hu⟩;obtain⟨a0,a1,a2,a3,a4,a5,a6,a7,a8,a9,jA,jB,a12,jx,jC,jd,jK,jL,jM,jU,a20,a21⟩:=eh (hu.keep mJ.o id) lu.o;rw[Am.o]at a1;clear a0 a2 a3 a4 a5 a6 a7 a8 a9 jA jB a12 jx jC jd jK jL jM jU a20 a21;have qi:=O (show∀n,Fr aS w2 (u.drewN n)from fun n=>dC n hu);clear hu u_;go_wp2_with fail
 go_quiet (fail);clear a1;have mG:=qi.o nq;generalize u.drewN nq=u1 at mG ⊢;have th:=O mG;clear mG qi;have EB:=O (th.o.keep mJ.o id);rw[dZ lu.o]at EB;obtain⟨a0,a1,a2,a3,a4,a5,a6,a7,a8,a9,jA,jB,a12,jx,jC,jd,jK,jL,jM,jU,a20,a21⟩:=eh (th.o.keep mJ.o id) lu.o;rw[Am.o]at a1;have wZ:=HW.o;rw[wZ]at a0;clear wZ;clear a1 a2 a3 a4 a5 a6 a7 a8 a9 jA jB a12 jx jC jd jK jL jM jU a20 a21;go_wp2_with fail
 refine wp_region_held_drew (S:=(fun U=>U.heap[w.heap.size]?=some (.cells #[.int .i64 o.what,.int .i64 o.aJ.part,.bool o.aJ.cW.aE,.string o.aJ.cW.host,.int .i64 o.aJ.cW.port,.bool o.aJ.o.aE,.string o.aJ.o.host,.int .i64 o.aJ.o.port,.string o.aJ.path,.string o.aJ.query,.string o.aJ.method,.slice ah hs.length ch,.bool o.aJ.fN,.string o.aJ.body,.bool o.proxy,.string o.text,.string o.user,.string o.pass,.string o.bK,.int .i64 o.cert,.bool o.all,.int .i64 o.n] 33 (0,0))/\U.cell? ⟨B,12,none⟩=some (.int .i64 x.now))) af (HC.o _ (az th.o)) ?_
 intro Aj;refine aW 0 53 rfl ?_
 refine v8 1 54 rfl (gR bC 33 (.tmp 3) rfl w.heap.size 0 rfl [.int .i64 o.what,.int .i64 o.aJ.part,.bool o.aJ.cW.aE,.string o.aJ.cW.host,.int .i64 o.aJ.cW.port,.bool o.aJ.o.aE,.string o.aJ.o.host,.int .i64 o.aJ.o.port,.string o.aJ.path,.string o.aJ.query,.string o.aJ.method,.slice ah hs.length ch,.bool o.aJ.fN,.string o.aJ.body,.bool o.proxy,.string o.text,.string o.user,.string o.pass,.string o.bK,.int .i64 o.cert,.bool o.all,.int .i64 o.n] _ (fun U hU=>Sa hU.1) underlying33 rfl af) ?_
 try simp only[Act.put,sA,sB,sC]
 refine aW 2 55 rfl ?_;refine aW 3 56 rfl ?_;refine aW 4 57 rfl ?_;refine aW 5 58 rfl ?_;refine eT 6 rfl fun K hK=>?_;go_simp;have tj:=az th.o;refine(HM.o _ tj).mono ?_;rintro e u5⟨rfl,hp⟩;unfold kM.val;have Lv:=tj.keep qG.o id;have oX:=O (nP (HH.o.di tj) sL.o hp Lv dJ ab);have hko:=nP (HH.o.di tj) sL.o hp (HC.o _ tj).1 jb ab
 have HP:=O (show dr base w B pv (x.set i r.1) u5 from cH fY.o (cH tj (ki (HH.o.di tj) sL.o hp)));have Z1:u5.cell? ⟨B,12,none⟩=some (.int .i64 x.now):=by
  obtain⟨v',_,_,_,h4⟩:=hp;rw[yk pv x.now sL.o]at h4;simp only[World.cell?,h4];rfl
 have HS5:=O (And.intro hko Z1);have HB5:=O (show B<u5.heap.size by obtain⟨v',_,_,_,h4⟩:=hp;exact bj h4);clear hp Lv tj HM hko Z1;refine hK.out _ _ HS5.o ?_;intro yl;clear hK Aj K
 try simp only[Act.put,sA,sB,sC]
 refine eT 7 rfl fun K hK=>?_;refine jJ rfl 46 (.tmp 4) (.tmp 59) rfl (w.heap.size+1) #[.int .i64 r.2.what,.string r.2.head,.int .i64 r.2.cert] rfl rfl 46 bR oX.o (bf _ rfl) rfl ct ?_;have cL:=(ae (one (w.heap.size+1)) u5).setRow (fun _=>rfl) #[.int .i64 r.2.what,.string r.2.head,.int .i64 r.2.cert]
 refine hK.out _ _ ⟨cL.keep HS5.o.1 (fun e=>by have e':w.heap.size=w.heap.size+1:=e;omega),(cL.cell (p:=⟨B,12,none⟩) HB5.o (fun e=>by have e':B=w.heap.size+1:=e;have:=oT.o;omega)).trans HS5.o.2⟩ ?_;intro BJ;clear hK yl K BJ cL
 try simp only[Act.put,sA,sB,sC]
 refine wpAnyH_done af ?_ _;go_wp2_with fail
 refine aU (bu bC _ _ (w.heap.size+1) 46 #[.int .i64 r.2.what,.string r.2.head,.int .i64 r.2.cert] (0,0) _ rfl (aY _ (w.heap.size+1) _ _ _ _ oX.o) underlying46 rfl (bf _ rfl)) rfl ?_;unfold jN;rw[HR.o];exact⟨rfl,ep HP.o oY.o oT.o (bV _) oX.o dJ ag _⟩
