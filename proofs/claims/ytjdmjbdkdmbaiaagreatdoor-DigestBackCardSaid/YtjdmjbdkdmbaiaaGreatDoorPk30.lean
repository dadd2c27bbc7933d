/- Asked, Book4, AskFitP, CorsGet. -/
import Derived.Test.YtjdmjbdkdmbaiaaGreatDoorPk28
import Derived.Test.YtjdmjbdkdmbaiaaGreatDoorPk29
set_option maxRecDepth 100000
set_option maxHeartbeats 16000000
set_option linter.unusedSimpArgs false
namespace Go.Proofs.YtjdmjbdkdmbaiaaGreatDoor
open Go.RowKit
def re(ws:List (aG aF))(m:aG aF):List (aG aF) :=
 let l:=(fk m.o m.proxy ws).1++[m]
 l.drop (l.length-8)
theorem OV(ws:List (aG aF))(m:aG aF):(re ws m).length<=8:=by
 unfold re;simp only[List.length_drop];omega
def AO(base:Nat)(w:World)(b:Nat)(gv wv:Value)(gs:List (ai aF))(ws:List (aG aF))(e:Ending)(w':World):Prop :=
 e=.returned (.tuple #[])/\fj base w b gv wv gs ws w'
theorem GU{base:Nat}{w3 w4:World}{b:Nat}{gv wv:Value}{gs:List (ai aF)}{fs:List (aG aF)}{m:aG aF}{r3:aG Value}{rs:List (aG Value)}{gg cap:Nat}(h3:ba base w3 b gv wv gs fs)
  (ho:OwnRows base 144 13 w3 wv (rs.map aG.cells))(fC:fF (aG.Reads (aS base w3)) rs fs)(oT:aG.Reads (aS base w3) r3 m)(ll:∀u∈r3.cells,u.oneCell'=true)(bT:Fr (own wv) w3 w4)
  (cZ:w4.ownsRow base 144 13 (.slice (some ⟨gg,0,none⟩) (fs.length+1) cap) (fs.length+1) ((rs.map aG.cells).flatten++r3.cells))(bC:wv.ownBlock=some gg\/w3.heap.size<=gg) :
  ba base (w4.setCell ⟨b,1,none⟩ (.slice (some ⟨gg,0,none⟩) (fs.length+1) cap)) b gv (.slice (some ⟨gg,0,none⟩) (fs.length+1) cap) gs (fs++[m]) /\
  Fr (aY b gv wv) w3 (w4.setCell ⟨b,1,none⟩ (.slice (some ⟨gg,0,none⟩) (fs.length+1) cap))/\∀k,aY b gv (.slice (some ⟨gg,0,none⟩) (fs.length+1) cap) k->aY b gv wv k\/w3.heap.size<=k:=by
 have kM:=h3.low;have qW:=fC.len;have yu:lT base w3 (own wv):=ho.off (Nat.le_refl _) (by decide);have ph:fF (aG.Reads (aS base w4)) (rs++[r3]) (fs++[m]) :=
  (fC.mono (fun _ _ h=>h.mono (fun _ _ h=>h.fr bT yu))).app (.cons (oT.mono (fun _ _ h=>h.fr bT yu)) .nil)
 have Ag:fq base w4 (.slice (some ⟨gg,0,none⟩) (fs.length+1) cap) (fs++[m]):=by
  refine⟨rs++[r3],⟨?_,?_⟩,ph⟩
  ·intro x hx;rw[List.map_append]at hx;rcases List.mem_append.1 hx with hx|hx
   ·exact ho.1 x hx
   ·simp at hx;subst hx;exact⟨rfl,ll⟩
  ·rw[List.map_append,List.flatten_append,List.length_append,List.length_map,qW];simpa using cZ
 have o5:=bT.keep h3.cR h3.wb;have cY:dx base w4 gv gs:=h3.aH.fr bT yu (fun k hk hg=>h3.gw hk hg);have NY:Fr (aY b gv wv) w3 w4:=bT.mono (fun _ _ hk=>Or.inr (Or.inr hk));refine⟨ba.ZS kM o5 cY Ag,NY.setCell (p:=⟨b,1,none⟩) (fun _=>Or.inl rfl) _,?_⟩;rintro k(hk|hk|hk)
 ·exact Or.inl (Or.inl hk)
 ·exact Or.inl (Or.inr (Or.inl hk))
 ·have e:gg=k:=by simpa[own,Value.ownBlock]using hk
  subst e;rcases bC with bC|bC
  ·exact Or.inl (Or.inr (Or.inr bC))
  ·exact Or.inr bC
theorem iT.ret{base:Nat}{w w':World}{b:Nat}{gv wv:Value}{gs:List (ai aF)}{u:List (aG aF)×Option (aG aF)}{e:Ending}(h:iT base w b gv wv gs u e w'):∃v,e=.returned v:=by
 obtain⟨_,h⟩:=h;split at h
 ·exact⟨_,h⟩
 ·obtain⟨r,h,_⟩:=h;exact⟨_,h⟩
theorem OW{r:aG Value}{a:Option Addr}{n c:Nat}(h1:r.a.dom=.slice a n c):∀u∈r.cells,u.oneCell'=true:=by
 intro u hu;simp only[aG.cells,List.mem_cons,List.not_mem_nil,or_false]at hu;rcases hu with rfl|rfl|rfl|rfl|rfl|rfl|rfl|rfl|rfl|rfl|rfl|rfl|rfl<;>first|rfl|(rw[h1];rfl)
theorem GV(base:Nat)(w:World)(b:Nat)(gv wv:Value)(gs:List (ai aF))(ws:List (aG aF))(g:aG Value)(m:aG aF)(h:ba base w b gv wv gs ws)(hg:g.Reads (aS base w) m)(zW:ws.length<17179869184) :
  Calls Tryz.prog 114 #[.pointer (some ⟨b,0,none⟩),.agg g.cells.toArray] w (AO base w b gv wv gs (re ws m)):=by
 obtain⟨x,hx⟩:∃x,x=g.cells:=⟨_,rfl⟩;have gD:x.length=13:=by rw[hx];rfl
 have pD:=h.lt;have kM:=h.low;obtain⟨ad,cd,Aw⟩:=hg.2.2.2.2.2.2.2.2.2.2.rd.form;have iJ:Fr ay w (w.alloc (.cells x.toArray 144)):=(Fr.refl ay w).alloc _;have h1:=h.bd iJ;have Ko:=hg.mono (fun _ _ h=>h.bd iJ);have mB:(w.alloc (.cells x.toArray 144)).heap[w.heap.size]?=some (.cells x.toArray 144 (0,0)):=af _ _
 have iE:∀i u,g.cells[i]?=some u->(w.alloc (.cells x.toArray 144)).cell? ⟨w.heap.size,i,none⟩=some u:=fun i u hu=>by
  rw[<-hx]at hu;simp only[World.cell?,mB];simpa using hu
 have c0:=iE 0 _ rfl;have c1:=iE 1 _ rfl;have c2:=iE 2 _ rfl;have c3:=iE 3 _ rfl;have lS:=O (Ep base _ b gv wv gs ws g.o g.proxy h1 (by omega));have nE:=O mB;have HG:=O Ko;have HX:=O hx;have HDV:=O Aw;rw[<-hx];clear hg Ko mB iE hx Aw;go_enter Tryz.func114,Tryz.ntmps114;go_wp2_with fail
 clear c0 c1 c2 c3;have aog:w.heap.size<(w.alloc (.cells x.toArray 144)).heap.size:=by simp
 generalize w.alloc (.cells x.toArray 144)=W at *
 refine lS.out.mono ?_;intro e w2 hpd;obtain⟨rv,rfl⟩:=hpd.ret;obtain⟨⟨gv2,wv2,h2,bq,El⟩,_⟩:=hpd;have kb:=h1.off;have hup:∀j,aY b gv wv j->j<w.heap.size:=fun j hj=>by
  rcases hj with hj|hj|hj
  ·omega
  ·obtain⟨cc,e⟩:=h.nK hj;exact aj e
  ·obtain⟨cc,e⟩:=h.p_ hj;exact aj e
 have kT:¬aY b gv wv w.heap.size:=fun hh=>by have:=hup _ hh;omega
 have tZ:=O (bq.keep nE.out kT);have wG:=HG.out.mono (fun _ _ h=>h.fr bq kb);have hll:=AL g.o g.proxy ws;have fe:Fr (aY b gv wv) w w2:=Fr.step (iJ.mono (fun _ _ h=>absurd h (fun h=>h))) bq (fun _ _ h=>h);have OX:∀j,aY b gv2 wv2 j->aY b gv wv j\/w.heap.size<j:=fun j hj=>by
  rcases El j hj with h|h
  ·exact Or.inl h
  ·exact Or.inr (by omega)
 obtain⟨fs,fM⟩:∃fs,fs=(fk g.o g.proxy ws).1:=⟨_,rfl⟩;rw[<-fM]at h2 hll;have yj:=O (show re ws m=(fs++[m]).drop (fs.length+1-8)by
  unfold re;rw[<-wG.1, <-wG.2.1, <-fM];simp)
 have AP:=wG.2.2.2.2.2.2.2.2.2.2;rw[HDV.out]at AP;have c12:w2.cell? ⟨w.heap.size,12,none⟩=some (.slice ad m.a.dom.length cd):=by
  have e:=HX.out;have hd:=HDV.out;have hu:x[12]?=some (.slice ad m.a.dom.length cd):=by rw[e, <-hd];rfl
  simp only[World.cell?,tZ.out];simpa using hu
 have CL:=O (ou base _ _ _ AP);have Xh:=O wG;have awn:w.heap.size<w2.heap.size:=aj tZ.out;clear lS iJ bq kb fM h1 wG AP El nE HG aog;go_wp2_with fail
 refine CL.out.mono ?_;rintro e w3⟨a3,c3,rfl,Nv,dv⟩;have yw:=dv.keep tZ.out (fun h=>h);have awo:w.heap.size<w3.heap.size:=aj yw;have aoh:w3.cell? ⟨w.heap.size,12,none⟩=some (.slice ad m.a.dom.length cd):=by
  have e:=HX.out;have hd:=HDV.out;have hu:x[12]?=some (.slice ad m.a.dom.length cd):=by rw[e, <-hd];rfl
  simp only[World.cell?,yw];simpa using hu
 have f12:w3.frozen? ⟨w.heap.size,12,none⟩=false:=by simp[World.frozen?,yw]
 have lZ:lT base w3 (one w.heap.size):=by
  rintro j rfl _;exact⟨by omega,fun c f e=>by rw[yw]at e;cases e⟩
 have fM:Fr (one w.heap.size) w3 (w3.setCell ⟨w.heap.size,12,none⟩ (.slice a3 m.a.dom.length c3)):=(Fr.refl (one w.heap.size) w3).setCell (p:=⟨w.heap.size,12,none⟩) (fun _=>rfl) _;have UJ:¬aY b gv2 wv2 w.heap.size:=fun hh=>by
  rcases OX _ hh with h|h
  ·exact kT h
  ·omega
 have h4:=(h2.bd dv).fr fM lZ (fun hh=>UJ (Or.inl (by have e:b=w.heap.size:=hh;rw[e]))) (fun j hj hh=>UJ (Or.inr (Or.inl (by have e:j=w.heap.size:=hh;rw[<-e];exact hj)))) (fun j hj hh=>UJ (Or.inr (Or.inr (by have e:j=w.heap.size:=hh;rw[<-e];exact hj))));have qX:(g.oz (.slice a3 m.a.dom.length c3)).Reads (aS base (w3.setCell ⟨w.heap.size,12,none⟩ (.slice a3 m.a.dom.length c3))) m:=by
  have q:=Xh.out;exact⟨q.1,q.2.1,q.2.2.1,q.2.2.2.1,q.2.2.2.2.1,q.2.2.2.2.2.1,q.2.2.2.2.2.2.1,q.2.2.2.2.2.2.2.1,q.2.2.2.2.2.2.2.2.1,q.2.2.2.2.2.2.2.2.2.1,Nv.fr fM lZ⟩
 have JL:∀u∈(g.oz (.slice a3 m.a.dom.length c3)).cells,u.oneCell'=true:=OW rfl;have ph:=aP yw 12 (.slice a3 m.a.dom.length c3);have hye:x.toArray.setIfInBounds 12 (.slice a3 m.a.dom.length c3)=(g.oz (.slice a3 m.a.dom.length c3)).cells.toArray:=by rw[HX.out];rfl
 rw[hye]at ph;have hFV:Fr (aY b gv wv) w (w3.setCell ⟨w.heap.size,12,none⟩ (.slice a3 m.a.dom.length c3)):=(fe.trans (dv.mono (fun _ _ h=>absurd h (fun h=>h)))).setCell (p:=⟨w.heap.size,12,none⟩) (fun hl=>absurd hl (by simp)) _;have H4:=O h4;have HR4:=O qX;have Xi:=O JL;have Xg:=O ph;have hVl:w.heap.size<(w3.setCell ⟨w.heap.size,12,none⟩ (.slice a3 m.a.dom.length c3)).heap.size:=aj ph
 clear lZ fM hye ph h4 qX JL h2 Nv dv yw CL Xh UJ fe;obtain⟨av,cv,ZH⟩:=H4.out.waits.form;subst ZH;have d1:=H4.out.c1;have e1:=H4.out.free 1;have j_:∀i u,(g.oz (.slice a3 m.a.dom.length c3)).cells[i]?=some u->(w3.setCell ⟨w.heap.size,12,none⟩ (.slice a3 m.a.dom.length c3)).cell? ⟨w.heap.size,i,none⟩=some u:=fun i u hu=>by
  simp only[World.cell?,Xg.out];simpa using hu
 have x0:=j_ 0 _ rfl;have x1:=j_ 1 _ rfl;have x2:=j_ 2 _ rfl;have x3:=j_ 3 _ rfl;have x4:=j_ 4 _ rfl;have x5:=j_ 5 _ rfl;have x6:=j_ 6 _ rfl;have x7:=j_ 7 _ rfl;have x8:=j_ 8 _ rfl;have x9:=j_ 9 _ rfl;have UC:=j_ 10 _ rfl;have UD:=j_ 11 _ rfl;have ZT:=j_ 12 _ rfl;obtain⟨i0,qD,oZ,iy,gU⟩:=info_parts Ls;obtain⟨rs,ho,fC⟩:=H4.out.waits;have HO:=O ho;have mj:=O fC;have Z6:=H4.out.lt
 have a_:(w3.setCell ⟨w.heap.size,12,none⟩ (.slice a3 m.a.dom.length c3)).ownsRow base 144 13 (.slice av fs.length cv) fs.length (rs.map aG.cells).flatten:=by
  have hh:=ho.2;rw[List.length_map,fC.len]at hh;exact hh
 have wJ:¬own (.slice av fs.length cv) b:=H4.out.wb;clear ho fC j_;go_wp2_with fail
 clear c12 aoh f12;generalize w3.setCell ⟨w.heap.size,12,none⟩ (.slice a3 m.a.dom.length c3)=V at *
 simp only[aG.oz]at x0 x1 x2 x3 x4 x5 x6 x7 x8 x9 UC UD ZT
 go_region_law ((with_reducible refine jM ⟨some 24,_,_,_,_,_⟩ ?_)
                refine step_append_lies _ (by rfl) _ _ _ (by rfl) base 144 i0 _ 13 168 Tryz.underlying137 qD oZ iy gU rfl (by omega) (.slice av fs.length cv) fs.length _ (by rfl) (by repeat(first|exact a_|apply World.ownsRow.alloc|apply World.ownsRow.drew)) ⟨V.heap.size,0,none⟩ 1 1 (g.oz (.slice a3 m.a.dom.length c3)).cells (by rfl) (by rfl) (jo V (g.oz (.slice a3 m.a.dom.length c3)).cells _) Xi.out (by omega) (by unfold maxLen;omega) (by omega) (by simp;omega) (V.heap.size+1) (by simp) ?_
                intro gg cap w5 pS gQ bC Ze
                have lA:Fr (own (.slice av fs.length cv)) V w5:=Fr.grown (by repeat(first|exact Fr.refl _ _|apply Fr.drew|apply Fr.alloc)) gQ (fun _ hk _=>hk)
                have k4:w5.cell? ⟨b,1,none⟩=some (.slice av fs.length cv):=(lA.cell (p:=⟨b,1,none⟩) Z6 wJ).trans d1
                have e4:w5.frozen? ⟨b,1,none⟩=false:=(lA.frozen (p:=⟨b,1,none⟩) Z6 wJ).trans e1)
 all_goals
  obtain⟨h5,hF5,Lp⟩:=GU (m:=m) H4.out HO.out mj.out HR4.out Xi.out lA pS (bC.imp (fun h=>h) (fun h=>by omega));have d5:=h5.c1;have e5:=h5.free 1;clear x0 x1 x2 x3 x4 x5 x6 x7 x8 x9 UC UD ZT d1 e1 k4 e4 gQ pS a_ lA;generalize w5.setCell ⟨b,1,none⟩ (.slice (some ⟨gg,0,none⟩) (fs.length+1) cap)=w6 at *
  have u0:(fs++[m]).length=fs.length+1:=by simp
  have M4:=O u0;have sD:Fr (aY b gv wv) w w6:=hFV.step hF5 (fun k hk hb=>by
   rcases OX k hb with h|h
   ·exact h
   ·omega)
  have zC:∀k,aY b gv2 (.slice (some ⟨gg,0,none⟩) (fs.length+1) cap) k->aY b gv wv k\/w.heap.size<=k:=fun k hk=>by
   rcases Lp k hk with h|h
   ·rcases OX k h with h|h
    ·exact Or.inl h
    ·exact Or.inr (by omega)
   ·exact Or.inr (by omega)
  by_cases h8:8<=fs.length
  ·have Xa:(8:Int)<(fs.length:Int)+1:=by omega
   obtain⟨n,hn⟩:∃n:Nat,fs.length+1=n+8:=⟨fs.length+1-8,by omega⟩;rw[<-u0]at h5;obtain⟨ZV,FM,zD⟩:=h5.waits;have GJ:=O (show(ZV.map aG.cells).length=fs.length+1 by rw[List.length_map,zD.len,u0]);have ld:=O (AI base gg cap 0 n (ZV.map aG.cells) w6 (by rw[GJ.out, <-u0];exact FM) (by omega) (by rw[GJ.out];omega));have hn':=O hn;rw[GJ.out]at ld;clear hn u0;go_wp2_with fail
   rw[show((fs.length:Int)+1-8)=(n:Int)from by have:=hn'.out;omega];refine ld.out.mono ?_;rintro e w7⟨rfl,tI,jz⟩;obtain⟨h7,M5,d7,e7⟩:=AM (i:=0) (n:=n) h5 zD (by rw[M4.out];exact tI) jz;rw[M4.out,Nat.zero_add]at h7 M5;rw[M4.out]at d7;rw[List.take_zero,List.nil_append]at h7;have H7:=O h7;have zv:=O M5;clear h7 M5 ld tI zD FM;go_wp2_with fail
   go_end0;refine⟨rfl,_,_,by rw[yj.out,show fs.length+1-8=n from by have:=hn'.out;omega];exact H7.out,sD.step zv.out (fun k hk hb=>by
    rcases zC k hb with h|h
    ·exact h
    ·omega),fun k hk=>zC k ?_⟩
   rcases hk with h|h|h
   ·exact Or.inl h
   ·exact Or.inr (Or.inl h)
   ·exact Or.inr (Or.inr h)
  ·have Xa:¬(8:Int)<(fs.length:Int)+1:=by omega
   go_wp2_with fail
   go_end0;exact⟨rfl,_,_,by rw[yj.out,show fs.length+1-8=0 from by omega,List.drop_zero];exact h5,sD,zC⟩
def bI.oW(r:lu)(p:bI):Bool:=p.aI.eN r.aI&&(p.o.eN r.o&&(p.path.toList==r.path.toList&&p.query.toList==r.query.toList))
def bI.qg(o:cO)(p:bI):Bool:=p.aI.eN o||p.o.eN o
theorem uf(o:cO)(pa qu:ByteArray)(o':cO)(pa' qu':ByteArray)(w:World):(binOp .eql 26 (.agg #[.bool o.ae,.string o.host,.int .i64 o.port,.string pa,.string qu]) (.agg #[.bool o'.ae,.string o'.host,.int .i64 o'.port,.string pa',.string qu'])).run Tryz.prog w=.ok (.bool (o.eN o'&&(pa.toList==pa'.toList&&qu.toList==qu'.toList))) w:=by
 go_simp;simp only[show∀(P:Prop) [Decidable P] (W:World) (b:Bool),(if P then(Result.ok (Value.bool b) W:Result Value)else .ok (.bool false) W)=.ok (.bool (decide P&&b)) W from fun P _ W b=>by by_cases h:P<;>simp[h]]
 congr 2
 rw[Bool.eq_iff_iff];simp only[cO.eN,Bool.and_eq_true,decide_eq_true_eq,beq_iff_eq,and_assoc,and_true]
theorem Ew(p:bI)(r:dp Value)(hs:List dW)(br:Nat)(w:World)(hr:w.heap[br]?=some (.cells r.cells.toArray 29 (0,0))) :
  Calls Tryz.prog 181 #[.agg p.cells.toArray,.pointer (some ⟨br,0,none⟩)] w fun e w'=>e=.returned (.bool (p.oW (r.bF hs)))/\Fr ay w w':=by
 have heq:=ey p.aI r.aI;have heu:=uf p.o p.path p.query r.o r.path r.query;have dF:Fr ay w (w.alloc (.cells p.cells.toArray 65)):=(Fr.refl ay w).alloc _;have g0:=dF.keep hr (fun h=>h);have g1:(w.alloc (.cells p.cells.toArray 65)).heap[w.heap.size]?=some (.cells p.cells.toArray 65 (0,0)):=af _ _
 have hc:∀i u,r.cells[i]?=some u->(w.alloc (.cells p.cells.toArray 65)).cell? ⟨br,i,none⟩=some u:=fun i u hu=>by simp only[World.cell?,g0];simpa using hu
 have c1:=hc 1 _ rfl;have c2:=hc 2 _ rfl;have c3:=hc 3 _ rfl;have c4:=hc 4 _ rfl;have c5:=hc 5 _ rfl;have c6:=hc 6 _ rfl;have c7:=hc 7 _ rfl;have c8:=hc 8 _ rfl;have HF:=O dF;clear hr g0 g1 hc dF;unfold bI.cells at *
 cases e1:p.aI.eN r.aI
 ·have HR:=O (show p.oW (r.bF hs)=false by unfold bI.oW dp.bF;simp only;rw[e1];rfl);rw[e1]at heq;clear e1;go_enter Tryz.func181,Tryz.ntmps181;go_wp2;go_ret;exact⟨by rw[HR.out];rfl,HF.out⟩
 ·have HR:=O (show p.oW (r.bF hs)=(p.o.eN r.o&&(p.path.toList==r.path.toList&&p.query.toList==r.query.toList))by unfold bI.oW dp.bF;simp only;rw[e1];rfl);rw[e1]at heq;generalize (p.o.eN r.o&&(p.path.toList==r.path.toList&&p.query.toList==r.query.toList))=res at *
  clear e1;go_enter Tryz.func181,Tryz.ntmps181;go_wp2;go_ret;exact⟨by rw[HR.out];rfl,HF.out⟩
theorem Ex(p:bI)(o:cO)(bo:Nat)(w:World)(ho:w.heap[bo]?=some (.cells #[.bool o.ae,.string o.host,.int .i64 o.port] 24 (0,0))) :
  Calls Tryz.prog 191 #[.agg p.cells.toArray,.pointer (some ⟨bo,0,none⟩)] w fun e w'=>e=.returned (.bool (p.qg o))/\Fr ay w w':=by
 have heq:=ey p.aI o;have heo:=ey p.o o;have dF:Fr ay w (w.alloc (.cells p.cells.toArray 65)):=(Fr.refl ay w).alloc _;have g0:=dF.keep ho (fun h=>h);have c0:(w.alloc (.cells p.cells.toArray 65)).cell? ⟨bo,0,none⟩=some (.bool o.ae):=by simp[World.cell?,g0]
 have c1:(w.alloc (.cells p.cells.toArray 65)).cell? ⟨bo,1,none⟩=some (.string o.host):=by simp[World.cell?,g0]
 have c2:(w.alloc (.cells p.cells.toArray 65)).cell? ⟨bo,2,none⟩=some (.int .i64 o.port):=by simp[World.cell?,g0]
 have HF:=O dF;clear ho g0 dF;unfold bI.cells at *
 cases e1:p.aI.eN o
 ·have HR:=O (show p.qg o=p.o.eN o by unfold bI.qg;rw[e1];rfl);rw[e1]at heq;generalize p.o.eN o=res at *
  clear e1;go_enter Tryz.func191,Tryz.ntmps191;go_wp2;go_ret;exact⟨by rw[HR.out];rfl,HF.out⟩
 ·have HR:=O (show p.qg o=true by unfold bI.qg;rw[e1];rfl);rw[e1]at heq;clear e1;go_enter Tryz.func191,Tryz.ntmps191;go_wp2;go_ret;exact⟨by rw[HR.out];rfl,HF.out⟩
def qM(M:Nat)(ps:List ew):Prop:=∀p∈ps,p.1.length<=M/\p.2.length<=M
theorem rE(M:Nat):∀(f:Nat) (ps:List ew) (r:Bs) (q:List ew×Bs),r.length<=M->qM M ps->du f ps r=.ok q->qM M q.1
 |0,ps,r,q,_,hp,h=>by rw[du]at h;cases h;exact hp
 |f+1,ps,r,q,hr,hp,h=>by
  rw[du]at h;cases hq:fK ps r with
  |error e=>rw[hq]at h;cases h
  |ok p =>
   obtain⟨p,r1⟩:=p;rw[hq]at h;have hle:=nA hq;have hg:=jJ r1;have hn:qM M (ps++[p]):=by
    intro a ha;rcases List.mem_append.1 ha with g|g
    ·exact hp a g
    ·simp at g;subst g;exact⟨by omega,by omega⟩
   simp only at h;split at h
   ·split at h
    ·exact rE M f _ _ q (by omega) hn h
    ·cases h;exact hn
   ·cases h
structure iI.Le (M:Nat) (x:iI):Prop where
 scheme:x.scheme.length<=M
 token:x.token.length<=M
 tB:qM M x.params
theorem G3{M k:Nat}{r:Bs}{x:iI}{z:Bs}(hr:r.length<=M)(h:j9 k r=.ok (x,z)):x.Le M:=by
 have hw:=lJ r;have hb:=gj (dJ r);unfold j9 at h;split at h
 ·cases h
 split at h
 ·cases h
 split at h
 ·cases h;exact⟨by show(dB r).length<=M;omega,Nat.zero_le _,fun p hp=>by cases hp⟩
 split at h
 ·cases h
 split at h
 ·rename_i q hq;obtain⟨t,z'⟩:=q;have:=xv hq;cases h;exact⟨by show(dB r).length<=M;omega,by show t.length<=M;omega,fun p hp=>by cases hp⟩
 ·split at h
  ·cases h
  ·rename_i q hq;have:=rE M _ _ _ _ (by omega) (fun p hp=>by cases hp) hq;cases h;exact⟨by show(dB r).length<=M;omega,Nat.zero_le _,this⟩
theorem um(M:Nat):∀(f:Nat) (acc:List iI) (r:Bs) (l:List iI),r.length<=M->(∀x∈acc,x.Le M)->eP f acc r=.ok l->∀x∈l,x.Le M
 |0,acc,r,l,_,ha,h=>by rw[eP]at h;cases h;exact ha
 |f+1,acc,r,l,hr,ha,h=>by
  rw[eP]at h;split at h
  ·cases h;exact ha
  ·cases ho:j9 acc.length (dN r)with
   |error e=>rw[ho]at h;cases h
   |ok q =>
    obtain⟨x,r1⟩:=q;rw[ho]at h;have h1:=w_ ho;have h2:=jJ r;have hx:=G3 (M:=M) (by omega) ho;refine um M f _ _ l (by omega) (fun y hy=>?_) h;rcases List.mem_append.1 hy with g|g
    ·exact ha y g
    ·simp at g;subst g;exact hx
theorem wj{r:Bs}{l:List iI}(h:g_ r=.ok l):∀x∈l,x.Le r.length:=by
 unfold g_ at h;split at h
 ·cases h
 ·exact um _ _ _ _ _ (Nat.le_refl _) (fun x hx=>by cases hx) h
theorem wk{r:Bs}{l:List iI}(h:g_ r=.ok l):r.length<=3000:=by
 unfold g_ at h;split at h
 ·cases h
 ·omega
theorem LF{r:Bs}{l:List iI}(h:g_ r=.ok l):∀x∈l,x.Fit:=by
 intro x hx;have h1:=wj h x hx;have h2:=wk h;have h3:=(DJ h).1 x hx;exact⟨by have:=h1.scheme;omega,by have:=h1.token;omega,h3.xc,fun p hp=>by have:=h1.tB p hp;omega⟩
theorem Strs.up{base b':Nat}{w:World}{v:Value}{ss:List ByteArray}(h:Strs b' w v ss)(hb:base<=b'):Strs base w v ss:=by
 obtain⟨h1,h2⟩:=h;refine⟨h1,?_⟩;rcases h2 with h2|⟨g,cap,cur,hv,hg,r⟩
 ·exact Or.inl h2
 ·exact Or.inr ⟨g,cap,cur,hv,Nat.le_trans hb hg,r⟩
def fT(ps:List ew):Prop:=ps.length<=1000/\∀p∈ps,p.1.length<=100000/\p.2.length<=100000
def ke(ps:List ew)(n:Bs):List ByteArray:=(rS ps n).map bA
theorem LK(ps:List ew)(n:Bs):(ke ps n).map (·.data.toList)=rS ps n:=by
 unfold ke;rw[List.map_map]
 conv=>rhs;rw[<-List.map_id (rS ps n)]
 exact List.map_congr_left (fun x _=>by simp[bA])
theorem yM(ps:List ew)(n:Bs):(rS ps n).length<=ps.length:=by unfold rS;rw[List.length_map];exact List.length_filter_le _ _
theorem Px{ps:List ew}{n x:Bs}(h:x∈rS ps n):∃p∈ps,x=p.2:=by
 unfold rS at h;obtain⟨p,hp,rfl⟩:=List.mem_map.1 h;exact⟨p,(List.mem_filter.1 hp).1,rfl⟩
theorem Py{ps:List ew}{k:Nat}{p:ew}{n:Bs}(h:ps[k]?=some p)(hs:bf p.1 n=true):ke (ps.take (k+1)) n=ke (ps.take k) n++[bA p.2]:=by
 unfold ke rS;rw[bz h,List.filter_append];simp[hs]
theorem LL{ps:List ew}{k:Nat}{p:ew}{n:Bs}(h:ps[k]?=some p)(hs:bf p.1 n=false):ke (ps.take (k+1)) n=ke (ps.take k) n:=by
 unfold ke rS;rw[bz h,List.filter_append];simp[hs]
theorem EL{sep:Bs}(ahp:sep.length=2):∀(l:List Bs) (M:Nat),(∀x∈l,x.length+2<=M)->(Lib.join l sep).length<=l.length*M
 |[],M,_=>by simp[Lib.join]
 |[x],M,h=>by have:=h x (by simp);simp[Lib.join];omega
 |x :: y :: l,M,h=>by
  have ih:=EL ahp (y :: l) M (fun z hz=>h z (List.mem_cons_of_mem _ hz));have hx:=h x (List.mem_cons_self ..);rw[TM];simp only[List.length_append,List.length_cons,ahp]at ih ⊢;rw[Nat.succ_mul (l.length+1)];omega
theorem A'{ps:List ew}(n:Bs)(hz:fT ps):(fQ ps n).length<=100002000:=by
 unfold fQ;have h:=EL (sep:=[44,32]) rfl (rS ps n) 100002 (fun x hx=>by obtain⟨p,hp,rfl⟩:=Px hx;have:=(hz.2 p hp).2;omega);have h2:=yM ps n;have h3:=hz.1;have h4:(rS ps n).length*100002<=1000*100002:=Nat.mul_le_mul_right _ (by omega);omega
theorem LM(base:Nat)(v:Value)(ss:List ByteArray)(w:World)(hv:Strs base w v ss)(hn:ss.length<=1000)(hlen:(Lib.join (ss.map (·.data.toList)) [44,32]).length<=140737488355328) :
  Calls Tryz.prog 143 #[v,.string ⟨#[44,32]⟩] w fun e w'=>e=.returned (.string (bA (Lib.join (ss.map (·.data.toList)) [44,32])))/\Fr ay w w':=by
 rcases hv.at with ⟨a,c,rfl,rfl,_⟩|⟨bk,o,c,rfl,h1,h2,h3,h4⟩
 ·exact(Tryz.strings_Join_none _ _ _ _).mono (by rintro e w1 ⟨rfl,rfl⟩;exact⟨rfl,Fr.refl _ _⟩)
 ·exact(Tryz.strings_Join bk o c ss ⟨#[44,32]⟩ w h4 h3 (by omega) h1 hlen).mono (by rintro e w1 ⟨rfl,hb⟩;exact⟨rfl,Fr.gW hb⟩)
def ahq(ps:List ew)(n:Bs)(w:World)(out t:Value)(wr:World):Prop :=
 ∃k:Nat,k<=ps.length/\t=.int .i64 k/\Strs w.heap.size wr out (ke (ps.take k) n)/\Fr ay w wr
def G8(ps:List ew)(n:Bs):Value:=.tuple #[.string (bA (fQ ps n)),.bool (kV ps n)]
theorem LN(v:Value)(ps:List ew)(name:ByteArray)(w:World)(h:gu w v ps)(hz:fT ps)(hn:name.size<17592186044416) :
  Calls Tryz.prog 72 #[v,.string name] w fun e w'=>e=.returned (G8 ps name.data.toList)/\Fr ay w w':=by
 obtain⟨av,cv,hv⟩:=h.form;subst hv;have HZ:=O hz;have FP:=hz.1;clear hz;go_enter Tryz.func72,Tryz.ntmps72;go_wp2;go_loopw[6,11] (ahq ps name.data.toList w) (fun _ t _=>ps.length-(intOf t).toNat)
 case atStart=>exact⟨0,Nat.zero_le _,rfl,Strs.nil _ _,Fr.refl _ _⟩
 case round =>
  obtain⟨k,hk,rfl,ho,aW⟩:=hrel;obtain⟨ao,co,Kz⟩:=ho.form;by_cases cG:k<ps.length
  ·have lf:(k:Int)<(ps.length:Int):=by omega
   have bC:=O (List.getElem?_eq_getElem cG);have KK:=O (HZ.out.2 _ (List.getElem_mem cG));generalize ps[k]=q at bC KK;obtain⟨nm,vl⟩:=q;obtain⟨bk,of,rfl,h1,h2,c0,c1⟩:=gu.cells (aN.bu h aW) bC.out;unfold maxLen at h2;simp only at c0 c1;obtain⟨wb,eQ⟩:∃wb,wb=wr.alloc (.cells #[.string (bA nm),.string (bA vl)] 126):=⟨_,rfl⟩;have fa:Fr ay wr wb:=by rw[eQ];exact(Fr.refl ay wr).alloc _
   have ry:wb.heap[wr.heap.size]?=some (.cells #[.string (bA nm),.string (bA vl)] 126 (0,0)):=by rw[eQ];exact af _ _
   have lq:=O eQ;clear eQ;go_wp2_with fail
   rw[<-lq.out];refine(gX (bA nm) name wb (by have h:=KK.out.1;show nm.length<_;omega) hn).mono ?_;rintro e w8⟨rfl,mO⟩;rw[cN];have KI:=O ((aW.trans fa).trans mO);have MW:=ho.fr (fa.trans mO) (fun _ h=>h.elim);rw[Kz]at MW;have MP:=O (show(ke (ps.take k) name.data.toList).length<=1000 from by
    unfold ke;rw[List.length_map];have:=yM (ps.take k) name.data.toList;rw[List.length_take]at this;omega)
   have awJ:w.heap.size<=w8.heap.size:=KI.out.size;cases kz:bf nm name.data.toList
   ·have kT:=O (LL bC.out kz);go_wp2;go_roundw
    case rel=>exact⟨k+1,by omega,by go_num,by rw[kT.out];exact MW,KI.out⟩
    case measure=>simp[intOf];omega
   ·have kT:=O (Py bC.out kz);have hb8:=mO.keep ry (fun h=>h);have k1:w8.cell? ⟨wr.heap.size,1,none⟩=some (.string (bA vl)):=by simp[World.cell?,hb8]
    generalize ke (ps.take k) name.data.toList=vs at *
    clear kz;go_wp2_with (at_builtin;refine jb rfl _ _ rfl w.heap.size (.slice ao vs.length co) vs rfl (by apply Strs.alloc;exact MW) ⟨w8.heap.size,0,none⟩ 1 (bA vl) rfl (eo _ _ _ _) (by have:=MP.out;omega) (by simp;omega) ?_;intro v' w9 ahr hg9)
    have FO:=O ((KI.out.alloc (.cells #[.string (bA vl)] 9)).cK hg9 (fun j hj=>MW.block j hj));go_roundw
    case rel=>exact⟨k+1,by omega,by go_num,by rw[kT.out];exact ahr,FO.out⟩
    case measure=>simp[intOf];omega
  ·have lf:¬(k:Int)<(ps.length:Int):=by omega
   have Kw:ps.take k=ps:=List.take_of_length_le (by omega);rw[Kw]at ho Kz;subst Kz;have MP:=yM ps name.data.toList;have TJ:(ke ps name.data.toList).length=(rS ps name.data.toList).length:=by unfold ke;rw[List.length_map]
   have HJ:=O (show Lib.join ((ke ps name.data.toList).map (·.data.toList)) [44,32]=fQ ps name.data.toList by rw[LK];rfl);have HB:=O (show decide (0<(ke ps name.data.toList).length)=kV ps name.data.toList by
    unfold kV;rw[TJ];cases rS ps name.data.toList with
    |nil=>rfl
    |cons a l=>simp)
   have hJ:=O (LM w.heap.size _ (ke ps name.data.toList) wr ho (by omega) (by rw[HJ.out];have:=A' name.data.toList HZ.out;omega));rw[HJ.out]at hJ;clear TJ MP;generalize hvs:ke ps name.data.toList=vs at *
   have HVS:=O hvs;clear hvs;go_wp2_with fail
   refine hJ.out.mono ?_;rintro e u⟨rfl,qJ⟩;go_wp2;go_ret2;refine⟨?_,aW.trans qJ⟩;unfold G8;rw[<-HB.out];rfl
theorem qm(v:Value)(ps:List ew)(n:Bs)(w:World)(h:gu w v ps)(hz:fT ps)(hn:n.length<1000)(s:ByteArray)(b:Bool)(hs:fQ ps n=s.data.toList)(hb:kV ps n=b) :
  Calls Tryz.prog 72 #[v,.string (bA n)] w fun e w'=>e=.returned (.tuple #[.string s,.bool b])/\Fr ay w w':=by
 refine(LN v ps (bA n) w h hz (by show n.length<_;omega)).mono ?_;rintro e u⟨rfl,hf⟩;refine⟨?_,hf⟩;unfold G8;rw[cN,hs,hb,NA]
theorem nO(ps:List ew)(n:Bs)(hz:fT ps):∃s:ByteArray,fQ ps n=s.data.toList/\s.size<=100002000:=⟨bA (fQ ps n),by rw[cN],by show(fQ ps n).length<=_;exact A' n hz⟩
theorem U7(v:Value)(ps:List ew)(w:World)(h:gu w v ps)(hz:fT ps) :
  Calls Tryz.prog 26 #[v] w fun e w'=>e=.returned (.int .i64 (iB ps))/\Fr ay w w':=by
 obtain⟨s,hs,mz⟩:=nO ps BJ hz;cases hb:kV ps BJ
 ·have HA:=O (show iB ps=5 by unfold iB;rw[hb];rfl);have hG:=O (qm v ps BJ w h hz (by decide) s false hs hb);clear hb hs;go_enter Tryz.func26,Tryz.ntmps26;go_wp2_with fail
  refine hG.out.mono ?_;rintro e u⟨rfl,qJ⟩;go_wp2;go_ret;exact⟨by rw[HA.out];rfl,qJ⟩
 ·have hG:=O (qm v ps BJ w h hz (by decide) s true hs hb);have HS:=O (fun u=>Dz s u (by omega));cases hd:jL s.data.toList
  ·have HA:=O (show iB ps=5 by unfold iB;rw[hb,hs,hd];rfl);have HD:=O hd;clear hb hs hd;go_enter Tryz.func26,Tryz.ntmps26;go_wp2_with fail
   refine hG.out.mono ?_;rintro e u⟨rfl,qJ⟩;go_wp2_with fail
   refine(HS.out u).mono ?_;intro e u2 hp;obtain⟨rfl,bq⟩:=hp.no HD.out;go_wp2;go_ret;exact⟨by rw[HA.out];rfl,qJ.trans bq⟩
  ·have HA:=O (show iB ps=min (th s.data.toList) 600 by unfold iB;rw[hb,hs,hd];rfl);have HD:=O hd;have hE:=O (fun u=>HS.out u);clear hb hs hd;go_enter Tryz.func26,Tryz.ntmps26;go_wp2_with fail
   refine hG.out.mono ?_;rintro e u⟨rfl,qJ⟩;go_wp2_with fail
   refine(HS.out u).mono ?_;intro e u2 hp;obtain⟨rfl,bq⟩:=hp.ok HD.out;go_wp2;go_ret;exact⟨by rw[HA.out];rfl,qJ.trans bq⟩
def Ba(ps:List ew)(n:Bs)(w:World)(e:Ending)(w':World):Prop :=
 Fr ay w w'/\match fL ps n with
 |some ws=>∃v,e=.returned (.tuple #[v,.nilIface])/\Strs w.heap.size w' v (bw ws)
 |none=>e=.returned (.tuple #[.slice none 0 0,.iface 116 (.int .i64 3)])
theorem LO(v:Value)(ps:List ew)(n:Bs)(w:World)(h:gu w v ps)(hz:fT ps)(hn:n.length<1000) :
  Calls Tryz.prog 127 #[v,.string (bA n)] w (Ba ps n w):=by
 obtain⟨s,hs,mz⟩:=nO ps n hz;have hG:=O (qm v ps n w h hz hn s _ hs rfl);have HW:=O (show fL ps n=match dz s.data.toList with| .error _=>none| .ok l=>if 40<l.length then none else some l by unfold fL;rw[hs];cases dz s.data.toList<;>rfl);have HL:=O (fun u=>Ds s u (by omega));clear hs;generalize kV ps n=b at hG;go_enter Tryz.func127,Tryz.ntmps127;go_wp2_with fail
 refine hG.out.mono ?_;rintro e u⟨rfl,qJ⟩;go_wp2_with fail
 refine(HL.out u).mono ?_;rintro e u2⟨v2,er,rfl,bq,hm⟩;have Na:=O (qJ.trans bq);cases hl:dz s.data.toList with
 |error m =>
  rw[hl]at hm;obtain⟨rfl,g,rfl,hg⟩:=hm;have HN:=O (show fL ps n=none by rw[HW.out,hl]);clear hl;go_wp2;go_ret2;refine⟨Na.out,?_⟩;rw[HN.out];exact rfl
 |ok ws =>
  rw[hl]at hm;by_cases Bv:40<ws.length
  ·have HN:=O (show fL ps n=none by rw[HW.out,hl];show(if _ then _ else _)=_;rw[if_pos Bv]);have NF:if 40<ws.length then v2=.slice none 0 0/\zQ u2 er (some (4,none))else Strs u.heap.size u2 v2 (bw ws)/\er=.nilIface:=hm
   rw[if_pos Bv]at NF;obtain⟨rfl,rfl⟩:=NF;clear hl hm;go_wp2;go_ret2;refine⟨Na.out,?_⟩;rw[HN.out];exact rfl
  ·have HN:=O (show fL ps n=some ws by rw[HW.out,hl];show(if _ then _ else _)=_;rw[if_neg Bv]);have NF:if 40<ws.length then v2=.slice none 0 0/\zQ u2 er (some (4,none))else Strs u.heap.size u2 v2 (bw ws)/\er=.nilIface:=hm
   rw[if_neg Bv]at NF;obtain⟨fR,rfl⟩:=NF;clear hl hm;have qV:=qJ.size;go_wp2;go_ret2;refine⟨Na.out,?_⟩;rw[HN.out];exact⟨_,rfl,fR.up qV⟩
end Go.Proofs.YtjdmjbdkdmbaiaaGreatDoor
