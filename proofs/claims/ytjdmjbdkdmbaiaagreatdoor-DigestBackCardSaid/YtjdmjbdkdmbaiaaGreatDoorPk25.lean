/- Bank7, Sweep, Book1. -/
import Derived.Test.YtjdmjbdkdmbaiaaGreatDoorPk23
import Derived.Test.YtjdmjbdkdmbaiaaGreatDoorPk24
import Derived.Test.YtjdmjbdkdmbaiaaGreatDoorPk16
set_option maxRecDepth 100000
set_option maxHeartbeats 16000000
set_option linter.unusedSimpArgs false
namespace Go.Proofs.YtjdmjbdkdmbaiaaGreatDoor
open Go.RowKit
def ai.used{D:Type}(g:ai D):ai D:={g with count:=g.count+1}
def mD(gs:List (ai aF))(o:cO)(proxy:Bool)(path:ByteArray):List (ai aF)×Except Nat (ai aF) :=
 if 0<=lj gs o proxy path then
  match gs[(lj gs o proxy path).toNat]? with
  |some g =>
   let l:=gs.take (lj gs o proxy path).toNat++gs.drop ((lj gs o proxy path).toNat+1)
   if 4294967295<=g.count then(l,.error 12)else(l++[g.used],.ok g.used)
  |none=>(gs,.error 8)
 else(gs,.error 8)
def lC(base:Nat)(w:World)(b:Nat)(gv wv:Value)(ws:List (aG aF))(u:List (ai aF)×Except Nat (ai aF))(e:Ending)(w':World):Prop :=
 fj base w b gv wv u.1 ws w'/\match u.2 with
 | .error n=>e=.returned (.tuple #[.agg bZ,.iface 116 (.int .i64 n)])
 | .ok g=>∃r:ai Value,e=.returned (.tuple #[.agg r.cells.toArray,.nilIface])/\r.Reads (aS base w') g/\∀u∈r.cells,u.oneCell'=true
theorem fj.same{base:Nat}{w w':World}{b:Nat}{gv wv:Value}{gs:List (ai aF)}{ws:List (aG aF)}(h:ba base w b gv wv gs ws)(hf:Fr ay w w'):fj base w b gv wv gs ws w' :=
 ⟨gv,wv,h.bd hf,hf.mono (fun _ _ h=>absurd h (fun h=>h)),fun _ hk=>Or.inl hk⟩
theorem GK{base:Nat}{w5 w6:World}{b gg cap i n:Nat}{wv:Value}{ls:List (ai aF)}{ws:List (aG aF)}{rs:List (ai Value)}(h5:ba base w5 b (.slice (some ⟨gg,0,none⟩) ls.length cap) wv ls ws)
  (hb:fF (ai.Reads (aS base w5)) rs ls)(tI:OwnRows base 49 16 w6 (.slice (some ⟨gg,0,none⟩) (i+(ls.length-n)) cap) ((rs.map ai.cells).take i++(rs.map ai.cells).drop n))(jz:Fr (one gg) w5 w6) :
  ba base (w6.setCell ⟨b,0,none⟩ (.slice (some ⟨gg,0,none⟩) (i+(ls.length-n)) cap)) b (.slice (some ⟨gg,0,none⟩) (i+(ls.length-n)) cap) wv (ls.take i++ls.drop n) ws /\
  Fr (aY b (.slice (some ⟨gg,0,none⟩) ls.length cap) wv) w5 (w6.setCell ⟨b,0,none⟩ (.slice (some ⟨gg,0,none⟩) (i+(ls.length-n)) cap))/\w6.cell? ⟨b,0,none⟩=some (.slice (some ⟨gg,0,none⟩) ls.length cap)/\w6.frozen? ⟨b,0,none⟩=false:=by
 have kM:=h5.low;have bG:∀k,one gg k->own (.slice (some ⟨gg,0,none⟩) ls.length cap) k:=fun k hk=>by have e:k=gg:=hk;rw[e];rfl
 have kb:lT base w5 (one gg):=fun k hk hl=>h5.off k (Or.inr (Or.inl (bG k hk))) hl;have o5:=jz.keep h5.cR (fun h=>h5.gb (bG _ h));have tY:fq base w6 wv ws:=h5.waits.fr jz kb (fun k hk hg=>h5.gw (bG _ hg) hk);have hm:=hb.mono (fun _ _ h=>h.mono (fun _ _ h=>h.fr jz kb));have W_:dx base w6 (.slice (some ⟨gg,0,none⟩) (i+(ls.length-n)) cap) (ls.take i++ls.drop n):=by
  refine⟨rs.take i++rs.drop n,?_,(hm.take i).app (hm.drop n)⟩;rw[List.map_append,List.map_take,List.map_drop];exact tI
 have NY:Fr (aY b (.slice (some ⟨gg,0,none⟩) ls.length cap) wv) w5 w6:=jz.mono (fun k _ hk=>Or.inr (Or.inl (bG k hk)));exact⟨ba.OJ kM o5 W_ tY,NY.setCell (p:=⟨b,0,none⟩) (fun _=>Or.inl rfl) _,by simp[World.cell?,o5],by simp[World.frozen?,o5]⟩
theorem UG(base:Nat)(w:World)(b:Nat)(gv wv:Value)(gs:List (ai aF))(ws:List (aG aF))(o:cO)(proxy:Bool)(path:ByteArray)(h:ba base w b gv wv gs ws)(M1:gs.length<34359738368)(hcn:∀g∈gs,0<=g.count) :
  Calls Tryz.prog 108 #[.pointer (some ⟨b,0,none⟩),.agg o.cells.toArray,.bool proxy,.string path] w (lC base w b gv wv ws (mD gs o proxy path)):=by
 unfold cO.cells;have pD:=h.lt;have kM:=h.low;have iJ:Fr ay w _:=((Fr.refl ay w).alloc (.cells #[.bool o.ae,.string o.host,.int .i64 o.port] 24)).alloc (.cells bZ 49);have b1:=af (w.alloc (.cells #[.bool o.ae,.string o.host,.int .i64 o.port] 24)) (.cells bZ 49);rw[show(w.alloc (.cells #[.bool o.ae,.string o.host,.int .i64 o.port] 24)).heap.size=w.heap.size+1 from by simp]at b1;have h1:=h.bd iJ
 have Xb:=O (OB base _ b gv wv gs ws o proxy path h1);have OL:=O b1;clear b1;go_enter Tryz.func108,Tryz.ntmps108;go_wp2_with fail
 generalize (w.alloc (.cells _ 24)).alloc _=W at *
 refine Xb.out.mono ?_;rintro e u1⟨rfl,bt⟩;have OD:=O (bt.keep OL.out (fun h=>h));have HF:=iJ.trans bt;have h2:=h1.bd bt;clear Xb OL iJ bt h1;have sF:w.heap.size+1<u1.heap.size:=aj OD.out;rcases OH gs o proxy path with ⟨k,hk,he⟩|he
 ·obtain⟨bk,c,bq,nv,r,bG,hr,hcell⟩:=h2.aH.at hk;subst bq;unfold maxLen at nv;have d0:=h2.c0;obtain⟨x,hx⟩:∃x,x=r.cells:=⟨_,rfl⟩;have gD:x.length=16:=by rw[hx];rfl
  have fR:=fun W=>run_storeCells_new (P:=Tryz.prog) W 49 #[.bool false,.string ⟨#[]⟩,.int .i64 0,.bool false,.string ⟨#[]⟩,.string ⟨#[]⟩,.int .i64 0,.string ⟨#[]⟩,.string ⟨#[]⟩,.string ⟨#[]⟩,.bool false,.string ⟨#[]⟩,.bool false,.slice none 0 0,.int .i64 0,.slice none 0 0] x (by rw[gD];rfl) (by rw[hx];exact bG);have AD:=O (show(Tryz.prog.info? 49).map (·.size)=some x.length by rw[gD];kernel_rfl)
  have GL:r.count=gs[k].count:=hr.2.2.2.2.2.1;have hc0:0<=r.count:=by rw[GL];exact hcn _ (List.getElem_mem hk)
  have HX:=O hx;have HE:=O he;rw[<-hx]at hcell;have hub:b<u1.heap.size:=h2.lt;have dF:Fr ay u1 (u1.alloc (.cells x.toArray 49)):=(Fr.refl ay u1).alloc _;have mB:(u1.alloc (.cells x.toArray 49)).heap[u1.heap.size]?=some (.cells x.toArray 49 (0,0)):=af _ _;have h3:=h2.bd dF;have oT:=hr.mono (fun _ _ h=>h.bd dF);obtain⟨rs,ho,hb⟩:=h3.aH
  have qW:=O (show(rs.map ai.cells).length=gs.length by rw[List.length_map,hb.len]);have ld:=O (AG base bk c k (k+1) (rs.map ai.cells) _ (by rw[qW.out];exact ho) (by omega) (by rw[qW.out];omega));rw[qW.out,show((k+1:Nat):Int)=(k:Int)+1 from by omega]at ld;have aoa:bk<u1.heap.size:=by
   obtain⟨cc,e⟩:=h2.nK (k:=bk) rfl;exact aj e
  have nE:=O mB;have HCO:=O GL;have HR3:=O oT;have qY:=O bG;rw[he];clear hx he mB GL hr oT bG h2;go_wp2_with (first|((with_reducible refine ag ⟨some 27,_,_,_,_,_⟩ ?_);go_must(refine wpList_load_mid rfl 49 (.tmp 26) rfl bk (k*16) rfl x _ hcell Tryz.underlying49 rfl AD.out ?_))|fail)
  clear fR hcell d0;have eI:base<=u1.heap.size:=by omega
  have hF1:Fr ay w (u1.alloc (.cells x.toArray 49)):=HF.alloc _;have Ac:u1.heap.size<(u1.alloc (.cells x.toArray 49)).heap.size:=by simp
  have b1v:=O (dF.keep OD.out (fun h=>h));generalize u1.alloc (.cells x.toArray 49)=V at *
  refine ld.out.mono ?_;rintro e w2⟨rfl,lr,bq⟩;obtain⟨h4,Xc,d2,e2⟩:=GK h3 hb (by exact lr) bq;obtain⟨l,hl⟩:∃l,l=gs.take k++gs.drop (k+1):=⟨_,rfl⟩;have hm:k+(gs.length-(k+1))=l.length:=by rw[hl,List.length_append,List.length_take,List.length_drop];omega
  have hlen:l.length<=gs.length:=by omega
  rw[<-hl]at h4;rw[hm]at h4 Xc ⊢;have HL:=O hl;clear hl hm;have Em:lT base V (own (.slice (some ⟨bk,0,none⟩) gs.length c)):=ho.off (Nat.le_refl _) (by decide);have En:lT base V (one bk):=fun j hj hl=>Em j (by have e:j=bk:=hj;rw[e];rfl) hl;have tZ:=bq.keep nE.out (fun h=>by have e:u1.heap.size=bk:=h;omega)
  have OM:=bq.keep b1v.out (fun hh=>by have e:w.heap.size+1=bk:=hh;obtain⟨cc,e2⟩:=h.nK (k:=bk) rfl;have:=aj e2;omega);have qX:=HR3.out.mono (fun _ _ h=>h.fr bq En);have c14:w2.cell? ⟨u1.heap.size,14,none⟩=some (.int .i64 r.count):=by
   have e:=HX.out;simp only[World.cell?,tZ,e];rfl
  have f14:w2.frozen? ⟨u1.heap.size,14,none⟩=false:=by simp[World.frozen?,tZ]
  have OO:w2.heap[b]?=some (.cells #[.slice (some ⟨bk,0,none⟩) gs.length c,wv] 139 (0,0)):=bq.keep h3.cR (fun h=>h3.gb (by have e:b=bk:=h;rw[e];rfl));have fa:Fr (one b) w2 (w2.setCell ⟨b,0,none⟩ (.slice (some ⟨bk,0,none⟩) l.length c)):=(Fr.refl (one b) w2).setCell (p:=⟨b,0,none⟩) (fun _=>rfl) _;have OP:lT base w2 (one b):=by
   rintro j rfl _;exact⟨kM,fun cc f e=>by rw[OO]at e;cases e⟩
  have yw:=fa.keep tZ (fun h=>by have e:u1.heap.size=b:=h;omega);have Lq:=fa.keep OM (fun h=>by have e:w.heap.size+1=b:=h;omega);have FK:=qX.mono (fun _ _ h=>h.fr fa OP);have hFw:Fr (aY b (.slice (some ⟨bk,0,none⟩) gs.length c) wv) w (w2.setCell ⟨b,0,none⟩ (.slice (some ⟨bk,0,none⟩) l.length c)):=Fr.step (hF1.mono (fun _ _ h=>absurd h (fun h=>h))) Xc (fun _ _ h=>h)
  have ia:∀j,aY b (.slice (some ⟨bk,0,none⟩) l.length c) wv j->aY b (.slice (some ⟨bk,0,none⟩) gs.length c) wv j:=fun j hj=>by
   rcases hj with h|h|h
   ·exact Or.inl h
   ·exact Or.inr (Or.inl h)
   ·exact Or.inr (Or.inr h)
  have H4:=O h4;have jF:=O hFw
  try clear ld
  try clear lr
  try clear ho
  try clear hb
  try clear OO
  try clear fa
  try clear OP
  try clear tZ
  try clear OM
  try clear qX
  try clear Xc
  try clear En
  try clear Em
  try clear h3
  try clear hF1
  try clear Xc
  try clear nE
  try clear HR3
  try clear b1v
  try clear OD
  try clear HF
  try clear h4
  try clear hFw
  have ZW:=O yw;have OQ:=O Lq;clear yw Lq;by_cases Xd:4294967295<=r.count
  ·have hu:=O (show mD gs o proxy path=(l,.error 12)by
    rw[HL.out];unfold mD;rw[HE.out,if_pos (by omega),show((k:Int)).toNat=k by simp,List.getElem?_eq_getElem hk];simp only;rw[<-HCO.out,if_pos Xd])
   go_wp2_with (first|((with_reducible refine ag ⟨none,.store 49 _ _,_,_,_,_⟩ ?_);go_must(refine wpList_store_row rfl 49 (.tmp 8) (.tmp 42) rfl (w.heap.size+1) bZ rfl rfl _ bZ OQ.out (by kernel_rfl) rfl su ?_))|fail)
   refine bodyPost_ret (results_cell_tmp (by rfl) _ _ (w.heap.size+1) 49 bZ (0,0) _ rfl (setRow_heap _ (w.heap.size+1) _ _ _ _ OQ.out) Tryz.underlying49 rfl (by kernel_rfl)) rfl ?_;unfold lC;rw[hu.out]
   have hFr:Fr (one (w.heap.size+1)) (w2.setCell ⟨b,0,none⟩ (.slice (some ⟨bk,0,none⟩) l.length c)) ((w2.setCell ⟨b,0,none⟩ (.slice (some ⟨bk,0,none⟩) l.length c)).setRow (w.heap.size+1) bZ):=(Fr.refl (one (w.heap.size+1)) _).setRow (fun _=>rfl) _;have hne:∀j,aY b (.slice (some ⟨bk,0,none⟩) gs.length c) wv j->j<w.heap.size:=fun j hj=>by
    rcases hj with hj|hj|hj
    ·omega
    ·obtain⟨cc,e⟩:=h.nK hj;exact aj e
    ·obtain⟨cc,e⟩:=h.p_ hj;exact aj e
   refine⟨⟨_,_,H4.out.fr hFr ?_ ?_ ?_ ?_,jF.out.step hFr ?_,fun j hj=>Or.inl (ia j hj)⟩,rfl⟩
   ·rintro j rfl _;exact⟨by omega,fun cc f e=>by rw[OQ.out]at e;cases e⟩
   ·intro hh;have e:b=w.heap.size+1:=hh;omega
   ·intro j hj hh;have e:j=w.heap.size+1:=hh;have:=hne j (ia j (Or.inr (Or.inl hj)));omega
   ·intro j hj hh;have e:j=w.heap.size+1:=hh;have:=hne j (ia j (Or.inr (Or.inr hj)));omega
   ·intro j hj hh;have e:j=w.heap.size+1:=hh;omega
  ·have hu:=O (show mD gs o proxy path=(l++[gs[k].used],.ok gs[k].used)by
    rw[HL.out];unfold mD;rw[HE.out,if_pos (by omega),show((k:Int)).toNat=k by simp,List.getElem?_eq_getElem hk];simp only;rw[<-HCO.out,if_neg Xd])
   have hne:∀j,aY b (.slice (some ⟨bk,0,none⟩) gs.length c) wv j->j<w.heap.size:=fun j hj=>by
    rcases hj with hj|hj|hj
    ·omega
    ·obtain⟨cc,e⟩:=h.nK hj;exact aj e
    ·obtain⟨cc,e⟩:=h.p_ hj;exact aj e
   go_wp2_with fail
   clear d2 e2 c14 f14;generalize w2.setCell ⟨b,0,none⟩ (.slice (some ⟨bk,0,none⟩) l.length c)=w3 at *
   have agJ:(w3.setCell ⟨u1.heap.size,14,none⟩ (.int .i64 (r.count+1))).heap[u1.heap.size]?=some (.cells r.used.cells.toArray 49 (0,0)):=by
    have e:=ZW.out;rw[HX.out]at e;exact aP e 14 _
   have Dm:Fr (one u1.heap.size) w3 (w3.setCell ⟨u1.heap.size,14,none⟩ (.int .i64 (r.count+1))):=(Fr.refl (one u1.heap.size) w3).setCell (p:=⟨u1.heap.size,14,none⟩) (fun _=>rfl) _;have ZX:lT base w3 (one u1.heap.size):=by
    rintro j rfl _;exact⟨eI,fun cc f e=>by rw[ZW.out]at e;cases e⟩
   have kT:¬aY b (.slice (some ⟨bk,0,none⟩) l.length c) wv u1.heap.size:=fun hh=>by
    have:=hne _ (ia _ hh);omega
   have h5:=H4.out.fr Dm ZX (fun hh=>by have e:b=u1.heap.size:=hh;omega) (fun j hj hh=>by have e:j=u1.heap.size:=hh;subst e;exact kT (Or.inr (Or.inl hj))) (fun j hj hh=>by have e:j=u1.heap.size:=hh;subst e;exact kT (Or.inr (Or.inr hj)));have CW:ai.Reads (aS base (w3.setCell ⟨u1.heap.size,14,none⟩ (.int .i64 (r.count+1)))) r.used gs[k].used:=by
    obtain⟨q1,q2,q3,q4,q5,q6,q7⟩:=FK.mono (fun _ _ h=>h.fr Dm ZX);exact⟨q1,q2,q3,q4,q5,by show r.count+1=gs[k].count+1;rw[q6],q7⟩
   have agK:=O (Dm.keep OQ.out (fun hh=>by have e:w.heap.size+1=u1.heap.size:=hh;omega));have ZY:Fr (aY b (.slice (some ⟨bk,0,none⟩) gs.length c) wv) w (w3.setCell ⟨u1.heap.size,14,none⟩ (.int .i64 (r.count+1))):=jF.out.step Dm (fun j hj hh=>by have e:j=u1.heap.size:=hh;omega);have Xe:∀u∈r.used.cells,u.oneCell'=true:=by
    intro u hu;simp only[ai.cells,ai.used,List.mem_cons,List.not_mem_nil,or_false]at hu;have ho:=qY.out;simp only[ai.cells,List.mem_cons,List.not_mem_nil,or_false]at ho;rcases hu with rfl|rfl|rfl|rfl|rfl|rfl|rfl|rfl|rfl|rfl|rfl|rfl|rfl|rfl|rfl|rfl<;>first|rfl|exact ho _ (by simp)
   have Xf:=O Xe;have ZZ:=O agJ;have HR6:=O CW;have awg:w.heap.size<=w3.heap.size:=jF.out.size;clear Xe FK Dm ZX ZW OQ H4 jF agJ CW;generalize w3.setCell ⟨u1.heap.size,14,none⟩ (.int .i64 (r.count+1))=w4 at *
   have j_:∀i u,r.used.cells[i]?=some u->w4.cell? ⟨u1.heap.size,i,none⟩=some u:=fun i u hu=>by
    simp only[World.cell?,ZZ.out];simpa using hu
   have x0:=j_ 0 _ rfl;have x1:=j_ 1 _ rfl;have x2:=j_ 2 _ rfl;have x3:=j_ 3 _ rfl;have x4:=j_ 4 _ rfl;have x5:=j_ 5 _ rfl;have x6:=j_ 6 _ rfl;have x7:=j_ 7 _ rfl;have x8:=j_ 8 _ rfl;have x9:=j_ 9 _ rfl;have UC:=j_ 10 _ rfl;have UD:=j_ 11 _ rfl;have ZT:=j_ 12 _ rfl;have x13:=j_ 13 _ rfl;have x14:=j_ 14 _ rfl;have x15:=j_ 15 _ rfl;have d0:=h5.c0;have e0:=h5.free 0;have ph:b<w4.heap.size:=h5.lt
   have T4:u1.heap.size<w4.heap.size:=aj ZZ.out;obtain⟨i0,qD,oZ,iy,gU⟩:=info_parts sr;obtain⟨ZV,FM,zD⟩:=h5.aH;have HO5:=O FM;have rA:=O zD;have Eo:w4.ownsRow base 49 16 (.slice (some ⟨bk,0,none⟩) l.length c) l.length (ZV.map ai.cells).flatten:=by
    have hh:=FM.2;rw[List.length_map,zD.len]at hh;exact hh
   have wJ:¬own (.slice (some ⟨bk,0,none⟩) l.length c) b:=h5.gb;clear FM zD j_;simp only[ai.used]at x0 x1 x2 x3 x4 x5 x6 x7 x8 x9 UC UD ZT x13 x14 x15
   go_region_law ((with_reducible refine jM ⟨some 55,_,_,_,_,_⟩ ?_)
                  refine step_append_lies _ (by rfl) _ _ _ (by rfl) base 49 i0 _ 16 216 Tryz.underlying42 qD oZ iy gU rfl (by omega) (.slice (some ⟨bk,0,none⟩) l.length c) l.length _ (by rfl) (by repeat(first|exact Eo|apply World.ownsRow.alloc|apply World.ownsRow.drew)) ⟨w4.heap.size,0,none⟩ 1 1 r.used.cells (by rfl) (by rfl) (jo w4 r.used.cells _) Xf.out (by omega) (by unfold maxLen;omega) (by omega) (by simp;omega) (w4.heap.size+1) (by simp) ?_
                  intro gg cap w5 pS gQ bC Ze
                  have lA:Fr (own (.slice (some ⟨bk,0,none⟩) l.length c)) w4 w5:=Fr.grown (by repeat(first|exact Fr.refl _ _|apply Fr.drew|apply Fr.alloc)) gQ (fun _ hk _=>hk)
                  have k4:w5.cell? ⟨b,0,none⟩=some (.slice (some ⟨bk,0,none⟩) l.length c):=(lA.cell (p:=⟨b,0,none⟩) ph wJ).trans d0
                  have e4:w5.frozen? ⟨b,0,none⟩=false:=(lA.frozen (p:=⟨b,0,none⟩) ph wJ).trans e0)
   all_goals
    obtain⟨h6,hF6,zC⟩:=AH (m:=gs[k].used) h5 HO5.out rA.out (Fr.refl _ _) HR6.out Xf.out lA pS (bC.imp (fun h=>h) (fun h=>by omega));have hnr:¬aY b (.slice (some ⟨bk,0,none⟩) l.length c) wv (w.heap.size+1):=fun hh=>by have:=hne _ (ia _ hh);omega
    have agM:=O (hF6.keep ZZ.out kT);have aob:=O (hF6.keep agK.out hnr);have MV:=HR6.out.mono (fun _ _ h=>h.fr hF6 h5.off);have aoc:=O (ZY.step hF6 (fun j hj hb=>ia j hb));have UH:∀j,aY b (.slice (some ⟨gg,0,none⟩) (l.length+1) cap) wv j->aY b (.slice (some ⟨bk,0,none⟩) gs.length c) wv j\/w.heap.size<=j:=fun j hj=>by
     rcases zC j hj with h|h
     ·exact Or.inl (ia j h)
     ·exact Or.inr (by have:=ZY.size;omega)
    have H6:=O h6;have wP:base<=(w5.setCell ⟨b,0,none⟩ (.slice (some ⟨gg,0,none⟩) (l.length+1) cap)).heap.size:=by have:=h6.lt;omega
    have cF:=O (ov base r.used gs[k].used _ wP MV);clear x0 x1 x2 x3 x4 x5 x6 x7 x8 x9 UC UD ZT x13 x14 x15 d0 e0 k4 e4 gQ pS Eo h6 hF6 MV lA h5 wP;generalize w5.setCell ⟨b,0,none⟩ (.slice (some ⟨gg,0,none⟩) (l.length+1) cap)=w6 at *
    obtain⟨y,hy⟩:∃y,y=r.used.cells:=⟨_,rfl⟩;have FH:y.length=16:=by rw[hy];rfl
    rw[<-hy]at agM cF;have hyi:=O (show(Tryz.prog.info? 49).map (·.size)=some y.toArray.size by rw[List.size_toArray,FH];kernel_rfl);clear hy;go_wp2_with (first|((with_reducible refine ag ⟨some 58,_,_,_,_,_⟩ ?_);go_must(refine wpList_load_row rfl 49 (.tmp 11) rfl u1.heap.size rfl _ y.toArray (0,0) _ agM.out Tryz.underlying49 rfl hyi.out ?_))|fail)
    refine cF.out.mono ?_;intro e w7 GG;obtain⟨r7,rfl,MV,OS,jC⟩:=GG;have b7:=O (jC.keep aob.out (fun h=>h));have h7:=H6.out.bd jC;have M5:=aoc.out.trans (jC.mono (fun _ _ h=>absurd h (fun h=>h)));have sg:(Tryz.prog.info? 49).map (·.size)=some r7.cells.toArray.size:=by kernel_rfl
    obtain⟨z,hz⟩:∃z,z=r7.cells:=⟨_,rfl⟩;have HZ:=O hz;have agN:=O OS;rw[<-hz]at sg OS ⊢;have iy:=O (all_oneCell_toArray OS);have KK:=O (show bZ.size=z.toArray.size by rw[hz];rfl);clear hz cF
    go_wp2_with (first|((with_reducible refine ag ⟨none,.store 49 _ _,_,_,_,_⟩ ?_);go_must(refine wpList_store_row rfl 49 (.tmp 8) (.tmp 59) rfl (w.heap.size+1) z.toArray rfl rfl _ bZ b7.out sg KK.out iy.out ?_))|fail)
    have lZ:lT base w7 (one (w.heap.size+1)):=by
     rintro j rfl hj;exact⟨by omega,fun c f e=>by rw[b7.out]at e;cases e⟩
    have fM:Fr (one (w.heap.size+1)) w7 (w7.setRow (w.heap.size+1) z.toArray):=(Fr.refl (one (w.heap.size+1)) w7).setRow (fun _=>rfl) _;refine bodyPost_ret (results_cell_tmp (by rfl) _ _ (w.heap.size+1) 49 z.toArray (0,0) _ rfl (setRow_heap w7 (w.heap.size+1) _ _ _ _ b7.out) Tryz.underlying49 rfl sg) rfl ?_;have Z0:¬aY b (.slice (some ⟨gg,0,none⟩) (l.length+1) cap) wv (w.heap.size+1):=fun hh=>by
     have hk7:∃cc t f,w7.heap[w.heap.size+1]?=some (.cells cc t f):=⟨_,_,_,b7.out⟩;rcases zC _ hh with h8|h8
     ·exact hnr h8
     ·have:=ZY.size;have:=aj agK.out;omega
    unfold lC;rw[hu.out];rw[HZ.out]at *
    refine⟨⟨_,_,h7.fr fM lZ (fun hh=>Z0 (Or.inl (by have e:b=w.heap.size+1:=hh;rw[e]))) (fun j hj hh=>Z0 (Or.inr (Or.inl (by have e:j=w.heap.size+1:=hh;rw[<-e];exact hj)))) (fun j hj hh=>Z0 (Or.inr (Or.inr (by have e:j=w.heap.size+1:=hh;rw[<-e];exact hj)))),M5.step fM (fun j hj hh=>by have e:j=w.heap.size+1:=hh;omega),UH⟩,r7,rfl,MV.mono (fun _ _ h=>h.fr fM lZ),agN.out⟩
 ·have hu:=O (show mD gs o proxy path=(gs,.error 8)by unfold mD;rw[he];rfl);rw[he];have hp:=fj.same h (HF.setRow (g:=w.heap.size+1) (fun h=>absurd h (by omega)) bZ);clear h2 h;go_wp2_with (first|((with_reducible refine ag ⟨none,.store 49 _ _,_,_,_,_⟩ ?_);go_must(refine wpList_store_row rfl 49 (.tmp 8) (.tmp 19) rfl (w.heap.size+1) bZ rfl rfl _ bZ OD.out (by kernel_rfl) rfl su ?_))|fail)
  refine bodyPost_ret (results_cell_tmp (by rfl) _ _ (w.heap.size+1) 49 bZ (0,0) _ rfl (setRow_heap u1 (w.heap.size+1) _ _ _ _ OD.out) Tryz.underlying49 rfl (by kernel_rfl)) rfl ?_;unfold lC;rw[hu.out];exact⟨hp,rfl⟩
def SZ(o:cO)(g:ai aF):Bool:=g.o.eN o
def GM(o:cO)(g:aG aF):Bool:=g.o.eN o
def JJ(o:cO)(x:List Value):Bool:=(afv x).eN o
theorem GN(g:ai Value)(o:cO)(bo:Nat)(w:World)(ho:w.heap[bo]?=some (.cells #[.bool o.ae,.string o.host,.int .i64 o.port] 24 (0,0))) :
  Calls Tryz.prog 188 #[.agg g.cells.toArray,.pointer (some ⟨bo,0,none⟩)] w fun e w'=>e=.returned (.bool (JJ o g.cells))/\Fr ay w w':=by
 have hC:=O (show JJ o g.cells=g.o.eN o from rfl);have heq:=ey g.o o;rw[hC.out];unfold ai.cells;have dF:Fr ay w _:=(Fr.refl ay w).alloc (.cells #[.bool g.o.ae,.string g.o.host,.int .i64 g.o.port,.bool g.proxy,.string g.user,.string g.pass,.int .i64 g.a.scheme,.string g.a.ar,.string g.a.aE,.string g.a.aK,.bool g.a.aL,.string g.a.bU,.bool g.a.aX,g.a.dom,.int .i64 g.count,g.paths] 49)
 have lr:=O (dF.keep ho (fun h=>h));clear hC ho;go_enter Tryz.func188,Tryz.ntmps188;go_wp2_with (first|((with_reducible refine ag ⟨some 6,_,_,_,_,_⟩ ?_);go_must(refine wpList_load_row rfl 24 (.tmp 1) rfl bo rfl _ _ (0,0) _ lr.out Tryz.underlying24 rfl (by kernel_rfl) ?_))|fail)
 go_ret;exact⟨rfl,dF⟩
theorem GP(g:aG Value)(o:cO)(bo:Nat)(w:World)(ho:w.heap[bo]?=some (.cells #[.bool o.ae,.string o.host,.int .i64 o.port] 24 (0,0))) :
  Calls Tryz.prog 190 #[.agg g.cells.toArray,.pointer (some ⟨bo,0,none⟩)] w fun e w'=>e=.returned (.bool (JJ o g.cells))/\Fr ay w w':=by
 have hC:=O (show JJ o g.cells=g.o.eN o from rfl);have heq:=ey g.o o;rw[hC.out];unfold aG.cells;have dF:Fr ay w _:=(Fr.refl ay w).alloc (.cells #[.bool g.o.ae,.string g.o.host,.int .i64 g.o.port,.bool g.proxy,.string g.path,.int .i64 g.a.scheme,.string g.a.ar,.string g.a.aE,.string g.a.aK,.bool g.a.aL,.string g.a.bU,.bool g.a.aX,g.a.dom] 144);have lr:=O (dF.keep ho (fun h=>h));clear hC ho
 go_enter Tryz.func190,Tryz.ntmps190;go_wp2_with (first|((with_reducible refine ag ⟨some 6,_,_,_,_,_⟩ ?_);go_must(refine wpList_load_row rfl 24 (.tmp 1) rfl bo rfl _ _ (0,0) _ lr.out Tryz.underlying24 rfl (by kernel_rfl) ?_))|fail)
 go_ret;exact⟨rfl,dF⟩
theorem yx(S:Nat->Prop)(w:World)(o:cO)(bo:Nat)(rs:List (ai Value))
  (ho:w.heap[bo]?=some (.cells #[.bool o.ae,.string o.host,.int .i64 o.port] 24 (0,0)))(h1:¬S bo) :
  dn S w 188 #[.pointer (some ⟨bo,0,none⟩)] (JJ o) (rs.map ai.cells):=by
 intro x hx u hu;obtain⟨r,hr0,rfl⟩:=List.mem_map.1 hx;exact GN r o bo u (hu.keep ho h1)
theorem yy(S:Nat->Prop)(w:World)(o:cO)(bo:Nat)(rs:List (aG Value))
  (ho:w.heap[bo]?=some (.cells #[.bool o.ae,.string o.host,.int .i64 o.port] 24 (0,0)))(h1:¬S bo) :
  dn S w 190 #[.pointer (some ⟨bo,0,none⟩)] (JJ o) (rs.map aG.cells):=by
 intro x hx u hu;obtain⟨r,hr0,rfl⟩:=List.mem_map.1 hx;exact GP r o bo u (hu.keep ho h1)
theorem Lr{base:Nat}{w:World}{r:ai Value}{g:ai aF}(h:ai.Reads (aS base w) r g)(o:cO):JJ o r.cells=SZ o g:=by
 unfold SZ;rw[<-h.1];rfl
theorem GQ{base:Nat}{w:World}{r:aG Value}{g:aG aF}(h:aG.Reads (aS base w) r g)(o:cO):JJ o r.cells=GM o g:=by
 unfold GM;rw[<-h.1];rfl
theorem fq.tW{base:Nat}{w:World}{v:Value}{rs:List (aG Value)}{gs:List (aG aF)}{p:List Value->Bool}{q:aG aF->Bool}(h1:OwnRows base 144 13 w v ((rs.map aG.cells).filter (fun x=>!p x)))(h2:fF (aG.Reads (aS base w)) rs gs)
  (WH:∀r g,aG.Reads (aS base w) r g->p r.cells=q g):fq base w v (gs.filter (fun g=>!q g))/\((rs.map aG.cells).filter (fun x=>!p x)).length=(gs.filter (fun g=>!q g)).length:=by
 have hb:fF (aG.Reads (aS base w)) (rs.filter (fun r=>!p r.cells)) (gs.filter (fun g=>!q g)):=h2.filter (fun r g h=>by rw[WH r g h]);have he:(rs.map aG.cells).filter (fun x=>!p x)=(rs.filter (fun r=>!p r.cells)).map aG.cells:=by rw[List.filter_map];rfl
 refine⟨⟨_,by rw[he]at h1;exact h1,hb⟩,?_⟩;rw[he,List.length_map,hb.len]
def qL(base:Nat)(w:World)(b:Nat)(gv wv:Value)(gs:List (ai aF))(ws:List (aG aF))(o:cO)(e:Ending)(w':World):Prop :=
 e=.returned (.int .i64 ((gs.length:Int)-((gs.filter (fun g=>!SZ o g)).length:Int)))/\fj base w b gv wv (gs.filter (fun g=>!SZ o g)) (ws.filter (fun g=>!GM o g)) w'
theorem AJ(base:Nat)(w:World)(b:Nat)(gv wv:Value)(gs:List (ai aF))(ws:List (aG aF))(o:cO)(h:ba base w b gv wv gs ws)(M1:gs.length<34359738368) :
  Calls Tryz.prog 122 #[.pointer (some ⟨b,0,none⟩),.agg o.cells.toArray] w (qL base w b gv wv gs ws o):=by
 unfold cO.cells;obtain⟨av,cv,hv⟩:=h.aH.form;obtain⟨aw,cw,hw⟩:=h.waits.form;subst hv hw;have pD:=h.lt;have kM:=h.low;have iJ:Fr ay w (w.alloc (.cells #[.bool o.ae,.string o.host,.int .i64 o.port] 24)):=(Fr.refl ay w).alloc _;have b0:(w.alloc (.cells #[.bool o.ae,.string o.host,.int .i64 o.port] 24)).heap[w.heap.size]?=some (.cells #[.bool o.ae,.string o.host,.int .i64 o.port] 24 (0,0)):=af _ _
 have h1:=h.bd iJ;have h0:=h1.c0;have B0:=O b0;clear b0;go_enter Tryz.func122,Tryz.ntmps122;go_wp2_with fail
 clear h0;generalize w.alloc (.cells _ 24)=W at *
 obtain⟨rs,uT,lr⟩:=h1.aH;have hW:w.heap.size<=W.heap.size:=iJ.size;have SY:∀k,own (.slice av gs.length cv) k->k<w.heap.size:=fun k hk=>by
  obtain⟨c,e⟩:=h.nK hk;exact aj e
 have hkw:∀k,own (.slice aw ws.length cw) k->k<w.heap.size:=fun k hk=>by
  obtain⟨c,e⟩:=h.p_ hk;exact aj e
 have hd:=O (rz base 188 #[.pointer (some ⟨w.heap.size,0,none⟩)] (JJ o) _ _ W Tryz.call188
  (yx _ W o w.heap.size rs B0.out (fun hk=>by have:=SY _ hk;omega)) uT)
 refine hd.out.mono ?_;rintro e w2⟨a2,c2,rfl,rR,bq,bV⟩;have OK:=lr.mono (fun _ _ h=>h.mono (fun _ _ h=>h.fr bq (fun k hk hl=>h1.off k (Or.inr (Or.inl hk)) hl)));obtain⟨SS,UB⟩:=dx.tW rR OK (fun r g h=>Lr h o);rw[UB]at SS bV ⊢;have fC:=bq.keep h1.cR h1.gb;have bK:=h1.waits.fr bq (fun k hk hl=>h1.off k (Or.inr (Or.inl hk)) hl) (fun k hk hg=>h1.gw hg hk);have ln:=ba.OJ kM fC SS bK
 have c0:w2.cell? ⟨b,0,none⟩=some (.slice av gs.length cv):=by simp[World.cell?,fC]
 have f0:w2.frozen? ⟨b,0,none⟩=false:=by simp[World.frozen?,fC]
 have Un:Fr (aY b (.slice av gs.length cv) (.slice aw ws.length cw)) w w2:=Fr.step (iJ.mono (fun _ _ h=>absurd h (fun h=>h))) bq (fun k _ hk=>Or.inr (Or.inl hk));have HB:=Un.setCell (p:=⟨b,0,none⟩) (fun _=>Or.inl rfl) (.slice a2 (gs.filter (fun g=>!SZ o g)).length c2);have agO:=bq.keep B0.out (fun hk=>by have:=SY _ hk;omega)
 have Z4:(w2.setCell ⟨b,0,none⟩ (.slice a2 (gs.filter (fun g=>!SZ o g)).length c2)).heap[w.heap.size]?=_:=(nd (by omega) 0 _).trans agO;have ia:∀k,aY b (.slice a2 (gs.filter (fun g=>!SZ o g)).length c2) (.slice aw ws.length cw) k->aY b (.slice av gs.length cv) (.slice aw ws.length cw) k\/w.heap.size<=k:=by
  intro k hk;unfold aY at hk;rw[bV]at hk;exact Or.inl hk
 have yr:(gs.filter (fun g=>!SZ o g)).length<=gs.length:=List.length_filter_le _ _;clear hd uT lr OK rR fC bK SS h1 SY UB Un agO;obtain⟨fs,fM⟩:∃fs,fs=gs.filter (fun g=>!SZ o g):=⟨_,rfl⟩;rw[<-fM]at ln bV HB ia Z4 yr ⊢;have WZ:=O fM;have agP:=O ln;have HBO:=O Z4;have k1:=ln.c1;clear fM ln Z4;go_wp2_with fail
 clear c0 f0 k1;generalize w2.setCell ⟨b,0,none⟩ (.slice a2 fs.length c2)=w3 at *
 have h3:=agP.out;obtain⟨rw',SN,hq2⟩:=h3.waits;have hd:=O (zE base 190 #[.pointer (some ⟨w.heap.size,0,none⟩)] (JJ o) _ _ w3 Tryz.call190
  (yy _ w3 o w.heap.size rw' HBO.out (fun hk=>by have:=hkw _ hk;omega)) SN)
 refine hd.out.mono ?_;rintro e w4⟨a4,c4,rfl,Uq,bT,cZ⟩;have agQ:=hq2.mono (fun _ _ h=>h.mono (fun _ _ h=>h.fr bT (fun k hk hl=>h3.off k (Or.inr (Or.inr hk)) hl)));obtain⟨wQ,zW⟩:=fq.tW Uq agQ (fun r g h=>GQ h o);rw[zW]at wQ cZ ⊢;have ph:=bT.keep h3.cR h3.wb;have Ag:=h3.aH.fr bT (fun k hk hl=>h3.off k (Or.inr (Or.inr hk)) hl) (fun k hk hg=>h3.gw hk hg);have ln:=ba.ZS kM ph Ag wQ
 have c1:w4.cell? ⟨b,1,none⟩=some (.slice aw ws.length cw):=by simp[World.cell?,ph]
 have f1:w4.frozen? ⟨b,1,none⟩=false:=by simp[World.frozen?,ph]
 have Xg:=HB.step bT (fun k _ hk=>Or.inr (Or.inr hk));have rA:=Xg.setCell (p:=⟨b,1,none⟩) (fun _=>Or.inl rfl) (.slice a4 (ws.filter (fun g=>!GM o g)).length c4);have OU:∀k,aY b (.slice a2 fs.length c2) (.slice a4 (ws.filter (fun g=>!GM o g)).length c4) k->aY b (.slice av gs.length cv) (.slice aw ws.length cw) k\/w.heap.size<=k:=by
  intro k hk;refine ia k ?_;unfold aY at hk ⊢;rw[cZ]at hk;exact hk
 obtain⟨fw,B4⟩:∃fw,fw=ws.filter (fun g=>!GM o g):=⟨_,rfl⟩;rw[<-B4]at ln cZ rA OU ⊢;have jF:=O B4;have agR:=O ln;have aod:=O rA;have k0:=ln.c0;clear B4 ln hd SN hq2 agQ Uq wQ zW ph Ag h3 HB Xg rA ia agP HBO;go_wp2_with fail
 go_ret;unfold qL;rw[<-WZ.out, <-jF.out];exact⟨rfl,_,_,agR.out,aod.out,OU⟩
theorem OwnRows.AR{b k:Nat}{e:TypeId}{w:World}{v:Value}{xs:List (List Value)}(h:OwnRows b e k w v xs){g:Nat}(hg:own v g):∃c,w.heap[g]?=some (.cells c e (0,0)):=by
 obtain⟨cap,cur,_,_,h2,_⟩:=h.open hg;exact⟨cur,h2⟩
structure cy (base:Nat) (w:World) (b:Nat) (v:Value) (ps:List bI):Prop where
 low:base<=b
 cR:w.heap[b]?=some (.cells #[v] 141 (0,0))
 rows:OwnRows base 65 12 w v (ps.map bI.cells)
def dK(b:Nat)(v:Value):Nat->Prop:=fun k=>k=b\/own v k
def yB(base:Nat)(w:World)(b:Nat)(v:Value)(ps:List bI)(w':World):Prop :=
 ∃v',cy base w' b v' ps/\Fr (dK b v) w w'/\∀k,dK b v' k->dK b v k\/w.heap.size<=k
section
variable {base : Nat} {w w' : World} {b : Nat} {v : Value} {ps : List bI}
theorem cy.lt(h:cy base w b v ps):b<w.heap.size:=aj h.cR
theorem cy.c0(h:cy base w b v ps):w.cell? ⟨b,0,none⟩=some v:=by simp[World.cell?,h.cR]
theorem cy.free(h:cy base w b v ps)(k:Nat):w.frozen? ⟨b,k,none⟩=false:=by simp[World.frozen?,h.cR]
theorem cy.form(h:cy base w b v ps):∃a c,v=.slice a ps.length c:=by
 obtain⟨a,c,e⟩:=h.rows.form;exact⟨a,c,by rw[e,List.length_map]⟩
theorem cy.yC(h:cy base w b v ps){k:Nat}(hk:own v k):k<w.heap.size:=h.rows.lt k hk
theorem cy.nb(h:cy base w b v ps):¬own v b:=fun hk=>by
 obtain⟨c,e⟩:=h.rows.AR hk;rw[h.cR]at e;cases e
theorem cy.fO(h:cy base w b v ps){k:Nat}(hk:dK b v k):k<w.heap.size:=by
 rcases hk with rfl|hk
 ·exact h.lt
 ·exact h.yC hk
theorem cy.fr{S:Nat->Prop}(h:cy base w b v ps)(hf:Fr S w w')(hn:∀k,dK b v k->¬S k):cy base w' b v ps :=
 ⟨h.low,hf.keep h.cR (hn b (Or.inl rfl)),h.rows.fr hf (fun k hk=>hn k (Or.inr hk))⟩
theorem cy.bd(h:cy base w b v ps)(hf:Fr ay w w'):cy base w' b v ps:=h.fr hf (fun _ _ h=>h)
end
theorem cy.set{base:Nat}{w:World}{b:Nat}{v0 v:Value}{ps:List bI}(hl:base<=b)(hb:w.heap[b]?=some (.cells #[v0] 141 (0,0)))(hr:OwnRows base 65 12 w v (ps.map bI.cells)) :
  cy base (w.setCell ⟨b,0,none⟩ v) b v ps:=by
 have fM:Fr (one b) w (w.setCell ⟨b,0,none⟩ v):=(Fr.refl (one b) w).setCell (p:=⟨b,0,none⟩) (fun _=>rfl) _;refine⟨hl,aP hb 0 v,hr.fr fM ?_⟩;rintro k hk rfl;obtain⟨c,e⟩:=hr.AR hk;rw[hb]at e;cases e
theorem Es(p q:bI)(w:World):(binOp .eql 65 (.agg p.cells.toArray) (.agg q.cells.toArray)).run Tryz.prog w=.ok (.bool (p.eN q)) w:=by
 obtain⟨⟨a,b,c⟩,⟨d,e,f⟩,g,i,j,k,l,m⟩:=p;obtain⟨⟨a',b',c'⟩,⟨d',e',f'⟩,g',i',j',k',l',m'⟩:=q;unfold bI.cells;go_simp;simp only[show∀(P:Prop) [Decidable P] (W:World) (b:Bool),(if P then(Result.ok (Value.bool b) W:Result Value)else .ok (.bool false) W)=.ok (.bool (decide P&&b)) W from fun P _ W b=>by by_cases h:P<;>simp[h]]
 congr 2
 rw[Bool.eq_iff_iff];simp only[bI.eN,cO.eN,Bool.and_eq_true,decide_eq_true_eq,beq_iff_eq,and_assoc,and_true]
end Go.Proofs.YtjdmjbdkdmbaiaaGreatDoor
