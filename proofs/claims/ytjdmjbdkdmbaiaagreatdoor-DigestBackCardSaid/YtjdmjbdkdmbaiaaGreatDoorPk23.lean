/- Bank6. -/
import Derived.Test.YtjdmjbdkdmbaiaaGreatDoorPk21
import Derived.Deep.AppendLies
set_option maxRecDepth 100000
set_option maxHeartbeats 16000000
set_option linter.unusedSimpArgs false
namespace Go.Proofs.YtjdmjbdkdmbaiaaGreatDoor
open Go.RowKit
def oy(gs:List (ai aF))(g:ai aF):List (ai aF) :=
 let l:=gs.filter (fun x=>!iv g.o g.proxy g.a.ar x)++[g]
 l.drop (l.length-8)
def B_(base:Nat)(w:World)(b:Nat)(gv wv:Value)(gs:List (ai aF))(ws:List (aG aF))(e:Ending)(w':World):Prop :=
 e=.returned (.tuple #[])/\fj base w b gv wv gs ws w'
theorem AH{base:Nat}{w2 w3 w4:World}{b:Nat}{gv wv:Value}{fs:List (ai aF)}{ws:List (aG aF)}{m:ai aF}{r3:ai Value}{rs:List (ai Value)}{gg cap:Nat}(h2:ba base w2 b gv wv fs ws)
  (ho:OwnRows base 49 16 w2 gv (rs.map ai.cells))(fC:fF (ai.Reads (aS base w2)) rs fs)(dv:Fr ay w2 w3)(oT:ai.Reads (aS base w3) r3 m)(ll:∀u∈r3.cells,u.oneCell'=true)(bT:Fr (own gv) w3 w4)
  (cZ:w4.ownsRow base 49 16 (.slice (some ⟨gg,0,none⟩) (fs.length+1) cap) (fs.length+1) ((rs.map ai.cells).flatten++r3.cells))(bC:gv.ownBlock=some gg\/w2.heap.size<=gg) :
  ba base (w4.setCell ⟨b,0,none⟩ (.slice (some ⟨gg,0,none⟩) (fs.length+1) cap)) b (.slice (some ⟨gg,0,none⟩) (fs.length+1) cap) wv (fs++[m]) ws /\
  Fr (aY b gv wv) w2 (w4.setCell ⟨b,0,none⟩ (.slice (some ⟨gg,0,none⟩) (fs.length+1) cap))/\∀k,aY b (.slice (some ⟨gg,0,none⟩) (fs.length+1) cap) wv k->aY b gv wv k\/w2.heap.size<=k:=by
 have kM:=h2.low;have qW:=fC.len;have rR:=ho.fr dv (fun _ _ h=>h);have yu:lT base w3 (own gv):=rR.off (Nat.le_refl _) (by decide);have ph:fF (ai.Reads (aS base w4)) (rs++[r3]) (fs++[m]) :=
  (fC.mono (fun _ _ h=>h.mono (fun _ _ h=>(h.bd dv).fr bT yu))).app (.cons (oT.mono (fun _ _ h=>h.fr bT yu)) .nil)
 have Ag:dx base w4 (.slice (some ⟨gg,0,none⟩) (fs.length+1) cap) (fs++[m]):=by
  refine⟨rs++[r3],⟨?_,?_⟩,ph⟩
  ·intro x hx;rw[List.map_append]at hx;rcases List.mem_append.1 hx with hx|hx
   ·exact ho.1 x hx
   ·simp at hx;subst hx;exact⟨rfl,ll⟩
  ·rw[List.map_append,List.flatten_append,List.length_append,List.length_map,qW];simpa using cZ
 have h3:=h2.bd dv;have o5:=bT.keep h3.cR h3.gb;have cY:fq base w4 wv ws:=h3.waits.fr bT yu (fun k hk hg=>h3.gw hg hk);have NY:Fr (aY b gv wv) w2 w4:=Fr.step (dv.mono (fun _ _ h=>absurd h (fun h=>h))) bT (fun _ _ hk=>Or.inr (Or.inl hk));refine⟨ba.OJ kM o5 Ag cY,NY.setCell (p:=⟨b,0,none⟩) (fun _=>Or.inl rfl) _,?_⟩;rintro k(hk|hk|hk)
 ·exact Or.inl (Or.inl hk)
 ·have e:gg=k:=by simpa[own,Value.ownBlock]using hk
  subst e;rcases bC with bC|bC
  ·exact Or.inl (Or.inr (Or.inl bC))
  ·exact Or.inr bC
 ·exact Or.inl (Or.inr (Or.inr hk))
theorem Ek{base:Nat}{w5 w6:World}{b gg cap n:Nat}{wv:Value}{ls:List (ai aF)}{ws:List (aG aF)}{rs:List (ai Value)}(h5:ba base w5 b (.slice (some ⟨gg,0,none⟩) ls.length cap) wv ls ws)
  (hb:fF (ai.Reads (aS base w5)) rs ls)(tI:OwnRows base 49 16 w6 (.slice (some ⟨gg,0,none⟩) (0+(ls.length-n)) cap) ((rs.map ai.cells).take 0++(rs.map ai.cells).drop n))(jz:Fr (one gg) w5 w6) :
  ba base (w6.setCell ⟨b,0,none⟩ (.slice (some ⟨gg,0,none⟩) (0+(ls.length-n)) cap)) b (.slice (some ⟨gg,0,none⟩) (0+(ls.length-n)) cap) wv (ls.drop n) ws /\
  Fr (aY b (.slice (some ⟨gg,0,none⟩) ls.length cap) wv) w5 (w6.setCell ⟨b,0,none⟩ (.slice (some ⟨gg,0,none⟩) (0+(ls.length-n)) cap))/\w6.cell? ⟨b,0,none⟩=some (.slice (some ⟨gg,0,none⟩) ls.length cap)/\w6.frozen? ⟨b,0,none⟩=false:=by
 have kM:=h5.low;have bG:∀k,one gg k->own (.slice (some ⟨gg,0,none⟩) ls.length cap) k:=fun k hk=>by have e:k=gg:=hk;rw[e];rfl
 have kb:lT base w5 (one gg):=fun k hk hl=>h5.off k (Or.inr (Or.inl (bG k hk))) hl;have o5:=jz.keep h5.cR (fun h=>h5.gb (bG _ h));have tY:fq base w6 wv ws:=h5.waits.fr jz kb (fun k hk hg=>h5.gw (bG _ hg) hk);have W_:dx base w6 (.slice (some ⟨gg,0,none⟩) (0+(ls.length-n)) cap) (ls.drop n):=by
  refine⟨rs.drop n,?_,(hb.mono (fun _ _ h=>h.mono (fun _ _ h=>h.fr jz kb))).drop n⟩;rw[List.take_zero,List.nil_append]at tI;rw[List.map_drop];exact tI
 have NY:Fr (aY b (.slice (some ⟨gg,0,none⟩) ls.length cap) wv) w5 w6:=jz.mono (fun k _ hk=>Or.inr (Or.inl (bG k hk)));exact⟨ba.OJ kM o5 W_ tY,NY.setCell (p:=⟨b,0,none⟩) (fun _=>Or.inl rfl) _,by simp[World.cell?,o5],by simp[World.frozen?,o5]⟩
theorem JI(base:Nat)(w:World)(b:Nat)(gv wv:Value)(gs:List (ai aF))(ws:List (aG aF))(g:ai Value)(m:ai aF)(h:ba base w b gv wv gs ws)(hg:g.Reads (aS base w) m)(M1:gs.length<34359738368) :
  Calls Tryz.prog 113 #[.pointer (some ⟨b,0,none⟩),.agg g.cells.toArray] w (B_ base w b gv wv (oy gs m) ws):=by
 obtain⟨x,hx⟩:∃x,x=g.cells:=⟨_,rfl⟩;have gD:x.length=16:=by rw[hx];rfl
 have pD:=h.lt;have kM:=h.low;have iJ:Fr ay w (w.alloc (.cells x.toArray 49)):=(Fr.refl ay w).alloc _;have h1:=h.bd iJ;have Ko:=hg.mono (fun _ _ h=>h.bd iJ);have mB:(w.alloc (.cells x.toArray 49)).heap[w.heap.size]?=some (.cells x.toArray 49 (0,0)):=af _ _;have iE:∀i u,g.cells[i]?=some u->(w.alloc (.cells x.toArray 49)).cell? ⟨w.heap.size,i,none⟩=some u:=fun i u hu=>by
  rw[<-hx]at hu;simp only[World.cell?,mB];simpa using hu
 have c0:=iE 0 _ rfl;have c1:=iE 1 _ rfl;have c2:=iE 2 _ rfl;have c3:=iE 3 _ rfl;have c7:=iE 7 _ rfl;have mU:=O (tX base _ b gv wv gs ws g.o g.proxy g.a.ar h1);have nE:=O mB;have HG:=O Ko;have HX:=O hx;rw[<-hx];clear hg Ko mB iE hx;go_enter Tryz.func113,Tryz.ntmps113;go_wp2_with fail
 clear c0 c1 c2 c3 c7;have zW:w.heap.size<(w.alloc (.cells x.toArray 49)).heap.size:=by simp
 generalize w.alloc (.cells x.toArray 49)=W at *
 refine mU.out.mono ?_;intro e w2 hpd;obtain⟨rfl,gv2,wv2,h2,bq,El⟩:=hpd;have kb:=h1.off;have kT:¬aY b gv wv w.heap.size:=by
  rintro(e|hk|hk)
  ·omega
  ·obtain⟨c,e⟩:=h.nK hk;have:=aj e;omega
  ·obtain⟨c,e⟩:=h.p_ hk;have:=aj e;omega
 have tZ:=O (bq.keep nE.out kT);have wG:=O (HG.out.mono (fun _ _ h=>h.fr bq kb));have UB:(gs.filter (fun g_1=>!iv g.o g.proxy g.a.ar g_1)).length<=gs.length:=List.length_filter_le _ _;obtain⟨fs,fM⟩:∃fs,fs=gs.filter (fun g_1=>!iv g.o g.proxy g.a.ar g_1):=⟨_,rfl⟩;rw[<-fM]at h2 UB ⊢;have WZ:=O fM;have fe:Fr (aY b gv wv) w w2:=Fr.step (iJ.mono (fun _ _ h=>absurd h (fun h=>h))) bq (fun _ _ h=>h)
 clear mU iJ bq kb fM h1 h nE HG;have yj:=O (show oy gs m=(fs++[m]).drop (fs.length+1-8)by
  have hr:=wG.out;unfold oy;rw[<-hr.1, <-hr.2.1, <-hr.2.2.2.2.1.2.1, <-WZ.out];simp)
 obtain⟨av,cv,ZH⟩:=h2.aH.form;subst ZH;have d0:=h2.c0;have e0:=h2.free 0;obtain⟨rs,ho,fC⟩:=h2.aH;have a_:=ho.2;have j_:∀i u,g.cells[i]?=some u->w2.cell? ⟨w.heap.size,i,none⟩=some u:=fun i u hu=>by
  have e:=HX.out;rw[<-e]at hu;simp only[World.cell?,tZ.out];simpa using hu
 have x0:=j_ 0 _ rfl;have x1:=j_ 1 _ rfl;have x2:=j_ 2 _ rfl;have x3:=j_ 3 _ rfl;have x4:=j_ 4 _ rfl;have x5:=j_ 5 _ rfl;have x6:=j_ 6 _ rfl;have x7:=j_ 7 _ rfl;have x8:=j_ 8 _ rfl;have x9:=j_ 9 _ rfl;have UC:=j_ 10 _ rfl;have UD:=j_ 11 _ rfl;have ZT:=j_ 12 _ rfl;have x13:=j_ 13 _ rfl;have x14:=j_ 14 _ rfl;have x15:=j_ 15 _ rfl;have UE:¬own (.slice av fs.length cv) w.heap.size:=fun hk=>by
  rcases El _ (Or.inr (Or.inl hk))with h|h
  ·exact kT h
  ·omega
 have cF:=O (show∀U,Fr ay w2 U->Calls Tryz.prog 124 #[.agg #[.bool g.o.ae,.string g.o.host,.int .i64 g.o.port,.bool g.proxy,.string g.user,.string g.pass,.int .i64 g.a.scheme,.string g.a.ar,.string g.a.aE,.string g.a.aK,.bool g.a.aL,.string g.a.bU,.bool g.a.aX,g.a.dom,.int .i64 g.count,g.paths]] U (OC base m U)from fun U hU=>by
  exact ov base g m U (by have:=h2.lt;have:=hU.size;omega) (wG.out.mono (fun _ _ h=>h.bd hU)))
 obtain⟨i0,qD,oZ,iy,gU⟩:=info_parts sr;have HO:=O ho;have mj:=O fC;have qW:=fC.len;have hkl:=O (show(rs.map ai.cells).length=fs.length by rw[List.length_map,qW]);have awe:base<=w2.heap.size:=by have:=h2.lt;omega
 have wJ:¬own (.slice av fs.length cv) b:=h2.gb
 have yv:=O (show∀U,Fr (own (.slice av fs.length cv)) w2 U->U.cell? ⟨b,0,none⟩=some (.slice av fs.length cv)/\U.cell? ⟨w.heap.size,0,none⟩=some (.bool g.o.ae)/\U.cell? ⟨w.heap.size,1,none⟩=some (.string g.o.host)/\U.cell? ⟨w.heap.size,2,none⟩=some (.int .i64 g.o.port)/\U.cell? ⟨w.heap.size,3,none⟩=some (.bool g.proxy)/\U.cell? ⟨w.heap.size,4,none⟩=some (.string g.user)/\U.cell? ⟨w.heap.size,5,none⟩=some (.string g.pass)/\U.cell? ⟨w.heap.size,6,none⟩=some (.int .i64 g.a.scheme)/\U.cell? ⟨w.heap.size,7,none⟩=some (.string g.a.ar)/\U.cell? ⟨w.heap.size,8,none⟩=some (.string g.a.aE)/\U.cell? ⟨w.heap.size,9,none⟩=some (.string g.a.aK)/\U.cell? ⟨w.heap.size,10,none⟩=some (.bool g.a.aL)/\U.cell? ⟨w.heap.size,11,none⟩=some (.string g.a.bU)/\U.cell? ⟨w.heap.size,12,none⟩=some (.bool g.a.aX)/\U.cell? ⟨w.heap.size,13,none⟩=some (g.a.dom)/\U.cell? ⟨w.heap.size,14,none⟩=some (.int .i64 g.count)/\U.cell? ⟨w.heap.size,15,none⟩=some (g.paths)from fun U hU=>by
  have hc:∀i u,g.cells[i]?=some u->U.cell? ⟨w.heap.size,i,none⟩=some u:=fun i u hu=>(hU.cell (p:=⟨w.heap.size,i,none⟩) (aj tZ.out) UE).trans (j_ i u hu);exact⟨(hU.cell (p:=⟨b,0,none⟩) h2.lt wJ).trans d0,hc 0 _ rfl,hc 1 _ rfl,hc 2 _ rfl,hc 3 _ rfl,hc 4 _ rfl,hc 5 _ rfl,hc 6 _ rfl,hc 7 _ rfl,hc 8 _ rfl,hc 9 _ rfl,hc 10 _ rfl,hc 11 _ rfl,hc 12 _ rfl,hc 13 _ rfl,hc 14 _ rfl,hc 15 _ rfl⟩)
 clear ho fC qW a_ j_;go_wp2_with fail
 go_region_law (first
   |((with_reducible refine jM ⟨some 20,_,_,_,_,_⟩ ?_)
     refine uS rfl 124 _ (by go_simp) (cF.out _ (by repeat(first|exact Fr.refl _ _|apply Fr.drew))) ?_
     intro e w3 GG
     obtain⟨r3,rfl,oT,ll,dv⟩:=GG
     refine⟨_,rfl,?_⟩
     have dV:Fr ay w2 w3:=Fr.trans (by repeat(first|exact Fr.refl _ _|apply Fr.drew)) dv
     have hk:=yv.out w3 (dV.mono (fun _ _ h=>absurd h (fun h=>h)))
     have k3:=hk.1
     have WI:b<w3.heap.size:=Nat.lt_of_lt_of_le h2.lt dV.size
     obtain⟨y,hy⟩:∃y,y=r3.cells:=⟨_,rfl⟩
     have FH:y.length=16:=by rw[hy];rfl
     have HY:=O hy
     rw[<-hy]at ll ⊢
     have Eg:=tD y #[.bool false,.string ⟨#[]⟩,.int .i64 0,.bool false,.string ⟨#[]⟩,.string ⟨#[]⟩,.int .i64 0,.string ⟨#[]⟩,.string ⟨#[]⟩,.string ⟨#[]⟩,.bool false,.string ⟨#[]⟩,.bool false,.slice none 0 0,.int .i64 0,.slice none 0 0] (by rw[FH];rfl)
     have cz:w3.ownsRow base 49 16 (.slice av fs.length cv) fs.length (rs.map ai.cells).flatten:=by
       have h:=(HO.out.fr dV (fun _ _ h=>h)).2
       rw[hkl.out]at h
       exact h
     have jQ:base<=w3.heap.size:=by have:=dV.size;omega
     clear hy dv)
   |((with_reducible refine jM ⟨some 22,_,_,_,_,_⟩ ?_)
     refine step_append_lies _ (by rfl) _ _ _ (by rfl) base 49 i0 _ 16 216 Tryz.underlying42 qD oZ iy gU rfl (by omega) (.slice av fs.length cv) fs.length _ (by rfl) (by repeat(first|exact cz|apply World.ownsRow.alloc|apply World.ownsRow.drew)) ⟨w3.heap.size,0,none⟩ 1 1 y (by rfl) (by rw[FH]) (jo w3 y _) ll (by omega) (by unfold maxLen;omega) (by omega) (by simp;omega) (w3.heap.size+1) (by simp) ?_
     intro gg cap w4 cZ gQ bC UF
     have agE:Fr (own (.slice av fs.length cv)) w2 w3:=dV.mono (fun _ _ h=>absurd h (fun h=>h))
     have fu:Fr (own (.slice av fs.length cv)) w2 w4:=Fr.grown (by repeat(first|exact agE|apply Fr.drew|apply Fr.alloc)) gQ (fun _ hk _=>hk)
     have B':Fr (own (.slice av fs.length cv)) w3 w4:=Fr.grown (by repeat(first|exact Fr.refl _ _|apply Fr.drew|apply Fr.alloc)) gQ (fun _ hk _=>hk)
     have hk:=yv.out w4 fu
     have k4:=hk.1
     have e4:w4.frozen? ⟨b,0,none⟩=false:=(fu.frozen (p:=⟨b,0,none⟩) h2.lt wJ).trans e0))
 all_goals
  rw[HY.out]at cZ ll;obtain⟨h5,hF5,Lp⟩:=AH h2 HO.out mj.out dV oT ll B' cZ (bC.imp (fun h=>h) (fun h=>by have:=dV.size;omega));have d5:=h5.c0;have e5:=h5.free 0;clear cF yv cZ gQ fu B' cz agE k4 e4 hk k3 x0 x1 x2 x3 x4 x5 x6 x7 x8 x9 UC UD ZT x13 x14 x15 d0 e0 Eg oT ll;generalize w4.setCell ⟨b,0,none⟩ (.slice (some ⟨gg,0,none⟩) (fs.length+1) cap)=w5 at *
  have u0:(fs++[m]).length=fs.length+1:=by simp
  have M4:=O u0;have sD:Fr (aY b gv wv) w w5:=fe.step hF5 (fun k hk hb=>by
   rcases El k hb with h|h
   ·exact h
   ·omega)
  have zC:∀k,aY b (.slice (some ⟨gg,0,none⟩) (fs.length+1) cap) wv2 k->aY b gv wv k\/w.heap.size<=k:=fun k hk=>by
   rcases Lp k hk with h|h
   ·rcases El k h with h|h
    ·exact Or.inl h
    ·exact Or.inr (by omega)
   ·exact Or.inr (by have:=fe.size;omega)
  by_cases h8:8<=fs.length
  ·have Xa:(8:Int)<(fs.length:Int)+1:=by omega
   obtain⟨n,hn⟩:∃n:Nat,fs.length+1=n+8:=⟨fs.length+1-8,by omega⟩;rw[<-u0]at h5;obtain⟨ZV,FM,zD⟩:=h5.aH;have GJ:=O (show(ZV.map ai.cells).length=fs.length+1 by rw[List.length_map,zD.len,u0]);have ld:=O (AG base gg cap 0 n (ZV.map ai.cells) w5 (by rw[GJ.out, <-u0];exact FM) (by omega) (by rw[GJ.out];omega));have hn':=O hn;rw[GJ.out]at ld;clear hn u0;go_wp2_with fail
   rw[show((fs.length:Int)+1-8)=(n:Int)from by have:=hn'.out;omega];refine ld.out.mono ?_;rintro e w6⟨rfl,tI,jz⟩;obtain⟨h7,M5,d7,e7⟩:=Ek (n:=n) h5 zD (by rw[M4.out];exact tI) jz;rw[M4.out,Nat.zero_add]at h7 M5;rw[M4.out]at d7;have H7:=O h7;have zv:=O M5;clear h7 M5 ld tI zD FM;go_wp2_with fail
   go_end0;refine⟨rfl,_,_,by rw[yj.out,show fs.length+1-8=n from by have:=hn'.out;omega];exact H7.out,sD.step zv.out (fun k hk hb=>by
    rcases zC k hb with h|h
    ·exact h
    ·omega),fun k hk=>zC k ?_⟩
   rcases hk with h|h|h
   ·exact Or.inl h
   ·exact Or.inr (Or.inl h)
   ·exact Or.inr (Or.inr h)
  ·have Xa:¬(8:Int)<(fs.length:Int)+1:=by omega
   go_wp2_with fail
   go_end0;exact⟨rfl,_,_,by rw[yj.out,show fs.length+1-8=0 from by omega,List.drop_zero];exact h5,sD,zC⟩
end Go.Proofs.YtjdmjbdkdmbaiaaGreatDoor
