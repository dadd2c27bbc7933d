/- UnbP, Waits, ClonePa, Book4, WorldLaw2, BankGet, CloneCe, WGet, WCopy, TwoW, EqPa, WLogged, LiftWorldLogged. -/
import Derived.Test.YtjdmjbdkdmbaiaaGreatDoorPk47
import Derived.Deep.Onto
import Derived.Test.YtjdmjbdkdmbaiaaGreatDoorTie
import Derived.Test.YtjdmjbdkdmbaiaaGreatDoorCards
import Derived.LaidMore
import Derived.Lay
set_option maxRecDepth 100000
set_option maxHeartbeats 16000000
set_option linter.unusedSimpArgs false
namespace Go.Proofs.YtjdmjbdkdmbaiaaGreatDoor
open Go.RowKit
def ag5(c:UInt8):Option Nat:=if 65<=c/\c<=90 then some (c.toNat-65)else if 97<=c/\c<=122 then some (c.toNat-71)else if 48<=c/\c<=57 then some (c.toNat+4)else if c=43 then some 62 else if c=47 then some 63 else none
def aac(l:List UInt8):Nat->Nat
 |0=>0
 |j+1=>aac l j*64+(match l[j]? with|some c=>(ag5 c).getD 0|none=>0)
def aeQ(base:Nat)(w:World)(gs:List (aG aF))(v:Value)(w':World):Prop:=fq base w' v gs/\∀k,v.ownBlock=some k->w.heap.size<=k
def aeH(base:Nat)(w:World)(gs:List (aG aF))(e:Ending)(w':World):Prop :=
 ∃v,e=.returned v/\aeQ base w gs v w'/\Fr ay w w'
def agw(base:Nat)(w:World)(gs:List (aG aF))(v i:Value)(wr:World):Prop :=
 ∃(k:Nat) (rs:List (aG Value)),k<=gs.length/\i=.int .i64 k/\OwnRows w.heap.size 144 13 wr v (rs.map aG.cells)/\fF (aG.Reads (aS base wr)) rs (gs.take k)/\Fr ay w wr
theorem aeI(base:Nat)(w:World)(b:Nat)(gv wv:Value)(gs:List (ai aF))(ws:List (aG aF))(h:ba base w b gv wv gs ws)(M1:ws.length<68719476736) :
  Calls Tryz.prog 150 #[.pointer (some ⟨b,0,none⟩)] w (aeH base w ws):=by
 have h0:=h.c1;obtain⟨av,cv,hv⟩:=h.waits.form;subst hv;have pD:=h.lt;have eI:base<=w.heap.size:=by have:=h.low;omega
 go_enter Tryz.func150,Tryz.ntmps150;go_wp2;clear h0;go_loopw[3,11] (agw base w ws) (fun _ i _=>ws.length-(intOf i).toNat)
 case atStart=>exact⟨0,[],Nat.zero_le _,rfl,OwnRows.nil _ _ _ _,.nil,Fr.refl _ _⟩
 case round =>
  obtain⟨k,rs,hk,rfl,a_,Ef,aW⟩:=hrel;by_cases cG:k<ws.length
  ·obtain⟨bk,c,bt,nv,r,bG,hr,hcell⟩:=(h.bd aW).waits.at cG;cases bt;unfold maxLen at nv;obtain⟨ad,cd,Aw⟩:=hr.2.2.2.2.2.2.2.2.2.2.rd.form;obtain⟨x,hx⟩:∃x,x=r.cells:=⟨_,rfl⟩;have gD:x.length=13:=by rw[hx];rfl
   have fR:=fun W=>run_storeCells_new (P:=Tryz.prog) W 144 rB x (by rw[gD];rfl) (by rw[hx];exact bG);rw[<-hx]at hcell;have HX:=O hx;have JF:=O (Cb gD);have aeT:x[12]?=some (.slice ad ws[k].a.dom.length cd):=by rw[hx, <-Aw];rfl
   clear hx;obtain⟨av,cv,ZH⟩:=a_.form;subst ZH;rw[List.length_map,Ef.len,List.length_take,Nat.min_eq_left hk]at a_ ⊢;have dF:Fr ay wr (wr.alloc (.cells x.toArray 144)):=(Fr.refl ay wr).alloc _;have hb0:(wr.alloc (.cells x.toArray 144)).heap[wr.heap.size]?=some (.cells x.toArray 144 (0,0)):=af _ _
   have c12:(wr.alloc (.cells x.toArray 144)).cell? ⟨wr.heap.size,12,none⟩=some (.slice ad ws[k].a.dom.length cd):=by simp only[World.cell?,hb0];simpa using aeT
   have kR:=hr.mono (fun _ _ h=>h.bd dF);have AP:=kR.2.2.2.2.2.2.2.2.2.2;rw[Aw]at AP;have CL:=O (ou base _ _ _ AP);go_wp2_with (first|((with_reducible refine ag ⟨some 14,_,_,_,_,_⟩ ?_);go_must(refine wpList_load_mid rfl 144 (.tmp 13) rfl bk (k*13) rfl x _ hcell Tryz.underlying144 rfl JF.out ?_))|fail)
   have nj:=O (aW.trans dF);have bV:=a_.alloc (.cells x.toArray 144);have OE:=Ef.mono (fun _ _ h=>h.mono (fun _ _ h=>h.bd dF));have eQ:w.heap.size<=wr.heap.size:=aW.size;have ag9:=a_.lt;clear fR hcell hr a_ Ef aW AP dF;generalize wr.alloc (.cells x.toArray 144)=W2 at *
   refine CL.out.mono ?_;rintro e u1⟨a2,c2,rfl,zo,bt⟩;have o9:=bt.keep hb0 (fun h=>h);have oT:=kR.mono (fun _ _ h=>h.bd bt);have cz:=bV.fr bt (fun _ _ h=>h);have OG:=OE.mono (fun _ _ h=>h.mono (fun _ _ h=>h.bd bt));have hF1:=nj.out.trans bt;have aoh:u1.cell? ⟨wr.heap.size,12,none⟩=some (.slice ad ws[k].a.dom.length cd):=by simp only[World.cell?,o9];simpa using aeT
   have f12:u1.frozen? ⟨wr.heap.size,12,none⟩=false:=by simp[World.frozen?,o9]
   have fC:=aP o9 12 (.slice a2 ws[k].a.dom.length c2);have hye:x.toArray.setIfInBounds 12 (.slice a2 ws[k].a.dom.length c2)=(r.oz (.slice a2 ws[k].a.dom.length c2)).cells.toArray:=by rw[HX.out];rfl
   rw[hye]at fC;have lZ:lT base u1 (one wr.heap.size):=by
    rintro j rfl hj;exact⟨by omega,fun c f e=>by rw[o9]at e;cases e⟩
   have fM:Fr (one wr.heap.size) u1 (u1.setCell ⟨wr.heap.size,12,none⟩ (.slice a2 ws[k].a.dom.length c2)):=(Fr.refl (one wr.heap.size) u1).setCell (p:=⟨wr.heap.size,12,none⟩) (fun _=>rfl) _;have wJ:∀j,(Value.slice av k cv).ownBlock=some j->¬one wr.heap.size j:=by
    rintro j hj rfl;have:=ag9 _ hj;omega
   have dk:=hF1.dI (p:=⟨wr.heap.size,12,none⟩) eQ (.slice a2 ws[k].a.dom.length c2);have qX:(r.oz (.slice a2 ws[k].a.dom.length c2)).Reads (aS base (u1.setCell ⟨wr.heap.size,12,none⟩ (.slice a2 ws[k].a.dom.length c2))) ws[k] :=
    ⟨oT.1,oT.2.1,oT.2.2.1,oT.2.2.2.1,oT.2.2.2.2.1,oT.2.2.2.2.2.1,oT.2.2.2.2.2.2.1,oT.2.2.2.2.2.2.2.1,oT.2.2.2.2.2.2.2.2.1,oT.2.2.2.2.2.2.2.2.2.1,zo.fr fM lZ⟩
   have cZ:=cz.fr fM wJ;have abp:=OG.mono (fun _ _ h=>h.mono (fun _ _ h=>h.fr fM lZ));have JL:∀u∈(r.oz (.slice a2 ws[k].a.dom.length c2)).cells,u.oneCell'=true:=by
    intro u hu;simp only[aG.cells,aG.oz,List.mem_cons,List.not_mem_nil,or_false]at hu;rcases hu with rfl|rfl|rfl|rfl|rfl|rfl|rfl|rfl|rfl|rfl|rfl|rfl|rfl<;>rfl
   obtain⟨y,hy⟩:∃y,y=(r.oz (.slice a2 ws[k].a.dom.length c2)).cells:=⟨_,rfl⟩;have FH:y.length=13:=by rw[hy];rfl
   rw[<-hy]at JL fC;have HY:=O hy;have mj:=O fC;have HYI:=O (Cb FH);have ZI:=O cZ;have Eg:=tD y rB (by rw[FH];rfl);have hbw:w.heap.size<=(u1.setCell ⟨wr.heap.size,12,none⟩ (.slice a2 ws[k].a.dom.length c2)).heap.size:=dk.size;have HSZ:=O (show(u1.setCell ⟨wr.heap.size,12,none⟩ (.slice a2 ws[k].a.dom.length c2)).heap.size=u1.heap.size by simp[World.setCell])
   have alD:w.heap.size<=u1.heap.size:=hF1.size;have qW:=abp.len;rw[List.length_take,Nat.min_eq_left hk]at qW;have tS:(rs.map aG.cells).length<68719476736:=by rw[List.length_map,qW];omega
   have HR4:=O qX;have agx:=O abp;have ahg:=O dk;clear qW oT kR bV cz OE OG hb0 o9 lZ fM wJ zo hye hy aeT c12 CL cZ abp qX dk hF1 bt fC nj Aw
   go_wp2_with (first|((with_reducible refine ag ⟨some 22,_,_,_,_,_⟩ ?_);go_must(refine wpList_load_row rfl 144 (.tmp 5) rfl wr.heap.size rfl _ y.toArray (0,0) _ mj.out Tryz.underlying144 rfl (by rw[List.size_toArray];exact HYI.out) ?_))|(at_builtin;go_must(refine lR rfl _ _ 137 144 rfl 13 168 (.agg rB) Tryz.underlying137 Ls rfl (by decide) (by decide) w.heap.size (.slice av k cv) (rs.map aG.cells) rfl (ZI.out.alloc _) u1.heap.size 1 y rfl FH JL (fun i u hi=>by rw[<-HSZ.out,World.cell?_alloc_mark];simpa using hi) tS (by simp;omega) ?_);intro v' w4 cZ Ag))
   have M3:=Fr.TU _ Ag;have kb:=ZI.out.off (base:=base) eI (by decide);rw[HY.out]at cZ;refine⟨⟨k+1,rs++[r.oz (.slice a2 ws[k].a.dom.length c2)],by omega,by go_num,by rw[List.map_append];exact cZ,?_,ahg.out.step M3 (fun j hj hS=>by have h2:=ZI.out.block j hS;omega)⟩,by simp[intOf];omega⟩;rw[bz (List.getElem?_eq_getElem cG)]
   exact(agx.out.mono (fun _ _ h=>h.mono (fun _ _ h=>h.fr M3 kb))).app (.cons (HR4.out.mono (fun _ _ h=>h.fr M3 kb)) .nil)
  ·rw[List.take_of_length_le (by omega)]at Ef;obtain⟨av,cv,ZH⟩:=a_.form;subst ZH;go_wp2;go_ret;exact⟨_,rfl,⟨⟨rs,a_.up eI,Ef⟩,a_.block⟩,aW⟩
def abo(base:Nat)(w:World)(gs:List (ai aF))(ws:List (aG aF))(e:Ending)(w':World):Prop :=
 ∃b gv wv,e=.returned (.pointer (some ⟨b,0,none⟩))/\ba base w' b gv wv gs ws/\Fr ay w w'/\∀k,aY b gv wv k->w.heap.size<=k
theorem aeR(base:Nat)(w:World)(b:Nat)(gv wv:Value)(gs:List (ai aF))(ws:List (aG aF))(h:ba base w b gv wv gs ws)(M1:gs.length<68719476736)(zW:ws.length<68719476736) :
  Calls Tryz.prog 77 #[.pointer (some ⟨b,0,none⟩)] w (abo base w gs ws):=by
 have pD:=h.lt;have kM:=h.low;go_enter Tryz.func77,Tryz.ntmps77;go_wp2_with fail
 refine(GF base w b gv wv gs ws h M1).mono ?_;intro e u1 hp;obtain⟨v1,rfl,⟨Ko,UA⟩,bt⟩:=hp;go_wp2_with fail
 refine(aeI base u1 b gv wv gs ws (h.bd bt) zW).mono ?_;intro e u2 hp;obtain⟨v2,rfl,⟨wG,Jp⟩,bq⟩:=hp;obtain⟨a1,c1,FG⟩:=Ko.form;obtain⟨a2,c2,hv2⟩:=wG.form;subst FG hv2;have zo:=bt.size;have Kp:=bq.size;have dF:Fr ay u2 (u2.alloc (.cells #[.slice a1 gs.length c1,.slice a2 ws.length c2] 139)):=(Fr.refl ay u2).alloc _
 have HB:=O (show ba base (u2.alloc (.cells #[.slice a1 gs.length c1,.slice a2 ws.length c2] 139)) u2.heap.size (.slice a1 gs.length c1) (.slice a2 ws.length c2) gs ws from
  ⟨by omega,af _ _,(Ko.fr bq (lT.none _ _) (fun _ _ h=>h)).fr dF (lT.none _ _) (fun _ _ h=>h),wG.fr dF (lT.none _ _) (fun _ _ h=>h)⟩)
 have HF:=O ((bt.trans bq).trans dF);have HN:=O (show∀k,aY u2.heap.size (.slice a1 gs.length c1) (.slice a2 ws.length c2) k->w.heap.size<=k from fun k hk=>by
  rcases hk with rfl|hk|hk
  ·omega
  ·exact UA k hk
  ·have:=Jp k hk;omega)
 clear Ko wG UA Jp dF h;go_wp2;go_ret;exact⟨_,_,_,rfl,HB.out,HF.out,HN.out⟩
theorem afh:(Tryz.prog.info? 65).map (fun i=>(i.zero,i.size,i.bytes))=some (some (.agg #[.bool false,.string ⟨#[]⟩,.int .i64 0,.bool false,.string ⟨#[]⟩,.int .i64 0,.string ⟨#[]⟩,.string ⟨#[]⟩,.bool false,.string ⟨#[]⟩,.string ⟨#[]⟩,.int .i64 0]),12,144):=by kernel_rfl
theorem afi(v:Value)(xs:List (List Value))(w:World)(h:aN 12 w v xs)(hl:xs.length<=1000000000) :
  Calls Tryz.prog 144 #[v] w fun e w'=>∃v',e=.returned v'/\OwnRows w.heap.size 65 12 w' v' xs/\Fr ay w w':=by
 obtain⟨a,c,hv⟩:=h.form;subst hv;have q22:∀(w:World) (a:Option Addr) (n c n' c':Nat),(binOp .eql 60 (.slice a n c) (.slice none n' c')).run Tryz.prog w=.ok (.bool a.isNone) w:=fun w a n c n' c'=>Lib.run_eql_slice_nil w _ _ a n c n' c' Tryz.underlying60;cases a with
 |none =>
  obtain⟨rfl,rfl⟩:xs=[]/\c=0:=by
   rcases h.2 with ⟨a',c',hv,hs,hc⟩|⟨bk,o',c',hf,_⟩
   ·injection hv with e1 e2 e3
    exact⟨hs,e3.trans (hc e1.symm)⟩
   ·injection hf with e1;cases e1
  go_enter Tryz.func144,Tryz.ntmps144;go_wp2;go_ret;exact⟨_,rfl,OwnRows.nil _ _ _ _,Fr.refl _ _⟩
 |some ad =>
  have HX:=h.1;have HC:=O (show∀j u,xs.flatten[j]?=some u->w.cell? (ad.add j)=some u from fun j u hj=>by
   rcases h.2 with ⟨_,_,_,e,_⟩|⟨bk,o',c',hf,g1,g2,g3,g4⟩
   ·subst e;simp at hj
   ·cases hf;have yr:xs.flatten.length=xs.length*12:=eU (fun x hx=>(HX x hx).1);have hjl:=(List.getElem?_eq_some_iff.1 hj).1;have hd:j/12<xs.length:=by omega
    have hm:j%12<12:=by omega
    have hx:(xs[j/12]).length=12:=(HX _ (List.getElem_mem hd)).1;have e1:=xB (k:=12) (xs:=xs) (fun x hx=>(HX x hx).1) (j:=j/12) (List.getElem?_eq_getElem hd) (i:=j%12) (List.getElem?_eq_getElem (by rw[hx];exact hm));rw[Nat.div_add_mod']at e1;rw[e1]at hj;cases hj;have:=g4 (j/12) _ (List.getElem?_eq_getElem hd) (j%12) _ (List.getElem?_eq_getElem (by rw[hx];exact hm))
    have ea:(Addr.add ⟨bk,o',none⟩ j)=⟨bk,o'+j,none⟩:=by unfold Addr.add;split<;>simp_all
    rw[ea, <-this]
    congr 2
    omega)
  have HF:=O (show xs.flatten.length=xs.length*12 from eU (fun x hx=>(HX x hx).1));have HXX:=O HX;obtain⟨i0,hi,oZ,iy,gU⟩:=info_parts afh;clear HX h;go_enter Tryz.func144,Tryz.ntmps144
  go_wp2_with (at_builtin;refine wpList_append_own _ rfl _ _ 60 rfl w.heap.size 65 i0 (.agg #[.bool false,.string ⟨#[]⟩,.int .i64 0,.bool false,.string ⟨#[]⟩,.int .i64 0,.string ⟨#[]⟩,.string ⟨#[]⟩,.bool false,.string ⟨#[]⟩,.string ⟨#[]⟩,.int .i64 0]) 12 144 Tryz.underlying60 hi oZ iy gU rfl (by decide) _ _ _ rfl (World.ownsRow_made w #[] 0 (Nat.le_refl _) (Nat.zero_le _) rfl) ad xs.length c xs.flatten rfl HF.out ?qc2 ?qc3 ?qc4 ?qc5 ?qc6 ?_)
  case qc2 =>
   intro j u hj;exact Lib.cell?_alloc_some _ (HC.out j u hj)
  case qc3 =>
   intro u hu;obtain⟨x,hx,FR⟩:=List.mem_flatten.1 hu;exact(HXX.out x hx).2 u FR
  case qc4=>unfold maxLen;omega
  case qc5=>omega
  case qc6=>simp
  intro v' w1 a_ gQ Ku;go_wp2;go_ret;refine⟨v',rfl,⟨HXX.out,by simpa using a_⟩,Fr.gW (((Below.refl _ w).alloc (Nat.le_refl _) _).grown gQ (by simp) (by intro k hk;simp[Value.ownBlock]at hk;omega))⟩
theorem aay(base:Nat)(w:World)(b:Nat)(v:Value)(ps:List bI)(h:cy base w b v ps)(hlen:ps.length<1000000) :
  Calls Tryz.prog 74 #[.pointer (some ⟨b,0,none⟩)] w fun e w'=>∃v',e=.returned v'/\OwnRows w.heap.size 65 12 w' v' (ps.map bI.cells)/\Fr ay w w':=by
 obtain⟨av,cv,hv⟩:=h.form;subst hv;have c0:=h.c0;have hc:=O (afi _ _ w h.rows.at (by rw[List.length_map];omega));clear h;go_enter Tryz.func74,Tryz.ntmps74;go_wp2_with fail
 refine hc.out.mono ?_;rintro e u⟨v',rfl,ho,hf⟩;obtain⟨a',c',nu⟩:=ho.form;subst nu;rw[List.length_map]at ho;have HO:=O ho;clear ho;go_wp2;go_ret;exact⟨_,rfl,HO.out,hf⟩
theorem aew{w:bW}{o:ib}(h8:o.what=8)(h:(cV w o).2.what=1):(∀x∈((cV w o).1.part o.part.toNat).aH,x.o.eN o.o=false)/\((cV w o).1.part o.part.toNat).dh=(w.part o.part.toNat).dh/\((cV w o).1.part o.part.toNat).book=(w.part o.part.toNat).book:=by
 obtain⟨_,e⟩:=Pd (Or.inl h8) h;rw[e,bW.qj];unfold kN;rw[if_neg (by simp[h8]),if_neg (by simp[h8])];exact⟨oD,rfl,rfl⟩
theorem abm(base:Nat)(w:World)(b:Nat)(v:Value)(ps:List bI)(h:cy base w b v ps)(hlen:ps.length<1000000) :
  Calls Tryz.prog 78 #[.pointer (some ⟨b,0,none⟩)] w fun e w'=>∃b' v',e=.returned (.pointer (some ⟨b',0,none⟩))/\cy w.heap.size w' b' v' ps/\Fr ay w w':=by
 have HL:=O (aay base w b v ps h hlen);clear h;go_enter Tryz.func78,Tryz.ntmps78;go_wp2_with fail
 refine HL.out.mono ?_;rintro e u⟨v',rfl,ho,hf⟩;have dF:Fr ay u (u.alloc (.cells #[v'] 141)):=(Fr.refl ay u).alloc _;have HR:=O (show cy w.heap.size (u.alloc (.cells #[v'] 141)) u.heap.size v' ps from⟨hf.size,af _ _,ho.fr dF (fun _ _ h=>h)⟩);have HF:=O (hf.trans dF);obtain⟨a',c',nu⟩:=ho.form;rw[List.length_map]at nu;subst nu;clear ho HL hf dF;go_wp2;go_ret;exact⟨_,_,rfl,HR.out,HF.out⟩
theorem afj:(Tryz.prog.info? 109).map (fun i=>(i.zero,i.size,i.bytes))=some (some (.agg #[.bool false,.string ⟨#[]⟩,.int .i64 0,.int .i64 0]),4,40):=by kernel_rfl
theorem aet(v:Value)(xs:List (List Value))(w:World)(h:aN 4 w v xs)(hl:xs.length<=1000000000) :
  Calls Tryz.prog 79 #[v] w fun e w'=>∃v',e=.returned v'/\OwnRows w.heap.size 109 4 w' v' xs/\Fr ay w w':=by
 obtain⟨a,c,hv⟩:=h.form;subst hv;have q22:∀(w:World) (a:Option Addr) (n c n' c':Nat),(binOp .eql 69 (.slice a n c) (.slice none n' c')).run Tryz.prog w=.ok (.bool a.isNone) w:=fun w a n c n' c'=>Lib.run_eql_slice_nil w _ _ a n c n' c' Tryz.underlying69;cases a with
 |none =>
  obtain⟨rfl,rfl⟩:xs=[]/\c=0:=by
   rcases h.2 with ⟨a',c',hv,hs,hc⟩|⟨bk,o',c',hf,_⟩
   ·injection hv with e1 e2 e3
    exact⟨hs,e3.trans (hc e1.symm)⟩
   ·injection hf with e1;cases e1
  go_enter Tryz.func79,Tryz.ntmps79;go_wp2;go_ret;exact⟨_,rfl,OwnRows.nil _ _ _ _,Fr.refl _ _⟩
 |some ad =>
  have HX:=h.1;have HC:=O (show∀j u,xs.flatten[j]?=some u->w.cell? (ad.add j)=some u from fun j u hj=>by
   rcases h.2 with ⟨_,_,_,e,_⟩|⟨bk,o',c',hf,g1,g2,g3,g4⟩
   ·subst e;simp at hj
   ·cases hf;have yr:xs.flatten.length=xs.length*4:=eU (fun x hx=>(HX x hx).1);have hjl:=(List.getElem?_eq_some_iff.1 hj).1;have hd:j/4<xs.length:=by omega
    have hm:j%4<4:=by omega
    have hx:(xs[j/4]).length=4:=(HX _ (List.getElem_mem hd)).1;have e1:=xB (k:=4) (xs:=xs) (fun x hx=>(HX x hx).1) (j:=j/4) (List.getElem?_eq_getElem hd) (i:=j%4) (List.getElem?_eq_getElem (by rw[hx];exact hm));rw[Nat.div_add_mod']at e1;rw[e1]at hj;cases hj;have:=g4 (j/4) _ (List.getElem?_eq_getElem hd) (j%4) _ (List.getElem?_eq_getElem (by rw[hx];exact hm))
    have ea:(Addr.add ⟨bk,o',none⟩ j)=⟨bk,o'+j,none⟩:=by unfold Addr.add;split<;>simp_all
    rw[ea, <-this]
    congr 2
    omega)
  have HF:=O (show xs.flatten.length=xs.length*4 from eU (fun x hx=>(HX x hx).1));have HXX:=O HX;obtain⟨i0,hi,oZ,iy,gU⟩:=info_parts afj;clear HX h;go_enter Tryz.func79,Tryz.ntmps79
  go_wp2_with (at_builtin;refine wpList_append_own _ rfl _ _ 69 rfl w.heap.size 109 i0 (.agg #[.bool false,.string ⟨#[]⟩,.int .i64 0,.int .i64 0]) 4 40 Tryz.underlying69 hi oZ iy gU rfl (by decide) _ _ _ rfl (World.ownsRow_made w #[] 0 (Nat.le_refl _) (Nat.zero_le _) rfl) ad xs.length c xs.flatten rfl HF.out ?qc2 ?qc3 ?qc4 ?qc5 ?qc6 ?_)
  case qc2 =>
   intro j u hj;exact Lib.cell?_alloc_some _ (HC.out j u hj)
  case qc3 =>
   intro u hu;obtain⟨x,hx,FR⟩:=List.mem_flatten.1 hu;exact(HXX.out x hx).2 u FR
  case qc4=>unfold maxLen;omega
  case qc5=>omega
  case qc6=>simp
  intro v' w1 a_ gQ Ku;go_wp2;go_ret;refine⟨v',rfl,⟨HXX.out,by simpa using a_⟩,Fr.gW (((Below.refl _ w).alloc (Nat.le_refl _) _).grown gQ (by simp) (by intro k hk;simp[Value.ownBlock]at hk;omega))⟩
theorem aaB(base:Nat)(w:World)(B:Nat)(pv:Nat->bB)(x:bW)(h:aR base w B pv x)(i:Nat)(hi:i<4)(hl:(x.part i).book.length<1000000) :
  Calls Tryz.prog 27 #[.pointer (some ⟨B,0,none⟩),.int .i64 i] w (fun e w'=>∃v',e=.returned v'/\OwnRows w.heap.size 65 12 w' v' ((x.part i).book.map bI.cells)/\Fr ay w w'):=by
 have c:=(h.partAt hi).dM;have HR:=O (aay base w (pv i).k (pv i).kv (x.part i).book (h.part i hi).book hl);have Nr:(i:Int)<4:=by omega
 have qD:¬(i:Int)<0:=by omega
 have Oh:¬(4:Int)<=(i:Int):=by omega
 have Lb:(0:Int)<=(i:Int):=by omega
 clear h hl;go_enter Tryz.func27,Tryz.ntmps27;go_wp2_with fail
 refine HR.out.mono ?_;rintro e u⟨v',rfl,hg⟩;go_wp2;go_ret;exact⟨v',rfl,hg⟩
theorem aaG(base:Nat)(w:World)(B:Nat)(pv:Nat->bB)(x:bW)(h:aR base w B pv x)(i:Nat)(hi:i<4)(hl:(x.part i).dh.length<=1000000) :
  Calls Tryz.prog 32 #[.pointer (some ⟨B,0,none⟩),.int .i64 i] w (fun e w'=>∃v',e=.returned v'/\OwnRows w.heap.size 109 4 w' v' ((x.part i).dh.map ic)/\Fr ay w w'):=by
 have c:=(h.partAt hi).ir;have HR:=O (aet (pv i).cv ((x.part i).dh.map ic) w (h.part i hi).dh.at (by rw[List.length_map];omega));have Nr:(i:Int)<4:=by omega
 have qD:¬(i:Int)<0:=by omega
 have Oh:¬(4:Int)<=(i:Int):=by omega
 have Lb:(0:Int)<=(i:Int):=by omega
 obtain⟨a,k,hcv⟩:=(h.part i hi).dh.form;rw[List.length_map]at hcv;rw[hcv]at c HR;clear h hl;go_enter Tryz.func32,Tryz.ntmps32;go_wp2_with fail
 refine HR.out.mono ?_;rintro e u⟨v',rfl,hg⟩;go_wp2;go_ret;exact⟨v',rfl,hg⟩
theorem OwnRows.mono{b b' k:Nat}{e:TypeId}{w:World}{v:Value}{xs:List (List Value)}(h:OwnRows b e k w v xs)(hb:b'<=b):OwnRows b' e k w v xs:=⟨h.1,World.ownsRow.mono h.2 hb⟩
theorem cy.mono{b b' n:Nat}{w:World}{v:Value}{ps:List bI}(h:cy b w n v ps)(hb:b'<=b):cy b' w n v ps:=⟨Nat.le_trans hb h.low,h.cR,OwnRows.mono h.rows hb⟩
def cpP(aac:Nat->bB)(k i:Nat):List Value:=if i<k then(aac i).cells else [.pointer none,.pointer none,.slice none 0 0]
def cpC(aac:Nat->bB)(now:Int)(k:Nat):List Value:=cpP aac k 0++(cpP aac k 1++(cpP aac k 2++(cpP aac k 3++[.int .i64 now])))
theorem aeS(aac:Nat->bB)(now:Int){k:Nat}(hk:k<4)(v:bB):lG (cpC aac now k) (k*3) v=cpC (EJ aac k v) now (k+1):=by
 unfold lG cpC cpP EJ bB.cells
 match k,hk with
 |0,_=>rfl
 |1,_=>rfl
 |2,_=>rfl
 |3,_=>rfl
theorem afk(aac:Nat->bB)(now:Int){k:Nat}(hk:k<4):(cpC aac now k)[k*3]?=some (.pointer none)/\(cpC aac now k)[k*3+1]?=some (.pointer none)/\(cpC aac now k)[k*3+2]?=some (.slice none 0 0):=by
 unfold cpC cpP
 match k,hk with
 |0,_=>exact⟨rfl,rfl,rfl⟩
 |1,_=>exact⟨rfl,rfl,rfl⟩
 |2,_=>exact⟨rfl,rfl,rfl⟩
 |3,_=>exact⟨rfl,rfl,rfl⟩
structure aaA (base:Nat) (w:World) (x:bW) (k:Nat) (aac:Nat->bB) (W:World):Prop where
 fr:Fr ay w W
 cR:W.heap[w.heap.size]?=some (.cells (cpC aac x.now k).toArray 105 (0,0))
 part:∀i,i<k->cC base W (aac i) (x.part i)
 new:∀i,i<k->∀j,(aac i).gL j->w.heap.size<j
 apart:∀i j,i<k->j<k->i≠j->∀n,(aac i).gL n->¬(aac j).gL n
theorem aaA.step{base:Nat}{w W U:World}{x:bW}{k:Nat}{aac:Nat->bB}(h:aaA base w x k aac W)(hb:base<=w.heap.size)(hk:k<4)(hU:Fr ay W U){v:bB}(hp:cC base U v (x.part k))(hn:∀j,v.gL j->W.heap.size<=j) :
  aaA base w x (k+1) (EJ aac k v) (((U.setCell ⟨w.heap.size,k*3,none⟩ (.pointer (some ⟨v.b,0,none⟩))).setCell ⟨w.heap.size,k*3+1,none⟩ (.pointer (some ⟨v.k,0,none⟩))).setCell ⟨w.heap.size,k*3+2,none⟩ v.cv):=by
 have hN:w.heap.size<W.heap.size:=aj h.cR;have o7:=hU.keep h.cR (fun h=>h);have M3:Fr (one w.heap.size) U (((U.setCell ⟨w.heap.size,k*3,none⟩ (.pointer (some ⟨v.b,0,none⟩))).setCell ⟨w.heap.size,k*3+1,none⟩ (.pointer (some ⟨v.k,0,none⟩))).setCell ⟨w.heap.size,k*3+2,none⟩ v.cv) :=
  (((Fr.refl (one w.heap.size) U).setCell (p:=⟨w.heap.size,k*3,none⟩) (fun _=>rfl) _).setCell (p:=⟨w.heap.size,k*3+1,none⟩) (fun _=>rfl) _).setCell (p:=⟨w.heap.size,k*3+2,none⟩) (fun _=>rfl) _
 have kb:lT base U (one w.heap.size):=by
  rintro j rfl _;exact⟨hb,fun c f e=>by rw[o7]at e;cases e⟩
 have e1:=aP o7 (k*3) (.pointer (some ⟨v.b,0,none⟩));have e2:=aP e1 (k*3+1) (.pointer (some ⟨v.k,0,none⟩));have e3:=aP e2 (k*3+2) v.cv;have vT:∀i,i<k->∀j,(aac i).gL j->j<W.heap.size:=fun i hi j hj=>(h.part i hi).fO hj
 refine⟨(((h.fr.trans hU).dI (p:=⟨w.heap.size,k*3,none⟩) (Nat.le_refl _) _).dI (p:=⟨w.heap.size,k*3+1,none⟩) (Nat.le_refl _) _).dI (p:=⟨w.heap.size,k*3+2,none⟩) (Nat.le_refl _) _,?_,fun i hi=>?_,fun i hi j hj=>?_,fun i j hi hj hij n UA Jp=>?_⟩
 ·rw[e3, <-aeS aac x.now hk v];unfold lG;simp
 ·by_cases YS:i=k
  ·subst YS;rw[JU];exact hp.fr M3 kb (fun j hj e=>by have e':j=w.heap.size:=e;have:=hn j hj;omega)
  ·rw[uo aac v YS];have afm:i<k:=by omega
   exact((h.part i afm).bd hU).fr M3 kb (fun j hj e=>by have e':j=w.heap.size:=e;have:=h.new i afm j hj;omega)
 ·by_cases YS:i=k
  ·subst YS;rw[JU]at hj;have:=hn j hj;omega
  ·rw[uo aac v YS]at hj;exact h.new i (by omega) j hj
 ·by_cases YS:i=k
  ·subst YS;rw[JU]at UA;rw[uo aac v (Ne.symm hij)]at Jp;have a1:=hn n UA;have a2:=vT j (by omega) n Jp;omega
  ·rw[uo aac v YS]at UA;by_cases hjk:j=k
   ·subst hjk;rw[JU]at Jp;have a1:=hn n Jp;have a2:=vT i (by omega) n UA;omega
   ·rw[uo aac v hjk]at Jp;exact h.apart i j (by omega) (by omega) hij n UA Jp
theorem aaA.done{base:Nat}{w W:World}{x:bW}{aac:Nat->bB}(h:aaA base w x 4 aac W)(hb:base<=w.heap.size):aR base W w.heap.size aac x :=
 ⟨hb,h.cR,h.part,h.apart⟩
def agy(base:Nat)(w:World)(x:bW)(t:Value)(wr:World):Prop:=∃(k:Nat) (aac:Nat->bB),k<=4/\t=.int .i64 k/\aaA base w x k aac wr
def aeJ(base:Nat)(w:World)(x:bW)(e:Ending)(w':World):Prop :=
 ∃B aac,e=.returned (.pointer (some ⟨B,0,none⟩))/\aR base w' B aac x/\Fr ay w w'/\∀j,jV B aac j->w.heap.size<=j
theorem aeK(base:Nat)(w:World)(B:Nat)(pv:Nat->bB)(x:bW)(h:aR base w B pv x)(hs:∀i,i<4->(x.part i).aH.length<68719476736/\(x.part i).waits.length<68719476736/\(x.part i).book.length<1000000/\(x.part i).dh.length<=1000000) :
  Calls Tryz.prog 31 #[.pointer (some ⟨B,0,none⟩)] w (aeJ base w x):=by
 have hb:base<=w.heap.size:=Nat.le_trans h.low (Nat.le_of_lt h.lt);obtain⟨x1,sM⟩:∃x1,x1=w.alloc (.cells #[.pointer none,.pointer none,.slice none 0 0,.pointer none,.pointer none,.slice none 0 0,.pointer none,.pointer none,.slice none 0 0,.pointer none,.pointer none,.slice none 0 0,.int .i64 x.now] 105):=⟨_,rfl⟩;have bt:Fr ay w x1:=by rw[sM];exact(Fr.refl _ _).alloc _
 have h0:aaA base w x 0 pv x1:=⟨bt,by rw[sM];exact af _ _,fun i hi=>absurd hi (Nat.not_lt_zero i),fun i hi=>absurd hi (Nat.not_lt_zero i),fun i j hi=>absurd hi (Nat.not_lt_zero i)⟩;have H0:=O h0;have HW:=O h;have HB:=O hb;have HS:=O hs;have o7:=h.cR;have aar:=bt.keep h.cR (fun h=>h);unfold fo bB.cells at o7 aar;simp only[List.cons_append,List.nil_append]at o7 aar
 have aiN:w.cell? ⟨B,12,none⟩=some (.int .i64 x.now):=by simp only[World.cell?,o7];rfl
 have c0:x1.cell? ⟨B,0,none⟩=some (.pointer (some ⟨(pv 0).b,0,none⟩)):=by simp only[World.cell?,aar];rfl
 have c1:x1.cell? ⟨B,1,none⟩=some (.pointer (some ⟨(pv 0).k,0,none⟩)):=by simp only[World.cell?,aar];rfl
 have c2:x1.cell? ⟨B,2,none⟩=some ((pv 0).cv):=by simp only[World.cell?,aar];rfl
 have c3:x1.cell? ⟨B,3,none⟩=some (.pointer (some ⟨(pv 1).b,0,none⟩)):=by simp only[World.cell?,aar];rfl
 have c4:x1.cell? ⟨B,4,none⟩=some (.pointer (some ⟨(pv 1).k,0,none⟩)):=by simp only[World.cell?,aar];rfl
 have c5:x1.cell? ⟨B,5,none⟩=some ((pv 1).cv):=by simp only[World.cell?,aar];rfl
 have c6:x1.cell? ⟨B,6,none⟩=some (.pointer (some ⟨(pv 2).b,0,none⟩)):=by simp only[World.cell?,aar];rfl
 have c7:x1.cell? ⟨B,7,none⟩=some (.pointer (some ⟨(pv 2).k,0,none⟩)):=by simp only[World.cell?,aar];rfl
 have c8:x1.cell? ⟨B,8,none⟩=some ((pv 2).cv):=by simp only[World.cell?,aar];rfl
 have c9:x1.cell? ⟨B,9,none⟩=some (.pointer (some ⟨(pv 3).b,0,none⟩)):=by simp only[World.cell?,aar];rfl
 have FT:x1.cell? ⟨B,10,none⟩=some (.pointer (some ⟨(pv 3).k,0,none⟩)):=by simp only[World.cell?,aar];rfl
 have Xl:x1.cell? ⟨B,11,none⟩=some ((pv 3).cv):=by simp only[World.cell?,aar];rfl
 have ZL:=O (show∀k:Nat,k<4->∀u,Sem.run Tryz.prog (Instr.index 103 (.agg #[.pointer (some ⟨(pv 0).b,0,none⟩),.pointer (some ⟨(pv 0).k,0,none⟩),(pv 0).cv,.pointer (some ⟨(pv 1).b,0,none⟩),.pointer (some ⟨(pv 1).k,0,none⟩),(pv 1).cv,.pointer (some ⟨(pv 2).b,0,none⟩),.pointer (some ⟨(pv 2).k,0,none⟩),(pv 2).cv,.pointer (some ⟨(pv 3).b,0,none⟩),.pointer (some ⟨(pv 3).k,0,none⟩),(pv 3).cv]) (.int .i64 k)) u=.ok (.agg #[.pointer (some ⟨(pv k).b,0,none⟩),.pointer (some ⟨(pv k).k,0,none⟩),(pv k).cv]) u from fun k hk u=>by
  rcases(show k=0\/k=1\/k=2\/k=3 by omega)with rfl|rfl|rfl|rfl
  ·kernel_rfl
  ·kernel_rfl
  ·kernel_rfl
  ·kernel_rfl)
 have HX1:=O sM;rw[sM]at c0 c1 c2 c3 c4 c5 c6 c7 c8 c9 FT Xl;clear h0 h hb hs o7 aar sM bt;go_enter Tryz.func31,Tryz.ntmps31;go_wp2_with fail
 rw[<-HX1.out];clear c0 c1 c2 c3 c4 c5 c6 c7 c8 c9 FT Xl aiN;go_loopw[16] (agy base w x) (fun i _=>4-(intOf i).toNat)
 case atStart=>exact⟨0,pv,Nat.zero_le _,rfl,H0.out⟩
 case round =>
  obtain⟨k,aac,hk,rfl,hcp⟩:=hrel;by_cases cG:k<4
  ·have lf:(k:Int)<4:=by omega
   have U8:¬(k:Int)<0:=by omega
   have ax4:(0:Int)<=(k:Int):=by omega
   have ait:¬(4:Int)<=(k:Int):=by omega
   have rm:=ZL.out k cG;have HCP:=O hcp;have HKS:=O cG;obtain⟨cvk,ahu⟩:∃c,c=(pv k).cv:=⟨_,rfl⟩;obtain⟨ca,cc,hcf⟩:=(HW.out.part k cG).dh.form;rw[List.length_map]at hcf;rw[hcf]at rm;obtain⟨y1,ze⟩:∃y1,y1=wr.alloc (.cells #[.pointer (some ⟨(pv k).b,0,none⟩),.pointer (some ⟨(pv k).k,0,none⟩),.slice ca (x.part k).dh.length cc] 102):=⟨_,rfl⟩;have hfy:Fr ay wr y1:=by rw[ze];exact(Fr.refl _ _).alloc _
   have mi:y1.heap[wr.heap.size]?=some (.cells #[.pointer (some ⟨(pv k).b,0,none⟩),.pointer (some ⟨(pv k).k,0,none⟩),.slice ca (x.part k).dh.length cc] 102 (0,0)):=by rw[ze];exact af _ _
   have HWY:=O (HW.out.bd (hcp.fr.trans hfy));have HFY:=O hfy;have HBY:=O mi;have HY1:=O ze;have Yb:=O hcf;have HC:=O (show∀U,Fr ay y1 U->(U.cell? ⟨wr.heap.size,0,none⟩=some (.pointer (some ⟨(pv k).b,0,none⟩))/\U.cell? ⟨wr.heap.size,1,none⟩=some (.pointer (some ⟨(pv k).k,0,none⟩))/\U.cell? ⟨wr.heap.size,2,none⟩=some (.slice ca (x.part k).dh.length cc))from fun U hU=>by
    have j:=hU.keep HBY.out (fun h=>h);refine⟨?_,?_,?_⟩<;>simp[World.cell?,j])
   have HKB:=O (show∀U,Fr ay y1 U->Calls Tryz.prog 77 #[.pointer (some ⟨(pv k).b,0,none⟩)] U (abo base U (x.part k).aH (x.part k).waits)from fun U hU=>aeR base U (pv k).b (pv k).gv (pv k).wv (x.part k).aH (x.part k).waits ((HWY.out.bd hU).part k HKS.out).gK (HS.out k HKS.out).1 (HS.out k HKS.out).2.1)
   have HKK:=O (show∀U,Fr ay y1 U->Calls Tryz.prog 78 #[.pointer (some ⟨(pv k).k,0,none⟩)] U fun e w'=>∃b' v',e=.returned (.pointer (some ⟨b',0,none⟩))/\cy U.heap.size w' b' v' (x.part k).book/\Fr ay U w' from fun U hU=>abm base U (pv k).k (pv k).kv (x.part k).book ((HWY.out.bd hU).part k HKS.out).book (HS.out k HKS.out).2.2.1)
   have HKC:=O (show∀U,Fr ay y1 U->Calls Tryz.prog 79 #[.slice ca (x.part k).dh.length cc] U fun e w'=>∃v',e=.returned v'/\OwnRows U.heap.size 109 4 w' v' ((x.part k).dh.map ic)/\Fr ay U w' from fun U hU=>by
    have hh:=((HWY.out.bd hU).part k HKS.out).dh.at;rw[Yb.out]at hh;exact aet _ _ U hh (by rw[List.length_map];have:=(HS.out k HKS.out).2.2.2;omega))
   clear hcp hfy mi ze hcf ahu cvk cG;go_wp2_with fail
   rw[<-HY1.out];refine wp_region_held_drew (S:=(fun U=>U.cell? ⟨wr.heap.size,0,none⟩=some (.pointer (some ⟨(pv k).b,0,none⟩))/\U.cell? ⟨wr.heap.size,1,none⟩=some (.pointer (some ⟨(pv k).k,0,none⟩))/\U.cell? ⟨wr.heap.size,2,none⟩=some (.slice ca (x.part k).dh.length cc))) (by kernel_rfl) (HC.out _ (Fr.drew (Fr.refl _ _))) ?_;intro cW;refine tk 0 ⟨some 20,_,_,_,_,_⟩ (v:=?_) rfl (by rfl) ?hy ?_
   case hy=>(intro w hSw;(try dsimp only at hSw);go_simp<;>with_reducible rfl)
   try simp only[Act.put,sA,sB,sC]
   refine tk 1 ⟨some 21,_,_,_,_,_⟩ (v:=?_) rfl (by rfl) ?hy ?_
   case hy=>(intro w hSw;(try dsimp only at hSw);go_simp<;>with_reducible rfl)
   try simp only[Act.put,sA,sB,sC]
   refine tk 2 ⟨some 22,_,_,_,_,_⟩ (v:=?_) rfl (by rfl) ?hy ?_
   case hy=>(intro w hSw;(try dsimp only at hSw);go_simp<;>with_reducible rfl)
   try simp only[Act.put,sA,sB,sC]
   refine tk 3 ⟨some 23,_,_,_,_,_⟩ (v:=?_) rfl (by rfl) ?hy ?_
   case hy=>(intro w hSw;(try dsimp only at hSw);go_simp<;>with_reducible rfl)
   try simp only[Act.put,sA,sB,sC]
   refine tk 5 ⟨some 25,_,_,_,_,_⟩ (v:=?_) rfl (by rfl) ?hy ?_
   case hy=>(intro w hSw;(try dsimp only at hSw);go_simp<;>with_reducible rfl)
   try simp only[Act.put,sA,sB,sC]
   refine tk 6 ⟨some 26,_,_,_,_,_⟩ (v:=?_) rfl (by rfl) ?hy ?_
   case hy=>(intro w hSw;(try dsimp only at hSw);go_simp<;>with_reducible rfl)
   try simp only[Act.put,sA,sB,sC]
   refine tk 8 ⟨some 28,_,_,_,_,_⟩ (v:=?_) rfl (by rfl) ?hy ?_
   case hy=>(intro w hSw;(try dsimp only at hSw);go_simp<;>with_reducible rfl)
   try simp only[Act.put,sA,sB,sC]
   refine tk 9 ⟨some 29,_,_,_,_,_⟩ (v:=?_) rfl (by rfl) ?hy ?_
   case hy=>(intro w hSw;(try dsimp only at hSw);go_simp<;>with_reducible rfl)
   try simp only[Act.put,sA,sB,sC]
   refine tk 12 ⟨some 32,_,_,_,_,_⟩ (v:=?_) rfl (by rfl) ?hy ?_
   case hy=>(intro w hSw;(try dsimp only at hSw);go_simp<;>with_reducible rfl)
   try simp only[Act.put,sA,sB,sC]
   refine tk 13 ⟨some 33,_,_,_,_,_⟩ (v:=?_) rfl (by rfl) ?hy ?_
   case hy=>(intro w hSw;(try dsimp only at hSw);go_simp<;>with_reducible rfl)
   try simp only[Act.put,sA,sB,sC]
   refine wpAnyH_ready (rs:=[4]) (by kernel_rfl) (by simp) ?_;refine AllReadyH.cons rfl (fun K hK=>?_) AllReadyH.nil;go_simp;refine(HKB.out _ (Fr.drew (Fr.refl ay y1))).mono ?_;rintro e u1⟨aah,aaj,kw,rfl,hb,hf,hn⟩;have gV:=O ((Fr.drew (Fr.refl ay y1)).trans hf);have He:=O hf;have HGB:=O hb;have HGN:=O hn;clear hb hf hn;refine hK.out _ _ (HC.out _ gV.out) ?_;intro CY;clear hK cW K
   try simp only[Act.put,sA,sB,sC]
   refine wpAnyH_ready (rs:=[7]) (by kernel_rfl) (by simp) ?_;refine AllReadyH.cons rfl (fun K hK=>?_) AllReadyH.nil;go_simp;refine(HKK.out _ (gV.out)).mono ?_;rintro e u2⟨aak,kv,rfl,hb,hf⟩;have dk:=O ((gV.out).trans hf);have HQ2:=O hf;have HGK:=O hb;clear hb hf;refine hK.out _ _ (HC.out _ dk.out) ?_;intro G_;clear hK CY K
   try simp only[Act.put,sA,sB,sC]
   refine wpAnyH_ready (rs:=[10]) (by kernel_rfl) (by simp) ?_;refine AllReadyH.cons rfl (fun K hK=>?_) AllReadyH.nil;go_simp;refine(HKC.out _ (dk.out)).mono ?_;rintro e u3⟨kc,rfl,hb,hf⟩;have dV:=O ((dk.out).trans hf);have HQ3:=O hf;have HGC:=O hb;obtain⟨aan,aaq,Xw⟩:=hb.form;rw[List.length_map]at Xw;subst Xw;clear hb hf;refine hK.out _ _ (HC.out _ dV.out) ?_;intro PZ;clear hK G_ K
   try simp only[Act.put,sA,sB,sC]
   refine tk 11 ⟨some 31,_,_,_,_,_⟩ (v:=?_) rfl (by rfl) ?hy ?_
   case hy=>(intro w hSw;(try dsimp only at hSw);go_simp<;>with_reducible rfl)
   try simp only[Act.put,sA,sB,sC]
   refine tk 14 ⟨some 34,_,_,_,_,_⟩ (v:=?_) rfl (by rfl) ?hy ?_
   case hy=>(intro w hSw;(try dsimp only at hSw);go_simp<;>with_reducible rfl)
   try simp only[Act.put,sA,sB,sC]
   refine wpAnyH_ready (rs:=[15]) (by kernel_rfl) (by simp) ?_;refine AllReadyH.cons rfl (fun K hK=>?_) AllReadyH.nil
   have fR:=HCP.out.step HB.out HKS.out (HFY.out.trans dV.out) (v:=⟨aah,aaj,kw,aak,kv,.slice aan (x.part k).dh.length aaq⟩) ⟨HGB.out.bd (HQ2.out.trans HQ3.out),(cy.mono HGK.out (Nat.le_trans (Nat.le_trans HB.out HCP.out.fr.size) (HFY.out.trans (gV.out)).size)).bd HQ3.out,OwnRows.fr (OwnRows.mono HGC.out (Nat.le_trans (Nat.le_trans HB.out HCP.out.fr.size) (HFY.out.trans (dk.out)).size)) (Fr.refl _ _) (fun _ _ h=>h)⟩ (by
    rintro j(hj|hj|hj)
    ·exact Nat.le_trans (HFY.out.trans (Fr.drew (Fr.refl _ _))).size (HGN.out j hj)
    ·exact Nat.le_trans (HFY.out.trans (gV.out)).size (HGK.out.iU hj)
    ·exact Nat.le_trans (HFY.out.trans (dk.out)).size (HGC.out.block _ hj))
   have jn:=O fR;have o5:=dV.out.keep (HFY.out.keep HCP.out.cR (fun h=>h)) (fun h=>h);obtain⟨q0,q1,q2⟩:=afk aac x.now HKS.out;have c0:u3.cell? ⟨w.heap.size,k*3,none⟩=some (.pointer none):=by simp[World.cell?,o5,q0]
   have c1:u3.cell? ⟨w.heap.size,k*3+1,none⟩=some (.pointer none):=by simp[World.cell?,o5,q1]
   have c2:u3.cell? ⟨w.heap.size,k*3+2,none⟩=some (.slice none 0 0):=by simp[World.cell?,o5,q2]
   have f0:∀j,u3.frozen? ⟨w.heap.size,j,none⟩=false:=fun j=>by simp[World.frozen?,o5]
   have f1:=f0 (k*3);have f2:=f0 (k*3+1);have f3:=f0 (k*3+2);obtain⟨W9,ij⟩:∃W9,W9=((u3.setCell ⟨w.heap.size,k*3,none⟩ (.pointer (some ⟨aah,0,none⟩))).setCell ⟨w.heap.size,k*3+1,none⟩ (.pointer (some ⟨aak,0,none⟩))).setCell ⟨w.heap.size,k*3+2,none⟩ (.slice aan (x.part k).dh.length aaq):=⟨_,rfl⟩
   have HS9:=O (show aaA base w x (k+1) (EJ aac k ⟨aah,aaj,kw,aak,kv,.slice aan (x.part k).dh.length aaq⟩) W9 by rw[ij];exact jn.out);have M3:Fr (one w.heap.size) u3 W9:=by rw[ij];exact(((Fr.refl (one w.heap.size) u3).setCell (p:=⟨w.heap.size,k*3,none⟩) (fun _=>rfl) _).setCell (p:=⟨w.heap.size,k*3+1,none⟩) (fun _=>rfl) _).setCell (p:=⟨w.heap.size,k*3+2,none⟩) (fun _=>rfl) _
   have hb9:=M3.keep (dV.out.keep HBY.out (fun h=>h)) (fun e=>by have e':wr.heap.size=w.heap.size:=e;have:=aj HCP.out.cR;omega);have HB9:=O hb9;clear M3 hb9;clear fR q0 q1 q2 f0 o5;go_simp;rw[<-ij];clear ij;have hb9:=HB9.out;refine hK.out _ _ ⟨by simp[World.cell?,hb9],by simp[World.cell?,hb9],by simp[World.cell?,hb9]⟩ ?_;intro hS4;clear hK PZ K hS4 hb9
   try simp only[Act.put,sA,sB,sC]
   refine wpAnyH_done (by kernel_rfl) ?_ _;go_wp2_with fail
   go_roundw
   case rel=>exact⟨k+1,_,by omega,by go_num,HS9.out⟩
   case measure=>simp[intOf];omega
  ·have MU:k=4:=by omega
   subst MU;have HD:=O (hcp.done HB.out);have py:=O hcp.fr;have Qx:=O (show∀j,jV w.heap.size aac j->w.heap.size<=j from fun j hj=>by
    rcases hj with rfl|⟨i,hi,hj⟩
    ·exact Nat.le_refl _
    ·exact Nat.le_of_lt (hcp.new i hi j hj))
   clear hcp H0;go_wp2;go_ret;exact⟨_,_,rfl,HD.out,py.out,Qx.out⟩
structure aaw (a U:World) (B:Nat) (pv:Nat->bB) (x:bW) (C:Nat) (aac:Nat->bB) (y:bW):Prop where
 one:aR a.heap.size U B pv x
 two:aR a.heap.size U C aac y
 fr:Fr ay a U
 off:∀k,jV C aac k->¬jV B pv k
section
variable {a U U' : World} {B C : Nat} {pv aac : Nat → bB} {x x' y : bW}
def abh(a U:World)(B:Nat)(x:bW)(C:Nat)(aac:Nat->bB)(y:bW)(U':World):Prop :=
 ∃zu,aaw a U' B zu x C aac y/\∀(n:Nat) (c:Array Value) (t:TypeId),U.heap[n]?=some (.cells c t (0,0))->fJ t->t≠105->U'.heap[n]?=some (.cells c t (0,0))
theorem aaw.step(h:aaw a U B pv x C aac y)(hp:aC a.heap.size U B pv x' U'):abh a U B x' C aac y U':=by
 have hf':=hp.frame h.one h.fr (Nat.le_refl _);obtain⟨zu,h1,h2,h3⟩:=hp;refine⟨zu,⟨h1,h.two.fr h2 h.one.off h.off,hf',fun k hk Zw=>?_⟩,fun n c t hn ht hw=>h2.keep hn (h.one.yT hn ht hw)⟩;rcases h3 k Zw with e|e
 ·exact h.off k hk e
 ·have:=h.two.fO hk;omega
theorem aaw.ahv(h:aaw a U B pv x C aac y)(hi:fW x)(ht:fN a){o:ei}{hs:List dW}(ho:bg U o hs) :
  Calls Tryz.prog 17 #[.pointer (some ⟨B,0,none⟩),.agg o.cells.toArray] U (fun e w'=>e=.returned (.agg #[.int .i64 (cV x (o.bF hs)).2.what,.string (cV x (o.bF hs)).2.head,.int .i64 (cV x (o.bF hs)).2.cert])/\abh a U B (cV x (o.bF hs)).1 C aac y w') :=
 (ja h.one h.fr hi ht ho).mono fun _ _ hh=>⟨hh.1,h.step hh.2⟩
theorem aaw.copied(h:aR a.heap.size U B pv x)(hf:Fr ay a U)(hc:aR a.heap.size U' C aac y)(hu:Fr ay U U')(hn:∀j,jV C aac j->U.heap.size<=j):aaw a U' B pv x C aac y :=
 ⟨h.bd hu,hc,hf.trans hu,fun k hk Zw=>by
  have h1:=hn k hk;have h2:=h.fO Zw;omega⟩
theorem aaw.aqh(h:aaw a U B pv x C aac y){n:Nat}(hn:a.heap.size<=n){cs:Array Value}{t:TypeId}(hb:U.heap[n]?=some (.cells cs t (0,0)))(ht:fJ t)(hw:t≠105)(hs:t≠9)(k:Nat)(v:Value):aaw a (U.setCell ⟨n,k,none⟩ v) B pv x C aac y :=
 ⟨(dU h.one h.fr hn hn hb ht hw hs k v).1,(dU h.two h.fr hn hn hb ht hw hs k v).1,(dU h.one h.fr hn hn hb ht hw hs k v).2.1,h.off⟩
end
theorem fW.xc{x:bW}(h:fW x):∀i,i<4->(x.part i).aH.length<68719476736/\(x.part i).waits.length<68719476736/\(x.part i).book.length<1000000/\(x.part i).dh.length<=1000000:=fun i _=>by
 obtain⟨l1,l2,l3,l4⟩:=(h.ok.part i).xc;exact⟨by omega,by omega,by omega,by omega⟩
theorem abv(p:bI)(w:World):(binOp .neq 65 (.agg p.cells.toArray) (.agg p.cells.toArray)).run Tryz.prog w=.ok (.bool false) w:=by
 unfold bI.cells;go_simp
def afl(w:World)(n:Nat)(i:Value)(wr:World):Prop:=∃k:Nat,k<=n/\i=.int .i64 k/\Fr ay w wr
theorem abn(v v':Value)(ps:List bI)(w:World)(h:oV w v ps)(h':oV w v' ps) :
  Calls Tryz.prog 33 #[v,v'] w fun e w'=>e=.returned (.bool true)/\Fr ay w w':=by
 obtain⟨av,cv,hv⟩:=aN.form h;obtain⟨av',XO,nu⟩:=aN.form h';subst hv nu;rw[List.length_map]at h h' ⊢;have HL:=O (fun U (hU:Fr ay w U)=>aN.bu h hU);have HL':=O (fun U (hU:Fr ay w U)=>aN.bu h' hU);have HQ:=O (abv);clear h h';go_enter Tryz.func33,Tryz.ntmps33;go_wp2;go_loopw[13] (afl w ps.length) (fun i _=>ps.length-(intOf i).toNat)
 case atStart=>exact⟨0,Nat.zero_le _,rfl,Fr.refl _ _⟩
 case round =>
  obtain⟨k,hk,rfl,aW⟩:=hrel;by_cases cG:k<ps.length
  ·have lf:(k:Int)<(ps.length:Int):=by omega
   have U8:(0:Int)<=(k:Int):=by omega
   have hne:ps≠ []:=by intro e;rw[e]at cG;cases cG
   obtain⟨bk,of,rfl,g1,g2,g3,g4,g5⟩:=oV.lie (HL.out wr aW) hne;obtain⟨ZE,of',rfl,g1',g2',g3',g4',g5'⟩:=oV.lie (HL'.out wr aW) hne;unfold maxLen at g3 g3';have bC:=O (List.getElem?_eq_getElem cG);generalize ps[k]=q at bC;obtain⟨c0,c1,c2,c3,c4,c5,c6,c7,c8,c9,FT,Xl⟩:=g5 k q bC.out;obtain⟨d0,d1,d2,d3,d4,d5,d6,d7,d8,d9,d10,d11⟩:=g5' k q bC.out;have heq:=HQ.out q;unfold bI.cells at heq;clear g1 g5 g1' g5'
   go_wp2;go_quiet (fail);go_wp2;go_roundw
   case rel=>exact⟨k+1,by omega,by go_num,aW.drewN _⟩
   case measure=>simp[intOf];omega
  ·have lf:¬(k:Int)<(ps.length:Int):=by omega
   go_wp2;go_ret;exact⟨rfl,aW⟩
theorem aaC(v:Value)(os:List (ei×List dW))(o:ei)(hs:List dW)(q:ei)(qs:List dW)(w:World)(sO:gM w v os)(vD:jw w o hs)(st2:jw w q qs)(pw:nI w)(md:kX w)(sh:kZ w)(db:iu w 9 .u8 Gr) :
  Calls Tryz.prog 8 #[v,.agg o.cells.toArray,.agg q.cells.toArray] w fun e w'=>e=.returned (.bool true)/\Below w.heap.size w w':=by
 have ht:fN w:=⟨⟨db,md,sh⟩,pw⟩;obtain⟨av,cv,cA⟩:=sO.1.form;rw[List.length_map]at cA;subst cA;obtain⟨ah,ch,df⟩:=aN.form vD.ab.cU;rw[List.length_map]at df;obtain⟨aq,cq,hhq⟩:=aN.form st2.ab.cU;rw[List.length_map]at hhq;obtain⟨w0,pB⟩:∃w0,w0=(w.alloc (.cells o.cells.toArray 33)).alloc (.cells q.cells.toArray 33):=⟨_,rfl⟩;have iJ:Fr ay w w0:=by rw[pB];exact((Fr.refl ay w).alloc _).alloc _
 have k0:w0.heap[w.heap.size]?=some (.cells o.cells.toArray 33 (0,0)):=by rw[pB];exact((Fr.refl ay _).alloc _).keep (af _ _) (fun h=>h)
 have k1:w0.heap[w.heap.size+1]?=some (.cells q.cells.toArray 33 (0,0)):=by
  have h:=af (w.alloc (.cells o.cells.toArray 33)) (.cells q.cells.toArray 33);rw[World.size_alloc]at h;rw[pB];exact h
 have HT:=O ht;have fX:=O df;have HHQ:=O hhq;have oK:=O iJ;have Qf:=O vD;have HA2:=O st2
 have Qu:=O (show∀U,Fr ay w0 U->U.heap[w.heap.size]?=some (.cells #[.int .i64 o.what,.int .i64 o.ab.part,.bool o.ab.aI.ae,.string o.ab.aI.host,.int .i64 o.ab.aI.port,.bool o.ab.o.ae,.string o.ab.o.host,.int .i64 o.ab.o.port,.string o.ab.path,.string o.ab.query,.string o.ab.method,.slice ah hs.length ch,.bool o.ab.bP,.string o.ab.body,.bool o.proxy,.string o.text,.string o.user,.string o.pass,.string o.aB,.int .i64 o.cert,.bool o.all,.int .i64 o.n] 33 (0,0))from fun U hU=>by rw[<-aZ df];exact hU.keep k0 (fun h=>h))
 have HKQ:=O (show∀U,Fr ay w0 U->U.heap[w.heap.size+1]?=some (.cells #[.int .i64 q.what,.int .i64 q.ab.part,.bool q.ab.aI.ae,.string q.ab.aI.host,.int .i64 q.ab.aI.port,.bool q.ab.o.ae,.string q.ab.o.host,.int .i64 q.ab.o.port,.string q.ab.path,.string q.ab.query,.string q.ab.method,.slice aq qs.length cq,.bool q.ab.bP,.string q.ab.body,.bool q.proxy,.string q.text,.string q.user,.string q.pass,.string q.aB,.int .i64 q.cert,.bool q.all,.int .i64 q.n] 33 (0,0))from fun U hU=>by rw[<-aZ hhq];exact hU.keep k1 (fun h=>h))
 have Qv:=O (show∀U,Fr ay w U->Calls Tryz.prog 14 #[] U _ from fun U hU=>qU U (ht.fr hU));have LU:=O (show∀U,Fr ay w U->Calls Tryz.prog 15 #[.slice av os.length cv] U _ from fun U hU=>kQ _ os U (sO.fr hU))
 have BD:=O (show∀U n t,Fr ay w U->U.heap[n]?=some (.cells #[.int .i64 o.what,.int .i64 o.ab.part,.bool o.ab.aI.ae,.string o.ab.aI.host,.int .i64 o.ab.aI.port,.bool o.ab.o.ae,.string o.ab.o.host,.int .i64 o.ab.o.port,.string o.ab.path,.string o.ab.query,.string o.ab.method,.slice ah hs.length ch,.bool o.ab.bP,.string o.ab.body,.bool o.proxy,.string o.text,.string o.user,.string o.pass,.string o.aB,.int .i64 o.cert,.bool o.all,.int .i64 o.n,.int .i64 q.what,.int .i64 q.ab.part,.bool q.ab.aI.ae,.string q.ab.aI.host,.int .i64 q.ab.aI.port,.bool q.ab.o.ae,.string q.ab.o.host,.int .i64 q.ab.o.port,.string q.ab.path,.string q.ab.query,.string q.ab.method,.slice aq qs.length cq,.bool q.ab.bP,.string q.ab.body,.bool q.proxy,.string q.text,.string q.user,.string q.pass,.string q.aB,.int .i64 q.cert,.bool q.all,.int .i64 q.n] t (0,0))->Calls Tryz.prog 15 #[.slice (some ⟨n,0,none⟩) 2 2] U fun e w'=>e=.returned (.bool (!(fU (o,hs)||fU (q,qs))))/\Fr ay U w' from fun U n t hU hb=>by
  have h:=kQ _ [(o,hs),(q,qs)] U (gM.two (vD.fr hU) (st2.fr hU) df hhq (by rw[aZ df,aZ hhq];exact hb));rw[Mx]at h;exact h)
 have Qw:=O (show jy os=true->∀U,Fr ay w U->Calls Tryz.prog 16 #[.slice av os.length cv] U _ from fun rO U hU=>oM w.heap.size _ os U (sO.fr hU) rO w ht (Nat.le_refl _) hU hU.size);rw[aZ df,aZ hhq]at pB ⊢;have HW0:=O pB;clear pB df hhq iJ k0 k1 sO vD st2 ht pw md sh db;go_enter Tryz.func8,Tryz.ntmps8;go_wp2_with fail
 rw[<-HW0.out];refine(Qv.out _ oK.out).mono ?_;rintro e u1⟨rfl,h1⟩;have H1:=O h1;clear h1;go_wp2_with fail
 refine(LU.out _ (oK.out.trans H1.out)).mono ?_;rintro e u2⟨rfl,h2⟩;have H2:=O (H1.out.trans h2);have Ja:=O (Qu.out _ H2.out);have HQ2:=O (HKQ.out _ H2.out);clear h2 Qv LU;cases zg:jy os
 ·clear zg;go_wp2;go_ret;exact⟨rfl,(oK.out.trans H2.out).bQ⟩
 have LS:=O zg;clear zg
 go_wp2_with (first|((with_reducible refine ag ⟨some 16,_,_,_,_,_⟩ ?_);go_must(refine fV (by rfl) 33 (.tmp 4) rfl w.heap.size rfl _ #[.int .i64 o.what,.int .i64 o.ab.part,.bool o.ab.aI.ae,.string o.ab.aI.host,.int .i64 o.ab.aI.port,.bool o.ab.o.ae,.string o.ab.o.host,.int .i64 o.ab.o.port,.string o.ab.path,.string o.ab.query,.string o.ab.method,.slice ah hs.length ch,.bool o.ab.bP,.string o.ab.body,.bool o.proxy,.string o.text,.string o.user,.string o.pass,.string o.aB,.int .i64 o.cert,.bool o.all,.int .i64 o.n] (0,0) _ Ja.out Tryz.underlying33 rfl (by kernel_rfl) ?_))|((with_reducible refine ag ⟨some 17,_,_,_,_,_⟩ ?_);go_must(refine fV (by rfl) 33 (.tmp 5) rfl (w.heap.size+1) rfl _ #[.int .i64 q.what,.int .i64 q.ab.part,.bool q.ab.aI.ae,.string q.ab.aI.host,.int .i64 q.ab.aI.port,.bool q.ab.o.ae,.string q.ab.o.host,.int .i64 q.ab.o.port,.string q.ab.path,.string q.ab.query,.string q.ab.method,.slice aq qs.length cq,.bool q.ab.bP,.string q.ab.body,.bool q.proxy,.string q.text,.string q.user,.string q.pass,.string q.aB,.int .i64 q.cert,.bool q.all,.int .i64 q.n] (0,0) _ HQ2.out Tryz.underlying33 rfl (by kernel_rfl) ?_))|fail)
 obtain⟨u3,pz⟩:∃u3,u3=u2.alloc (.cells #[.int .i64 o.what,.int .i64 o.ab.part,.bool o.ab.aI.ae,.string o.ab.aI.host,.int .i64 o.ab.aI.port,.bool o.ab.o.ae,.string o.ab.o.host,.int .i64 o.ab.o.port,.string o.ab.path,.string o.ab.query,.string o.ab.method,.slice ah hs.length ch,.bool o.ab.bP,.string o.ab.body,.bool o.proxy,.string o.text,.string o.user,.string o.pass,.string o.aB,.int .i64 o.cert,.bool o.all,.int .i64 o.n,.int .i64 q.what,.int .i64 q.ab.part,.bool q.ab.aI.ae,.string q.ab.aI.host,.int .i64 q.ab.aI.port,.bool q.ab.o.ae,.string q.ab.o.host,.int .i64 q.ab.o.port,.string q.ab.path,.string q.ab.query,.string q.ab.method,.slice aq qs.length cq,.bool q.ab.bP,.string q.ab.body,.bool q.proxy,.string q.text,.string q.user,.string q.pass,.string q.aB,.int .i64 q.cert,.bool q.all,.int .i64 q.n] 33):=⟨_,rfl⟩
 have dv:Fr ay u2 u3:=by rw[pz];exact(Fr.refl _ _).alloc _
 have H3:=O (H2.out.trans dv)
 have jQ:=af u2 (.cells #[.int .i64 o.what,.int .i64 o.ab.part,.bool o.ab.aI.ae,.string o.ab.aI.host,.int .i64 o.ab.aI.port,.bool o.ab.o.ae,.string o.ab.o.host,.int .i64 o.ab.o.port,.string o.ab.path,.string o.ab.query,.string o.ab.method,.slice ah hs.length ch,.bool o.ab.bP,.string o.ab.body,.bool o.proxy,.string o.text,.string o.user,.string o.pass,.string o.aB,.int .i64 o.cert,.bool o.all,.int .i64 o.n,.int .i64 q.what,.int .i64 q.ab.part,.bool q.ab.aI.ae,.string q.ab.aI.host,.int .i64 q.ab.aI.port,.bool q.ab.o.ae,.string q.ab.o.host,.int .i64 q.ab.o.port,.string q.ab.path,.string q.ab.query,.string q.ab.method,.slice aq qs.length cq,.bool q.ab.bP,.string q.ab.body,.bool q.proxy,.string q.text,.string q.user,.string q.pass,.string q.aB,.int .i64 q.cert,.bool q.all,.int .i64 q.n] 33)
 rw[<-pz]at jQ ⊢;clear pz dv;refine(BD.out _ _ _ (oK.out.trans H3.out) jQ).mono ?_;rintro e u4⟨rfl,h4⟩;have H4:=O (H3.out.trans h4);clear h4 jQ BD;cases FI:(fU (o,hs)||fU (q,qs))
 case true =>
  clear FI;go_wp2;go_ret;exact⟨rfl,(oK.out.trans H4.out).bQ⟩
 have Nf:=O (Bool.or_eq_false_iff.1 FI);clear FI;go_wp2_with fail
 refine(Qw.out LS.out _ (oK.out.trans H4.out)).mono ?_;rintro e u5⟨B,pv,rfl,wQ,rk,h5,AF⟩;obtain⟨x,hx⟩:∃x,x=nM (opsL os):=⟨_,rfl⟩;rw[<-hx]at wQ rk;have Nd:=O wQ;have C4:=O rk;have H5:=O (H4.out.trans h5);have HLW:=O AF;have uI:=O (show∀U,Fr ay w U->bg U o hs from fun U hU=>bg.Mt (Qf.out.fr hU) Nf.out.1);have J0:=O (show∀U,Fr ay w U->bg U q qs from fun U hU=>bg.Mt (HA2.out.fr hU) Nf.out.2)
 clear wQ rk h5 AF hx Qw LS Nf;have jF:=O (oK.out.trans H5.out);have rA:=O (Qu.out _ H5.out);have HC5:=O (HKQ.out _ H5.out);have HCP:=O (aeK _ _ _ _ _ Nd.out C4.out.xc);go_wp2_with fail
 refine HCP.out.mono ?_;rintro e u6⟨C,aac,rfl,hc,jz,hl6⟩;have HTW:=O (aaw.copied Nd.out jF.out hc jz hl6);have OL:=O (jz.keep rA.out (fun h=>h));have mj:=O (jz.keep HC5.out (fun h=>h));have JV:=O HTW.out.one;have fu:=O HTW.out.fr;clear hc jz hl6 HCP;obtain⟨W5,hW5⟩:∃W5,W5=u6.setCell ⟨w.heap.size,0,none⟩ (.int .i64 8):=⟨_,rfl⟩
 obtain⟨q6a,q6b,q6c,q6d⟩:=dU JV.out fu.out (Nat.le_refl _) (Nat.le_refl _) OL.out aO (by decide) (by decide) 0 (.int .i64 8);have q6e:u6.cell? ⟨w.heap.size,0,none⟩=some (.int .i64 o.what):=by have h:=OL.out;simp only[World.cell?,h];rfl
 have q6f:u6.frozen? ⟨w.heap.size,0,none⟩=false:=by have h:=OL.out;simp[World.frozen?,h]
 have q6l:w.heap.size<u6.heap.size:=aj OL.out;rw[<-hW5]at q6a q6b q6c q6d;have HW7:=O q6a;have KI:=O q6b
 have HB9:=O (show W5.heap[w.heap.size]?=some (.cells #[.int .i64 8,.int .i64 o.ab.part,.bool o.ab.aI.ae,.string o.ab.aI.host,.int .i64 o.ab.aI.port,.bool o.ab.o.ae,.string o.ab.o.host,.int .i64 o.ab.o.port,.string o.ab.path,.string o.ab.query,.string o.ab.method,.slice ah hs.length ch,.bool o.ab.bP,.string o.ab.body,.bool o.proxy,.string o.text,.string o.user,.string o.pass,.string o.aB,.int .i64 o.cert,.bool o.all,.int .i64 o.n] 33 (0,0))from q6c)
 have aqq:=O (q6d _ _ (by have h1:=True.intro;have h2:=True.intro;omega) mj.out);clear q6a q6b q6c q6d;have alB:=O (show W5.heap.size=u6.heap.size by rw[hW5];simp[World.setCell]);have alC:=O (show w.heap.size<u6.heap.size from q6l);have aeU:=O hW5;clear hW5;have aeV:=O (show aaw w W5 B pv x C aac x by rw[aeU.out];exact HTW.out.aqh (Nat.le_refl _) OL.out aO (by decide) (by decide) 0 (.int .i64 8))
 have yr:=rH;have ahw:=O (by have h:=HB9.out;rw[aeU.out]at h;exact h);obtain⟨y,hy⟩:∃y,y=cV x (({o with what:=8}).bF hs):=⟨_,rfl⟩
 have HDy:=O (show Calls Tryz.prog 17 #[.pointer (some ⟨B,0,none⟩),.agg #[.int .i64 8,.int .i64 o.ab.part,.bool o.ab.aI.ae,.string o.ab.aI.host,.int .i64 o.ab.aI.port,.bool o.ab.o.ae,.string o.ab.o.host,.int .i64 o.ab.o.port,.string o.ab.path,.string o.ab.query,.string o.ab.method,.slice ah hs.length ch,.bool o.ab.bP,.string o.ab.body,.bool o.proxy,.string o.text,.string o.user,.string o.pass,.string o.aB,.int .i64 o.cert,.bool o.all,.int .i64 o.n]] W5 (fun e w'=>e=.returned (.agg #[.int .i64 y.2.what,.string y.2.head,.int .i64 y.2.cert])/\abh w W5 B y.1 C aac x w')from by
  have h:=aeV.out.ahv (o:={o with what:=8}) (hs:=hs) C4.out HT.out (bg.qv (uI.out _ aeV.out.fr) 8 (by decide) (by decide));rw[aZ (o:={o with what:=8}) (hs:=hs) fX.out]at h;rw[hy];exact h)
 have HIy:=O (show fW y.1 by rw[hy];exact bg.small (bg.qv (uI.out _ aeV.out.fr) 8 (by decide) (by decide)) C4.out);have HYy:=O hy;clear hy
 go_wp2_with (first|((with_reducible refine ag ⟨some 28,_,_,_,_,_⟩ ?_);go_must(refine wpList_load_row rfl 33 (.tmp 4) rfl (w.heap.size) rfl _ #[.int .i64 8,.int .i64 o.ab.part,.bool o.ab.aI.ae,.string o.ab.aI.host,.int .i64 o.ab.aI.port,.bool o.ab.o.ae,.string o.ab.o.host,.int .i64 o.ab.o.port,.string o.ab.path,.string o.ab.query,.string o.ab.method,.slice ah hs.length ch,.bool o.ab.bP,.string o.ab.body,.bool o.proxy,.string o.text,.string o.user,.string o.pass,.string o.aB,.int .i64 o.cert,.bool o.all,.int .i64 o.n] (0,0) _ ahw.out Tryz.underlying33 rfl (by kernel_rfl) ?_))|fail)
 rw[<-aeU.out];clear q6e q6f q6l;refine HDy.out.mono ?_;rintro e u7⟨rfl,pv7,hp,hk⟩;have HT7:=O hp;have afn:=O (hk _ _ _ HB9.out aO (by decide));have ahx:=O (hk _ _ _ aqq.out aO (by decide));have ahy:=O HT7.out.one;have ahF:=O HT7.out.fr;clear hp hk HDy;by_cases hq:y.2.what=1
 case neg =>
  have hd:decide (y.2.what=1)=false:=decide_eq_false hq;have qE:(y.2.what==1)=false:=beq_eq_false_iff_ne.2 hq;go_wp2_with fail
  go_ret;exact⟨rfl,HT7.out.fr.bQ⟩
 rw[hq];obtain⟨m,hm4,hom⟩:∃m:Nat,m<4/\o.ab.part=(m:Int):=by
  have h:=Pd (w:=x) (o:=({o with what:=8}:ei).bF hs) (Or.inl rfl) (by rw[<-HYy.out];exact hq);obtain⟨p0,p1⟩:=fl h.1;have p0':0<=o.ab.part:=p0;have p1':o.ab.part<4:=p1;exact⟨o.ab.part.toNat,by omega,by omega⟩
 have CD:=aew (w:=x) (o:=({o with what:=8}:ei).bF hs) rfl (by rw[<-HYy.out];exact hq);rw[<-HYy.out]at CD;have IZ:(({o with what:=8}:ei).bF hs).part.toNat=m:=by
  show o.ab.part.toNat=m;omega
 rw[IZ]at CD;have aco:=O CD;have HM4:=O hm4;have HOM:=O hom;obtain⟨cs,hcs⟩:∃cs,cs=(x.part m).dh:=⟨_,rfl⟩;obtain⟨ps,hps⟩:∃ps,ps=(x.part m).book:=⟨_,rfl⟩;have l1:=(C4.out.xc m hm4).2.2;have q_:=O (show cs.length<=1000000/\cs.length<9223372036854775807 by rw[hcs];exact⟨l1.2,by omega⟩)
 have HC1:=O (show∀U,Fr ay u7 U->Calls Tryz.prog 32 #[.pointer (some ⟨B,0,none⟩),.int .i64 m] U (fun e w'=>∃v',e=.returned v'/\OwnRows U.heap.size 109 4 w' v' (cs.map ic)/\Fr ay U w')from fun U hU=>by
  have h:=aaG _ U B _ _ (HT7.out.one.bd hU) m hm4 (by rw[CD.2.1];exact l1.2);rw[CD.2.1, <-hcs]at h;exact h)
 have Xk:=O (show∀U,Fr ay u7 U->Calls Tryz.prog 32 #[.pointer (some ⟨C,0,none⟩),.int .i64 m] U (fun e w'=>∃v',e=.returned v'/\OwnRows U.heap.size 109 4 w' v' (cs.map ic)/\Fr ay U w')from fun U hU=>by
  have h:=aaG _ U C _ _ (HT7.out.two.bd hU) m hm4 l1.2;rw[<-hcs]at h;exact h)
 have HP1:=O (show∀U,Fr ay u7 U->Calls Tryz.prog 27 #[.pointer (some ⟨B,0,none⟩),.int .i64 m] U (fun e w'=>∃v',e=.returned v'/\OwnRows U.heap.size 65 12 w' v' (ps.map bI.cells)/\Fr ay U w')from fun U hU=>by
  have h:=aaB _ U B _ _ (HT7.out.one.bd hU) m hm4 (by rw[CD.2.2];exact l1.1);rw[CD.2.2, <-hps]at h;exact h)
 have HP2:=O (show∀U,Fr ay u7 U->Calls Tryz.prog 27 #[.pointer (some ⟨C,0,none⟩),.int .i64 m] U (fun e w'=>∃v',e=.returned v'/\OwnRows U.heap.size 65 12 w' v' (ps.map bI.cells)/\Fr ay U w')from fun U hU=>by
  have h:=aaB _ U C _ _ (HT7.out.two.bd hU) m hm4 l1.1;rw[<-hps]at h;exact h)
 have HCO:=O (show∀U,Fr ay u7 U->U.cell? ⟨w.heap.size,1,none⟩=some (.int .i64 m)from fun U hU=>by
  have h:=hU.keep afn.out (fun h=>h);rw[<-hom];simp only[World.cell?,h];rfl)
 clear hq CD IZ hm4 hcs hps l1 hom;go_wp2_with fail
 refine wp_region_held_drew (S:=(fun U=>U.cell? ⟨w.heap.size,1,none⟩=some (.int .i64 m))) (by kernel_rfl) (HCO.out _ (Fr.drew (Fr.refl ay _))) ?_;intro cW;refine tk 0 ⟨some 32,_,_,_,_,_⟩ (v:=?_) rfl (by rfl) ?hy ?_
 case hy=>(intro w hSw;(try dsimp only at hSw);go_simp<;>with_reducible rfl)
 try simp only[Act.put,sA,sB,sC]
 refine tk 1 ⟨some 33,_,_,_,_,_⟩ (v:=?_) rfl (by rfl) ?hy ?_
 case hy=>(intro w hSw;(try dsimp only at hSw);go_simp<;>with_reducible rfl)
 try simp only[Act.put,sA,sB,sC]
 refine tk 2 ⟨some 34,_,_,_,_,_⟩ (v:=?_) rfl (by rfl) ?hy ?_
 case hy=>(intro w hSw;(try dsimp only at hSw);go_simp<;>with_reducible rfl)
 try simp only[Act.put,sA,sB,sC]
 refine tk 3 ⟨some 35,_,_,_,_,_⟩ (v:=?_) rfl (by rfl) ?hy ?_
 case hy=>(intro w hSw;(try dsimp only at hSw);go_simp<;>with_reducible rfl)
 try simp only[Act.put,sA,sB,sC]
 refine tk 6 ⟨some 38,_,_,_,_,_⟩ (v:=?_) rfl (by rfl) ?hy ?_
 case hy=>(intro w hSw;(try dsimp only at hSw);go_simp<;>with_reducible rfl)
 try simp only[Act.put,sA,sB,sC]
 refine tk 7 ⟨some 39,_,_,_,_,_⟩ (v:=?_) rfl (by rfl) ?hy ?_
 case hy=>(intro w hSw;(try dsimp only at hSw);go_simp<;>with_reducible rfl)
 try simp only[Act.put,sA,sB,sC]
 refine tk 8 ⟨some 40,_,_,_,_,_⟩ (v:=?_) rfl (by rfl) ?hy ?_
 case hy=>(intro w hSw;(try dsimp only at hSw);go_simp<;>with_reducible rfl)
 try simp only[Act.put,sA,sB,sC]
 refine tk 9 ⟨some 41,_,_,_,_,_⟩ (v:=?_) rfl (by rfl) ?hy ?_
 case hy=>(intro w hSw;(try dsimp only at hSw);go_simp<;>with_reducible rfl)
 try simp only[Act.put,sA,sB,sC]
 refine wpAnyH_ready (rs:=[4]) (by kernel_rfl) (by simp) ?_;refine AllReadyH.cons rfl (fun K hK=>?_) AllReadyH.nil;go_simp;refine(HC1.out _ (Fr.drew (Fr.refl ay _))).mono ?_;rintro e x1⟨v1,rfl,sL,sM⟩;have HX1:=O ((Fr.drew (Fr.refl ay u7)).trans sM);obtain⟨a1,k1,bt⟩:=sL.form;rw[List.length_map]at bt;subst bt;clear sL sM;refine hK.out _ _ (HCO.out _ HX1.out) ?_;intro ct;clear hK cW K;have cW:=ct
 clear ct
 try simp only[Act.put,sA,sB,sC]
 refine tk 5 ⟨some 37,_,_,_,_,_⟩ (v:=?_) rfl (by rfl) ?hy ?_
 case hy=>(intro w hSw;(try dsimp only at hSw);go_simp<;>with_reducible rfl)
 try simp only[Act.put,sA,sB,sC]
 refine wpAnyH_ready (rs:=[10]) (by kernel_rfl) (by simp) ?_;refine AllReadyH.cons rfl (fun K hK=>?_) AllReadyH.nil;go_simp;refine(Xk.out _ HX1.out).mono ?_;rintro e x2⟨v2,rfl,kR,hx2⟩;have Xs:=O (HX1.out.trans hx2);obtain⟨a2,k2,bq⟩:=kR.form;rw[List.length_map]at bq;subst bq;clear kR hx2;refine hK.out _ _ (HCO.out _ Xs.out) ?_;intro ct;clear hK cW K;have cW:=ct;clear ct
 try simp only[Act.put,sA,sB,sC]
 refine tk 11 ⟨some 43,_,_,_,_,_⟩ (v:=?_) rfl (by rfl) ?hy ?_
 case hy=>(intro w hSw;(try dsimp only at hSw);go_simp<;>with_reducible rfl)
 try simp only[Act.put,sA,sB,sC]
 refine tk 12 ⟨some 44,_,_,_,_,_⟩ (v:=?_) rfl (by rfl) ?hy ?_
 case hy=>(intro w hSw;(try dsimp only at hSw);go_simp<;>with_reducible rfl)
 try simp only[Act.put,sA,sB,sC]
 refine tk 13 ⟨some 45,_,_,_,_,_⟩ (v:=?_) rfl (by rfl) ?hy ?_
 case hy=>(intro w hSw;(try dsimp only at hSw);go_simp<;>with_reducible rfl)
 try simp only[Act.put,sA,sB,sC]
 refine tk 14 ⟨some 46,_,_,_,_,_⟩ (v:=?_) rfl (by rfl) ?hy ?_
 case hy=>(intro w hSw;(try dsimp only at hSw);go_simp<;>with_reducible rfl)
 try simp only[Act.put,sA,sB,sC]
 refine tk 15 ⟨some 47,_,_,_,_,_⟩ (v:=?_) rfl (by rfl) ?hy ?_
 case hy=>(intro w hSw;(try dsimp only at hSw);go_simp<;>with_reducible rfl)
 try simp only[Act.put,sA,sB,sC]
 refine tk 16 ⟨some 48,_,_,_,_,_⟩ (v:=?_) rfl (by rfl) ?hy ?_
 case hy=>(intro w hSw;(try dsimp only at hSw);go_simp<;>with_reducible rfl)
 try simp only[Act.put,sA,sB,sC]
 refine tk 17 ⟨some 49,_,_,_,_,_⟩ (v:=?_) rfl (by rfl) ?hy ?_
 case hy=>(intro w hSw;(try dsimp only at hSw);go_simp<;>with_reducible rfl)
 try simp only[Act.put,sA,sB,sC]
 refine tk 19 ⟨some 51,_,_,_,_,_⟩ (v:=?_) rfl (by rfl) ?hy ?_
 case hy=>(intro w hSw;(try dsimp only at hSw);go_simp<;>with_reducible rfl)
 try simp only[Act.put,sA,sB,sC]
 refine tk 20 ⟨some 52,_,_,_,_,_⟩ (v:=?_) rfl (by rfl) ?hy ?_
 case hy=>(intro w hSw;(try dsimp only at hSw);go_simp<;>with_reducible rfl)
 try simp only[Act.put,sA,sB,sC]
 refine tk 21 ⟨some 53,_,_,_,_,_⟩ (v:=?_) rfl (by rfl) ?hy ?_
 case hy=>(intro w hSw;(try dsimp only at hSw);go_simp<;>with_reducible rfl)
 try simp only[Act.put,sA,sB,sC]
 refine tk 22 ⟨some 54,_,_,_,_,_⟩ (v:=?_) rfl (by rfl) ?hy ?_
 case hy=>(intro w hSw;(try dsimp only at hSw);go_simp<;>with_reducible rfl)
 try simp only[Act.put,sA,sB,sC]
 refine wpAnyH_ready (rs:=[18]) (by kernel_rfl) (by simp) ?_;refine AllReadyH.cons rfl (fun K hK=>?_) AllReadyH.nil;go_simp;refine(HP1.out _ Xs.out).mono ?_;rintro e x3⟨v3,rfl,oT,CU⟩;have Vt:=O (Xs.out.trans CU);have HR3:=O oT.at;clear oT CU;refine hK.out _ _ (HCO.out _ Vt.out) ?_;intro ct;clear hK cW K;have cW:=ct;clear ct
 try simp only[Act.put,sA,sB,sC]
 refine wpAnyH_ready (rs:=[23]) (by kernel_rfl) (by simp) ?_;refine AllReadyH.cons rfl (fun K hK=>?_) AllReadyH.nil;go_simp;refine(HP2.out _ Vt.out).mono ?_;rintro e x4⟨v4,rfl,qX,T4⟩;have HX4:=O (Vt.out.trans T4);have HEP:=O (abn v3 v4 ps _ (aN.bu HR3.out T4) qX.at);clear qX T4;refine hK.out _ _ (HCO.out _ HX4.out) ?_;intro ct;clear hK cW K;have cW:=ct;clear ct
 try simp only[Act.put,sA,sB,sC]
 refine wpAnyH_ready (rs:=[24]) (by kernel_rfl) (by simp) ?_;refine AllReadyH.cons rfl (fun K hK=>?_) AllReadyH.nil;go_simp;refine HEP.out.mono ?_;rintro e x5⟨rfl,hx5⟩;have HX5:=O (HX4.out.trans hx5);clear hx5;refine hK.out _ _ (HCO.out _ HX5.out) ?_;intro ct;clear hK cW K;have cW:=ct;clear ct
 try simp only[Act.put,sA,sB,sC]
 refine tk 25 ⟨some 57,_,_,_,_,_⟩ (v:=?_) rfl (by rfl) ?hy ?_
 case hy=>(intro w hSw;(try dsimp only at hSw);go_simp<;>with_reducible rfl)
 try simp only[Act.put,sA,sB,sC]
 refine tk 26 ⟨some 58,_,_,_,_,_⟩ (v:=?_) rfl (by rfl) ?hy ?_
 case hy=>(intro w hSw;(try dsimp only at hSw);go_simp<;>with_reducible rfl)
 try simp only[Act.put,sA,sB,sC]
 clear cW;refine wpAnyH_done (by kernel_rfl) ?_ _;clear HC1 Xk HP1 HP2 HCO q_ HR3 HEP HX1 Xs Vt HX4;have ahH:=O (ahy.out.bd HX5.out);have ahI:=O (ahF.out.trans HX5.out);have abq:=O (HX5.out.keep afn.out (fun h=>h));have MJ:=O (HX5.out.keep ahx.out (fun h=>h));have f5:x5.cell? ⟨w.heap.size,5,none⟩=some (.bool o.ab.o.ae):=by have h:=abq.out;simp only[World.cell?,h];rfl
 have f6:x5.cell? ⟨w.heap.size,6,none⟩=some (.string o.ab.o.host):=by have h:=abq.out;simp only[World.cell?,h];rfl
 have f7:x5.cell? ⟨w.heap.size,7,none⟩=some (.int .i64 o.ab.o.port):=by have h:=abq.out;simp only[World.cell?,h];rfl
 have c1:x5.cell? ⟨w.heap.size,1,none⟩=some (.int .i64 o.ab.part):=by have h:=abq.out;simp only[World.cell?,h];rfl
 obtain⟨W21,aey⟩:∃W21,W21=x5.setCell ⟨w.heap.size+1,0,none⟩ (.int .i64 1):=⟨_,rfl⟩;obtain⟨aeW,aeX,aeY,aeZ⟩:=dU ahH.out ahI.out (Nat.le_succ _) (Nat.le_succ _) MJ.out aO (by decide) (by decide) 0 (.int .i64 1);have ahM:x5.cell? ⟨w.heap.size+1,0,none⟩=some (.int .i64 q.what):=by have h:=MJ.out;simp only[World.cell?,h];rfl
 have ahN:x5.frozen? ⟨w.heap.size+1,0,none⟩=false:=by have h:=MJ.out;simp[World.frozen?,h]
 have afo:w.heap.size+1<x5.heap.size:=aj MJ.out;rw[<-aey]at aeW aeX aeY aeZ;have ahO:=O aeW;have ahP:=O aeX
 have acn:=O (show W21.heap[w.heap.size+1]?=some (.cells #[.int .i64 1,.int .i64 q.ab.part,.bool q.ab.aI.ae,.string q.ab.aI.host,.int .i64 q.ab.aI.port,.bool q.ab.o.ae,.string q.ab.o.host,.int .i64 q.ab.o.port,.string q.ab.path,.string q.ab.query,.string q.ab.method,.slice aq qs.length cq,.bool q.ab.bP,.string q.ab.body,.bool q.proxy,.string q.text,.string q.user,.string q.pass,.string q.aB,.int .i64 q.cert,.bool q.all,.int .i64 q.n] 33 (0,0))from aeY)
 have ahR:=O (aeZ _ _ (by have h1:=True.intro;have h2:=True.intro;omega) abq.out);clear aeW aeX aeY aeZ;have akd:=O (show W21.heap.size=x5.heap.size by rw[aey];simp[World.setCell]);have akf:=O (show w.heap.size+1<x5.heap.size from afo);have aaH:=O aey;clear aey;obtain⟨W27,aez⟩:∃W27,W27=W21.setCell ⟨w.heap.size+1,1,none⟩ (.int .i64 o.ab.part):=⟨_,rfl⟩
 obtain⟨ae0,ae1,ae2,ae3⟩:=dU ahO.out ahP.out (Nat.le_succ _) (Nat.le_succ _) acn.out aO (by decide) (by decide) 1 (.int .i64 o.ab.part);have afB:W21.cell? ⟨w.heap.size+1,1,none⟩=some (.int .i64 q.ab.part):=by have h:=acn.out;simp only[World.cell?,h];rfl
 have afC:W21.frozen? ⟨w.heap.size+1,1,none⟩=false:=by have h:=acn.out;simp[World.frozen?,h]
 have ahS:w.heap.size+1<W21.heap.size:=aj acn.out;rw[aaH.out]at afB afC;rw[<-aez]at ae0 ae1 ae2 ae3;have ahT:=O ae0;have ah1:=O ae1
 have aeA:=O (show W27.heap[w.heap.size+1]?=some (.cells #[.int .i64 1,.int .i64 o.ab.part,.bool q.ab.aI.ae,.string q.ab.aI.host,.int .i64 q.ab.aI.port,.bool q.ab.o.ae,.string q.ab.o.host,.int .i64 q.ab.o.port,.string q.ab.path,.string q.ab.query,.string q.ab.method,.slice aq qs.length cq,.bool q.ab.bP,.string q.ab.body,.bool q.proxy,.string q.text,.string q.user,.string q.pass,.string q.aB,.int .i64 q.cert,.bool q.all,.int .i64 q.n] 33 (0,0))from ae2)
 have ah4:=O (ae3 _ _ (by have h1:=True.intro;have h2:=True.intro;omega) ahR.out);clear ae0 ae1 ae2 ae3;have alj:=O (show W27.heap.size=W21.heap.size by rw[aez];simp[World.setCell]);have abl:=O aez;clear aez;obtain⟨W33,aeB⟩:∃W33,W33=W27.setCell ⟨w.heap.size+1,5,none⟩ (.bool o.ab.o.ae):=⟨_,rfl⟩
 obtain⟨ae4,ae5,ae6,ae7⟩:=dU ahT.out ah1.out (Nat.le_succ _) (Nat.le_succ _) aeA.out aO (by decide) (by decide) 5 (.bool o.ab.o.ae);have afE:W27.cell? ⟨w.heap.size+1,5,none⟩=some (.bool q.ab.o.ae):=by have h:=aeA.out;simp only[World.cell?,h];rfl
 have afG:W27.frozen? ⟨w.heap.size+1,5,none⟩=false:=by have h:=aeA.out;simp[World.frozen?,h]
 have ah5:w.heap.size+1<W27.heap.size:=aj aeA.out;rw[abl.out,aaH.out]at afE afG;rw[<-aeB]at ae4 ae5 ae6 ae7;have ah_:=O ae4;have aie:=O ae5
 have aeC:=O (show W33.heap[w.heap.size+1]?=some (.cells #[.int .i64 1,.int .i64 o.ab.part,.bool q.ab.aI.ae,.string q.ab.aI.host,.int .i64 q.ab.aI.port,.bool o.ab.o.ae,.string q.ab.o.host,.int .i64 q.ab.o.port,.string q.ab.path,.string q.ab.query,.string q.ab.method,.slice aq qs.length cq,.bool q.ab.bP,.string q.ab.body,.bool q.proxy,.string q.text,.string q.user,.string q.pass,.string q.aB,.int .i64 q.cert,.bool q.all,.int .i64 q.n] 33 (0,0))from ae6)
 have aif:=O (ae7 _ _ (by have h1:=True.intro;have h2:=True.intro;omega) ah4.out);clear ae4 ae5 ae6 ae7;have alk:=O (show W33.heap.size=W27.heap.size by rw[aeB];simp[World.setCell]);have aex:=O aeB;clear aeB;obtain⟨W39,aeD⟩:∃W39,W39=W33.setCell ⟨w.heap.size+1,6,none⟩ (.string o.ab.o.host):=⟨_,rfl⟩
 obtain⟨ae8,ae9,ae_,ae'⟩:=dU ah_.out aie.out (Nat.le_succ _) (Nat.le_succ _) aeC.out aO (by decide) (by decide) 6 (.string o.ab.o.host);have afJ:W33.cell? ⟨w.heap.size+1,6,none⟩=some (.string q.ab.o.host):=by have h:=aeC.out;simp only[World.cell?,h];rfl
 have afK:W33.frozen? ⟨w.heap.size+1,6,none⟩=false:=by have h:=aeC.out;simp[World.frozen?,h]
 have aim:w.heap.size+1<W33.heap.size:=aj aeC.out;rw[aex.out,abl.out,aaH.out]at afJ afK;rw[<-aeD]at ae8 ae9 ae_ ae';have ain:=O ae8;have aio:=O ae9
 have aeE:=O (show W39.heap[w.heap.size+1]?=some (.cells #[.int .i64 1,.int .i64 o.ab.part,.bool q.ab.aI.ae,.string q.ab.aI.host,.int .i64 q.ab.aI.port,.bool o.ab.o.ae,.string o.ab.o.host,.int .i64 q.ab.o.port,.string q.ab.path,.string q.ab.query,.string q.ab.method,.slice aq qs.length cq,.bool q.ab.bP,.string q.ab.body,.bool q.proxy,.string q.text,.string q.user,.string q.pass,.string q.aB,.int .i64 q.cert,.bool q.all,.int .i64 q.n] 33 (0,0))from ae_)
 have air:=O (ae' _ _ (by have h1:=True.intro;have h2:=True.intro;omega) aif.out);clear ae8 ae9 ae_ ae';have alm:=O (show W39.heap.size=W33.heap.size by rw[aeD];simp[World.setCell]);have afe:=O aeD;clear aeD;obtain⟨W45,aeF⟩:∃W45,W45=W39.setCell ⟨w.heap.size+1,7,none⟩ (.int .i64 o.ab.o.port):=⟨_,rfl⟩
 obtain⟨afa,afb,afc,afd⟩:=dU ain.out aio.out (Nat.le_succ _) (Nat.le_succ _) aeE.out aO (by decide) (by decide) 7 (.int .i64 o.ab.o.port);have afL:W39.cell? ⟨w.heap.size+1,7,none⟩=some (.int .i64 q.ab.o.port):=by have h:=aeE.out;simp only[World.cell?,h];rfl
 have afO:W39.frozen? ⟨w.heap.size+1,7,none⟩=false:=by have h:=aeE.out;simp[World.frozen?,h]
 have aiu:w.heap.size+1<W39.heap.size:=aj aeE.out;rw[afe.out,aex.out,abl.out,aaH.out]at afL afO;rw[<-aeF]at afa afb afc afd;have aix:=O afa;have aiz:=O afb
 have aiB:=O (show W45.heap[w.heap.size+1]?=some (.cells #[.int .i64 1,.int .i64 o.ab.part,.bool q.ab.aI.ae,.string q.ab.aI.host,.int .i64 q.ab.aI.port,.bool o.ab.o.ae,.string o.ab.o.host,.int .i64 o.ab.o.port,.string q.ab.path,.string q.ab.query,.string q.ab.method,.slice aq qs.length cq,.bool q.ab.bP,.string q.ab.body,.bool q.proxy,.string q.text,.string q.user,.string q.pass,.string q.aB,.int .i64 q.cert,.bool q.all,.int .i64 q.n] 33 (0,0))from afc)
 have aiF:=O (afd _ _ (by have h1:=True.intro;have h2:=True.intro;omega) air.out);clear afa afb afc afd;have aln:=O (show W45.heap.size=W39.heap.size by rw[aeF];simp[World.setCell]);have agD:=O aeF;clear aeF;go_wp2_with fail
 go_region
 obtain⟨W51,h52⟩:∃W51,W51=W45.drew:=⟨_,rfl⟩;have f53:Fr ay W45 W51:=by rw[h52];exact Fr.drew (Fr.refl _ _)
 have afV:=O (aix.out.bd f53);have abi:=O (aiz.out.trans f53);have aiK:=O (f53.keep aiF.out (fun h=>h));have afW:=O (f53.keep aiB.out (fun h=>h));have aiS:=O h52;clear h52 f53;rw[<-aaH.out, <-abl.out, <-aex.out, <-afe.out, <-agD.out, <-aiS.out];clear f5 f6 f7 c1 ahM ahN afo afB afC ahS afE afG ah5 afJ afK aim afL afO aiu
 obtain⟨y58,aeG⟩:∃y58,y58=cV y.1 (({q with what:=1,ab:={q.ab with part:=o.ab.part,o:=o.ab.o}}).bF qs):=⟨_,rfl⟩
 have afY:=O (show Calls Tryz.prog 17 #[.pointer (some ⟨B,0,none⟩),.agg #[.int .i64 1,.int .i64 o.ab.part,.bool q.ab.aI.ae,.string q.ab.aI.host,.int .i64 q.ab.aI.port,.bool o.ab.o.ae,.string o.ab.o.host,.int .i64 o.ab.o.port,.string q.ab.path,.string q.ab.query,.string q.ab.method,.slice aq qs.length cq,.bool q.ab.bP,.string q.ab.body,.bool q.proxy,.string q.text,.string q.user,.string q.pass,.string q.aB,.int .i64 q.cert,.bool q.all,.int .i64 q.n]] W51 (fun e w'=>e=.returned (.agg #[.int .i64 y58.2.what,.string y58.2.head,.int .i64 y58.2.cert])/\aC w.heap.size W51 B pv7 y58.1 w')from by
  have h:=ja (o:={q with what:=1,ab:={q.ab with part:=o.ab.part,o:=o.ab.o}}) (hs:=qs) afV.out abi.out HIy.out HT.out (bg.vC (J0.out _ abi.out) (uI.out _ abi.out) 1 (by decide) (by decide));rw[aZ (o:={q with what:=1,ab:={q.ab with part:=o.ab.part,o:=o.ab.o}}) (hs:=qs) HHQ.out]at h;rw[aeG];exact h)
 have alE:=O (show fW y58.1 by rw[aeG];exact bg.small (bg.vC (J0.out _ abi.out) (uI.out _ abi.out) 1 (by decide) (by decide)) HIy.out);have ai2:=O aeG;clear aeG
 go_wp2_with (first|((with_reducible refine ag ⟨some 73,_,_,_,_,_⟩ ?_);go_must(refine wpList_load_row rfl 33 (.tmp 5) rfl (w.heap.size+1) rfl _ #[.int .i64 1,.int .i64 o.ab.part,.bool q.ab.aI.ae,.string q.ab.aI.host,.int .i64 q.ab.aI.port,.bool o.ab.o.ae,.string o.ab.o.host,.int .i64 o.ab.o.port,.string q.ab.path,.string q.ab.query,.string q.ab.method,.slice aq qs.length cq,.bool q.ab.bP,.string q.ab.body,.bool q.proxy,.string q.text,.string q.user,.string q.pass,.string q.aB,.int .i64 q.cert,.bool q.all,.int .i64 q.n] (0,0) _ afW.out Tryz.underlying33 rfl (by kernel_rfl) ?_))|fail)
 refine afY.out.mono ?_;rintro e u63⟨rfl,hp⟩;obtain⟨alF,gA,gB,dH⟩:=cb afV.out abi.out (Nat.le_refl _) hp;have ai3:=O gA;have ai7:=O gB;have ajV:=O (dH _ _ _ aiK.out aO (by decide));have ai_:=O (dH _ _ _ afW.out aO (by decide));clear hp gA gB dH afY;have aeL:=O (show∃W,W=u63.alloc (.cells #[.int .i64 y58.2.what,.string y58.2.head,.int .i64 y58.2.cert] 39)from⟨_,rfl⟩);obtain⟨W69,hh⟩:=aeL.out
 clear aeL;have f71:Fr ay u63 W69:=by rw[hh];exact(Fr.refl _ _).alloc _
 have alG:=O (ai3.out.bd f71);have ajQ:=O (ai7.out.trans f71);have afZ:=O (show W69.heap[u63.heap.size]?=some (.cells #[.int .i64 y58.2.what,.string y58.2.head,.int .i64 y58.2.cert] 39 (0,0))by rw[hh];exact af _ _);have alH:=O (f71.keep ajV.out (fun h=>h));have ark:=O (f71.keep ai_.out (fun h=>h));have agF:=O hh;clear hh f71
 have rU:=GZ (w:=y.1) (q:=({q with what:=1,ab:={q.ab with part:=o.ab.part,o:=o.ab.o}}:ei).bF qs) rfl (by
  have IZ:(({q with what:=1,ab:={q.ab with part:=o.ab.part,o:=o.ab.o}}:ei).bF qs).part.toNat=m:=by
   show o.ab.part.toNat=m;have h:=HOM.out;omega
  rw[IZ];exact aco.out.1)
 rw[<-ai2.out]at rU;have k0:W69.cell? ⟨u63.heap.size,0,none⟩=some (.int .i64 y58.2.what):=by have h:=afZ.out;simp only[World.cell?,h];rfl
 have k1:W69.cell? ⟨u63.heap.size,1,none⟩=some (.string y58.2.head):=by have h:=afZ.out;simp only[World.cell?,h];rfl
 have bR:=ajQ.out;rw[agF.out]at bR k0 k1;have se:=O bR;clear bR;have ab6:=O rU.2;clear rU;rcases ab6.out with ea|ea<;>(
  have hf:=se.out;rw[ea]at hf k0 k1 ⊢;clear ea;simp only[rep]at hf k0 k1 ⊢;go_wp2_with fail
  go_ret;exact⟨rfl,hf.bQ⟩)
end Go.Proofs.YtjdmjbdkdmbaiaaGreatDoor
namespace Go.Proofs.YtjdmjbdkdmbaiaaGreatDoor.worldLogged
open Go.ChangeShapes Go.WideShapes Go.ChangeAt Go.RowKit
open Go.ChangeMaps (open_string shut_string)
theorem own:ownKnob Tryz.prog.godebug=none:=by kernel_rfl
theorem laidOut:laidOutB Tryz.prog=true:=by kernel_rfl
theorem lifted(os:Os)(started:os.Started)(H:Type)(enc:TypeId×Value->H) :
  ReturnsInHanded {} Tryz.checked os 8 .any (fun w args=>(Rows.worldLoggedSpec.pre enc Tryz.prog Tryz.f8 Rows.worldLoggedRow.domain false w args/\laidMetH Tryz.prog Rows.worldLoggedRow.laid w)/\sizedMet enc Tryz.prog Tryz.f8 (OpenSpec.ofChange Rows.worldLoggedSpec) false w args)
   (Rows.worldLoggedSpec.post enc Tryz.prog Tryz.f8 false true false false):=by
 refine returnsInHanded_of_change_and (C:=Tryz.checked) (X:=fun w _=>laidMetH Tryz.prog Rows.worldLoggedRow.laid w) (fun _ _ _ hh h=>h.of_heap hh) own started (by kernel_rfl) Tryz.func8
  (ChangeSpec.witness_shaped (enc:=enc) (C:=Tryz.checked) (os:=os) (X:=fun w _=>laidMetH Tryz.prog Rows.worldLoggedRow.laid w) false (World.laidAll Tryz.prog os Rows.worldLoggedRow.laid) #[.slice none 0 0,.agg #[.int .i64 0,.int .i64 0,.bool false,.string ByteArray.empty,.int .i64 0,.bool false,.string ByteArray.empty,.int .i64 0,.string ByteArray.empty,.string ByteArray.empty,.string ByteArray.empty,.slice none 0 0,.bool false,.string ByteArray.empty,.bool false,.string ByteArray.empty,.string ByteArray.empty,.string ByteArray.empty,.string ByteArray.empty,.int .i64 0,.bool false,.int .i64 0],.agg #[.int .i64 0,.int .i64 0,.bool false,.string ByteArray.empty,.int .i64 0,.bool false,.string ByteArray.empty,.int .i64 0,.string ByteArray.empty,.string ByteArray.empty,.string ByteArray.empty,.slice none 0 0,.bool false,.string ByteArray.empty,.bool false,.string ByteArray.empty,.string ByteArray.empty,.string ByteArray.empty,.string ByteArray.empty,.int .i64 0,.bool false,.int .i64 0]] 8 (World.laidAll_os _ _ _)
   (World.shaped_of_ZipB (by kernel_rfl) (by kernel_rfl)) (by kernel_rfl) (by kernel_rfl) (by kernel_rfl)
   (by rw[MakeChecks.laidMetH_plain _ _ _ (by kernel_rfl)];exact laidMet_laidAll _ (by kernel_rfl) (by kernel_rfl))) ?_
 intro W base args ds gs before qx hW _ qw hL _;have mz:(DataW.weightsEach Tryz.prog (Tryz.f8.params.toList++Rows.worldLoggedSpec.plain.varTypes Tryz.prog) (ds++gs)).all (· <=reachBytes)=true:=qw;clear qw;have hval:∀(j:Nat) t v,Tryz.f8.params[j]?=some t->args[j]?=some v->Value.okWide Tryz.prog W .any base t v:=qx;have hW':=hW;obtain⟨p,q,Qz,hV,rfl,_,_⟩:=hW
 have hA:DataW.TrodAll enc Tryz.prog W 0 (fun _=>true) true Tryz.f8.params.toList args.toList ds p:=Qz;rw[Tryz.params8]at hA hval mz;obtain⟨v0,vs0,d0,ds0,p0,q0,QA,rfl,rfl,h0,r0⟩:=trodAll_cons hA;obtain⟨v1,vs1,d1,ds1,p1,q1,rfl,rfl,rfl,h1,r1⟩:=trodAll_cons r0;obtain⟨v2,vs2,d2,ds2,p2,q2,rfl,rfl,rfl,h2,r2⟩:=trodAll_cons r1;obtain⟨rfl,rfl,rfl⟩:=trodAll_nil r2
 obtain rfl:args= #[v0,v1,v2]:=by cases args;simp_all
 obtain⟨rfl,rfl⟩:=trodVars_none hV;have k0:=h0;have lt0:∀x∈p0,x.block<W.heap.size:=by obtain⟨m,hm⟩:=k0;exact DataW.trod_lt m _ _ _ hm
 obtain⟨ss0,sO⟩:=mY (hval 0 22 v0 rfl rfl) h0 (jY mz (j:=0) (t:=22) rfl rfl);have k1:=h1;have lt1:∀x∈p1,x.block<W.heap.size:=by obtain⟨m,hm⟩:=k1;exact DataW.trod_lt m _ _ _ hm
 obtain⟨o1,ss1,rfl,vD⟩:=mh (hval 1 33 v1 rfl rfl) h1 (jY mz (j:=1) (t:=33) rfl rfl);have k2:=h2;have lt2:∀x∈p2,x.block<W.heap.size:=by obtain⟨m,hm⟩:=k2;exact DataW.trod_lt m _ _ _ hm
 obtain⟨o2,ss2,rfl,st2⟩:=mh (hval 2 33 v2 rfl rfl) h2 (jY mz (j:=2) (t:=33) rfl rfl);clear Qz qx;rw[MakeChecks.laidMetH_plain _ _ _ (by kernel_rfl)]at hL;have tb0:=ot hL (by refine⟨?_,?_⟩<;>repeat(first|exact True.intro|exact List.Mem.head _|refine List.Mem.tail _ ?_));have tb1:=mR hL (by refine⟨?_,?_⟩<;>repeat(first|exact True.intro|exact List.Mem.head _|refine List.Mem.tail _ ?_))
 have tb2:=mS hL (by refine⟨?_,?_⟩<;>repeat(first|exact True.intro|exact List.Mem.head _|refine List.Mem.tail _ ?_));have tb3:=om hL (by refine⟨?_,?_⟩<;>repeat(first|exact True.intro|exact List.Mem.head _|refine List.Mem.tail _ ?_));refine(aaC _ ss0 o1 ss1 o2 ss2  W sO vD st2 tb0 tb1 tb2 tb3).mono fun e W' ⟨he,jE⟩=>?_;subst he
 exact⟨_,rfl,_,_,_,[],_,[],hW',trodAll_mk1 (shut_bool Tryz.underlying4 _),(trodAll_cons_mk (Below.trod laidOut (by kernel_rfl) (of_decide_eq_true (by kernel_rfl)) k0 jE lt0) (trodAll_cons_mk (Below.trod laidOut (by kernel_rfl) (of_decide_eq_true (by kernel_rfl)) k1 jE lt1) (trodAll_cons_mk (Below.trod laidOut (by kernel_rfl) (of_decide_eq_true (by kernel_rfl)) k2 jE lt2) trodAll_mk0))),rfl,jE.frame _,fun h=>by cases h⟩
end Go.Proofs.YtjdmjbdkdmbaiaaGreatDoor.worldLogged
