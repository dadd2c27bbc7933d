/- Shelf, UnbP, Waits, ClonePa, Book4, BankGet, CloneCe, WGet, WCopy, TwoW, SameG, EqG, EqPa, PartSame, RepEq, WSame, LiftWorldSame. -/
import Derived.Test.YtjdmjbdkdmbaiaaGreatDoorPk47
import Derived.Deep.Onto
import Derived.Test.YtjdmjbdkdmbaiaaGreatDoorTie
import Derived.Test.YtjdmjbdkdmbaiaaGreatDoorCards
import Derived.LaidMore
import Derived.Lay
set_option maxRecDepth 100000
set_option maxHeartbeats 16000000
set_option linter.unusedSimpArgs false
namespace Go.Proofs
open Go.Shelf
def Tryz.aeI:Go.Shelf.Ren:=⟨fun|193=>90|n=>n,fun|31=>45|9=>9|4=>4|3=>3|0=>0|n=>n,fun|n=>n⟩
theorem Tryz.aeM:Go.Proofs.Lays.n193 Tryz.prog Tryz.aeI:={
 mixed:=by kernel_rfl
 f193:=Tryz.func90.trans (congrArg some (by kernel_rfl))
 t0:=Tryz.underlying0
 a0:=Tryz.isAgg0
 z0:=Tryz.sizeOf0
 v0:=Tryz.zeroValue0
 t3:=Tryz.underlying3
 a3:=Tryz.isAgg3
 z3:=Tryz.sizeOf3
 v3:=Tryz.zeroValue3
 t4:=Tryz.underlying4
 a4:=Tryz.isAgg4
 z4:=Tryz.sizeOf4
 v4:=Tryz.zeroValue4
 t9:=Tryz.underlying9
 a9:=Tryz.isAgg9
 z9:=Tryz.sizeOf9
 v9:=Tryz.zeroValue9
 t31:=Tryz.underlying45
 a31:=Tryz.isAgg45
 z31:=Tryz.sizeOf45
 v31:=Tryz.zeroValue45}
open Go.RowKit Go.Lib in
theorem Tryz.slices_Equal_string(b1 o1 n c b2 o2 m d:Nat)(xs ys:List ByteArray)(w:World)(hx:n<=xs.length)(hy:m<=ys.length)(YR:n<=9223372036854775807)(aeS:m<=9223372036854775807)(kS:∀j,j<xs.length->w.cell? ⟨b1,o1+j,none⟩=some (.string (xs.getD j ByteArray.empty)))(nW:∀j,j<ys.length->w.cell? ⟨b2,o2+j,none⟩=some (.string (ys.getD j ByteArray.empty))) :
  Calls Tryz.prog 90 #[.slice (some ⟨b1,o1,none⟩) n c,.slice (some ⟨b2,o2,none⟩) m d] w fun e w'=>e=.returned (.bool (decide (xs.take n=ys.take m)))/\∃q,w'=w.drewN q:=Any.slices_Equal_string Tryz.aeM b1 o1 n c b2 o2 m d xs ys w hx hy YR aeS kS nW
open Go.RowKit Go.Lib in
theorem Tryz.slices_Equal_string_empty(a1 a2:Option Addr)(c m d:Nat)(w:World)(aeS:m<=9223372036854775807) :
  Calls Tryz.prog 90 #[.slice a1 0 c,.slice a2 m d] w fun e w'=>e=.returned (.bool (decide (m=0)))/\w'=w:=Any.slices_Equal_string_empty Tryz.aeM a1 a2 c m d w aeS
end Go.Proofs
namespace Go.Proofs.YtjdmjbdkdmbaiaaGreatDoor
open Go.RowKit
def ahg(c:UInt8):Option Nat:=if 65<=c/\c<=90 then some (c.toNat-65)else if 97<=c/\c<=122 then some (c.toNat-71)else if 48<=c/\c<=57 then some (c.toNat+4)else if c=43 then some 62 else if c=47 then some 63 else none
def aac(l:List UInt8):Nat->Nat
 |0=>0
 |j+1=>aac l j*64+(match l[j]? with|some c=>(ahg c).getD 0|none=>0)
def ae3(base:Nat)(w:World)(gs:List (aG aF))(v:Value)(w':World):Prop:=fq base w' v gs/\∀k,v.ownBlock=some k->w.heap.size<=k
def aeu(base:Nat)(w:World)(gs:List (aG aF))(e:Ending)(w':World):Prop :=
 ∃v,e=.returned v/\ae3 base w gs v w'/\Fr ay w w'
def afZ(base:Nat)(w:World)(gs:List (aG aF))(v i:Value)(wr:World):Prop :=
 ∃(k:Nat) (rs:List (aG Value)),k<=gs.length/\i=.int .i64 k/\OwnRows w.heap.size 144 13 wr v (rs.map aG.cells)/\fF (aG.Reads (aS base wr)) rs (gs.take k)/\Fr ay w wr
theorem aev(base:Nat)(w:World)(b:Nat)(gv wv:Value)(gs:List (ai aF))(ws:List (aG aF))(h:ba base w b gv wv gs ws)(M1:ws.length<68719476736) :
  Calls Tryz.prog 150 #[.pointer (some ⟨b,0,none⟩)] w (aeu base w ws):=by
 have h0:=h.c1;obtain⟨av,cv,hv⟩:=h.waits.form;subst hv;have pD:=h.lt;have eI:base<=w.heap.size:=by have:=h.low;omega
 go_enter Tryz.func150,Tryz.ntmps150;go_wp2;clear h0;go_loopw[3,11] (afZ base w ws) (fun _ i _=>ws.length-(intOf i).toNat)
 case atStart=>exact⟨0,[],Nat.zero_le _,rfl,OwnRows.nil _ _ _ _,.nil,Fr.refl _ _⟩
 case round =>
  obtain⟨k,rs,hk,rfl,a_,Ef,aW⟩:=hrel;by_cases cG:k<ws.length
  ·obtain⟨bk,c,bt,nv,r,bG,hr,hcell⟩:=(h.bd aW).waits.at cG;cases bt;unfold maxLen at nv;obtain⟨ad,cd,Aw⟩:=hr.2.2.2.2.2.2.2.2.2.2.rd.form;obtain⟨x,hx⟩:∃x,x=r.cells:=⟨_,rfl⟩;have gD:x.length=13:=by rw[hx];rfl
   have fR:=fun W=>run_storeCells_new (P:=Tryz.prog) W 144 rB x (by rw[gD];rfl) (by rw[hx];exact bG);rw[<-hx]at hcell;have HX:=O hx;have JF:=O (Cb gD);have ae6:x[12]?=some (.slice ad ws[k].a.dom.length cd):=by rw[hx, <-Aw];rfl
   clear hx;obtain⟨av,cv,ZH⟩:=a_.form;subst ZH;rw[List.length_map,Ef.len,List.length_take,Nat.min_eq_left hk]at a_ ⊢;have dF:Fr ay wr (wr.alloc (.cells x.toArray 144)):=(Fr.refl ay wr).alloc _;have hb0:(wr.alloc (.cells x.toArray 144)).heap[wr.heap.size]?=some (.cells x.toArray 144 (0,0)):=af _ _
   have c12:(wr.alloc (.cells x.toArray 144)).cell? ⟨wr.heap.size,12,none⟩=some (.slice ad ws[k].a.dom.length cd):=by simp only[World.cell?,hb0];simpa using ae6
   have kR:=hr.mono (fun _ _ h=>h.bd dF);have AP:=kR.2.2.2.2.2.2.2.2.2.2;rw[Aw]at AP;have CL:=O (ou base _ _ _ AP);go_wp2_with (first|((with_reducible refine ag ⟨some 14,_,_,_,_,_⟩ ?_);go_must(refine wpList_load_mid rfl 144 (.tmp 13) rfl bk (k*13) rfl x _ hcell Tryz.underlying144 rfl JF.out ?_))|fail)
   have nj:=O (aW.trans dF);have bV:=a_.alloc (.cells x.toArray 144);have OE:=Ef.mono (fun _ _ h=>h.mono (fun _ _ h=>h.bd dF));have eQ:w.heap.size<=wr.heap.size:=aW.size;have ahu:=a_.lt;clear fR hcell hr a_ Ef aW AP dF;generalize wr.alloc (.cells x.toArray 144)=W2 at *
   refine CL.out.mono ?_;rintro e u1⟨a2,c2,rfl,zo,bt⟩;have o9:=bt.keep hb0 (fun h=>h);have oT:=kR.mono (fun _ _ h=>h.bd bt);have cz:=bV.fr bt (fun _ _ h=>h);have OG:=OE.mono (fun _ _ h=>h.mono (fun _ _ h=>h.bd bt));have hF1:=nj.out.trans bt;have aoh:u1.cell? ⟨wr.heap.size,12,none⟩=some (.slice ad ws[k].a.dom.length cd):=by simp only[World.cell?,o9];simpa using ae6
   have f12:u1.frozen? ⟨wr.heap.size,12,none⟩=false:=by simp[World.frozen?,o9]
   have fC:=aP o9 12 (.slice a2 ws[k].a.dom.length c2);have hye:x.toArray.setIfInBounds 12 (.slice a2 ws[k].a.dom.length c2)=(r.oz (.slice a2 ws[k].a.dom.length c2)).cells.toArray:=by rw[HX.out];rfl
   rw[hye]at fC;have lZ:lT base u1 (one wr.heap.size):=by
    rintro j rfl hj;exact⟨by omega,fun c f e=>by rw[o9]at e;cases e⟩
   have fM:Fr (one wr.heap.size) u1 (u1.setCell ⟨wr.heap.size,12,none⟩ (.slice a2 ws[k].a.dom.length c2)):=(Fr.refl (one wr.heap.size) u1).setCell (p:=⟨wr.heap.size,12,none⟩) (fun _=>rfl) _;have wJ:∀j,(Value.slice av k cv).ownBlock=some j->¬one wr.heap.size j:=by
    rintro j hj rfl;have:=ahu _ hj;omega
   have dk:=hF1.dI (p:=⟨wr.heap.size,12,none⟩) eQ (.slice a2 ws[k].a.dom.length c2);have qX:(r.oz (.slice a2 ws[k].a.dom.length c2)).Reads (aS base (u1.setCell ⟨wr.heap.size,12,none⟩ (.slice a2 ws[k].a.dom.length c2))) ws[k] :=
    ⟨oT.1,oT.2.1,oT.2.2.1,oT.2.2.2.1,oT.2.2.2.2.1,oT.2.2.2.2.2.1,oT.2.2.2.2.2.2.1,oT.2.2.2.2.2.2.2.1,oT.2.2.2.2.2.2.2.2.1,oT.2.2.2.2.2.2.2.2.2.1,zo.fr fM lZ⟩
   have cZ:=cz.fr fM wJ;have aeE:=OG.mono (fun _ _ h=>h.mono (fun _ _ h=>h.fr fM lZ));have JL:∀u∈(r.oz (.slice a2 ws[k].a.dom.length c2)).cells,u.oneCell'=true:=by
    intro u hu;simp only[aG.cells,aG.oz,List.mem_cons,List.not_mem_nil,or_false]at hu;rcases hu with rfl|rfl|rfl|rfl|rfl|rfl|rfl|rfl|rfl|rfl|rfl|rfl|rfl<;>rfl
   obtain⟨y,hy⟩:∃y,y=(r.oz (.slice a2 ws[k].a.dom.length c2)).cells:=⟨_,rfl⟩;have FH:y.length=13:=by rw[hy];rfl
   rw[<-hy]at JL fC;have HY:=O hy;have mj:=O fC;have HYI:=O (Cb FH);have ZI:=O cZ;have Eg:=tD y rB (by rw[FH];rfl);have hbw:w.heap.size<=(u1.setCell ⟨wr.heap.size,12,none⟩ (.slice a2 ws[k].a.dom.length c2)).heap.size:=dk.size;have HSZ:=O (show(u1.setCell ⟨wr.heap.size,12,none⟩ (.slice a2 ws[k].a.dom.length c2)).heap.size=u1.heap.size by simp[World.setCell])
   have aim:w.heap.size<=u1.heap.size:=hF1.size;have qW:=aeE.len;rw[List.length_take,Nat.min_eq_left hk]at qW;have tS:(rs.map aG.cells).length<68719476736:=by rw[List.length_map,qW];omega
   have HR4:=O qX;have af1:=O aeE;have ahv:=O dk;clear qW oT kR bV cz OE OG hb0 o9 lZ fM wJ zo hye hy ae6 c12 CL cZ aeE qX dk hF1 bt fC nj Aw
   go_wp2_with (first|((with_reducible refine ag ⟨some 22,_,_,_,_,_⟩ ?_);go_must(refine wpList_load_row rfl 144 (.tmp 5) rfl wr.heap.size rfl _ y.toArray (0,0) _ mj.out Tryz.underlying144 rfl (by rw[List.size_toArray];exact HYI.out) ?_))|(at_builtin;go_must(refine lR rfl _ _ 137 144 rfl 13 168 (.agg rB) Tryz.underlying137 Ls rfl (by decide) (by decide) w.heap.size (.slice av k cv) (rs.map aG.cells) rfl (ZI.out.alloc _) u1.heap.size 1 y rfl FH JL (fun i u hi=>by rw[<-HSZ.out,World.cell?_alloc_mark];simpa using hi) tS (by simp;omega) ?_);intro v' w4 cZ Ag))
   have M3:=Fr.TU _ Ag;have kb:=ZI.out.off (base:=base) eI (by decide);rw[HY.out]at cZ;refine⟨⟨k+1,rs++[r.oz (.slice a2 ws[k].a.dom.length c2)],by omega,by go_num,by rw[List.map_append];exact cZ,?_,ahv.out.step M3 (fun j hj hS=>by have h2:=ZI.out.block j hS;omega)⟩,by simp[intOf];omega⟩;rw[bz (List.getElem?_eq_getElem cG)]
   exact(af1.out.mono (fun _ _ h=>h.mono (fun _ _ h=>h.fr M3 kb))).app (.cons (HR4.out.mono (fun _ _ h=>h.fr M3 kb)) .nil)
  ·rw[List.take_of_length_le (by omega)]at Ef;obtain⟨av,cv,ZH⟩:=a_.form;subst ZH;go_wp2;go_ret;exact⟨_,rfl,⟨⟨rs,a_.up eI,Ef⟩,a_.block⟩,aW⟩
def aeD(base:Nat)(w:World)(gs:List (ai aF))(ws:List (aG aF))(e:Ending)(w':World):Prop :=
 ∃b gv wv,e=.returned (.pointer (some ⟨b,0,none⟩))/\ba base w' b gv wv gs ws/\Fr ay w w'/\∀k,aY b gv wv k->w.heap.size<=k
theorem ae4(base:Nat)(w:World)(b:Nat)(gv wv:Value)(gs:List (ai aF))(ws:List (aG aF))(h:ba base w b gv wv gs ws)(M1:gs.length<68719476736)(zW:ws.length<68719476736) :
  Calls Tryz.prog 77 #[.pointer (some ⟨b,0,none⟩)] w (aeD base w gs ws):=by
 have pD:=h.lt;have kM:=h.low;go_enter Tryz.func77,Tryz.ntmps77;go_wp2_with fail
 refine(GF base w b gv wv gs ws h M1).mono ?_;intro e u1 hp;obtain⟨v1,rfl,⟨Ko,UA⟩,bt⟩:=hp;go_wp2_with fail
 refine(aev base u1 b gv wv gs ws (h.bd bt) zW).mono ?_;intro e u2 hp;obtain⟨v2,rfl,⟨wG,Jp⟩,bq⟩:=hp;obtain⟨a1,c1,FG⟩:=Ko.form;obtain⟨a2,c2,hv2⟩:=wG.form;subst FG hv2;have zo:=bt.size;have Kp:=bq.size;have dF:Fr ay u2 (u2.alloc (.cells #[.slice a1 gs.length c1,.slice a2 ws.length c2] 139)):=(Fr.refl ay u2).alloc _
 have HB:=O (show ba base (u2.alloc (.cells #[.slice a1 gs.length c1,.slice a2 ws.length c2] 139)) u2.heap.size (.slice a1 gs.length c1) (.slice a2 ws.length c2) gs ws from
  ⟨by omega,af _ _,(Ko.fr bq (lT.none _ _) (fun _ _ h=>h)).fr dF (lT.none _ _) (fun _ _ h=>h),wG.fr dF (lT.none _ _) (fun _ _ h=>h)⟩)
 have HF:=O ((bt.trans bq).trans dF);have HN:=O (show∀k,aY u2.heap.size (.slice a1 gs.length c1) (.slice a2 ws.length c2) k->w.heap.size<=k from fun k hk=>by
  rcases hk with rfl|hk|hk
  ·omega
  ·exact UA k hk
  ·have:=Jp k hk;omega)
 clear Ko wG UA Jp dF h;go_wp2;go_ret;exact⟨_,_,_,rfl,HB.out,HF.out,HN.out⟩
theorem afd:(Tryz.prog.info? 65).map (fun i=>(i.zero,i.size,i.bytes))=some (some (.agg #[.bool false,.string ⟨#[]⟩,.int .i64 0,.bool false,.string ⟨#[]⟩,.int .i64 0,.string ⟨#[]⟩,.string ⟨#[]⟩,.bool false,.string ⟨#[]⟩,.string ⟨#[]⟩,.int .i64 0]),12,144):=by kernel_rfl
theorem afe(v:Value)(xs:List (List Value))(w:World)(h:aN 12 w v xs)(hl:xs.length<=1000000000) :
  Calls Tryz.prog 144 #[v] w fun e w'=>∃v',e=.returned v'/\OwnRows w.heap.size 65 12 w' v' xs/\Fr ay w w':=by
 obtain⟨a,c,hv⟩:=h.form;subst hv;have q22:∀(w:World) (a:Option Addr) (n c n' c':Nat),(binOp .eql 60 (.slice a n c) (.slice none n' c')).run Tryz.prog w=.ok (.bool a.isNone) w:=fun w a n c n' c'=>Lib.run_eql_slice_nil w _ _ a n c n' c' Tryz.underlying60;cases a with
 |none =>
  obtain⟨rfl,rfl⟩:xs=[]/\c=0:=by
   rcases h.2 with ⟨a',c',hv,hs,hc⟩|⟨bk,o',c',hf,_⟩
   ·injection hv with e1 e2 e3
    exact⟨hs,e3.trans (hc e1.symm)⟩
   ·injection hf with e1;cases e1
  go_enter Tryz.func144,Tryz.ntmps144;go_wp2;go_ret;exact⟨_,rfl,OwnRows.nil _ _ _ _,Fr.refl _ _⟩
 |some ad =>
  have HX:=h.1;have HC:=O (show∀j u,xs.flatten[j]?=some u->w.cell? (ad.add j)=some u from fun j u hj=>by
   rcases h.2 with ⟨_,_,_,e,_⟩|⟨bk,o',c',hf,g1,g2,g3,g4⟩
   ·subst e;simp at hj
   ·cases hf;have yr:xs.flatten.length=xs.length*12:=eU (fun x hx=>(HX x hx).1);have hjl:=(List.getElem?_eq_some_iff.1 hj).1;have hd:j/12<xs.length:=by omega
    have hm:j%12<12:=by omega
    have hx:(xs[j/12]).length=12:=(HX _ (List.getElem_mem hd)).1;have e1:=xB (k:=12) (xs:=xs) (fun x hx=>(HX x hx).1) (j:=j/12) (List.getElem?_eq_getElem hd) (i:=j%12) (List.getElem?_eq_getElem (by rw[hx];exact hm));rw[Nat.div_add_mod']at e1;rw[e1]at hj;cases hj;have:=g4 (j/12) _ (List.getElem?_eq_getElem hd) (j%12) _ (List.getElem?_eq_getElem (by rw[hx];exact hm))
    have ea:(Addr.add ⟨bk,o',none⟩ j)=⟨bk,o'+j,none⟩:=by unfold Addr.add;split<;>simp_all
    rw[ea, <-this]
    congr 2
    omega)
  have HF:=O (show xs.flatten.length=xs.length*12 from eU (fun x hx=>(HX x hx).1));have HXX:=O HX;obtain⟨i0,hi,oZ,iy,gU⟩:=info_parts afd;clear HX h;go_enter Tryz.func144,Tryz.ntmps144
  go_wp2_with (at_builtin;refine wpList_append_own _ rfl _ _ 60 rfl w.heap.size 65 i0 (.agg #[.bool false,.string ⟨#[]⟩,.int .i64 0,.bool false,.string ⟨#[]⟩,.int .i64 0,.string ⟨#[]⟩,.string ⟨#[]⟩,.bool false,.string ⟨#[]⟩,.string ⟨#[]⟩,.int .i64 0]) 12 144 Tryz.underlying60 hi oZ iy gU rfl (by decide) _ _ _ rfl (World.ownsRow_made w #[] 0 (Nat.le_refl _) (Nat.zero_le _) rfl) ad xs.length c xs.flatten rfl HF.out ?qc2 ?qc3 ?qc4 ?qc5 ?qc6 ?_)
  case qc2 =>
   intro j u hj;exact Lib.cell?_alloc_some _ (HC.out j u hj)
  case qc3 =>
   intro u hu;obtain⟨x,hx,FR⟩:=List.mem_flatten.1 hu;exact(HXX.out x hx).2 u FR
  case qc4=>unfold maxLen;omega
  case qc5=>omega
  case qc6=>simp
  intro v' w1 a_ gQ Ku;go_wp2;go_ret;refine⟨v',rfl,⟨HXX.out,by simpa using a_⟩,Fr.gW (((Below.refl _ w).alloc (Nat.le_refl _) _).grown gQ (by simp) (by intro k hk;simp[Value.ownBlock]at hk;omega))⟩
theorem abi(base:Nat)(w:World)(b:Nat)(v:Value)(ps:List bI)(h:cy base w b v ps)(hlen:ps.length<1000000) :
  Calls Tryz.prog 74 #[.pointer (some ⟨b,0,none⟩)] w fun e w'=>∃v',e=.returned v'/\OwnRows w.heap.size 65 12 w' v' (ps.map bI.cells)/\Fr ay w w':=by
 obtain⟨av,cv,hv⟩:=h.form;subst hv;have c0:=h.c0;have hc:=O (afe _ _ w h.rows.at (by rw[List.length_map];omega));clear h;go_enter Tryz.func74,Tryz.ntmps74;go_wp2_with fail
 refine hc.out.mono ?_;rintro e u⟨v',rfl,ho,hf⟩;obtain⟨a',c',nu⟩:=ho.form;subst nu;rw[List.length_map]at ho;have HO:=O ho;clear ho;go_wp2;go_ret;exact⟨_,rfl,HO.out,hf⟩
theorem aeA(base:Nat)(w:World)(b:Nat)(v:Value)(ps:List bI)(h:cy base w b v ps)(hlen:ps.length<1000000) :
  Calls Tryz.prog 78 #[.pointer (some ⟨b,0,none⟩)] w fun e w'=>∃b' v',e=.returned (.pointer (some ⟨b',0,none⟩))/\cy w.heap.size w' b' v' ps/\Fr ay w w':=by
 have HL:=O (abi base w b v ps h hlen);clear h;go_enter Tryz.func78,Tryz.ntmps78;go_wp2_with fail
 refine HL.out.mono ?_;rintro e u⟨v',rfl,ho,hf⟩;have dF:Fr ay u (u.alloc (.cells #[v'] 141)):=(Fr.refl ay u).alloc _;have HR:=O (show cy w.heap.size (u.alloc (.cells #[v'] 141)) u.heap.size v' ps from⟨hf.size,af _ _,ho.fr dF (fun _ _ h=>h)⟩);have HF:=O (hf.trans dF);obtain⟨a',c',nu⟩:=ho.form;rw[List.length_map]at nu;subst nu;clear ho HL hf dF;go_wp2;go_ret;exact⟨_,_,rfl,HR.out,HF.out⟩
theorem aff:(Tryz.prog.info? 109).map (fun i=>(i.zero,i.size,i.bytes))=some (some (.agg #[.bool false,.string ⟨#[]⟩,.int .i64 0,.int .i64 0]),4,40):=by kernel_rfl
theorem aeN(v:Value)(xs:List (List Value))(w:World)(h:aN 4 w v xs)(hl:xs.length<=1000000000) :
  Calls Tryz.prog 79 #[v] w fun e w'=>∃v',e=.returned v'/\OwnRows w.heap.size 109 4 w' v' xs/\Fr ay w w':=by
 obtain⟨a,c,hv⟩:=h.form;subst hv;have q22:∀(w:World) (a:Option Addr) (n c n' c':Nat),(binOp .eql 69 (.slice a n c) (.slice none n' c')).run Tryz.prog w=.ok (.bool a.isNone) w:=fun w a n c n' c'=>Lib.run_eql_slice_nil w _ _ a n c n' c' Tryz.underlying69;cases a with
 |none =>
  obtain⟨rfl,rfl⟩:xs=[]/\c=0:=by
   rcases h.2 with ⟨a',c',hv,hs,hc⟩|⟨bk,o',c',hf,_⟩
   ·injection hv with e1 e2 e3
    exact⟨hs,e3.trans (hc e1.symm)⟩
   ·injection hf with e1;cases e1
  go_enter Tryz.func79,Tryz.ntmps79;go_wp2;go_ret;exact⟨_,rfl,OwnRows.nil _ _ _ _,Fr.refl _ _⟩
 |some ad =>
  have HX:=h.1;have HC:=O (show∀j u,xs.flatten[j]?=some u->w.cell? (ad.add j)=some u from fun j u hj=>by
   rcases h.2 with ⟨_,_,_,e,_⟩|⟨bk,o',c',hf,g1,g2,g3,g4⟩
   ·subst e;simp at hj
   ·cases hf;have yr:xs.flatten.length=xs.length*4:=eU (fun x hx=>(HX x hx).1);have hjl:=(List.getElem?_eq_some_iff.1 hj).1;have hd:j/4<xs.length:=by omega
    have hm:j%4<4:=by omega
    have hx:(xs[j/4]).length=4:=(HX _ (List.getElem_mem hd)).1;have e1:=xB (k:=4) (xs:=xs) (fun x hx=>(HX x hx).1) (j:=j/4) (List.getElem?_eq_getElem hd) (i:=j%4) (List.getElem?_eq_getElem (by rw[hx];exact hm));rw[Nat.div_add_mod']at e1;rw[e1]at hj;cases hj;have:=g4 (j/4) _ (List.getElem?_eq_getElem hd) (j%4) _ (List.getElem?_eq_getElem (by rw[hx];exact hm))
    have ea:(Addr.add ⟨bk,o',none⟩ j)=⟨bk,o'+j,none⟩:=by unfold Addr.add;split<;>simp_all
    rw[ea, <-this]
    congr 2
    omega)
  have HF:=O (show xs.flatten.length=xs.length*4 from eU (fun x hx=>(HX x hx).1));have HXX:=O HX;obtain⟨i0,hi,oZ,iy,gU⟩:=info_parts aff;clear HX h;go_enter Tryz.func79,Tryz.ntmps79
  go_wp2_with (at_builtin;refine wpList_append_own _ rfl _ _ 69 rfl w.heap.size 109 i0 (.agg #[.bool false,.string ⟨#[]⟩,.int .i64 0,.int .i64 0]) 4 40 Tryz.underlying69 hi oZ iy gU rfl (by decide) _ _ _ rfl (World.ownsRow_made w #[] 0 (Nat.le_refl _) (Nat.zero_le _) rfl) ad xs.length c xs.flatten rfl HF.out ?qc2 ?qc3 ?qc4 ?qc5 ?qc6 ?_)
  case qc2 =>
   intro j u hj;exact Lib.cell?_alloc_some _ (HC.out j u hj)
  case qc3 =>
   intro u hu;obtain⟨x,hx,FR⟩:=List.mem_flatten.1 hu;exact(HXX.out x hx).2 u FR
  case qc4=>unfold maxLen;omega
  case qc5=>omega
  case qc6=>simp
  intro v' w1 a_ gQ Ku;go_wp2;go_ret;refine⟨v',rfl,⟨HXX.out,by simpa using a_⟩,Fr.gW (((Below.refl _ w).alloc (Nat.le_refl _) _).grown gQ (by simp) (by intro k hk;simp[Value.ownBlock]at hk;omega))⟩
theorem abp(base:Nat)(w:World)(B:Nat)(pv:Nat->bB)(x:bW)(h:aR base w B pv x)(i:Nat)(hi:i<4)(hl:(x.part i).waits.length<68719476736) :
  Calls Tryz.prog 80 #[.pointer (some ⟨B,0,none⟩),.int .i64 i] w (aeu base w (x.part i).waits):=by
 have c:=(h.partAt hi).cell0;have HR:=O (aev base w (pv i).b (pv i).gv (pv i).wv (x.part i).aH (x.part i).waits (h.part i hi).gK hl);have Nr:(i:Int)<4:=by omega
 have qD:¬(i:Int)<0:=by omega
 have Oh:¬(4:Int)<=(i:Int):=by omega
 have Lb:(0:Int)<=(i:Int):=by omega
 clear h hl;go_enter Tryz.func80,Tryz.ntmps80;go_wp2_with fail
 refine HR.out.mono ?_;rintro e u⟨v',rfl,hg⟩;go_wp2;go_ret;exact⟨v',rfl,hg⟩
theorem abm(base:Nat)(w:World)(B:Nat)(pv:Nat->bB)(x:bW)(h:aR base w B pv x)(i:Nat)(hi:i<4)(hl:(x.part i).book.length<1000000) :
  Calls Tryz.prog 27 #[.pointer (some ⟨B,0,none⟩),.int .i64 i] w (fun e w'=>∃v',e=.returned v'/\OwnRows w.heap.size 65 12 w' v' ((x.part i).book.map bI.cells)/\Fr ay w w'):=by
 have c:=(h.partAt hi).dM;have HR:=O (abi base w (pv i).k (pv i).kv (x.part i).book (h.part i hi).book hl);have Nr:(i:Int)<4:=by omega
 have qD:¬(i:Int)<0:=by omega
 have Oh:¬(4:Int)<=(i:Int):=by omega
 have Lb:(0:Int)<=(i:Int):=by omega
 clear h hl;go_enter Tryz.func27,Tryz.ntmps27;go_wp2_with fail
 refine HR.out.mono ?_;rintro e u⟨v',rfl,hg⟩;go_wp2;go_ret;exact⟨v',rfl,hg⟩
theorem abq(base:Nat)(w:World)(B:Nat)(pv:Nat->bB)(x:bW)(h:aR base w B pv x)(i:Nat)(hi:i<4)(hl:(x.part i).dh.length<=1000000) :
  Calls Tryz.prog 32 #[.pointer (some ⟨B,0,none⟩),.int .i64 i] w (fun e w'=>∃v',e=.returned v'/\OwnRows w.heap.size 109 4 w' v' ((x.part i).dh.map ic)/\Fr ay w w'):=by
 have c:=(h.partAt hi).ir;have HR:=O (aeN (pv i).cv ((x.part i).dh.map ic) w (h.part i hi).dh.at (by rw[List.length_map];omega));have Nr:(i:Int)<4:=by omega
 have qD:¬(i:Int)<0:=by omega
 have Oh:¬(4:Int)<=(i:Int):=by omega
 have Lb:(0:Int)<=(i:Int):=by omega
 obtain⟨a,k,hcv⟩:=(h.part i hi).dh.form;rw[List.length_map]at hcv;rw[hcv]at c HR;clear h hl;go_enter Tryz.func32,Tryz.ntmps32;go_wp2_with fail
 refine HR.out.mono ?_;rintro e u⟨v',rfl,hg⟩;go_wp2;go_ret;exact⟨v',rfl,hg⟩
theorem OwnRows.mono{b b' k:Nat}{e:TypeId}{w:World}{v:Value}{xs:List (List Value)}(h:OwnRows b e k w v xs)(hb:b'<=b):OwnRows b' e k w v xs:=⟨h.1,World.ownsRow.mono h.2 hb⟩
theorem cy.mono{b b' n:Nat}{w:World}{v:Value}{ps:List bI}(h:cy b w n v ps)(hb:b'<=b):cy b' w n v ps:=⟨Nat.le_trans hb h.low,h.cR,OwnRows.mono h.rows hb⟩
def cpP(aac:Nat->bB)(k i:Nat):List Value:=if i<k then(aac i).cells else [.pointer none,.pointer none,.slice none 0 0]
def cpC(aac:Nat->bB)(now:Int)(k:Nat):List Value:=cpP aac k 0++(cpP aac k 1++(cpP aac k 2++(cpP aac k 3++[.int .i64 now])))
theorem ae5(aac:Nat->bB)(now:Int){k:Nat}(hk:k<4)(v:bB):lG (cpC aac now k) (k*3) v=cpC (EJ aac k v) now (k+1):=by
 unfold lG cpC cpP EJ bB.cells
 match k,hk with
 |0,_=>rfl
 |1,_=>rfl
 |2,_=>rfl
 |3,_=>rfl
theorem afg(aac:Nat->bB)(now:Int){k:Nat}(hk:k<4):(cpC aac now k)[k*3]?=some (.pointer none)/\(cpC aac now k)[k*3+1]?=some (.pointer none)/\(cpC aac now k)[k*3+2]?=some (.slice none 0 0):=by
 unfold cpC cpP
 match k,hk with
 |0,_=>exact⟨rfl,rfl,rfl⟩
 |1,_=>exact⟨rfl,rfl,rfl⟩
 |2,_=>exact⟨rfl,rfl,rfl⟩
 |3,_=>exact⟨rfl,rfl,rfl⟩
structure abl (base:Nat) (w:World) (x:bW) (k:Nat) (aac:Nat->bB) (W:World):Prop where
 fr:Fr ay w W
 cR:W.heap[w.heap.size]?=some (.cells (cpC aac x.now k).toArray 105 (0,0))
 part:∀i,i<k->cC base W (aac i) (x.part i)
 new:∀i,i<k->∀j,(aac i).gL j->w.heap.size<j
 apart:∀i j,i<k->j<k->i≠j->∀n,(aac i).gL n->¬(aac j).gL n
theorem abl.step{base:Nat}{w W U:World}{x:bW}{k:Nat}{aac:Nat->bB}(h:abl base w x k aac W)(hb:base<=w.heap.size)(hk:k<4)(hU:Fr ay W U){v:bB}(hp:cC base U v (x.part k))(hn:∀j,v.gL j->W.heap.size<=j) :
  abl base w x (k+1) (EJ aac k v) (((U.setCell ⟨w.heap.size,k*3,none⟩ (.pointer (some ⟨v.b,0,none⟩))).setCell ⟨w.heap.size,k*3+1,none⟩ (.pointer (some ⟨v.k,0,none⟩))).setCell ⟨w.heap.size,k*3+2,none⟩ v.cv):=by
 have hN:w.heap.size<W.heap.size:=aj h.cR;have o7:=hU.keep h.cR (fun h=>h);have M3:Fr (one w.heap.size) U (((U.setCell ⟨w.heap.size,k*3,none⟩ (.pointer (some ⟨v.b,0,none⟩))).setCell ⟨w.heap.size,k*3+1,none⟩ (.pointer (some ⟨v.k,0,none⟩))).setCell ⟨w.heap.size,k*3+2,none⟩ v.cv) :=
  (((Fr.refl (one w.heap.size) U).setCell (p:=⟨w.heap.size,k*3,none⟩) (fun _=>rfl) _).setCell (p:=⟨w.heap.size,k*3+1,none⟩) (fun _=>rfl) _).setCell (p:=⟨w.heap.size,k*3+2,none⟩) (fun _=>rfl) _
 have kb:lT base U (one w.heap.size):=by
  rintro j rfl _;exact⟨hb,fun c f e=>by rw[o7]at e;cases e⟩
 have e1:=aP o7 (k*3) (.pointer (some ⟨v.b,0,none⟩));have e2:=aP e1 (k*3+1) (.pointer (some ⟨v.k,0,none⟩));have e3:=aP e2 (k*3+2) v.cv;have vT:∀i,i<k->∀j,(aac i).gL j->j<W.heap.size:=fun i hi j hj=>(h.part i hi).fO hj
 refine⟨(((h.fr.trans hU).dI (p:=⟨w.heap.size,k*3,none⟩) (Nat.le_refl _) _).dI (p:=⟨w.heap.size,k*3+1,none⟩) (Nat.le_refl _) _).dI (p:=⟨w.heap.size,k*3+2,none⟩) (Nat.le_refl _) _,?_,fun i hi=>?_,fun i hi j hj=>?_,fun i j hi hj hij n UA Jp=>?_⟩
 ·rw[e3, <-ae5 aac x.now hk v];unfold lG;simp
 ·by_cases YS:i=k
  ·subst YS;rw[JU];exact hp.fr M3 kb (fun j hj e=>by have e':j=w.heap.size:=e;have:=hn j hj;omega)
  ·rw[uo aac v YS];have afk:i<k:=by omega
   exact((h.part i afk).bd hU).fr M3 kb (fun j hj e=>by have e':j=w.heap.size:=e;have:=h.new i afk j hj;omega)
 ·by_cases YS:i=k
  ·subst YS;rw[JU]at hj;have:=hn j hj;omega
  ·rw[uo aac v YS]at hj;exact h.new i (by omega) j hj
 ·by_cases YS:i=k
  ·subst YS;rw[JU]at UA;rw[uo aac v (Ne.symm hij)]at Jp;have a1:=hn n UA;have a2:=vT j (by omega) n Jp;omega
  ·rw[uo aac v YS]at UA;by_cases hjk:j=k
   ·subst hjk;rw[JU]at Jp;have a1:=hn n Jp;have a2:=vT i (by omega) n UA;omega
   ·rw[uo aac v hjk]at Jp;exact h.apart i j (by omega) (by omega) hij n UA Jp
theorem abl.done{base:Nat}{w W:World}{x:bW}{aac:Nat->bB}(h:abl base w x 4 aac W)(hb:base<=w.heap.size):aR base W w.heap.size aac x :=
 ⟨hb,h.cR,h.part,h.apart⟩
def af9(base:Nat)(w:World)(x:bW)(t:Value)(wr:World):Prop:=∃(k:Nat) (aac:Nat->bB),k<=4/\t=.int .i64 k/\abl base w x k aac wr
def aeU(base:Nat)(w:World)(x:bW)(e:Ending)(w':World):Prop :=
 ∃B aac,e=.returned (.pointer (some ⟨B,0,none⟩))/\aR base w' B aac x/\Fr ay w w'/\∀j,jV B aac j->w.heap.size<=j
theorem aeV(base:Nat)(w:World)(B:Nat)(pv:Nat->bB)(x:bW)(h:aR base w B pv x)(hs:∀i,i<4->(x.part i).aH.length<68719476736/\(x.part i).waits.length<68719476736/\(x.part i).book.length<1000000/\(x.part i).dh.length<=1000000) :
  Calls Tryz.prog 31 #[.pointer (some ⟨B,0,none⟩)] w (aeU base w x):=by
 have hb:base<=w.heap.size:=Nat.le_trans h.low (Nat.le_of_lt h.lt);obtain⟨x1,sM⟩:∃x1,x1=w.alloc (.cells #[.pointer none,.pointer none,.slice none 0 0,.pointer none,.pointer none,.slice none 0 0,.pointer none,.pointer none,.slice none 0 0,.pointer none,.pointer none,.slice none 0 0,.int .i64 x.now] 105):=⟨_,rfl⟩;have bt:Fr ay w x1:=by rw[sM];exact(Fr.refl _ _).alloc _
 have h0:abl base w x 0 pv x1:=⟨bt,by rw[sM];exact af _ _,fun i hi=>absurd hi (Nat.not_lt_zero i),fun i hi=>absurd hi (Nat.not_lt_zero i),fun i j hi=>absurd hi (Nat.not_lt_zero i)⟩;have H0:=O h0;have HW:=O h;have HB:=O hb;have HS:=O hs;have o7:=h.cR;have abb:=bt.keep h.cR (fun h=>h);unfold fo bB.cells at o7 abb;simp only[List.cons_append,List.nil_append]at o7 abb
 have aiN:w.cell? ⟨B,12,none⟩=some (.int .i64 x.now):=by simp only[World.cell?,o7];rfl
 have c0:x1.cell? ⟨B,0,none⟩=some (.pointer (some ⟨(pv 0).b,0,none⟩)):=by simp only[World.cell?,abb];rfl
 have c1:x1.cell? ⟨B,1,none⟩=some (.pointer (some ⟨(pv 0).k,0,none⟩)):=by simp only[World.cell?,abb];rfl
 have c2:x1.cell? ⟨B,2,none⟩=some ((pv 0).cv):=by simp only[World.cell?,abb];rfl
 have c3:x1.cell? ⟨B,3,none⟩=some (.pointer (some ⟨(pv 1).b,0,none⟩)):=by simp only[World.cell?,abb];rfl
 have c4:x1.cell? ⟨B,4,none⟩=some (.pointer (some ⟨(pv 1).k,0,none⟩)):=by simp only[World.cell?,abb];rfl
 have c5:x1.cell? ⟨B,5,none⟩=some ((pv 1).cv):=by simp only[World.cell?,abb];rfl
 have c6:x1.cell? ⟨B,6,none⟩=some (.pointer (some ⟨(pv 2).b,0,none⟩)):=by simp only[World.cell?,abb];rfl
 have c7:x1.cell? ⟨B,7,none⟩=some (.pointer (some ⟨(pv 2).k,0,none⟩)):=by simp only[World.cell?,abb];rfl
 have c8:x1.cell? ⟨B,8,none⟩=some ((pv 2).cv):=by simp only[World.cell?,abb];rfl
 have c9:x1.cell? ⟨B,9,none⟩=some (.pointer (some ⟨(pv 3).b,0,none⟩)):=by simp only[World.cell?,abb];rfl
 have FT:x1.cell? ⟨B,10,none⟩=some (.pointer (some ⟨(pv 3).k,0,none⟩)):=by simp only[World.cell?,abb];rfl
 have Xl:x1.cell? ⟨B,11,none⟩=some ((pv 3).cv):=by simp only[World.cell?,abb];rfl
 have ZL:=O (show∀k:Nat,k<4->∀u,Sem.run Tryz.prog (Instr.index 103 (.agg #[.pointer (some ⟨(pv 0).b,0,none⟩),.pointer (some ⟨(pv 0).k,0,none⟩),(pv 0).cv,.pointer (some ⟨(pv 1).b,0,none⟩),.pointer (some ⟨(pv 1).k,0,none⟩),(pv 1).cv,.pointer (some ⟨(pv 2).b,0,none⟩),.pointer (some ⟨(pv 2).k,0,none⟩),(pv 2).cv,.pointer (some ⟨(pv 3).b,0,none⟩),.pointer (some ⟨(pv 3).k,0,none⟩),(pv 3).cv]) (.int .i64 k)) u=.ok (.agg #[.pointer (some ⟨(pv k).b,0,none⟩),.pointer (some ⟨(pv k).k,0,none⟩),(pv k).cv]) u from fun k hk u=>by
  rcases(show k=0\/k=1\/k=2\/k=3 by omega)with rfl|rfl|rfl|rfl
  ·kernel_rfl
  ·kernel_rfl
  ·kernel_rfl
  ·kernel_rfl)
 have HX1:=O sM;rw[sM]at c0 c1 c2 c3 c4 c5 c6 c7 c8 c9 FT Xl;clear h0 h hb hs o7 abb sM bt;go_enter Tryz.func31,Tryz.ntmps31;go_wp2_with fail
 rw[<-HX1.out];clear c0 c1 c2 c3 c4 c5 c6 c7 c8 c9 FT Xl aiN;go_loopw[16] (af9 base w x) (fun i _=>4-(intOf i).toNat)
 case atStart=>exact⟨0,pv,Nat.zero_le _,rfl,H0.out⟩
 case round =>
  obtain⟨k,aac,hk,rfl,hcp⟩:=hrel;by_cases cG:k<4
  ·have lf:(k:Int)<4:=by omega
   have U8:¬(k:Int)<0:=by omega
   have ax4:(0:Int)<=(k:Int):=by omega
   have ait:¬(4:Int)<=(k:Int):=by omega
   have rm:=ZL.out k cG;have HCP:=O hcp;have HKS:=O cG;obtain⟨cvk,ahw⟩:∃c,c=(pv k).cv:=⟨_,rfl⟩;obtain⟨ca,cc,hcf⟩:=(HW.out.part k cG).dh.form;rw[List.length_map]at hcf;rw[hcf]at rm;obtain⟨y1,ze⟩:∃y1,y1=wr.alloc (.cells #[.pointer (some ⟨(pv k).b,0,none⟩),.pointer (some ⟨(pv k).k,0,none⟩),.slice ca (x.part k).dh.length cc] 102):=⟨_,rfl⟩;have hfy:Fr ay wr y1:=by rw[ze];exact(Fr.refl _ _).alloc _
   have mi:y1.heap[wr.heap.size]?=some (.cells #[.pointer (some ⟨(pv k).b,0,none⟩),.pointer (some ⟨(pv k).k,0,none⟩),.slice ca (x.part k).dh.length cc] 102 (0,0)):=by rw[ze];exact af _ _
   have HWY:=O (HW.out.bd (hcp.fr.trans hfy));have HFY:=O hfy;have HBY:=O mi;have HY1:=O ze;have Yb:=O hcf;have HC:=O (show∀U,Fr ay y1 U->(U.cell? ⟨wr.heap.size,0,none⟩=some (.pointer (some ⟨(pv k).b,0,none⟩))/\U.cell? ⟨wr.heap.size,1,none⟩=some (.pointer (some ⟨(pv k).k,0,none⟩))/\U.cell? ⟨wr.heap.size,2,none⟩=some (.slice ca (x.part k).dh.length cc))from fun U hU=>by
    have j:=hU.keep HBY.out (fun h=>h);refine⟨?_,?_,?_⟩<;>simp[World.cell?,j])
   have HKB:=O (show∀U,Fr ay y1 U->Calls Tryz.prog 77 #[.pointer (some ⟨(pv k).b,0,none⟩)] U (aeD base U (x.part k).aH (x.part k).waits)from fun U hU=>ae4 base U (pv k).b (pv k).gv (pv k).wv (x.part k).aH (x.part k).waits ((HWY.out.bd hU).part k HKS.out).gK (HS.out k HKS.out).1 (HS.out k HKS.out).2.1)
   have HKK:=O (show∀U,Fr ay y1 U->Calls Tryz.prog 78 #[.pointer (some ⟨(pv k).k,0,none⟩)] U fun e w'=>∃b' v',e=.returned (.pointer (some ⟨b',0,none⟩))/\cy U.heap.size w' b' v' (x.part k).book/\Fr ay U w' from fun U hU=>aeA base U (pv k).k (pv k).kv (x.part k).book ((HWY.out.bd hU).part k HKS.out).book (HS.out k HKS.out).2.2.1)
   have HKC:=O (show∀U,Fr ay y1 U->Calls Tryz.prog 79 #[.slice ca (x.part k).dh.length cc] U fun e w'=>∃v',e=.returned v'/\OwnRows U.heap.size 109 4 w' v' ((x.part k).dh.map ic)/\Fr ay U w' from fun U hU=>by
    have hh:=((HWY.out.bd hU).part k HKS.out).dh.at;rw[Yb.out]at hh;exact aeN _ _ U hh (by rw[List.length_map];have:=(HS.out k HKS.out).2.2.2;omega))
   clear hcp hfy mi ze hcf ahw cvk cG;go_wp2_with fail
   rw[<-HY1.out];refine wp_region_held_drew (S:=(fun U=>U.cell? ⟨wr.heap.size,0,none⟩=some (.pointer (some ⟨(pv k).b,0,none⟩))/\U.cell? ⟨wr.heap.size,1,none⟩=some (.pointer (some ⟨(pv k).k,0,none⟩))/\U.cell? ⟨wr.heap.size,2,none⟩=some (.slice ca (x.part k).dh.length cc))) (by kernel_rfl) (HC.out _ (Fr.drew (Fr.refl _ _))) ?_;intro cW;refine tk 0 ⟨some 20,_,_,_,_,_⟩ (v:=?_) rfl (by rfl) ?hy ?_
   case hy=>(intro w hSw;(try dsimp only at hSw);go_simp<;>with_reducible rfl)
   try simp only[Act.put,sA,sB,sC]
   refine tk 1 ⟨some 21,_,_,_,_,_⟩ (v:=?_) rfl (by rfl) ?hy ?_
   case hy=>(intro w hSw;(try dsimp only at hSw);go_simp<;>with_reducible rfl)
   try simp only[Act.put,sA,sB,sC]
   refine tk 2 ⟨some 22,_,_,_,_,_⟩ (v:=?_) rfl (by rfl) ?hy ?_
   case hy=>(intro w hSw;(try dsimp only at hSw);go_simp<;>with_reducible rfl)
   try simp only[Act.put,sA,sB,sC]
   refine tk 3 ⟨some 23,_,_,_,_,_⟩ (v:=?_) rfl (by rfl) ?hy ?_
   case hy=>(intro w hSw;(try dsimp only at hSw);go_simp<;>with_reducible rfl)
   try simp only[Act.put,sA,sB,sC]
   refine tk 5 ⟨some 25,_,_,_,_,_⟩ (v:=?_) rfl (by rfl) ?hy ?_
   case hy=>(intro w hSw;(try dsimp only at hSw);go_simp<;>with_reducible rfl)
   try simp only[Act.put,sA,sB,sC]
   refine tk 6 ⟨some 26,_,_,_,_,_⟩ (v:=?_) rfl (by rfl) ?hy ?_
   case hy=>(intro w hSw;(try dsimp only at hSw);go_simp<;>with_reducible rfl)
   try simp only[Act.put,sA,sB,sC]
   refine tk 8 ⟨some 28,_,_,_,_,_⟩ (v:=?_) rfl (by rfl) ?hy ?_
   case hy=>(intro w hSw;(try dsimp only at hSw);go_simp<;>with_reducible rfl)
   try simp only[Act.put,sA,sB,sC]
   refine tk 9 ⟨some 29,_,_,_,_,_⟩ (v:=?_) rfl (by rfl) ?hy ?_
   case hy=>(intro w hSw;(try dsimp only at hSw);go_simp<;>with_reducible rfl)
   try simp only[Act.put,sA,sB,sC]
   refine tk 12 ⟨some 32,_,_,_,_,_⟩ (v:=?_) rfl (by rfl) ?hy ?_
   case hy=>(intro w hSw;(try dsimp only at hSw);go_simp<;>with_reducible rfl)
   try simp only[Act.put,sA,sB,sC]
   refine tk 13 ⟨some 33,_,_,_,_,_⟩ (v:=?_) rfl (by rfl) ?hy ?_
   case hy=>(intro w hSw;(try dsimp only at hSw);go_simp<;>with_reducible rfl)
   try simp only[Act.put,sA,sB,sC]
   refine wpAnyH_ready (rs:=[4]) (by kernel_rfl) (by simp) ?_;refine AllReadyH.cons rfl (fun K hK=>?_) AllReadyH.nil;go_simp;refine(HKB.out _ (Fr.drew (Fr.refl ay y1))).mono ?_;rintro e u1⟨aah,aaj,kw,rfl,hb,hf,hn⟩;have gV:=O ((Fr.drew (Fr.refl ay y1)).trans hf);have He:=O hf;have HGB:=O hb;have HGN:=O hn;clear hb hf hn;refine hK.out _ _ (HC.out _ gV.out) ?_;intro CY;clear hK cW K
   try simp only[Act.put,sA,sB,sC]
   refine wpAnyH_ready (rs:=[7]) (by kernel_rfl) (by simp) ?_;refine AllReadyH.cons rfl (fun K hK=>?_) AllReadyH.nil;go_simp;refine(HKK.out _ (gV.out)).mono ?_;rintro e u2⟨aak,kv,rfl,hb,hf⟩;have dk:=O ((gV.out).trans hf);have HQ2:=O hf;have HGK:=O hb;clear hb hf;refine hK.out _ _ (HC.out _ dk.out) ?_;intro G_;clear hK CY K
   try simp only[Act.put,sA,sB,sC]
   refine wpAnyH_ready (rs:=[10]) (by kernel_rfl) (by simp) ?_;refine AllReadyH.cons rfl (fun K hK=>?_) AllReadyH.nil;go_simp;refine(HKC.out _ (dk.out)).mono ?_;rintro e u3⟨kc,rfl,hb,hf⟩;have dV:=O ((dk.out).trans hf);have HQ3:=O hf;have HGC:=O hb;obtain⟨aan,aaq,Xw⟩:=hb.form;rw[List.length_map]at Xw;subst Xw;clear hb hf;refine hK.out _ _ (HC.out _ dV.out) ?_;intro PZ;clear hK G_ K
   try simp only[Act.put,sA,sB,sC]
   refine tk 11 ⟨some 31,_,_,_,_,_⟩ (v:=?_) rfl (by rfl) ?hy ?_
   case hy=>(intro w hSw;(try dsimp only at hSw);go_simp<;>with_reducible rfl)
   try simp only[Act.put,sA,sB,sC]
   refine tk 14 ⟨some 34,_,_,_,_,_⟩ (v:=?_) rfl (by rfl) ?hy ?_
   case hy=>(intro w hSw;(try dsimp only at hSw);go_simp<;>with_reducible rfl)
   try simp only[Act.put,sA,sB,sC]
   refine wpAnyH_ready (rs:=[15]) (by kernel_rfl) (by simp) ?_;refine AllReadyH.cons rfl (fun K hK=>?_) AllReadyH.nil
   have fR:=HCP.out.step HB.out HKS.out (HFY.out.trans dV.out) (v:=⟨aah,aaj,kw,aak,kv,.slice aan (x.part k).dh.length aaq⟩) ⟨HGB.out.bd (HQ2.out.trans HQ3.out),(cy.mono HGK.out (Nat.le_trans (Nat.le_trans HB.out HCP.out.fr.size) (HFY.out.trans (gV.out)).size)).bd HQ3.out,OwnRows.fr (OwnRows.mono HGC.out (Nat.le_trans (Nat.le_trans HB.out HCP.out.fr.size) (HFY.out.trans (dk.out)).size)) (Fr.refl _ _) (fun _ _ h=>h)⟩ (by
    rintro j(hj|hj|hj)
    ·exact Nat.le_trans (HFY.out.trans (Fr.drew (Fr.refl _ _))).size (HGN.out j hj)
    ·exact Nat.le_trans (HFY.out.trans (gV.out)).size (HGK.out.iU hj)
    ·exact Nat.le_trans (HFY.out.trans (dk.out)).size (HGC.out.block _ hj))
   have jn:=O fR;have o5:=dV.out.keep (HFY.out.keep HCP.out.cR (fun h=>h)) (fun h=>h);obtain⟨q0,q1,q2⟩:=afg aac x.now HKS.out;have c0:u3.cell? ⟨w.heap.size,k*3,none⟩=some (.pointer none):=by simp[World.cell?,o5,q0]
   have c1:u3.cell? ⟨w.heap.size,k*3+1,none⟩=some (.pointer none):=by simp[World.cell?,o5,q1]
   have c2:u3.cell? ⟨w.heap.size,k*3+2,none⟩=some (.slice none 0 0):=by simp[World.cell?,o5,q2]
   have f0:∀j,u3.frozen? ⟨w.heap.size,j,none⟩=false:=fun j=>by simp[World.frozen?,o5]
   have f1:=f0 (k*3);have f2:=f0 (k*3+1);have f3:=f0 (k*3+2);obtain⟨W9,ij⟩:∃W9,W9=((u3.setCell ⟨w.heap.size,k*3,none⟩ (.pointer (some ⟨aah,0,none⟩))).setCell ⟨w.heap.size,k*3+1,none⟩ (.pointer (some ⟨aak,0,none⟩))).setCell ⟨w.heap.size,k*3+2,none⟩ (.slice aan (x.part k).dh.length aaq):=⟨_,rfl⟩
   have HS9:=O (show abl base w x (k+1) (EJ aac k ⟨aah,aaj,kw,aak,kv,.slice aan (x.part k).dh.length aaq⟩) W9 by rw[ij];exact jn.out);have M3:Fr (one w.heap.size) u3 W9:=by rw[ij];exact(((Fr.refl (one w.heap.size) u3).setCell (p:=⟨w.heap.size,k*3,none⟩) (fun _=>rfl) _).setCell (p:=⟨w.heap.size,k*3+1,none⟩) (fun _=>rfl) _).setCell (p:=⟨w.heap.size,k*3+2,none⟩) (fun _=>rfl) _
   have hb9:=M3.keep (dV.out.keep HBY.out (fun h=>h)) (fun e=>by have e':wr.heap.size=w.heap.size:=e;have:=aj HCP.out.cR;omega);have HB9:=O hb9;clear M3 hb9;clear fR q0 q1 q2 f0 o5;go_simp;rw[<-ij];clear ij;have hb9:=HB9.out;refine hK.out _ _ ⟨by simp[World.cell?,hb9],by simp[World.cell?,hb9],by simp[World.cell?,hb9]⟩ ?_;intro hS4;clear hK PZ K hS4 hb9
   try simp only[Act.put,sA,sB,sC]
   refine wpAnyH_done (by kernel_rfl) ?_ _;go_wp2_with fail
   go_roundw
   case rel=>exact⟨k+1,_,by omega,by go_num,HS9.out⟩
   case measure=>simp[intOf];omega
  ·have MU:k=4:=by omega
   subst MU;have HD:=O (hcp.done HB.out);have py:=O hcp.fr;have Qx:=O (show∀j,jV w.heap.size aac j->w.heap.size<=j from fun j hj=>by
    rcases hj with rfl|⟨i,hi,hj⟩
    ·exact Nat.le_refl _
    ·exact Nat.le_of_lt (hcp.new i hi j hj))
   clear hcp H0;go_wp2;go_ret;exact⟨_,_,rfl,HD.out,py.out,Qx.out⟩
structure abe (a U:World) (B:Nat) (pv:Nat->bB) (x:bW) (C:Nat) (aac:Nat->bB) (y:bW):Prop where
 one:aR a.heap.size U B pv x
 two:aR a.heap.size U C aac y
 fr:Fr ay a U
 off:∀k,jV C aac k->¬jV B pv k
section
variable {a U U' : World} {B C : Nat} {pv aac : Nat → bB} {x x' y : bW}
theorem abe.swap(h:abe a U B pv x C aac y):abe a U C aac y B pv x:=⟨h.two,h.one,h.fr,fun k hk Zw=>h.off k Zw hk⟩
theorem abe.bd(h:abe a U B pv x C aac y)(hf:Fr ay U U'):abe a U' B pv x C aac y:=⟨h.one.bd hf,h.two.bd hf,h.fr.trans hf,h.off⟩
def abv(a U:World)(B:Nat)(x:bW)(C:Nat)(aac:Nat->bB)(y:bW)(U':World):Prop :=
 ∃zu,abe a U' B zu x C aac y/\∀(n:Nat) (c:Array Value) (t:TypeId),U.heap[n]?=some (.cells c t (0,0))->fJ t->t≠105->U'.heap[n]?=some (.cells c t (0,0))
theorem abe.step(h:abe a U B pv x C aac y)(hp:aC a.heap.size U B pv x' U'):abv a U B x' C aac y U':=by
 have hf':=hp.frame h.one h.fr (Nat.le_refl _);obtain⟨zu,h1,h2,h3⟩:=hp;refine⟨zu,⟨h1,h.two.fr h2 h.one.off h.off,hf',fun k hk Zw=>?_⟩,fun n c t hn ht hw=>h2.keep hn (h.one.yT hn ht hw)⟩;rcases h3 k Zw with e|e
 ·exact h.off k hk e
 ·have:=h.two.fO hk;omega
theorem abe.ahx(h:abe a U B pv x C aac y)(hi:fW x)(ht:fN a){o:ei}{hs:List dW}(ho:bg U o hs) :
  Calls Tryz.prog 17 #[.pointer (some ⟨B,0,none⟩),.agg o.cells.toArray] U (fun e w'=>e=.returned (.agg #[.int .i64 (cV x (o.bF hs)).2.what,.string (cV x (o.bF hs)).2.head,.int .i64 (cV x (o.bF hs)).2.cert])/\abv a U B (cV x (o.bF hs)).1 C aac y w') :=
 (ja h.one h.fr hi ht ho).mono fun _ _ hh=>⟨hh.1,h.step hh.2⟩
theorem abe.copied(h:aR a.heap.size U B pv x)(hf:Fr ay a U)(hc:aR a.heap.size U' C aac y)(hu:Fr ay U U')(hn:∀j,jV C aac j->U.heap.size<=j):abe a U' B pv x C aac y :=
 ⟨h.bd hu,hc,hf.trans hu,fun k hk Zw=>by
  have h1:=hn k hk;have h2:=h.fO Zw;omega⟩
end
theorem fW.xc{x:bW}(h:fW x):∀i,i<4->(x.part i).aH.length<68719476736/\(x.part i).waits.length<68719476736/\(x.part i).book.length<1000000/\(x.part i).dh.length<=1000000:=fun i _=>by
 obtain⟨l1,l2,l3,l4⟩:=(h.ok.part i).xc;exact⟨by omega,by omega,by omega,by omega⟩
theorem abn(v v':Value)(ss:List ByteArray)(w:World)(h:cX w v ss)(h':cX w v' ss)(hl:ss.length<=9223372036854775807) :
  Calls Tryz.prog 90 #[v,v'] w fun e w'=>e=.returned (.bool true)/\Fr ay w w':=by
 rcases h with ⟨a,c,rfl,rfl,_⟩|⟨bk,o,c,rfl,h1,h2,h3,h4⟩
 ·obtain⟨a',c',rfl⟩:=h'.form;refine(Tryz.slices_Equal_string_empty a a' c 0 c' w (by omega)).mono ?_;rintro e w'⟨rfl,rfl⟩;exact⟨rfl,Fr.refl _ _⟩
 ·rcases h' with ⟨a',c',rfl,rfl,_⟩|⟨ZE,o',c',rfl,JG,h2',h3',h4'⟩
  ·refine(Tryz.slices_Equal_string_empty (some ⟨bk,o,none⟩) a' c 0 c' w (by omega)).mono ?_;rintro e w'⟨rfl,rfl⟩;exact⟨rfl,Fr.refl _ _⟩
  ·refine(Tryz.slices_Equal_string bk o ss.length c ZE o' ss.length c' ss ss w (Nat.le_refl _) (Nat.le_refl _) hl hl (fun j hj=>h4 j _ (by simp[List.getD,hj])) (fun j hj=>h4' j _ (by simp[List.getD,hj]))).mono ?_;rintro e w'⟨rfl,q,rfl⟩;exact⟨by simp,Fr.drewN _ (Fr.refl _ _)⟩
theorem aey(u p:ByteArray)(w:World):(binOp .eql 31 (.agg #[.string u,.string p]) (.agg #[.string u,.string p])).run Tryz.prog w=.ok (.bool true) w:=by
 go_simp
theorem abj(r r':cQ Value)(a:cQ aF)(w:World)(h:r.Reads (cX w) a)(h':r'.Reads (cX w) a)(hl:a.dom.length<=9223372036854775807) :
  Calls Tryz.prog 81 #[.agg r.cells.toArray,.agg r'.cells.toArray] w fun e w'=>e=.returned (.bool true)/\Fr ay w w':=by
 obtain⟨e1,e2,e3,e4,e5,e6,e7,hd⟩:=h;obtain⟨f1,f2,f3,f4,f5,f6,f7,hd'⟩:=h';obtain⟨ad,cd,Aw⟩:=hd.form;obtain⟨aar,cd',abo⟩:=hd'.form;unfold cQ.cells;rw[e1,e2,e3,e4,e5,e6,e7,f1,f2,f3,f4,f5,f6,f7,Aw,abo];rw[Aw]at hd;rw[abo]at hd'
 have hf:Fr ay w _:=((Fr.refl ay w).alloc (.cells #[.int .i64 a.scheme,.string a.ar,.string a.aE,.string a.aK,.bool a.aL,.string a.bU,.bool a.aX,.slice ad a.dom.length cd] 47)).alloc (.cells #[.int .i64 a.scheme,.string a.ar,.string a.aE,.string a.aK,.bool a.aL,.string a.bU,.bool a.aX,.slice aar a.dom.length cd'] 47);have EQ:=O (abn _ _ _ _ (hd.bu hf) (hd'.bu hf) hl)
 clear e1 e2 e3 e4 e5 e6 e7 f1 f2 f3 f4 f5 f6 f7 Aw abo hd hd';go_enter Tryz.func81,Tryz.ntmps81;go_wp2_with fail
 refine EQ.out.mono ?_;rintro e w1⟨rfl,bt⟩;go_wp2;go_ret;exact⟨rfl,hf.trans bt⟩
theorem abt(r r':ai Value)(g:ai aF)(w:World)(h:r.Reads (cX w) g)(h':r'.Reads (cX w) g)(hl:g.a.dom.length<=9223372036854775807)(si:g.paths.length<=9223372036854775807) :
  Calls Tryz.prog 83 #[.agg r.cells.toArray,.agg r'.cells.toArray] w fun e w'=>e=.returned (.bool true)/\Fr ay w w':=by
 obtain⟨e1,e2,e3,e4,e5,e6,hd⟩:=h;obtain⟨f1,f2,f3,f4,f5,f6,hd'⟩:=h';obtain⟨ad,cd,Aw⟩:=hd.form;obtain⟨aar,cd',abo⟩:=hd'.form;obtain⟨am,cm,hm⟩:=e5.2.2.2.2.2.2.2.form;obtain⟨aaw,cm',NF⟩:=f5.2.2.2.2.2.2.2.form
 have hr:r.cells=[.bool g.o.ae,.string g.o.host,.int .i64 g.o.port,.bool g.proxy,.string g.user,.string g.pass,.int .i64 g.a.scheme,.string g.a.ar,.string g.a.aE,.string g.a.aK,.bool g.a.aL,.string g.a.bU,.bool g.a.aX,.slice am g.a.dom.length cm,.int .i64 g.count,.slice ad g.paths.length cd]:=by
  unfold ai.cells;rw[e1,e2,e3,e4,e5.1,e5.2.1,e5.2.2.1,e5.2.2.2.1,e5.2.2.2.2.1,e5.2.2.2.2.2.1,e5.2.2.2.2.2.2.1,hm,e6,Aw]
 have hr':r'.cells=[.bool g.o.ae,.string g.o.host,.int .i64 g.o.port,.bool g.proxy,.string g.user,.string g.pass,.int .i64 g.a.scheme,.string g.a.ar,.string g.a.aE,.string g.a.aK,.bool g.a.aL,.string g.a.bU,.bool g.a.aX,.slice aaw g.a.dom.length cm',.int .i64 g.count,.slice aar g.paths.length cd']:=by
  unfold ai.cells;rw[f1,f2,f3,f4,f5.1,f5.2.1,f5.2.2.1,f5.2.2.2.1,f5.2.2.2.2.1,f5.2.2.2.2.2.1,f5.2.2.2.2.2.2.1,NF,f6,abo]
 have hra:r.a.cells=[.int .i64 g.a.scheme,.string g.a.ar,.string g.a.aE,.string g.a.aK,.bool g.a.aL,.string g.a.bU,.bool g.a.aX,.slice am g.a.dom.length cm]:=by
  unfold cQ.cells;rw[e5.1,e5.2.1,e5.2.2.1,e5.2.2.2.1,e5.2.2.2.2.1,e5.2.2.2.2.2.1,e5.2.2.2.2.2.2.1,hm]
 have afl:r'.a.cells=[.int .i64 g.a.scheme,.string g.a.ar,.string g.a.aE,.string g.a.aK,.bool g.a.aL,.string g.a.bU,.bool g.a.aX,.slice aaw g.a.dom.length cm']:=by
  unfold cQ.cells;rw[f5.1,f5.2.1,f5.2.2.1,f5.2.2.2.1,f5.2.2.2.2.1,f5.2.2.2.2.2.1,f5.2.2.2.2.2.2.1,NF]
 rw[hr,hr'];rw[Aw]at hd;rw[abo]at hd'
 have hf:Fr ay w _:=((Fr.refl ay w).alloc (.cells #[.bool g.o.ae,.string g.o.host,.int .i64 g.o.port,.bool g.proxy,.string g.user,.string g.pass,.int .i64 g.a.scheme,.string g.a.ar,.string g.a.aE,.string g.a.aK,.bool g.a.aL,.string g.a.bU,.bool g.a.aX,.slice am g.a.dom.length cm,.int .i64 g.count,.slice ad g.paths.length cd] 49)).alloc (.cells #[.bool g.o.ae,.string g.o.host,.int .i64 g.o.port,.bool g.proxy,.string g.user,.string g.pass,.int .i64 g.a.scheme,.string g.a.ar,.string g.a.aE,.string g.a.aK,.bool g.a.aL,.string g.a.bU,.bool g.a.aX,.slice aaw g.a.dom.length cm',.int .i64 g.count,.slice aar g.paths.length cd'] 49)
 have aax:=O (abj r.a r'.a g.a _ (e5.mono (fun _ _ h=>h.bu hf)) (f5.mono (fun _ _ h=>h.bu hf)) hl);rw[hra,afl]at aax;have hpa:=O (hd.bu hf);have ae7:=O (hd'.bu hf);have Kz:cO.eN g.o g.o=true:=(cO.sW _ _).2 rfl;have hne:=ey g.o g.o;rw[Kz]at hne;have hce:=aey g.user g.pass;clear e1 e2 e3 e4 e5 e6 f1 f2 f3 f4 f5 f6 Aw abo hd hd' hm NF hr hr' hra afl Kz
 obtain⟨x,hx⟩:∃x:Array Value,x= #[.bool g.o.ae,.string g.o.host,.int .i64 g.o.port,.bool g.proxy,.string g.user,.string g.pass,.int .i64 g.a.scheme,.string g.a.ar,.string g.a.aE,.string g.a.aK,.bool g.a.aL,.string g.a.bU,.bool g.a.aX,.slice am g.a.dom.length cm,.int .i64 g.count,.slice ad g.paths.length cd]:=⟨_,rfl⟩
 obtain⟨y,hy⟩:∃y:Array Value,y= #[.bool g.o.ae,.string g.o.host,.int .i64 g.o.port,.bool g.proxy,.string g.user,.string g.pass,.int .i64 g.a.scheme,.string g.a.ar,.string g.a.aE,.string g.a.aK,.bool g.a.aL,.string g.a.bU,.bool g.a.aX,.slice aaw g.a.dom.length cm',.int .i64 g.count,.slice aar g.paths.length cd']:=⟨_,rfl⟩
 have hb0:((w.alloc (.cells x 49)).alloc (.cells y 49)).heap[w.heap.size]?=some (.cells x 49 (0,0)):=by
  rw[Below.heap_alloc _ _ _ (by simp)];exact af w _
 have o9:((w.alloc (.cells x 49)).alloc (.cells y 49)).heap[w.heap.size+1]?=some (.cells y 49 (0,0)):=by
  have:=af (w.alloc (.cells x 49)) (.cells y 49);simpa using this
 have x14:x[14]?=some (.int .i64 g.count):=by rw[hx];rfl
 have x15:x[15]?=some (.slice ad g.paths.length cd):=by rw[hx];rfl
 have y14:y[14]?=some (.int .i64 g.count):=by rw[hy];rfl
 have y15:y[15]?=some (.slice aar g.paths.length cd'):=by rw[hy];rfl
 have X:=O (And.intro x14 x15);have Y:=O (And.intro y14 y15);have HB:=O (And.intro hb0 o9);have HX:=O hx;have HY:=O hy;clear x14 x15 y14 y15 hb0 o9 hx hy;go_enter Tryz.func83,Tryz.ntmps83;go_wp2_with fail
 refine aax.out.mono ?_;rintro e w1⟨rfl,bt⟩;clear aax;rw[<-HX.out, <-HY.out]at hf bt hpa ae7;have hb0:=bt.keep HB.out.1 (fun h=>h);have o9:=bt.keep HB.out.2 (fun h=>h);have c14:w1.cell? ⟨w.heap.size,14,none⟩=some (.int .i64 g.count):=by simp only[World.cell?,hb0];simpa using X.out.1
 have c15:w1.cell? ⟨w.heap.size,15,none⟩=some (.slice ad g.paths.length cd):=by simp only[World.cell?,hb0];simpa using X.out.2
 have d14:w1.cell? ⟨w.heap.size+1,14,none⟩=some (.int .i64 g.count):=by simp only[World.cell?,o9];simpa using Y.out.1
 have d15:w1.cell? ⟨w.heap.size+1,15,none⟩=some (.slice aar g.paths.length cd'):=by simp only[World.cell?,o9];simpa using Y.out.2
 have EQ:=O (abn _ _ _ w1 (hpa.out.bu bt) (ae7.out.bu bt) si);have HF:=O (hf.trans bt);clear hb0 o9 hf bt hpa ae7 HB X Y HX HY hne hce;go_wp2_with fail
 refine EQ.out.mono ?_;rintro e w2⟨rfl,bq⟩;go_wp2;go_ret;exact⟨rfl,HF.out.trans bq⟩
def agb(w:World)(n:Nat)(i:Value)(wr:World):Prop:=∃k:Nat,k<=n/\i=.int .i64 k/\Fr ay w wr
theorem aeJ(v v':Value)(rs rs':List (ai Value))(gs:List (ai aF))(w:World)(hv:aN 16 w v (rs.map ai.cells))(nu:aN 16 w v' (rs'.map ai.cells))(hb:fF (ai.Reads (cX w)) rs gs)(hb':fF (ai.Reads (cX w)) rs' gs)
  (hl:∀g∈gs,g.a.dom.length<=9223372036854775807/\g.paths.length<=9223372036854775807) :
  Calls Tryz.prog 82 #[v,v',.func (.func 83) #[] #[]] w fun e w'=>e=.returned (.bool true)/\Fr ay w w':=by
 have hn:=hb.len;have hn':=hb'.len;obtain⟨av,cv,cA⟩:=hv.form;obtain⟨av',XO,aeX⟩:=nu.form;rw[List.length_map,hn]at cA;rw[List.length_map,hn']at aeX;subst cA aeX;go_enter Tryz.func82,Tryz.ntmps82;go_wp2;go_loopw[17] (agb w gs.length) (fun i _=>gs.length-(intOf i).toNat)
 case atStart=>exact⟨0,Nat.zero_le _,rfl,Fr.refl _ _⟩
 case round =>
  obtain⟨k,hk,rfl,aW⟩:=hrel;by_cases cG:k<gs.length
  ·obtain⟨r,sg⟩:∃r,rs[k]?=some r:=⟨_,List.getElem?_eq_getElem (by omega)⟩;obtain⟨r',aeT⟩:∃r,rs'[k]?=some r:=⟨_,List.getElem?_eq_getElem (by omega)⟩;obtain⟨g,hg,hr⟩:=hb.get sg;obtain⟨g',hg',hr'⟩:=hb'.get aeT;rw[hg]at hg';cases hg';obtain⟨hl1,si⟩:=hl g (List.mem_of_getElem? hg);have bG:=(hv.1 _ (List.mem_map.2 ⟨r,List.mem_of_getElem? sg,rfl⟩)).2
   have ae':=(nu.1 _ (List.mem_map.2 ⟨r',List.mem_of_getElem? aeT,rfl⟩)).2;rcases(hv.bu aW).2 with ⟨_,_,_,e,_⟩|⟨bk,o,c,e1,q1,q2,q3,q4⟩
   ·simp at e;rw[e]at hn;simp at hn;omega
   rcases(nu.bu aW).2 with ⟨_,_,_,e,_⟩|⟨ZE,o',c',e1',q1',q2',q3',q4'⟩
   ·simp at e;rw[e]at hn';simp at hn';omega
   rw[List.length_map,hn]at e1 q1;rw[List.length_map,hn']at e1' q1';cases e1;cases e1';unfold maxLen at q2 q2';have hcell:=q4 k r.cells (by rw[List.getElem?_map,sg];rfl);have aet:=q4' k r'.cells (by rw[List.getElem?_map,aeT];rfl);obtain⟨x,hx⟩:∃x,x=r.cells:=⟨_,rfl⟩;obtain⟨y,hy⟩:∃y,y=r'.cells:=⟨_,rfl⟩;have gD:x.length=16:=by rw[hx];rfl
   have FH:y.length=16:=by rw[hy];rfl
   have fR:=fun W=>run_storeCells_new (P:=Tryz.prog) W 49 bZ x (by rw[gD];rfl) (by rw[hx];exact bG);have afm:=run_storeCells_new (P:=Tryz.prog) (wr.alloc (.cells x.toArray 49)) 49 bZ y (by rw[FH];rfl) (by rw[hy];exact ae');rw[show(wr.alloc (.cells x.toArray 49)).heap.size=wr.heap.size+1 from by simp]at afm;rw[<-hx]at hcell;rw[<-hy]at aet
   have afh:∀(i:Nat) u,y[i]?=some u->(wr.alloc (.cells x.toArray 49)).cell? ⟨ZE,o'+k*16+i,none⟩=some u:=fun i u hu=>by
    have:=aet i u hu;rw[<-this];exact((Fr.refl ay wr).alloc _).cell (p:=⟨ZE,o'+k*16+i,none⟩) q3' (fun h=>h)
   have bq:Fr ay wr ((wr.alloc (.cells x.toArray 49)).alloc (.cells y.toArray 49)):=((Fr.refl ay wr).alloc _).alloc _;have hb0:((wr.alloc (.cells x.toArray 49)).alloc (.cells y.toArray 49)).heap[wr.heap.size]?=some (.cells x.toArray 49 (0,0)):=by
    rw[Below.heap_alloc _ _ _ (by simp)];exact af wr _
   have o9:((wr.alloc (.cells x.toArray 49)).alloc (.cells y.toArray 49)).heap[wr.heap.size+1]?=some (.cells y.toArray 49 (0,0)):=by
    have:=af (wr.alloc (.cells x.toArray 49)) (.cells y.toArray 49);simpa using this
   have aay:=O (abt r r' g _ (hr.mono (fun _ _ h=>(h.bu aW).bu bq)) (hr'.mono (fun _ _ h=>(h.bu aW).bu bq)) hl1 si);rw[<-hx, <-hy]at aay;have HB:=O (And.intro hb0 o9);have HF:=O (aW.trans bq);have AD:(Tryz.prog.info? 49).map (·.size)=some x.length:=by rw[gD];kernel_rfl
   have hyi:(Tryz.prog.info? 49).map (·.size)=some y.length:=by rw[FH];kernel_rfl
   have JF:=O AD;have HYI:=O hyi;clear hx hy hb0 o9 bG ae' hr hr' hg sg aeT q4 q4' aet AD hyi hl1 si bq
   go_wp2_with (first|((with_reducible refine ag ⟨some 21,_,_,_,_,_⟩ ?_);go_must(refine wpList_load_mid rfl 49 (.tmp 20) rfl bk (o+k*16) rfl x _ hcell Tryz.underlying49 rfl JF.out ?_))|((with_reducible refine ag ⟨some 25,_,_,_,_,_⟩ ?_);go_must(refine wpList_load_mid rfl 49 (.tmp 24) rfl ZE (o'+k*16) rfl y _ afh Tryz.underlying49 rfl HYI.out ?_))|((with_reducible refine ag ⟨some 27,_,_,_,_,_⟩ ?_);go_must(refine wpList_load_row rfl 49 (.tmp 8) rfl wr.heap.size rfl _ x.toArray (0,0) _ HB.out.1 Tryz.underlying49 rfl (by rw[List.size_toArray];exact JF.out) ?_))|((with_reducible refine ag ⟨some 28,_,_,_,_,_⟩ ?_);go_must(refine wpList_load_row rfl 49 (.tmp 9) rfl (wr.heap.size+1) rfl _ y.toArray (0,0) _ HB.out.2 Tryz.underlying49 rfl (by rw[List.size_toArray];exact HYI.out) ?_))|fail)
   clear fR afm;refine aay.out.mono ?_;rintro e w3⟨rfl,dv⟩;have dV:=O (HF.out.trans dv);go_wp2;go_roundw
   case rel=>exact⟨k+1,by omega,by go_num,dV.out⟩
   case measure=>simp[intOf];omega
  ·go_wp2;go_ret;exact⟨rfl,aW⟩
theorem dx.rows{base:Nat}{w:World}{v:Value}{gs:List (ai aF)}(h:dx base w v gs):∃rs:List (ai Value),aN 16 w v (rs.map ai.cells)/\fF (ai.Reads (cX w)) rs gs/\∀g∈gs,g.a.dom.length<=9223372036854775807/\g.paths.length<=9223372036854775807:=by
 obtain⟨rs,h1,h2⟩:=h;refine⟨rs,h1.at,h2.mono (fun _ _ h=>h.mono (fun _ _ h=>h.rd)),fun g hg=>?_⟩;obtain⟨k,hk⟩:=List.getElem?_of_mem hg;obtain⟨r,hr⟩:∃r,rs[k]?=some r:=⟨_,List.getElem?_eq_getElem (by rw[h2.len];exact(List.getElem?_eq_some_iff.1 hk).1)⟩;obtain⟨g',hg',EW⟩:=h2.get hr;rw[hk]at hg';cases hg';have:=EW.2.2.2.2.2.2.xc;have:=EW.2.2.2.2.1.2.2.2.2.2.2.2.xc;omega
theorem aeW{base abg:Nat}{w:World}{v v':Value}{gs:List (ai aF)}(h:dx base w v gs)(h':dx abg w v' gs) :
  Calls Tryz.prog 82 #[v,v',.func (.func 83) #[] #[]] w fun e w'=>e=.returned (.bool true)/\Fr ay w w':=by
 obtain⟨rs,h1,h2,h3⟩:=h.rows;obtain⟨rs',JG,h2',_⟩:=h'.rows;exact aeJ v v' rs rs' gs w h1 JG h2 h2' h3
theorem aeK(p:bI)(w:World):(binOp .neq 65 (.agg p.cells.toArray) (.agg p.cells.toArray)).run Tryz.prog w=.ok (.bool false) w:=by
 unfold bI.cells;go_simp
def afi(w:World)(n:Nat)(i:Value)(wr:World):Prop:=∃k:Nat,k<=n/\i=.int .i64 k/\Fr ay w wr
theorem aeB(v v':Value)(ps:List bI)(w:World)(h:oV w v ps)(h':oV w v' ps) :
  Calls Tryz.prog 33 #[v,v'] w fun e w'=>e=.returned (.bool true)/\Fr ay w w':=by
 obtain⟨av,cv,hv⟩:=aN.form h;obtain⟨av',XO,nu⟩:=aN.form h';subst hv nu;rw[List.length_map]at h h' ⊢;have HL:=O (fun U (hU:Fr ay w U)=>aN.bu h hU);have HL':=O (fun U (hU:Fr ay w U)=>aN.bu h' hU);have HQ:=O (aeK);clear h h';go_enter Tryz.func33,Tryz.ntmps33;go_wp2;go_loopw[13] (afi w ps.length) (fun i _=>ps.length-(intOf i).toNat)
 case atStart=>exact⟨0,Nat.zero_le _,rfl,Fr.refl _ _⟩
 case round =>
  obtain⟨k,hk,rfl,aW⟩:=hrel;by_cases cG:k<ps.length
  ·have lf:(k:Int)<(ps.length:Int):=by omega
   have U8:(0:Int)<=(k:Int):=by omega
   have hne:ps≠ []:=by intro e;rw[e]at cG;cases cG
   obtain⟨bk,of,rfl,g1,g2,g3,g4,g5⟩:=oV.lie (HL.out wr aW) hne;obtain⟨ZE,of',rfl,g1',g2',g3',g4',g5'⟩:=oV.lie (HL'.out wr aW) hne;unfold maxLen at g3 g3';have bC:=O (List.getElem?_eq_getElem cG);generalize ps[k]=q at bC;obtain⟨c0,c1,c2,c3,c4,c5,c6,c7,c8,c9,FT,Xl⟩:=g5 k q bC.out;obtain⟨d0,d1,d2,d3,d4,d5,d6,d7,d8,d9,d10,d11⟩:=g5' k q bC.out;have heq:=HQ.out q;unfold bI.cells at heq;clear g1 g5 g1' g5'
   go_wp2;go_quiet (fail);go_wp2;go_roundw
   case rel=>exact⟨k+1,by omega,by go_num,aW.drewN _⟩
   case measure=>simp[intOf];omega
  ·have lf:¬(k:Int)<(ps.length:Int):=by omega
   go_wp2;go_ret;exact⟨rfl,aW⟩
theorem aaU{w U:World}{p:Addr}{u:Value}(h:w.cell? p=some u)(hf:Fr ay w U):U.cell? p=some u:=by
 unfold World.cell? at h ⊢;cases hb:w.heap[p.block]? with
 |none=>rw[hb]at h;cases h
 |some o=>rw[hb]at h;rw[hf.keep hb (fun h=>h)];exact h
def aeY(w:World)(n:Nat)(i:Value)(wr:World):Prop:=∃k:Nat,k<=n/\i=.int .i64 k/\Fr ay w wr
theorem abk(a:cO)(w:World):(binOp .neq 24 (.agg #[.bool a.ae,.string a.host,.int .i64 a.port]) (.agg #[.bool a.ae,.string a.host,.int .i64 a.port])).run Tryz.prog w=.ok (.bool false) w:=by
 go_simp
theorem aeC{base abg:Nat}{w:World}{B aaA:Nat}{pv zu:Nat->bB}{x y:bW}(h:aR base w B pv x)(h':aR abg w aaA zu y)(FQ:uk x)(i:Nat)(h4:i<4)(hxy:y.part i=x.part i) :
  Calls Tryz.prog 36 #[.pointer (some ⟨B,0,none⟩),.pointer (some ⟨aaA,0,none⟩),.int .i64 i] w fun e w'=>e=.returned (.bool true)/\Fr ay w w':=by
 obtain⟨l1,l2,l3,l4⟩:=(FQ.part i).xc;have D3:=O (abp base w B pv x h i h4 (by omega));have ka:=O (fun U (hU:Fr ay w U)=>abp abg U aaA zu y (h'.bd hU) i h4 (by rw[hxy];omega));have HC1:=O (fun U (hU:Fr ay w U)=>abq base U B pv x (h.bd hU) i h4 (by omega));have Xk:=O (fun U (hU:Fr ay w U)=>abq abg U aaA zu y (h'.bd hU) i h4 (by rw[hxy];omega))
 have Tg:=O (fun U (hU:Fr ay w U)=>wE base U B pv x (h.bd hU) i h4 (by omega));have Xh:=O (fun U (hU:Fr ay w U)=>wE abg U aaA zu y (h'.bd hU) i h4 (by rw[hxy];omega));have HP1:=O (fun U (hU:Fr ay w U)=>abm base U B pv x (h.bd hU) i h4 (by omega));have HP2:=O (fun U (hU:Fr ay w U)=>abm abg U aaA zu y (h'.bd hU) i h4 (by rw[hxy];omega));rw[hxy]at ka Xk Xh HP2
 obtain⟨gs,Xz⟩:∃gs,gs=(x.part i).aH:=⟨_,rfl⟩;obtain⟨ws,sF⟩:∃ws,ws=(x.part i).waits:=⟨_,rfl⟩;obtain⟨ps,hps⟩:∃ps,ps=(x.part i).book:=⟨_,rfl⟩;obtain⟨cs,hcs⟩:∃cs,cs=(x.part i).dh:=⟨_,rfl⟩;rw[<-sF]at D3 ka l2;rw[<-hcs]at HC1 Xk l4;rw[<-Xz]at Tg Xh;rw[<-hps]at HP1 HP2;have HL2:=O l2;have HL4:=O l4;have HE:=O (fun g:aG aF=>abk g.o);clear h h' FQ h4 hxy l1 l2 l3 l4 Xz sF hps hcs
 go_enter Tryz.func36,Tryz.ntmps36;go_wp2_with fail
 refine D3.out.mono ?_;rintro e u1⟨v1,rfl,⟨FG,_⟩,rF⟩;have HV1:=O FG;have S':=O rF;clear FG rF D3;go_wp2_with fail
 refine(ka.out _ S'.out).mono ?_;rintro e u2⟨v2,rfl,⟨hv2,_⟩,jZ⟩;have HV2:=O hv2;have ql:=O (S'.out.trans jZ);have afn:=O (HV1.out.fr jZ (lT.none _ _) (fun _ _ h=>h));clear hv2 jZ ka HV1;go_wp2_with fail
 refine(HC1.out _ ql.out).mono ?_;rintro e u3⟨v3,rfl,xr,pz⟩;have HV3:=O xr.at;have HU3:=O (ql.out.trans pz);have HV1:=O (afn.out.fr pz (lT.none _ _) (fun _ _ h=>h));have ae8:=O (HV2.out.fr pz (lT.none _ _) (fun _ _ h=>h));clear xr pz HC1 HV2 afn;go_wp2_with fail
 refine(Xk.out _ HU3.out).mono ?_;rintro e u4⟨v4,rfl,SJ,hu4⟩;obtain⟨a1,c1,f1⟩:=(HV1.out.fr hu4 (lT.none _ _) (fun _ _ h=>h)).form;obtain⟨a2,c2,f2⟩:=(ae8.out.fr hu4 (lT.none _ _) (fun _ _ h=>h)).form;obtain⟨a3,c3,f3⟩:=(aN.bu HV3.out hu4).form;obtain⟨a4,c4,f4⟩:=SJ.at.form;rw[List.length_map]at f3 f4;subst f1 f2 f3 f4;have HX1:=O (HV1.out.fr hu4 (lT.none _ _) (fun _ _ h=>h))
 have Xs:=O (ae8.out.fr hu4 (lT.none _ _) (fun _ _ h=>h));have Vt:=O (aN.bu HV3.out hu4);have HX4:=O SJ.at;have HU4:=O (HU3.out.trans hu4);clear SJ hu4 Xk HV1 ae8 HV3;go_wp2_with fail
 go_loopw[11] (aeY u4 ws.length) (fun i _=>ws.length-(intOf i).toNat)
 case atStart=>exact⟨0,Nat.zero_le _,rfl,Fr.refl _ _⟩
 case round =>
  obtain⟨k,hk,rfl,aW⟩:=hrel;have h8:=HL2.out;by_cases cG:k<ws.length
  ·have lf:(k:Int)<(ws.length:Int):=by omega
   have U8:(0:Int)<=(k:Int):=by omega
   obtain⟨aaB,ca,e1,m1,r1,o1,q1,g1⟩:=(HX1.out.fr aW (lT.none _ _) (fun _ _ h=>h)).at cG;obtain⟨bb,aaC,e2,m2,r2,o2,q2,g2⟩:=(Xs.out.fr aW (lT.none _ _) (fun _ _ h=>h)).at cG;cases e1;cases e2;unfold maxLen at m1 m2;generalize ws[k]=g at q1 q2;have QA1:=O q1.2.2.2;have QA2:=O q2.2.2.2;obtain⟨p1,p2,p3,d1,d2,d3,d4,d5,d6,d7,d8⟩:=q1;obtain⟨p1',p2',p3',d1',d2',d3',d4',d5',d6',d7',d8'⟩:=q2
   obtain⟨ad,cd,zl⟩:=d8.rd.form;obtain⟨aar,cd',qE⟩:=d8'.rd.form;have x1:r1.cells=[.bool g.o.ae,.string g.o.host,.int .i64 g.o.port,.bool g.proxy,.string g.path,.int .i64 g.a.scheme,.string g.a.ar,.string g.a.aE,.string g.a.aK,.bool g.a.aL,.string g.a.bU,.bool g.a.aX,.slice ad g.a.dom.length cd]:=by unfold aG.cells;rw[p1,p2,p3,d1,d2,d3,d4,d5,d6,d7,zl]
   have x2:r2.cells=[.bool g.o.ae,.string g.o.host,.int .i64 g.o.port,.bool g.proxy,.string g.path,.int .i64 g.a.scheme,.string g.a.ar,.string g.a.aE,.string g.a.aK,.bool g.a.aL,.string g.a.bU,.bool g.a.aX,.slice aar g.a.dom.length cd']:=by unfold aG.cells;rw[p1',p2',p3',d1',d2',d3',d4',d5',d6',d7',qE]
   have y1:r1.a.cells=[.int .i64 g.a.scheme,.string g.a.ar,.string g.a.aE,.string g.a.aK,.bool g.a.aL,.string g.a.bU,.bool g.a.aX,.slice ad g.a.dom.length cd]:=by unfold cQ.cells;rw[d1,d2,d3,d4,d5,d6,d7,zl]
   have y2:r2.a.cells=[.int .i64 g.a.scheme,.string g.a.ar,.string g.a.aE,.string g.a.aK,.bool g.a.aL,.string g.a.bU,.bool g.a.aX,.slice aar g.a.dom.length cd']:=by unfold cQ.cells;rw[d1',d2',d3',d4',d5',d6',d7',qE]
   have hlen:g.a.dom.length<=9223372036854775807:=by have:=d8.xc;omega
   rw[x1]at g1;rw[x2]at g2
   have HS:=O (show∀U,Fr ay wr U->(U.cell? ⟨aaB,k*13,none⟩=some (.bool g.o.ae)/\U.cell? ⟨aaB,k*13+1,none⟩=some (.string g.o.host)/\U.cell? ⟨aaB,k*13+2,none⟩=some (.int .i64 g.o.port)/\U.cell? ⟨aaB,k*13+3,none⟩=some (.bool g.proxy)/\U.cell? ⟨aaB,k*13+4,none⟩=some (.string g.path)/\U.cell? ⟨aaB,k*13+5,none⟩=some (.int .i64 g.a.scheme)/\U.cell? ⟨aaB,k*13+6,none⟩=some (.string g.a.ar)/\U.cell? ⟨aaB,k*13+7,none⟩=some (.string g.a.aE)/\U.cell? ⟨aaB,k*13+8,none⟩=some (.string g.a.aK)/\U.cell? ⟨aaB,k*13+9,none⟩=some (.bool g.a.aL)/\U.cell? ⟨aaB,k*13+10,none⟩=some (.string g.a.bU)/\U.cell? ⟨aaB,k*13+11,none⟩=some (.bool g.a.aX)/\U.cell? ⟨aaB,k*13+12,none⟩=some (.slice ad g.a.dom.length cd)/\U.cell? ⟨bb,k*13,none⟩=some (.bool g.o.ae)/\U.cell? ⟨bb,k*13+1,none⟩=some (.string g.o.host)/\U.cell? ⟨bb,k*13+2,none⟩=some (.int .i64 g.o.port)/\U.cell? ⟨bb,k*13+3,none⟩=some (.bool g.proxy)/\U.cell? ⟨bb,k*13+4,none⟩=some (.string g.path)/\U.cell? ⟨bb,k*13+5,none⟩=some (.int .i64 g.a.scheme)/\U.cell? ⟨bb,k*13+6,none⟩=some (.string g.a.ar)/\U.cell? ⟨bb,k*13+7,none⟩=some (.string g.a.aE)/\U.cell? ⟨bb,k*13+8,none⟩=some (.string g.a.aK)/\U.cell? ⟨bb,k*13+9,none⟩=some (.bool g.a.aL)/\U.cell? ⟨bb,k*13+10,none⟩=some (.string g.a.bU)/\U.cell? ⟨bb,k*13+11,none⟩=some (.bool g.a.aX)/\U.cell? ⟨bb,k*13+12,none⟩=some (.slice aar g.a.dom.length cd'))from fun U hU=>by
    refine⟨aaU (g1 0 _ rfl) hU,aaU (g1 1 _ rfl) hU,aaU (g1 2 _ rfl) hU,aaU (g1 3 _ rfl) hU,aaU (g1 4 _ rfl) hU,aaU (g1 5 _ rfl) hU,aaU (g1 6 _ rfl) hU,aaU (g1 7 _ rfl) hU,aaU (g1 8 _ rfl) hU,aaU (g1 9 _ rfl) hU,aaU (g1 10 _ rfl) hU,aaU (g1 11 _ rfl) hU,aaU (g1 12 _ rfl) hU,aaU (g2 0 _ rfl) hU,aaU (g2 1 _ rfl) hU,aaU (g2 2 _ rfl) hU,aaU (g2 3 _ rfl) hU,aaU (g2 4 _ rfl) hU,aaU (g2 5 _ rfl) hU,aaU (g2 6 _ rfl) hU,aaU (g2 7 _ rfl) hU,aaU (g2 8 _ rfl) hU,aaU (g2 9 _ rfl) hU,aaU (g2 10 _ rfl) hU,aaU (g2 11 _ rfl) hU,aaU (g2 12 _ rfl) hU⟩)
   have HSA:=O (show∀U,Fr ay wr U->Calls Tryz.prog 81 #[.agg #[.int .i64 g.a.scheme,.string g.a.ar,.string g.a.aE,.string g.a.aK,.bool g.a.aL,.string g.a.bU,.bool g.a.aX,.slice ad g.a.dom.length cd],.agg #[.int .i64 g.a.scheme,.string g.a.ar,.string g.a.aE,.string g.a.aK,.bool g.a.aL,.string g.a.bU,.bool g.a.aX,.slice aar g.a.dom.length cd']] U (fun e w'=>e=.returned (.bool true)/\Fr ay U w')from fun U hU=>by
    have h:=abj r1.a r2.a g.a U (QA1.out.mono (fun _ _ h=>(h.bd hU).rd)) (QA2.out.mono (fun _ _ h=>(h.bd hU).rd)) hlen;rw[y1,y2]at h;exact h)
   have py:=O aW;have heq:=HE.out g;clear p1 p2 p3 d1 d2 d3 d4 d5 d6 d7 d8 p1' p2' p3' d1' d2' d3' d4' d5' d6' d7' d8' zl qE x1 x2 y1 y2 hlen o1 o2 g1 g2 aW QA1 QA2;go_wp2_with fail
   go_region_held3 (fun U=>Fr ay wr U/\U.cell? ⟨aaB,k*13,none⟩=some (.bool g.o.ae)/\U.cell? ⟨aaB,k*13+1,none⟩=some (.string g.o.host)/\U.cell? ⟨aaB,k*13+2,none⟩=some (.int .i64 g.o.port)/\U.cell? ⟨aaB,k*13+3,none⟩=some (.bool g.proxy)/\U.cell? ⟨aaB,k*13+4,none⟩=some (.string g.path)/\U.cell? ⟨aaB,k*13+5,none⟩=some (.int .i64 g.a.scheme)/\U.cell? ⟨aaB,k*13+6,none⟩=some (.string g.a.ar)/\U.cell? ⟨aaB,k*13+7,none⟩=some (.string g.a.aE)/\U.cell? ⟨aaB,k*13+8,none⟩=some (.string g.a.aK)/\U.cell? ⟨aaB,k*13+9,none⟩=some (.bool g.a.aL)/\U.cell? ⟨aaB,k*13+10,none⟩=some (.string g.a.bU)/\U.cell? ⟨aaB,k*13+11,none⟩=some (.bool g.a.aX)/\U.cell? ⟨aaB,k*13+12,none⟩=some (.slice ad g.a.dom.length cd)/\U.cell? ⟨bb,k*13,none⟩=some (.bool g.o.ae)/\U.cell? ⟨bb,k*13+1,none⟩=some (.string g.o.host)/\U.cell? ⟨bb,k*13+2,none⟩=some (.int .i64 g.o.port)/\U.cell? ⟨bb,k*13+3,none⟩=some (.bool g.proxy)/\U.cell? ⟨bb,k*13+4,none⟩=some (.string g.path)/\U.cell? ⟨bb,k*13+5,none⟩=some (.int .i64 g.a.scheme)/\U.cell? ⟨bb,k*13+6,none⟩=some (.string g.a.ar)/\U.cell? ⟨bb,k*13+7,none⟩=some (.string g.a.aE)/\U.cell? ⟨bb,k*13+8,none⟩=some (.string g.a.aK)/\U.cell? ⟨bb,k*13+9,none⟩=some (.bool g.a.aL)/\U.cell? ⟨bb,k*13+10,none⟩=some (.string g.a.bU)/\U.cell? ⟨bb,k*13+11,none⟩=some (.bool g.a.aX)/\U.cell? ⟨bb,k*13+12,none⟩=some (.slice aar g.a.dom.length cd')) ((refine(fun hU=>⟨hU,HS.out _ hU⟩) ?_;first|exact Fr.drew (Fr.refl _ _)|assumption))
    ((first
     |(go_at_call 81;refine(HSA.out _ (Fr.drew (Fr.refl _ _))).mono ?_;rintro e u6 ⟨rfl,wP⟩;have Fl:Fr ay wr u6:=(Fr.drew (Fr.refl _ _)).trans wP)))
   go_wp2;go_roundw
   case rel=>exact⟨k+1,by omega,by go_num,py.out.trans Fl⟩
   case measure=>simp[intOf];omega
  ·have lf:¬(k:Int)<(ws.length:Int):=by omega
   have HX5:=O (aN.bu Vt.out aW);have HX6:=O (aN.bu HX4.out aW);have HU5:=O (HU4.out.trans aW);clear aW HX1 Xs Vt HX4 HU4 HE h8;go_wp2_with fail
   go_loopw[12] (aeY wr cs.length) (fun i _=>cs.length-(intOf i).toNat)
   case atStart=>exact⟨0,Nat.zero_le _,rfl,Fr.refl _ _⟩
   case round =>
    obtain⟨j,hj,rfl,fe⟩:=hrel;have h9:=HL4.out;by_cases hjs:j<cs.length
    ·have NI:(j:Int)<(cs.length:Int):=by omega
     have ain:(0:Int)<=(j:Int):=by omega
     rcases(aN.bu HX5.out fe).2 with ⟨_,_,_,e,_⟩|⟨bk,of,c,hf,h1,h2,h3,h4⟩
     ·rw[List.map_eq_nil_iff]at e;rw[e]at hjs;exact absurd hjs (Nat.not_lt_zero _)
     rcases(aN.bu HX6.out fe).2 with ⟨_,_,_,e,_⟩|⟨ZE,of',c',hf',JG,h2',h3',h4'⟩
     ·rw[List.map_eq_nil_iff]at e;rw[e]at hjs;exact absurd hjs (Nat.not_lt_zero _)
     rw[List.length_map]at hf hf';cases hf;cases hf';unfold maxLen at h2 h2';rw[List.length_map]at h1 JG;have d:=h4 j (ic cs[j]) (by rw[List.getElem?_map,List.getElem?_eq_getElem hjs];rfl);have d':=h4' j (ic cs[j]) (by rw[List.getElem?_map,List.getElem?_eq_getElem hjs];rfl);generalize cs[j]=g at d d';have d0:wr.cell? ⟨bk,of+j*4,none⟩=some (.bool g.1.ae):=d 0 _ rfl
     have d1:wr.cell? ⟨bk,of+j*4+1,none⟩=some (.string g.1.host):=d 1 _ rfl;have d2:wr.cell? ⟨bk,of+j*4+2,none⟩=some (.int .i64 g.1.port):=d 2 _ rfl;have d3:wr.cell? ⟨bk,of+j*4+3,none⟩=some (.int .i64 g.2):=d 3 _ rfl;have d4:wr.cell? ⟨ZE,of'+j*4,none⟩=some (.bool g.1.ae):=d' 0 _ rfl;have d5:wr.cell? ⟨ZE,of'+j*4+1,none⟩=some (.string g.1.host):=d' 1 _ rfl
     have d6:wr.cell? ⟨ZE,of'+j*4+2,none⟩=some (.int .i64 g.1.port):=d' 2 _ rfl;have d7:wr.cell? ⟨ZE,of'+j*4+3,none⟩=some (.int .i64 g.2):=d' 3 _ rfl;have heq:=abk g.1;have py:=O fe;clear d d' h4 h4' h1 JG h3 h3' fe;go_wp2_with fail
     go_quiet (fail);go_wp2;go_roundw
     case rel=>exact⟨j+1,by omega,by go_num,py.out.drewN _⟩
     case measure=>simp[intOf];omega
    ·have NI:¬(j:Int)<(cs.length:Int):=by omega
     have HU6:=O (HU5.out.trans fe);clear fe HX5 HX6 HU5 h9;go_wp2_with fail
     refine(Tg.out _ HU6.out).mono ?_;rintro e u6⟨g1,rfl,⟨Ko,_⟩,hu6⟩;have HU7:=O (HU6.out.trans hu6);have HGA:=O Ko;clear hu6 Ko HU6;go_wp2_with fail
     refine(Xh.out _ HU7.out).mono ?_;rintro e u7⟨g2,rfl,⟨wG,_⟩,hu7⟩;have HU8:=O (HU7.out.trans hu7);have Us:=O (aeW (HGA.out.fr hu7 (lT.none _ _) (fun _ _ h=>h)) wG);clear hu7 wG HU7 HGA;go_wp2_with fail
     refine Us.out.mono ?_;rintro e u8⟨rfl,hu8⟩;have HU9:=O (HU8.out.trans hu8);clear hu8 HU8 Us;go_wp2_with fail
     refine(HP1.out _ HU9.out).mono ?_;rintro e u9⟨p1,rfl,Ee,Wi⟩;have ae9:=O (HU9.out.trans Wi);have HPA:=O Ee.at;clear Wi Ee HU9;go_wp2_with fail
     refine(HP2.out _ ae9.out).mono ?_;rintro e u10⟨p2,rfl,vR,ae_⟩;have ahy:=O (ae9.out.trans ae_);have HEP:=O (aeB p1 p2 ps _ (aN.bu HPA.out ae_) vR.at);clear ae_ vR ae9 HPA;go_wp2_with fail
     refine HEP.out.mono ?_;rintro e CZ⟨rfl,ahF⟩;go_wp2_with fail
     go_ret;exact⟨rfl,ahy.out.trans ahF⟩
def afj(w:World)(i:Value)(wr:World):Prop:=∃k:Nat,k<=4/\i=.int .i64 k/\Fr ay w wr
theorem aez{base abg:Nat}{w:World}{B aaA:Nat}{pv zu:Nat->bB}{x:bW}(h:aR base w B pv x)(h':aR abg w aaA zu x)(FQ:uk x) :
  Calls Tryz.prog 37 #[.pointer (some ⟨B,0,none⟩),.pointer (some ⟨aaA,0,none⟩)] w fun e w'=>e=.returned (.bool true)/\Fr ay w w':=by
 have HP:=O (fun(i:Nat) (h4:i<4) U (hU:Fr ay w U)=>aeC (h.bd hU) (h'.bd hU) FQ i h4 rfl);have HN1:=O (fun U (hU:Fr ay w U)=>Fz base U B pv x (h.bd hU));have HN2:=O (fun U (hU:Fr ay w U)=>Fz abg U aaA zu x (h'.bd hU));clear h h' FQ;go_enter Tryz.func37,Tryz.ntmps37;go_wp2_with fail
 go_loopw[5] (afj w) (fun i _=>4-(intOf i).toNat)
 case atStart=>exact⟨0,by decide,rfl,Fr.refl _ _⟩
 case round =>
  obtain⟨k,hk,rfl,aW⟩:=hrel;have HF:=O aW;clear aW;by_cases cG:k<4
  ·have lf:(k:Int)<4:=by omega
   go_wp2_with fail
   refine(HP.out k cG _ HF.out).mono ?_;rintro e u⟨rfl,hu⟩;go_wp2_with fail
   go_roundw
   case rel=>exact⟨k+1,by omega,by go_num,HF.out.trans hu⟩
   case measure=>simp[intOf];omega
  ·have lf:¬(k:Int)<4:=by omega
   go_wp2_with fail
   refine(HN1.out _ HF.out).mono ?_;rintro e u⟨rfl,hu⟩;rw[hu];clear hu;go_wp2_with fail
   refine(HN2.out _ HF.out).mono ?_;rintro e u⟨rfl,hu⟩;rw[hu];clear hu;go_wp2_with fail
   go_ret;exact⟨rfl,HF.out⟩
theorem aeL(a c:Int)(s:ByteArray)(u:World):(binOp .neq 39 (.agg #[.int .i64 a,.string s,.int .i64 c]) (.agg #[.int .i64 a,.string s,.int .i64 c])).run Tryz.prog u=.ok (.bool false) u:=by
 go_simp
def agc(w:World)(B C n:Nat)(i:Value)(wr:World):Prop :=
 ∃(k:Nat) (pv aac:Nat->bB) (y:bW),k<=n/\i=.int .i64 k/\abe w wr B pv y C aac y/\fW y
theorem abu(v:Value)(os:List (ei×List dW))(v2:Value)(ms:List (ei×List dW))(w:World)(sO:gM w v os)(vD:gM w v2 ms)(pw:nI w)(md:kX w)(sh:kZ w)(db:iu w 9 .u8 Gr) :
  Calls Tryz.prog 11 #[v,v2] w fun e w'=>e=.returned (.bool true)/\Below w.heap.size w w':=by
 have ht:fN w:=⟨⟨db,md,sh⟩,pw⟩;obtain⟨av,cv,cA⟩:=sO.1.form;rw[List.length_map]at cA;subst cA;obtain⟨am,cm,cA⟩:=vD.1.form;rw[List.length_map]at cA;subst cA;have HT:=O ht;have HM:=O vD;have Qv:=O (qU w ht);have LU:=O (show∀U,Fr ay w U->Calls Tryz.prog 15 #[.slice av os.length cv] U _ from fun U hU=>kQ _ os U (sO.fr hU))
 have BD:=O (show∀U,Fr ay w U->Calls Tryz.prog 15 #[.slice am ms.length cm] U _ from fun U hU=>kQ _ ms U (vD.fr hU));have Qw:=O (show jy os=true->∀U,Fr ay w U->Calls Tryz.prog 16 #[.slice av os.length cv] U _ from fun rO U hU=>oM w.heap.size _ os U (sO.fr hU) rO w ht (Nat.le_refl _) hU hU.size);clear sO vD ht pw md sh db;go_enter Tryz.func11,Tryz.ntmps11;go_wp2_with fail
 refine Qv.out.mono ?_;rintro e u1⟨rfl,h1⟩;have H1:=O h1;clear h1 Qv;go_wp2_with fail
 refine(LU.out _ H1.out).mono ?_;rintro e u2⟨rfl,h2⟩;have H2:=O (H1.out.trans h2);clear h2 LU H1;cases zg:jy os
 ·clear zg;go_wp2;go_ret;exact⟨rfl,H2.out.bQ⟩
 have LS:=O zg;clear zg;go_wp2_with fail
 refine(BD.out _ H2.out).mono ?_;rintro e u4⟨rfl,h4⟩;have H4:=O (H2.out.trans h4);clear h4 BD H2;cases kz:jy ms
 ·clear kz;go_wp2;go_ret;exact⟨rfl,H4.out.bQ⟩
 have HSM:=O (H' kz);clear kz;go_wp2_with fail
 refine(Qw.out LS.out _ H4.out).mono ?_;rintro e u5⟨B,pv,rfl,wQ,rk,h5,AF⟩;obtain⟨x,hx⟩:∃x,x=nM (opsL os):=⟨_,rfl⟩;rw[<-hx]at wQ rk;have Nd:=O wQ;have C4:=O rk;have H5:=O (H4.out.trans h5);clear wQ rk h5 AF hx Qw LS H4;have HCP:=O (aeV _ _ _ _ _ Nd.out C4.out.xc);go_wp2_with fail
 refine HCP.out.mono ?_;rintro e u6⟨C,aac,rfl,hc,jz,hl6⟩;have HTW:=O (abe.copied Nd.out H5.out hc jz hl6);clear hc jz hl6 HCP Nd H5;go_wp2_with fail
 go_loopw[7] (agc w B C ms.length) (fun i _=>ms.length-(intOf i).toNat)
 case atStart=>exact⟨0,pv,aac,x,Nat.zero_le _,rfl,HTW.out,C4.out⟩
 case round =>
  obtain⟨k,zu,qv',y,hk,rfl,htw,rk⟩:=hrel;by_cases cG:k<ms.length
  ·have lf:(k:Int)<(ms.length:Int):=by omega
   have U8:(0:Int)<=(k:Int):=by omega
   rcases HM.out.1.2 with ⟨_,_,_,e,_⟩|⟨bk,of,c,hf,h1,h2,h3,h4⟩
   ·have D':=congrArg List.length e;rw[List.length_map]at D';rw[List.length_nil]at D';omega
   rw[List.length_map]at hf;cases hf;rw[List.length_map]at h1;unfold maxLen at h2;obtain⟨o,bC⟩:∃o,ms[k]?=some o:=⟨_,List.getElem?_eq_getElem cG⟩;have hcell:=h4 k o.1.cells (by rw[List.getElem?_map,bC];rfl);have ed:=List.mem_of_getElem? bC;have HOF:=O (show∀U,Fr ay w U->bg U o.1 o.2 from fun U hU=>bg.Mt ((HM.out.2.2 o ed).fr hU) (HSM.out.2 o ed))
   have HRG:=O (show∀U,Fr ay w U->U.rangeAt bk (of+k*22) o.1.cells from fun U hU i u hi=>aaU (hcell i u hi) hU);obtain⟨z,hz⟩:∃z,z=cV y (o.1.bF o.2):=⟨_,rfl⟩
   have HD:=O (show∀U D aaG x' E qd y',x'=y->abe w U D aaG x' E qd y'->Calls Tryz.prog 17 #[.pointer (some ⟨D,0,none⟩),.agg o.1.cells.toArray] U (fun e w'=>e=.returned (.agg #[.int .i64 z.2.what,.string z.2.head,.int .i64 z.2.cert])/\abv w U D z.1 E qd y' w')from fun U D aaG x' E qd y' hx h=>by
    subst hx;rw[hz];exact h.ahx rk HT.out (HOF.out _ h.fr))
   have HIZ:=O (show fW z.1 by rw[hz];exact bg.small (HOF.out _ htw.fr) rk);have afo:=O htw;have heq:=aeL z.2.what z.2.cert z.2.head;have Us:=O heq;have gD:o.1.cells.length=22:=rfl;obtain⟨xs,WG⟩:∃xs,xs=o.1.cells:=⟨_,rfl⟩;rw[<-WG]at gD HD HRG;clear h4 h3 rk htw hz WG bC hcell ed heq HOF;go_wp2_with fail
   refine wp_region_held_drew (S:=(fun U=>U.rangeAt bk (of+k*22) xs)) (by kernel_rfl) (HRG.out _ (afo.out.fr.drew)) ?_;intro cW;refine tk 0 ⟨some 28,_,_,_,_,_⟩ (v:=?_) rfl (by rfl) ?hy ?_
   case hy=>(intro w hSw;(try dsimp only at hSw);go_simp<;>with_reducible rfl)
   try simp only[Act.put,sA,sB,sC]
   refine tk 1 ⟨some 29,_,_,_,_,_⟩ (v:=?_) rfl (by rfl) ?hy ?_
   case hy=>(intro w hSw;(try dsimp only at hSw);go_simp<;>with_reducible rfl)
   try simp only[Act.put,sA,sB,sC]
   refine tk 2 ⟨some 30,_,_,_,_,_⟩ (v:=?_) rfl (by rfl) ?hy ?_
   case hy=>(intro w hSw;(try dsimp only at hSw);go_simp<;>with_reducible rfl)
   try simp only[Act.put,sA,sB,sC]
   refine tk 3 ⟨some 31,_,_,_,_,_⟩ (v:=?_) rfl (by rfl) ?hy ?_
   case hy=>(intro w hSw;(try dsimp only at hSw);go_simp<;>with_reducible rfl)
   try simp only[Act.put,sA,sB,sC]
   refine wpAnyH_take (i:=4) (oi:=⟨some 32,_,_,_,_,_⟩) rfl (by kernel_rfl) (by kernel_rfl) (by kernel_rfl) (fun _ _ _ h=>h) (yieldsIf_load_mid (by rfl) 33 (.tmp 31) rfl bk (of+k*22) rfl xs _ (fun U hU=>hU) Tryz.underlying33 rfl (H9 gD)) (by assumption) ?_
   try simp only[Act.put,sA,sB,sC]
   refine tk 6 ⟨some 34,_,_,_,_,_⟩ (v:=?_) rfl (by rfl) ?hy ?_
   case hy=>(intro w hSw;(try dsimp only at hSw);go_simp<;>with_reducible rfl)
   try simp only[Act.put,sA,sB,sC]
   refine tk 7 ⟨some 35,_,_,_,_,_⟩ (v:=?_) rfl (by rfl) ?hy ?_
   case hy=>(intro w hSw;(try dsimp only at hSw);go_simp<;>with_reducible rfl)
   try simp only[Act.put,sA,sB,sC]
   refine tk 8 ⟨some 36,_,_,_,_,_⟩ (v:=?_) rfl (by rfl) ?hy ?_
   case hy=>(intro w hSw;(try dsimp only at hSw);go_simp<;>with_reducible rfl)
   try simp only[Act.put,sA,sB,sC]
   refine tk 9 ⟨some 37,_,_,_,_,_⟩ (v:=?_) rfl (by rfl) ?hy ?_
   case hy=>(intro w hSw;(try dsimp only at hSw);go_simp<;>with_reducible rfl)
   try simp only[Act.put,sA,sB,sC]
   refine wpAnyH_take (i:=10) (oi:=⟨some 38,_,_,_,_,_⟩) rfl (by kernel_rfl) (by kernel_rfl) (by kernel_rfl) (fun _ _ _ h=>h) (yieldsIf_load_mid (by rfl) 33 (.tmp 37) rfl bk (of+k*22) rfl xs _ (fun U hU=>hU) Tryz.underlying33 rfl (H9 gD)) (by assumption) ?_
   try simp only[Act.put,sA,sB,sC]
   refine wpAnyH_ready (rs:=[5]) (by kernel_rfl) (by simp) ?_;refine AllReadyH.cons rfl (fun K hK=>?_) AllReadyH.nil;go_simp;refine(HD.out _ _ _ _ _ _ _ rfl (afo.out.swap.bd (Fr.drew (Fr.refl ay _)))).mono ?_;rintro e aaH⟨rfl,qa,mq,_⟩;have L':=O mq;clear mq;refine hK.out _ _ (HRG.out _ L'.out.fr) ?_;intro ct;clear hK cW K;have cW:=ct;clear ct
   try simp only[Act.put,sA,sB,sC]
   refine wpAnyH_ready (rs:=[11]) (by kernel_rfl) (by simp) ?_;refine AllReadyH.cons rfl (fun K hK=>?_) AllReadyH.nil;go_simp;refine(HD.out _ _ _ _ _ _ _ rfl L'.out.swap).mono ?_;rintro e aaI⟨rfl,pa,htb,_⟩;have HTB:=O htb;clear htb;refine hK.out _ _ (HRG.out _ HTB.out.fr) ?_;intro ct;clear hK cW K;have cW:=ct;clear ct
   try simp only[Act.put,sA,sB,sC]
   have heq:=Us.out;refine tk 12 ⟨some 40,_,_,_,_,_⟩ (v:=?_) rfl (by rfl) ?hy ?_
   case hy=>(intro w hSw;(try dsimp only at hSw);go_simp<;>with_reducible rfl)
   try simp only[Act.put,sA,sB,sC]
   clear cW;refine wpAnyH_done (by kernel_rfl) ?_ _;go_wp2_with fail
   go_roundw
   case rel=>exact⟨k+1,pa,qa,z.1,by omega,by go_num,HTB.out,HIZ.out⟩
   case measure=>simp[intOf];omega
  ·have lf:¬(k:Int)<(ms.length:Int):=by omega
   have HWS:=O (aez htw.two htw.one rk.ok);have HFE:=O htw.fr;clear htw rk;go_wp2_with fail
   refine HWS.out.mono ?_;rintro e u⟨rfl,hu⟩;go_wp2_with fail
   go_ret;exact⟨rfl,(HFE.out.trans hu).bQ⟩
end Go.Proofs.YtjdmjbdkdmbaiaaGreatDoor
namespace Go.Proofs.YtjdmjbdkdmbaiaaGreatDoor.worldSame
open Go.ChangeShapes Go.WideShapes Go.ChangeAt Go.RowKit
open Go.ChangeMaps (open_string shut_string)
theorem own:ownKnob Tryz.prog.godebug=none:=by kernel_rfl
theorem laidOut:laidOutB Tryz.prog=true:=by kernel_rfl
theorem lifted(os:Os)(started:os.Started)(H:Type)(enc:TypeId×Value->H) :
  ReturnsInHanded {} Tryz.checked os 11 .any (fun w args=>(Rows.worldSameSpec.pre enc Tryz.prog Tryz.f11 Rows.worldSameRow.domain false w args/\laidMetH Tryz.prog Rows.worldSameRow.laid w)/\sizedMet enc Tryz.prog Tryz.f11 (OpenSpec.ofChange Rows.worldSameSpec) false w args)
   (Rows.worldSameSpec.post enc Tryz.prog Tryz.f11 false true false false):=by
 refine returnsInHanded_of_change_and (C:=Tryz.checked) (X:=fun w _=>laidMetH Tryz.prog Rows.worldSameRow.laid w) (fun _ _ _ hh h=>h.of_heap hh) own started (by kernel_rfl) Tryz.func11
  (ChangeSpec.witness_shaped (enc:=enc) (C:=Tryz.checked) (os:=os) (X:=fun w _=>laidMetH Tryz.prog Rows.worldSameRow.laid w) false (World.laidAll Tryz.prog os Rows.worldSameRow.laid) #[.slice none 0 0,.slice none 0 0] 8 (World.laidAll_os _ _ _)
   (World.shaped_of_ZipB (by kernel_rfl) (by kernel_rfl)) (by kernel_rfl) (by kernel_rfl) (by kernel_rfl)
   (by rw[MakeChecks.laidMetH_plain _ _ _ (by kernel_rfl)];exact laidMet_laidAll _ (by kernel_rfl) (by kernel_rfl))) ?_
 intro W base args ds gs before qx hW _ qw hL _;have mz:(DataW.weightsEach Tryz.prog (Tryz.f11.params.toList++Rows.worldSameSpec.plain.varTypes Tryz.prog) (ds++gs)).all (· <=reachBytes)=true:=qw;clear qw;have hval:∀(j:Nat) t v,Tryz.f11.params[j]?=some t->args[j]?=some v->Value.okWide Tryz.prog W .any base t v:=qx;have hW':=hW;obtain⟨p,q,Qz,hV,rfl,_,_⟩:=hW
 have hA:DataW.TrodAll enc Tryz.prog W 0 (fun _=>true) true Tryz.f11.params.toList args.toList ds p:=Qz;rw[Tryz.params11]at hA hval mz;obtain⟨v0,vs0,d0,ds0,p0,q0,QA,rfl,rfl,h0,r0⟩:=trodAll_cons hA;obtain⟨v1,vs1,d1,ds1,p1,q1,rfl,rfl,rfl,h1,r1⟩:=trodAll_cons r0;obtain⟨rfl,rfl,rfl⟩:=trodAll_nil r1;obtain rfl:args= #[v0,v1]:=by cases args;simp_all
 obtain⟨rfl,rfl⟩:=trodVars_none hV;have k0:=h0;have lt0:∀x∈p0,x.block<W.heap.size:=by obtain⟨m,hm⟩:=k0;exact DataW.trod_lt m _ _ _ hm
 obtain⟨ss0,sO⟩:=mY (hval 0 22 v0 rfl rfl) h0 (jY mz (j:=0) (t:=22) rfl rfl);have k1:=h1;have lt1:∀x∈p1,x.block<W.heap.size:=by obtain⟨m,hm⟩:=k1;exact DataW.trod_lt m _ _ _ hm
 obtain⟨ss1,vD⟩:=mY (hval 1 22 v1 rfl rfl) h1 (jY mz (j:=1) (t:=22) rfl rfl);clear Qz qx;rw[MakeChecks.laidMetH_plain _ _ _ (by kernel_rfl)]at hL;have tb0:=ot hL (by refine⟨?_,?_⟩<;>repeat(first|exact True.intro|exact List.Mem.head _|refine List.Mem.tail _ ?_));have tb1:=mR hL (by refine⟨?_,?_⟩<;>repeat(first|exact True.intro|exact List.Mem.head _|refine List.Mem.tail _ ?_))
 have tb2:=mS hL (by refine⟨?_,?_⟩<;>repeat(first|exact True.intro|exact List.Mem.head _|refine List.Mem.tail _ ?_));have tb3:=om hL (by refine⟨?_,?_⟩<;>repeat(first|exact True.intro|exact List.Mem.head _|refine List.Mem.tail _ ?_));refine(abu _ ss0 _ ss1  W sO vD tb0 tb1 tb2 tb3).mono fun e W' ⟨he,jE⟩=>?_;subst he
 exact⟨_,rfl,_,_,_,[],_,[],hW',trodAll_mk1 (shut_bool Tryz.underlying4 _),(trodAll_cons_mk (Below.trod laidOut (by kernel_rfl) (of_decide_eq_true (by kernel_rfl)) k0 jE lt0) (trodAll_cons_mk (Below.trod laidOut (by kernel_rfl) (of_decide_eq_true (by kernel_rfl)) k1 jE lt1) trodAll_mk0)),rfl,jE.frame _,fun h=>by cases h⟩
end Go.Proofs.YtjdmjbdkdmbaiaaGreatDoor.worldSame
