/- Shelf, UnbP, Waits, ClonePa, Book4, WorldPure, WorldRep, WorldLaw3, WorldLaw4, BankGet, CloneCe, WGet, WCopy, TwoW, RowO, ThW, TakeR, WTake, CellsP, SameG, EqG, EqPa, PartSame, RepEq, FrameP, WFrame, LiftWorldFrame. -/
import Derived.Test.YtjdmjbdkdmbaiaaGreatDoorPk47
import Derived.Deep.Onto
import Derived.Test.YtjdmjbdkdmbaiaaGreatDoorTie
import Derived.Test.YtjdmjbdkdmbaiaaGreatDoorCards
import Derived.LaidMore
import Derived.Lay
set_option maxRecDepth 100000
set_option maxHeartbeats 16000000
set_option linter.unusedSimpArgs false
namespace Go.Proofs
open Go.Shelf
def Tryz.ae7:Go.Shelf.Ren:=⟨fun|193=>90|n=>n,fun|31=>45|9=>9|4=>4|3=>3|0=>0|n=>n,fun|n=>n⟩
theorem Tryz.afc:Go.Proofs.Lays.n193 Tryz.prog Tryz.ae7:={
 mixed:=by kernel_rfl
 f193:=Tryz.func90.trans (congrArg some (by kernel_rfl))
 t0:=Tryz.underlying0
 a0:=Tryz.isAgg0
 z0:=Tryz.sizeOf0
 v0:=Tryz.zeroValue0
 t3:=Tryz.underlying3
 a3:=Tryz.isAgg3
 z3:=Tryz.sizeOf3
 v3:=Tryz.zeroValue3
 t4:=Tryz.underlying4
 a4:=Tryz.isAgg4
 z4:=Tryz.sizeOf4
 v4:=Tryz.zeroValue4
 t9:=Tryz.underlying9
 a9:=Tryz.isAgg9
 z9:=Tryz.sizeOf9
 v9:=Tryz.zeroValue9
 t31:=Tryz.underlying45
 a31:=Tryz.isAgg45
 z31:=Tryz.sizeOf45
 v31:=Tryz.zeroValue45}
open Go.RowKit Go.Lib in
theorem Tryz.slices_Equal_string(b1 o1 n c b2 o2 m d:Nat)(xs ys:List ByteArray)(w:World)(hx:n<=xs.length)(hy:m<=ys.length)(YR:n<=9223372036854775807)(afo:m<=9223372036854775807)(kS:∀j,j<xs.length->w.cell? ⟨b1,o1+j,none⟩=some (.string (xs.getD j ByteArray.empty)))(nW:∀j,j<ys.length->w.cell? ⟨b2,o2+j,none⟩=some (.string (ys.getD j ByteArray.empty))) :
  Calls Tryz.prog 90 #[.slice (some ⟨b1,o1,none⟩) n c,.slice (some ⟨b2,o2,none⟩) m d] w fun e w'=>e=.returned (.bool (decide (xs.take n=ys.take m)))/\∃q,w'=w.drewN q:=Any.slices_Equal_string Tryz.afc b1 o1 n c b2 o2 m d xs ys w hx hy YR afo kS nW
open Go.RowKit Go.Lib in
theorem Tryz.slices_Equal_string_empty(a1 a2:Option Addr)(c m d:Nat)(w:World)(afo:m<=9223372036854775807) :
  Calls Tryz.prog 90 #[.slice a1 0 c,.slice a2 m d] w fun e w'=>e=.returned (.bool (decide (m=0)))/\w'=w:=Any.slices_Equal_string_empty Tryz.afc a1 a2 c m d w afo
end Go.Proofs
namespace Go.Proofs.YtjdmjbdkdmbaiaaGreatDoor
open Go.RowKit
def alS(c:UInt8):Option Nat:=if 65<=c/\c<=90 then some (c.toNat-65)else if 97<=c/\c<=122 then some (c.toNat-71)else if 48<=c/\c<=57 then some (c.toNat+4)else if c=43 then some 62 else if c=47 then some 63 else none
def aac(l:List UInt8):Nat->Nat
 |0=>0
 |j+1=>aac l j*64+(match l[j]? with|some c=>(alS c).getD 0|none=>0)
def agr(base:Nat)(w:World)(gs:List (aG aF))(v:Value)(w':World):Prop:=fq base w' v gs/\∀k,v.ownBlock=some k->w.heap.size<=k
def aeO(base:Nat)(w:World)(gs:List (aG aF))(e:Ending)(w':World):Prop :=
 ∃v,e=.returned v/\agr base w gs v w'/\Fr ay w w'
def ai2(base:Nat)(w:World)(gs:List (aG aF))(v i:Value)(wr:World):Prop :=
 ∃(k:Nat) (rs:List (aG Value)),k<=gs.length/\i=.int .i64 k/\OwnRows w.heap.size 144 13 wr v (rs.map aG.cells)/\fF (aG.Reads (aS base wr)) rs (gs.take k)/\Fr ay w wr
theorem aeP(base:Nat)(w:World)(b:Nat)(gv wv:Value)(gs:List (ai aF))(ws:List (aG aF))(h:ba base w b gv wv gs ws)(M1:ws.length<68719476736) :
  Calls Tryz.prog 150 #[.pointer (some ⟨b,0,none⟩)] w (aeO base w ws):=by
 have h0:=h.c1;obtain⟨av,cv,hv⟩:=h.waits.form;subst hv;have pD:=h.lt;have eI:base<=w.heap.size:=by have:=h.low;omega
 go_enter Tryz.func150,Tryz.ntmps150;go_wp2;clear h0;go_loopw[3,11] (ai2 base w ws) (fun _ i _=>ws.length-(intOf i).toNat)
 case atStart=>exact⟨0,[],Nat.zero_le _,rfl,OwnRows.nil _ _ _ _,.nil,Fr.refl _ _⟩
 case round =>
  obtain⟨k,rs,hk,rfl,a_,Ef,aW⟩:=hrel;by_cases cG:k<ws.length
  ·obtain⟨bk,c,bt,nv,r,bG,hr,hcell⟩:=(h.bd aW).waits.at cG;cases bt;unfold maxLen at nv;obtain⟨ad,cd,Aw⟩:=hr.2.2.2.2.2.2.2.2.2.2.rd.form;obtain⟨x,hx⟩:∃x,x=r.cells:=⟨_,rfl⟩;have gD:x.length=13:=by rw[hx];rfl
   have fR:=fun W=>run_storeCells_new (P:=Tryz.prog) W 144 rB x (by rw[gD];rfl) (by rw[hx];exact bG);rw[<-hx]at hcell;have HX:=O hx;have JF:=O (Cb gD);have agL:x[12]?=some (.slice ad ws[k].a.dom.length cd):=by rw[hx, <-Aw];rfl
   clear hx;obtain⟨av,cv,ZH⟩:=a_.form;subst ZH;rw[List.length_map,Ef.len,List.length_take,Nat.min_eq_left hk]at a_ ⊢;have dF:Fr ay wr (wr.alloc (.cells x.toArray 144)):=(Fr.refl ay wr).alloc _;have hb0:(wr.alloc (.cells x.toArray 144)).heap[wr.heap.size]?=some (.cells x.toArray 144 (0,0)):=af _ _
   have c12:(wr.alloc (.cells x.toArray 144)).cell? ⟨wr.heap.size,12,none⟩=some (.slice ad ws[k].a.dom.length cd):=by simp only[World.cell?,hb0];simpa using agL
   have kR:=hr.mono (fun _ _ h=>h.bd dF);have AP:=kR.2.2.2.2.2.2.2.2.2.2;rw[Aw]at AP;have CL:=O (ou base _ _ _ AP);go_wp2_with (first|((with_reducible refine ag ⟨some 14,_,_,_,_,_⟩ ?_);go_must(refine wpList_load_mid rfl 144 (.tmp 13) rfl bk (k*13) rfl x _ hcell Tryz.underlying144 rfl JF.out ?_))|fail)
   have nj:=O (aW.trans dF);have bV:=a_.alloc (.cells x.toArray 144);have OE:=Ef.mono (fun _ _ h=>h.mono (fun _ _ h=>h.bd dF));have eQ:w.heap.size<=wr.heap.size:=aW.size;have alT:=a_.lt;clear fR hcell hr a_ Ef aW AP dF;generalize wr.alloc (.cells x.toArray 144)=W2 at *
   refine CL.out.mono ?_;rintro e u1⟨a2,c2,rfl,zo,bt⟩;have o9:=bt.keep hb0 (fun h=>h);have oT:=kR.mono (fun _ _ h=>h.bd bt);have cz:=bV.fr bt (fun _ _ h=>h);have OG:=OE.mono (fun _ _ h=>h.mono (fun _ _ h=>h.bd bt));have hF1:=nj.out.trans bt;have aoh:u1.cell? ⟨wr.heap.size,12,none⟩=some (.slice ad ws[k].a.dom.length cd):=by simp only[World.cell?,o9];simpa using agL
   have f12:u1.frozen? ⟨wr.heap.size,12,none⟩=false:=by simp[World.frozen?,o9]
   have fC:=aP o9 12 (.slice a2 ws[k].a.dom.length c2);have hye:x.toArray.setIfInBounds 12 (.slice a2 ws[k].a.dom.length c2)=(r.oz (.slice a2 ws[k].a.dom.length c2)).cells.toArray:=by rw[HX.out];rfl
   rw[hye]at fC;have lZ:lT base u1 (one wr.heap.size):=by
    rintro j rfl hj;exact⟨by omega,fun c f e=>by rw[o9]at e;cases e⟩
   have fM:Fr (one wr.heap.size) u1 (u1.setCell ⟨wr.heap.size,12,none⟩ (.slice a2 ws[k].a.dom.length c2)):=(Fr.refl (one wr.heap.size) u1).setCell (p:=⟨wr.heap.size,12,none⟩) (fun _=>rfl) _;have wJ:∀j,(Value.slice av k cv).ownBlock=some j->¬one wr.heap.size j:=by
    rintro j hj rfl;have:=alT _ hj;omega
   have dk:=hF1.dI (p:=⟨wr.heap.size,12,none⟩) eQ (.slice a2 ws[k].a.dom.length c2);have qX:(r.oz (.slice a2 ws[k].a.dom.length c2)).Reads (aS base (u1.setCell ⟨wr.heap.size,12,none⟩ (.slice a2 ws[k].a.dom.length c2))) ws[k] :=
    ⟨oT.1,oT.2.1,oT.2.2.1,oT.2.2.2.1,oT.2.2.2.2.1,oT.2.2.2.2.2.1,oT.2.2.2.2.2.2.1,oT.2.2.2.2.2.2.2.1,oT.2.2.2.2.2.2.2.2.1,oT.2.2.2.2.2.2.2.2.2.1,zo.fr fM lZ⟩
   have cZ:=cz.fr fM wJ;have ae1:=OG.mono (fun _ _ h=>h.mono (fun _ _ h=>h.fr fM lZ));have JL:∀u∈(r.oz (.slice a2 ws[k].a.dom.length c2)).cells,u.oneCell'=true:=by
    intro u hu;simp only[aG.cells,aG.oz,List.mem_cons,List.not_mem_nil,or_false]at hu;rcases hu with rfl|rfl|rfl|rfl|rfl|rfl|rfl|rfl|rfl|rfl|rfl|rfl|rfl<;>rfl
   obtain⟨y,hy⟩:∃y,y=(r.oz (.slice a2 ws[k].a.dom.length c2)).cells:=⟨_,rfl⟩;have FH:y.length=13:=by rw[hy];rfl
   rw[<-hy]at JL fC;have HY:=O hy;have mj:=O fC;have HYI:=O (Cb FH);have ZI:=O cZ;have Eg:=tD y rB (by rw[FH];rfl);have hbw:w.heap.size<=(u1.setCell ⟨wr.heap.size,12,none⟩ (.slice a2 ws[k].a.dom.length c2)).heap.size:=dk.size;have HSZ:=O (show(u1.setCell ⟨wr.heap.size,12,none⟩ (.slice a2 ws[k].a.dom.length c2)).heap.size=u1.heap.size by simp[World.setCell])
   have amg:w.heap.size<=u1.heap.size:=hF1.size;have qW:=ae1.len;rw[List.length_take,Nat.min_eq_left hk]at qW;have tS:(rs.map aG.cells).length<68719476736:=by rw[List.length_map,qW];omega
   have HR4:=O qX;have ai3:=O ae1;have alU:=O dk;clear qW oT kR bV cz OE OG hb0 o9 lZ fM wJ zo hye hy agL c12 CL cZ ae1 qX dk hF1 bt fC nj Aw
   go_wp2_with (first|((with_reducible refine ag ⟨some 22,_,_,_,_,_⟩ ?_);go_must(refine wpList_load_row rfl 144 (.tmp 5) rfl wr.heap.size rfl _ y.toArray (0,0) _ mj.out Tryz.underlying144 rfl (by rw[List.size_toArray];exact HYI.out) ?_))|(at_builtin;go_must(refine lR rfl _ _ 137 144 rfl 13 168 (.agg rB) Tryz.underlying137 Ls rfl (by decide) (by decide) w.heap.size (.slice av k cv) (rs.map aG.cells) rfl (ZI.out.alloc _) u1.heap.size 1 y rfl FH JL (fun i u hi=>by rw[<-HSZ.out,World.cell?_alloc_mark];simpa using hi) tS (by simp;omega) ?_);intro v' w4 cZ Ag))
   have M3:=Fr.TU _ Ag;have kb:=ZI.out.off (base:=base) eI (by decide);rw[HY.out]at cZ;refine⟨⟨k+1,rs++[r.oz (.slice a2 ws[k].a.dom.length c2)],by omega,by go_num,by rw[List.map_append];exact cZ,?_,alU.out.step M3 (fun j hj hS=>by have h2:=ZI.out.block j hS;omega)⟩,by simp[intOf];omega⟩;rw[bz (List.getElem?_eq_getElem cG)]
   exact(ai3.out.mono (fun _ _ h=>h.mono (fun _ _ h=>h.fr M3 kb))).app (.cons (HR4.out.mono (fun _ _ h=>h.fr M3 kb)) .nil)
  ·rw[List.take_of_length_le (by omega)]at Ef;obtain⟨av,cv,ZH⟩:=a_.form;subst ZH;go_wp2;go_ret;exact⟨_,rfl,⟨⟨rs,a_.up eI,Ef⟩,a_.block⟩,aW⟩
def ae0(base:Nat)(w:World)(gs:List (ai aF))(ws:List (aG aF))(e:Ending)(w':World):Prop :=
 ∃b gv wv,e=.returned (.pointer (some ⟨b,0,none⟩))/\ba base w' b gv wv gs ws/\Fr ay w w'/\∀k,aY b gv wv k->w.heap.size<=k
theorem ags(base:Nat)(w:World)(b:Nat)(gv wv:Value)(gs:List (ai aF))(ws:List (aG aF))(h:ba base w b gv wv gs ws)(M1:gs.length<68719476736)(zW:ws.length<68719476736) :
  Calls Tryz.prog 77 #[.pointer (some ⟨b,0,none⟩)] w (ae0 base w gs ws):=by
 have pD:=h.lt;have kM:=h.low;go_enter Tryz.func77,Tryz.ntmps77;go_wp2_with fail
 refine(GF base w b gv wv gs ws h M1).mono ?_;intro e u1 hp;obtain⟨v1,rfl,⟨Ko,UA⟩,bt⟩:=hp;go_wp2_with fail
 refine(aeP base u1 b gv wv gs ws (h.bd bt) zW).mono ?_;intro e u2 hp;obtain⟨v2,rfl,⟨wG,Jp⟩,bq⟩:=hp;obtain⟨a1,c1,FG⟩:=Ko.form;obtain⟨a2,c2,hv2⟩:=wG.form;subst FG hv2;have zo:=bt.size;have Kp:=bq.size;have dF:Fr ay u2 (u2.alloc (.cells #[.slice a1 gs.length c1,.slice a2 ws.length c2] 139)):=(Fr.refl ay u2).alloc _
 have HB:=O (show ba base (u2.alloc (.cells #[.slice a1 gs.length c1,.slice a2 ws.length c2] 139)) u2.heap.size (.slice a1 gs.length c1) (.slice a2 ws.length c2) gs ws from
  ⟨by omega,af _ _,(Ko.fr bq (lT.none _ _) (fun _ _ h=>h)).fr dF (lT.none _ _) (fun _ _ h=>h),wG.fr dF (lT.none _ _) (fun _ _ h=>h)⟩)
 have HF:=O ((bt.trans bq).trans dF);have HN:=O (show∀k,aY u2.heap.size (.slice a1 gs.length c1) (.slice a2 ws.length c2) k->w.heap.size<=k from fun k hk=>by
  rcases hk with rfl|hk|hk
  ·omega
  ·exact UA k hk
  ·have:=Jp k hk;omega)
 clear Ko wG UA Jp dF h;go_wp2;go_ret;exact⟨_,_,_,rfl,HB.out,HF.out,HN.out⟩
theorem ahy:(Tryz.prog.info? 65).map (fun i=>(i.zero,i.size,i.bytes))=some (some (.agg #[.bool false,.string ⟨#[]⟩,.int .i64 0,.bool false,.string ⟨#[]⟩,.int .i64 0,.string ⟨#[]⟩,.string ⟨#[]⟩,.bool false,.string ⟨#[]⟩,.string ⟨#[]⟩,.int .i64 0]),12,144):=by kernel_rfl
theorem ahF(v:Value)(xs:List (List Value))(w:World)(h:aN 12 w v xs)(hl:xs.length<=1000000000) :
  Calls Tryz.prog 144 #[v] w fun e w'=>∃v',e=.returned v'/\OwnRows w.heap.size 65 12 w' v' xs/\Fr ay w w':=by
 obtain⟨a,c,hv⟩:=h.form;subst hv;have q22:∀(w:World) (a:Option Addr) (n c n' c':Nat),(binOp .eql 60 (.slice a n c) (.slice none n' c')).run Tryz.prog w=.ok (.bool a.isNone) w:=fun w a n c n' c'=>Lib.run_eql_slice_nil w _ _ a n c n' c' Tryz.underlying60;cases a with
 |none =>
  obtain⟨rfl,rfl⟩:xs=[]/\c=0:=by
   rcases h.2 with ⟨a',c',hv,hs,hc⟩|⟨bk,o',c',hf,_⟩
   ·injection hv with e1 e2 e3
    exact⟨hs,e3.trans (hc e1.symm)⟩
   ·injection hf with e1;cases e1
  go_enter Tryz.func144,Tryz.ntmps144;go_wp2;go_ret;exact⟨_,rfl,OwnRows.nil _ _ _ _,Fr.refl _ _⟩
 |some ad =>
  have HX:=h.1;have HC:=O (show∀j u,xs.flatten[j]?=some u->w.cell? (ad.add j)=some u from fun j u hj=>by
   rcases h.2 with ⟨_,_,_,e,_⟩|⟨bk,o',c',hf,g1,g2,g3,g4⟩
   ·subst e;simp at hj
   ·cases hf;have yr:xs.flatten.length=xs.length*12:=eU (fun x hx=>(HX x hx).1);have hjl:=(List.getElem?_eq_some_iff.1 hj).1;have hd:j/12<xs.length:=by omega
    have hm:j%12<12:=by omega
    have hx:(xs[j/12]).length=12:=(HX _ (List.getElem_mem hd)).1;have e1:=xB (k:=12) (xs:=xs) (fun x hx=>(HX x hx).1) (j:=j/12) (List.getElem?_eq_getElem hd) (i:=j%12) (List.getElem?_eq_getElem (by rw[hx];exact hm));rw[Nat.div_add_mod']at e1;rw[e1]at hj;cases hj;have:=g4 (j/12) _ (List.getElem?_eq_getElem hd) (j%12) _ (List.getElem?_eq_getElem (by rw[hx];exact hm))
    have ea:(Addr.add ⟨bk,o',none⟩ j)=⟨bk,o'+j,none⟩:=by unfold Addr.add;split<;>simp_all
    rw[ea, <-this]
    congr 2
    omega)
  have HF:=O (show xs.flatten.length=xs.length*12 from eU (fun x hx=>(HX x hx).1));have HXX:=O HX;obtain⟨i0,hi,oZ,iy,gU⟩:=info_parts ahy;clear HX h;go_enter Tryz.func144,Tryz.ntmps144
  go_wp2_with (at_builtin;refine wpList_append_own _ rfl _ _ 60 rfl w.heap.size 65 i0 (.agg #[.bool false,.string ⟨#[]⟩,.int .i64 0,.bool false,.string ⟨#[]⟩,.int .i64 0,.string ⟨#[]⟩,.string ⟨#[]⟩,.bool false,.string ⟨#[]⟩,.string ⟨#[]⟩,.int .i64 0]) 12 144 Tryz.underlying60 hi oZ iy gU rfl (by decide) _ _ _ rfl (World.ownsRow_made w #[] 0 (Nat.le_refl _) (Nat.zero_le _) rfl) ad xs.length c xs.flatten rfl HF.out ?qc2 ?qc3 ?qc4 ?qc5 ?qc6 ?_)
  case qc2 =>
   intro j u hj;exact Lib.cell?_alloc_some _ (HC.out j u hj)
  case qc3 =>
   intro u hu;obtain⟨x,hx,FR⟩:=List.mem_flatten.1 hu;exact(HXX.out x hx).2 u FR
  case qc4=>unfold maxLen;omega
  case qc5=>omega
  case qc6=>simp
  intro v' w1 a_ gQ Ku;go_wp2;go_ret;refine⟨v',rfl,⟨HXX.out,by simpa using a_⟩,Fr.gW (((Below.refl _ w).alloc (Nat.le_refl _) _).grown gQ (by simp) (by intro k hk;simp[Value.ownBlock]at hk;omega))⟩
theorem abu(base:Nat)(w:World)(b:Nat)(v:Value)(ps:List bI)(h:cy base w b v ps)(hlen:ps.length<1000000) :
  Calls Tryz.prog 74 #[.pointer (some ⟨b,0,none⟩)] w fun e w'=>∃v',e=.returned v'/\OwnRows w.heap.size 65 12 w' v' (ps.map bI.cells)/\Fr ay w w':=by
 obtain⟨av,cv,hv⟩:=h.form;subst hv;have c0:=h.c0;have hc:=O (ahF _ _ w h.rows.at (by rw[List.length_map];omega));clear h;go_enter Tryz.func74,Tryz.ntmps74;go_wp2_with fail
 refine hc.out.mono ?_;rintro e u⟨v',rfl,ho,hf⟩;obtain⟨a',c',nu⟩:=ho.form;subst nu;rw[List.length_map]at ho;have HO:=O ho;clear ho;go_wp2;go_ret;exact⟨_,rfl,HO.out,hf⟩
def aaH(o:ib):Nat×Bool :=
 if o.right then
  if o.what=1\/o.what=2\/o.what=3\/o.what=8 then(1,true)
  else if o.what=4 then(10,false)
  else if o.what=5 then(10,true)
  else if o.what=6 then(4,false)
  else if o.what=7 then(4,true)
  else if o.what=10 then(8,true)
  else(7,true)
 else(0,false)
section
variable {base : Nat} {w w' : World} {v : bB} {p : bH}
end
theorem afk(pv:Nat->bB)(now:Int):(fo pv now)[12]?=some (.int .i64 now):=rfl
theorem abt(pv:Nat->bB)(now n:Int):(fo pv now).set 12 (.int .i64 n)=fo pv n:=rfl
section
variable {base : Nat} {w w' : World} {B : Nat} {pv : Nat → bB} {x : bW}
end
section
variable {w w' : World} {B o : Nat} {cs : List Value} {v : bB}
end
def abh(c:Nat)(P Q:bH):Prop:=(c.testBit 0=true->P.aH=Q.aH/\P.waits=Q.waits)/\(c.testBit 1=true->P.book=Q.book)/\(c.testBit 2=true->P.dh=Q.dh)
def abj(c:Nat)(P Q:bH):Prop:=(c.testBit 0=false->P.aH=Q.aH/\P.waits=Q.waits)/\(c.testBit 1=false->P.book=Q.book)/\(c.testBit 2=false->P.dh=Q.dh)
def abb(c:Nat)(P F:bH):bH:=⟨if c.testBit 0 then F.aH else P.aH,if c.testBit 0 then F.waits else P.waits,if c.testBit 1 then F.book else P.book,if c.testBit 2 then F.dh else P.dh⟩
def aaU(w f:bW)(part:Int)(c:Nat):bW :=
 if 0<=part/\part<4 then{part:=fun i=>if i=part.toNat then abb c (w.part i) (f.part i)else w.part i,now:=if c.testBit 3 then f.now else w.now}else w
theorem abh.refl(c:Nat)(P:bH):abh c P P:=⟨fun _=>⟨rfl,rfl⟩,fun _=>rfl,fun _=>rfl⟩
theorem abj.refl(c:Nat)(P:bH):abj c P P:=⟨fun _=>⟨rfl,rfl⟩,fun _=>rfl,fun _=>rfl⟩
theorem ae8(c:Nat)(P F:bH):abh c (abb c P F) F:=by
 refine⟨fun h=>?_,fun h=>?_,fun h=>?_⟩<;>unfold abb<;>simp[h]
theorem abo{c:Nat}{P F:bH}(h:abj c F P):abb c P F=F:=by
 obtain⟨g,w,b,s⟩:=F;obtain⟨h0,h1,h2⟩:=h;unfold abb;simp only[bH.mk.injEq];refine⟨?_,?_,?_,?_⟩
 ·split
  ·rfl
  ·rename_i h;exact(h0 (by simpa using h)).1.symm
 ·split
  ·rfl
  ·rename_i h;exact(h0 (by simpa using h)).2.symm
 ·split
  ·rfl
  ·rename_i h;exact(h1 (by simpa using h)).symm
 ·split
  ·rfl
  ·rename_i h;exact(h2 (by simpa using h)).symm
theorem bH.alV{P Q:bH}(h1:P.aH=Q.aH)(h2:P.waits=Q.waits)(h3:P.book=Q.book)(h4:P.dh=Q.dh):P=Q:=by
 cases P;cases Q;simp only at h1 h2 h3 h4;rw[h1,h2,h3,h4]
theorem abv{P Q:bH}{o:ib}(h:P.aH=Q.aH):(ft P o).2=(ft Q o).2/\(ft P o).1.aH=(ft Q o).1.aH/\(ft P o).1.waits=P.waits/\(ft P o).1.book=P.book/\(ft P o).1.dh=P.dh:=by
 unfold ft;rw[h];split
 ·exact⟨rfl,rfl,rfl,rfl,rfl⟩
 ·split<;>exact⟨rfl,rfl,rfl,rfl,rfl⟩
theorem aeS{P Q:bH}{o:ib}(h:P.aH=Q.aH)(h':P.waits=Q.waits):(ee P o).2=(ee Q o).2/\(ee P o).1.aH=(ee Q o).1.aH/\(ee P o).1.waits=(ee Q o).1.waits/\(ee P o).1.book=P.book/\(ee P o).1.dh=P.dh:=by
 unfold ee;rw[h,h'];split
 ·exact⟨rfl,(by first|rfl|exact h),(by first|rfl|exact h'),rfl,rfl⟩
 ·split
  ·split
   ·exact⟨rfl,rfl,(by first|rfl|exact h'),rfl,rfl⟩
   ·exact⟨rfl,rfl,rfl,rfl,rfl⟩
  ·exact⟨rfl,(by first|rfl|exact h),(by first|rfl|exact h'),rfl,rfl⟩
theorem aeL{P Q:bH}{o:ib}(h:P.aH=Q.aH)(h':P.waits=Q.waits):(ef P o).2=(ef Q o).2/\(ef P o).1.aH=(ef Q o).1.aH/\(ef P o).1.waits=(ef Q o).1.waits/\(ef P o).1.book=P.book/\(ef P o).1.dh=P.dh:=by
 unfold ef;rw[h,h'];split
 ·exact⟨rfl,(by first|rfl|exact h),rfl,rfl,rfl⟩
 ·exact⟨rfl,rfl,rfl,rfl,rfl⟩
theorem aeT{P Q:bH}{o:ib}{now:Int}(h:P.book=Q.book):(fS P now o).2=(fS Q now o).2/\(fS P now o).1.book=(fS Q now o).1.book/\(fS P now o).1.aH=P.aH/\(fS P now o).1.waits=P.waits/\(fS P now o).1.dh=P.dh:=by
 unfold fS;rw[h];split
 ·exact⟨rfl,(by first|rfl|exact h),rfl,rfl,rfl⟩
 ·split<;>exact⟨rfl,rfl,rfl,rfl,rfl⟩
theorem aeW{P Q:bH}{o:ib}(h:P.dh=Q.dh):(jU P o).2=(jU Q o).2/\(jU P o).1.dh=(jU Q o).1.dh/\(jU P o).1.aH=P.aH/\(jU P o).1.waits=P.waits/\(jU P o).1.book=P.book:=by
 unfold jU;rw[h];split
 ·exact⟨rfl,(by first|rfl|exact h),rfl,rfl,rfl⟩
 ·exact⟨rfl,rfl,rfl,rfl,rfl⟩
theorem afB{p:bH}{n:Int}{o:ib}(h:o.what=8\/o.what=9):lF p n o=kN p o:=by
 unfold lF;rw[if_neg (by omega),if_neg (by omega),if_neg (by omega),if_neg (by omega),if_neg (by omega),if_neg (by omega),if_neg (by omega)]
theorem agu{o:ib}(hr:o.right=true)(h:o.what=1):aaH o=(1,true):=by
 unfold aaH;rw[if_pos hr,if_pos (by omega)]
theorem agv{o:ib}(hr:o.right=true)(h:o.what=2):aaH o=(1,true):=by
 unfold aaH;rw[if_pos hr,if_pos (by omega)]
theorem agw{o:ib}(hr:o.right=true)(h:o.what=3):aaH o=(1,true):=by
 unfold aaH;rw[if_pos hr,if_pos (by omega)]
theorem agx{o:ib}(hr:o.right=true)(h:o.what=4):aaH o=(10,false):=by
 unfold aaH;rw[if_pos hr,if_neg (by omega),if_pos h]
theorem agy{o:ib}(hr:o.right=true)(h:o.what=5):aaH o=(10,true):=by
 unfold aaH;rw[if_pos hr,if_neg (by omega),if_neg (by omega),if_pos h]
theorem agD{o:ib}(hr:o.right=true)(h:o.what=6):aaH o=(4,false):=by
 unfold aaH;rw[if_pos hr,if_neg (by omega),if_neg (by omega),if_neg (by omega),if_pos h]
theorem agF{o:ib}(hr:o.right=true)(h:o.what=7):aaH o=(4,true):=by
 unfold aaH;rw[if_pos hr,if_neg (by omega),if_neg (by omega),if_neg (by omega),if_neg (by omega),if_pos h]
theorem agG{o:ib}(hr:o.right=true)(h:o.what=8):aaH o=(1,true):=by
 unfold aaH;rw[if_pos hr,if_pos (by omega)]
theorem agH{o:ib}(hr:o.right=true)(h:o.what=9):aaH o=(7,true):=by
 unfold aaH;rw[if_pos hr,if_neg (by omega),if_neg (by omega),if_neg (by omega),if_neg (by omega),if_neg (by omega),if_neg (by omega)]
theorem aev{o:ib}(hr:o.right=true)(h:o.what=10):aaH o=(8,true):=by
 unfold aaH;rw[if_pos hr,if_neg (by omega),if_neg (by omega),if_neg (by omega),if_neg (by omega),if_neg (by omega),if_pos h]
theorem aew{P Q:bH}{n m:Int}{o:ib}(hr:o.right=true)(h10:o.what≠10)(ha:abh (aaH o).1 P Q)(hn:(aaH o).1.testBit 3=true->n=m) :
  (lF P n o).2=(lF Q m o).2/\abh (aaH o).1 (lF P n o).1 (lF Q m o).1/\abj (aaH o).1 (lF P n o).1 P/\((aaH o).2=false->(lF P n o).1=P):=by
 have hw:=Hm hr;have ai7:o.what=1\/o.what=2\/o.what=3\/o.what=4\/o.what=5\/o.what=6\/o.what=7\/o.what=8\/o.what=9:=by omega
 rcases ai7 with h|h|h|h|h|h|h|h|h
 ·rw[agu hr h]at ha hn ⊢;rw[ah6 h,ah6 h];obtain⟨hg,hw'⟩:=ha.1 rfl;obtain⟨e1,e2,e3,e4,e5⟩:=abv (o:=o) hg;obtain⟨_,_,f3,_,_⟩:=abv (P:=Q) (Q:=Q) (o:=o) rfl;exact⟨e1,⟨fun _=>⟨e2,by rw[e3,f3,hw']⟩,fun h=>absurd h (by decide),fun h=>absurd h (by decide)⟩,⟨fun h=>absurd h (by decide),fun _=>e4,fun _=>e5⟩,fun h=>(by cases h)⟩
 ·rw[agv hr h]at ha hn ⊢;rw[apq h,apq h];obtain⟨hg,hw'⟩:=ha.1 rfl;obtain⟨e1,e2,e3,e4,e5⟩:=aeS (o:=o) hg hw';exact⟨e1,⟨fun _=>⟨e2,e3⟩,fun h=>absurd h (by decide),fun h=>absurd h (by decide)⟩,⟨fun h=>absurd h (by decide),fun _=>e4,fun _=>e5⟩,fun h=>(by cases h)⟩
 ·rw[agw hr h]at ha hn ⊢;rw[ah7 h,ah7 h];obtain⟨hg,hw'⟩:=ha.1 rfl;obtain⟨e1,e2,e3,e4,e5⟩:=aeL (o:=o) hg hw';exact⟨e1,⟨fun _=>⟨e2,e3⟩,fun h=>absurd h (by decide),fun h=>absurd h (by decide)⟩,⟨fun h=>absurd h (by decide),fun _=>e4,fun _=>e5⟩,fun h=>(by cases h)⟩
 ·rw[agx hr h]at ha hn ⊢;rw[apr h,apr h];have hb:=ha.2.1 rfl;have CV:=hn rfl;exact⟨by rw[hb,CV],ha,abj.refl _ _,fun _=>rfl⟩
 ·rw[agy hr h]at ha hn ⊢;have hb:=ha.2.1 rfl;have CV:=hn rfl;subst CV;rw[aps h,aps h];obtain⟨e1,e2,e3,e4,e5⟩:=aeT (o:=o) (now:=n) hb;exact⟨e1,⟨fun h=>absurd h (by decide),fun _=>e2,fun h=>absurd h (by decide)⟩,⟨fun _=>⟨e3,e4⟩,fun h=>absurd h (by decide),fun _=>e5⟩,fun h=>(by cases h)⟩
 ·rw[agD hr h]at ha hn ⊢;rw[ah8 h,ah8 h];have hc:=ha.2.2 rfl;exact⟨by unfold AV;rw[hc],ha,abj.refl _ _,fun _=>rfl⟩
 ·rw[agF hr h]at ha hn ⊢;rw[apt h,apt h];have hc:=ha.2.2 rfl;obtain⟨e1,e2,e3,e4,e5⟩:=aeW (o:=o) hc;exact⟨e1,⟨fun h=>absurd h (by decide),fun h=>absurd h (by decide),fun _=>e2⟩,⟨fun _=>⟨e3,e4⟩,fun _=>e5,fun h=>absurd h (by decide)⟩,fun h=>(by cases h)⟩
 ·rw[agG hr h]at ha hn ⊢;rw[afB (Or.inl h),afB (Or.inl h)];obtain⟨hg,hw'⟩:=ha.1 rfl;unfold kN;rw[if_neg (by simp[h]),if_neg (by simp[h]),if_neg (by simp[h]),if_neg (by simp[h])];unfold qi;exact⟨rfl,⟨fun _=>⟨by simp only[hg],by simp only[hw']⟩,fun h=>absurd h (by decide),fun h=>absurd h (by decide)⟩,⟨fun h=>absurd h (by decide),fun _=>rfl,fun _=>rfl⟩,fun h=>(by cases h)⟩
 ·rw[agH hr h]at ha hn ⊢;rw[afB (Or.inr h),afB (Or.inr h)];obtain⟨hg,hw'⟩:=ha.1 rfl;have e:P=Q:=bH.alV hg hw' (ha.2.1 rfl) (ha.2.2 rfl);subst e;exact⟨rfl,abh.refl _ _,⟨fun h=>absurd h (by decide),fun h=>absurd h (by decide),fun h=>absurd h (by decide)⟩,fun h=>(by cases h)⟩
theorem aex{part:Int}(h0:0<=part)(h1:part<4)(w f:bW)(c:Nat):aaU w f part c={part:=fun i=>if i=part.toNat then abb c (w.part i) (f.part i)else w.part i,now:=if c.testBit 3 then f.now else w.now}:=by
 unfold aaU;rw[if_pos ⟨h0,h1⟩]
theorem ae9(w:bW)(part:Int):aaU w w part 0=w:=by
 unfold aaU;split
 ·refine bW.eq (fun i=>?_) rfl;show(if i=_ then abb 0 (w.part i) (w.part i)else w.part i)=w.part i;split
  ·exact abo (abj.refl _ _)
  ·rfl
 ·rfl
theorem afG{o:ib}(hr:o.right=false):aaH o=(0,false):=by unfold aaH;rw[hr];rfl
def ae2(o:ib)(v w:bW):Prop:=abh (aaH o).1 (v.part o.part.toNat) (w.part o.part.toNat)/\((aaH o).1.testBit 3=true->v.now=w.now)
theorem afl{o:ib}(hr:o.right=true)(v w:bW):ae2 o (aaU v w o.part (aaH o).1) w:=by
 obtain⟨p0,p1⟩:=fl hr;rw[aex p0 p1];refine⟨?_,fun h=>?_⟩
 ·show abh _ (if o.part.toNat=o.part.toNat then _ else _) _;rw[if_pos rfl];exact ae8 _ _ _
 ·show(if(aaH o).1.testBit 3=true then w.now else v.now)=w.now;rw[if_pos h]
theorem ae_{o:ib}{v w:bW}(h:ae2 o v w):(cV v o).2=(cV w o).2/\(o.right=true->ae2 o (cV v o).1 (cV w o).1):=by
 cases hr:o.right
 ·rw[gR hr,gR hr];exact⟨rfl,fun h=>(by cases h)⟩
 ·by_cases h10:o.what=10
  ·have hn:=h.2 (by rw[aev hr h10];rfl);rw[uh hr h10,uh hr h10,hn];split
   ·exact⟨rfl,fun _=>h⟩
   ·exact⟨rfl,fun _=>⟨h.1,fun _=>rfl⟩⟩
  ·obtain⟨e1,e2,_,_⟩:=aew (n:=v.now) (m:=w.now) hr h10 h.1 h.2;rw[fI hr h10,fI hr h10];refine⟨e1,fun _=>⟨?_,fun hb=>h.2 hb⟩⟩;rw[bW.qj,bW.qj];exact e2
theorem afm{w:bW}{o:ib}(h:(aaH o).2=false):(cV w o).1=w:=by
 cases hr:o.right
 ·rw[gR hr]
 ·by_cases h10:o.what=10
  ·rw[aev hr h10]at h;cases h
  ·obtain⟨_,_,_,e4⟩:=aew (P:=w.part o.part.toNat) (Q:=w.part o.part.toNat) (n:=w.now) (m:=w.now) hr h10 (abh.refl _ _) (fun _=>rfl);rw[fI hr h10,e4 h,bW.ug]
theorem afJ(w:bW)(o:ib):aaU w (cV w o).1 o.part (aaH o).1=(cV w o).1:=by
 cases hr:o.right
 ·rw[gR hr,afG hr];exact ae9 w o.part
 ·obtain⟨p0,p1⟩:=fl hr;rw[aex p0 p1];by_cases h10:o.what=10
  ·rw[aev hr h10];refine bW.eq (fun i=>?_) ?_
   ·have hp:(cV w o).1.part=w.part:=by rw[uh hr h10];split<;>rfl
    show(if i=o.part.toNat then abb 8 (w.part i) ((cV w o).1.part i)else w.part i)=(cV w o).1.part i;rw[hp];split
    ·exact abo (abj.refl _ _)
    ·rfl
   ·rfl
  ·obtain⟨_,_,e3,_⟩:=aew (P:=w.part o.part.toNat) (Q:=w.part o.part.toNat) (n:=w.now) (m:=w.now) hr h10 (abh.refl _ _) (fun _=>rfl);rw[fI hr h10];refine bW.eq (fun i=>?_) ?_
   ·show(if i=o.part.toNat then abb (aaH o).1 (w.part i) ((w.set o.part.toNat (lF (w.part o.part.toNat) w.now o).1).part i)else w.part i)=(w.set o.part.toNat (lF (w.part o.part.toNat) w.now o).1).part i;by_cases hi:i=o.part.toNat
    ·subst hi;rw[if_pos rfl,bW.qj];exact abo e3
    ·rw[if_neg hi,bW.Cf _ _ hi]
   ·show(if(aaH o).1.testBit 3=true then w.now else w.now)=w.now;split<;>rfl
theorem afK(w:bW)(o:ib):(cV (aaU yD w o.part (aaH o).1) o).2=(cV w o).2/\((aaH o).2=false->(cV w o).1=w)/\aaU w (cV w o).1 o.part (aaH o).1=(cV w o).1:=by
 refine⟨?_,afm,afJ w o⟩;cases hr:o.right
 ·rw[gR hr,gR hr]
 ·exact(ae_ (afl hr yD w)).1
theorem aeX(base:Nat)(w:World)(b:Nat)(v:Value)(ps:List bI)(h:cy base w b v ps)(hlen:ps.length<1000000) :
  Calls Tryz.prog 78 #[.pointer (some ⟨b,0,none⟩)] w fun e w'=>∃b' v',e=.returned (.pointer (some ⟨b',0,none⟩))/\cy w.heap.size w' b' v' ps/\Fr ay w w':=by
 have HL:=O (abu base w b v ps h hlen);clear h;go_enter Tryz.func78,Tryz.ntmps78;go_wp2_with fail
 refine HL.out.mono ?_;rintro e u⟨v',rfl,ho,hf⟩;have dF:Fr ay u (u.alloc (.cells #[v'] 141)):=(Fr.refl ay u).alloc _;have HR:=O (show cy w.heap.size (u.alloc (.cells #[v'] 141)) u.heap.size v' ps from⟨hf.size,af _ _,ho.fr dF (fun _ _ h=>h)⟩);have HF:=O (hf.trans dF);obtain⟨a',c',nu⟩:=ho.form;rw[List.length_map]at nu;subst nu;clear ho HL hf dF;go_wp2;go_ret;exact⟨_,_,rfl,HR.out,HF.out⟩
theorem ahH:(Tryz.prog.info? 109).map (fun i=>(i.zero,i.size,i.bytes))=some (some (.agg #[.bool false,.string ⟨#[]⟩,.int .i64 0,.int .i64 0]),4,40):=by kernel_rfl
theorem afd(v:Value)(xs:List (List Value))(w:World)(h:aN 4 w v xs)(hl:xs.length<=1000000000) :
  Calls Tryz.prog 79 #[v] w fun e w'=>∃v',e=.returned v'/\OwnRows w.heap.size 109 4 w' v' xs/\Fr ay w w':=by
 obtain⟨a,c,hv⟩:=h.form;subst hv;have q22:∀(w:World) (a:Option Addr) (n c n' c':Nat),(binOp .eql 69 (.slice a n c) (.slice none n' c')).run Tryz.prog w=.ok (.bool a.isNone) w:=fun w a n c n' c'=>Lib.run_eql_slice_nil w _ _ a n c n' c' Tryz.underlying69;cases a with
 |none =>
  obtain⟨rfl,rfl⟩:xs=[]/\c=0:=by
   rcases h.2 with ⟨a',c',hv,hs,hc⟩|⟨bk,o',c',hf,_⟩
   ·injection hv with e1 e2 e3
    exact⟨hs,e3.trans (hc e1.symm)⟩
   ·injection hf with e1;cases e1
  go_enter Tryz.func79,Tryz.ntmps79;go_wp2;go_ret;exact⟨_,rfl,OwnRows.nil _ _ _ _,Fr.refl _ _⟩
 |some ad =>
  have HX:=h.1;have HC:=O (show∀j u,xs.flatten[j]?=some u->w.cell? (ad.add j)=some u from fun j u hj=>by
   rcases h.2 with ⟨_,_,_,e,_⟩|⟨bk,o',c',hf,g1,g2,g3,g4⟩
   ·subst e;simp at hj
   ·cases hf;have yr:xs.flatten.length=xs.length*4:=eU (fun x hx=>(HX x hx).1);have hjl:=(List.getElem?_eq_some_iff.1 hj).1;have hd:j/4<xs.length:=by omega
    have hm:j%4<4:=by omega
    have hx:(xs[j/4]).length=4:=(HX _ (List.getElem_mem hd)).1;have e1:=xB (k:=4) (xs:=xs) (fun x hx=>(HX x hx).1) (j:=j/4) (List.getElem?_eq_getElem hd) (i:=j%4) (List.getElem?_eq_getElem (by rw[hx];exact hm));rw[Nat.div_add_mod']at e1;rw[e1]at hj;cases hj;have:=g4 (j/4) _ (List.getElem?_eq_getElem hd) (j%4) _ (List.getElem?_eq_getElem (by rw[hx];exact hm))
    have ea:(Addr.add ⟨bk,o',none⟩ j)=⟨bk,o'+j,none⟩:=by unfold Addr.add;split<;>simp_all
    rw[ea, <-this]
    congr 2
    omega)
  have HF:=O (show xs.flatten.length=xs.length*4 from eU (fun x hx=>(HX x hx).1));have HXX:=O HX;obtain⟨i0,hi,oZ,iy,gU⟩:=info_parts ahH;clear HX h;go_enter Tryz.func79,Tryz.ntmps79
  go_wp2_with (at_builtin;refine wpList_append_own _ rfl _ _ 69 rfl w.heap.size 109 i0 (.agg #[.bool false,.string ⟨#[]⟩,.int .i64 0,.int .i64 0]) 4 40 Tryz.underlying69 hi oZ iy gU rfl (by decide) _ _ _ rfl (World.ownsRow_made w #[] 0 (Nat.le_refl _) (Nat.zero_le _) rfl) ad xs.length c xs.flatten rfl HF.out ?qc2 ?qc3 ?qc4 ?qc5 ?qc6 ?_)
  case qc2 =>
   intro j u hj;exact Lib.cell?_alloc_some _ (HC.out j u hj)
  case qc3 =>
   intro u hu;obtain⟨x,hx,FR⟩:=List.mem_flatten.1 hu;exact(HXX.out x hx).2 u FR
  case qc4=>unfold maxLen;omega
  case qc5=>omega
  case qc6=>simp
  intro v' w1 a_ gQ Ku;go_wp2;go_ret;refine⟨v',rfl,⟨HXX.out,by simpa using a_⟩,Fr.gW (((Below.refl _ w).alloc (Nat.le_refl _) _).grown gQ (by simp) (by intro k hk;simp[Value.ownBlock]at hk;omega))⟩
theorem aeH(base:Nat)(w:World)(B:Nat)(pv:Nat->bB)(x:bW)(h:aR base w B pv x)(i:Nat)(hi:i<4)(hl:(x.part i).waits.length<68719476736) :
  Calls Tryz.prog 80 #[.pointer (some ⟨B,0,none⟩),.int .i64 i] w (aeO base w (x.part i).waits):=by
 have c:=(h.partAt hi).cell0;have HR:=O (aeP base w (pv i).b (pv i).gv (pv i).wv (x.part i).aH (x.part i).waits (h.part i hi).gK hl);have Nr:(i:Int)<4:=by omega
 have qD:¬(i:Int)<0:=by omega
 have Oh:¬(4:Int)<=(i:Int):=by omega
 have Lb:(0:Int)<=(i:Int):=by omega
 clear h hl;go_enter Tryz.func80,Tryz.ntmps80;go_wp2_with fail
 refine HR.out.mono ?_;rintro e u⟨v',rfl,hg⟩;go_wp2;go_ret;exact⟨v',rfl,hg⟩
theorem aeD(base:Nat)(w:World)(B:Nat)(pv:Nat->bB)(x:bW)(h:aR base w B pv x)(i:Nat)(hi:i<4)(hl:(x.part i).book.length<1000000) :
  Calls Tryz.prog 27 #[.pointer (some ⟨B,0,none⟩),.int .i64 i] w (fun e w'=>∃v',e=.returned v'/\OwnRows w.heap.size 65 12 w' v' ((x.part i).book.map bI.cells)/\Fr ay w w'):=by
 have c:=(h.partAt hi).dM;have HR:=O (abu base w (pv i).k (pv i).kv (x.part i).book (h.part i hi).book hl);have Nr:(i:Int)<4:=by omega
 have qD:¬(i:Int)<0:=by omega
 have Oh:¬(4:Int)<=(i:Int):=by omega
 have Lb:(0:Int)<=(i:Int):=by omega
 clear h hl;go_enter Tryz.func27,Tryz.ntmps27;go_wp2_with fail
 refine HR.out.mono ?_;rintro e u⟨v',rfl,hg⟩;go_wp2;go_ret;exact⟨v',rfl,hg⟩
theorem aeI(base:Nat)(w:World)(B:Nat)(pv:Nat->bB)(x:bW)(h:aR base w B pv x)(i:Nat)(hi:i<4)(hl:(x.part i).dh.length<=1000000) :
  Calls Tryz.prog 32 #[.pointer (some ⟨B,0,none⟩),.int .i64 i] w (fun e w'=>∃v',e=.returned v'/\OwnRows w.heap.size 109 4 w' v' ((x.part i).dh.map ic)/\Fr ay w w'):=by
 have c:=(h.partAt hi).ir;have HR:=O (afd (pv i).cv ((x.part i).dh.map ic) w (h.part i hi).dh.at (by rw[List.length_map];omega));have Nr:(i:Int)<4:=by omega
 have qD:¬(i:Int)<0:=by omega
 have Oh:¬(4:Int)<=(i:Int):=by omega
 have Lb:(0:Int)<=(i:Int):=by omega
 obtain⟨a,k,hcv⟩:=(h.part i hi).dh.form;rw[List.length_map]at hcv;rw[hcv]at c HR;clear h hl;go_enter Tryz.func32,Tryz.ntmps32;go_wp2_with fail
 refine HR.out.mono ?_;rintro e u⟨v',rfl,hg⟩;go_wp2;go_ret;exact⟨v',rfl,hg⟩
theorem OwnRows.mono{b b' k:Nat}{e:TypeId}{w:World}{v:Value}{xs:List (List Value)}(h:OwnRows b e k w v xs)(hb:b'<=b):OwnRows b' e k w v xs:=⟨h.1,World.ownsRow.mono h.2 hb⟩
theorem cy.mono{b b' n:Nat}{w:World}{v:Value}{ps:List bI}(h:cy b w n v ps)(hb:b'<=b):cy b' w n v ps:=⟨Nat.le_trans hb h.low,h.cR,OwnRows.mono h.rows hb⟩
def cpP(aac:Nat->bB)(k i:Nat):List Value:=if i<k then(aac i).cells else [.pointer none,.pointer none,.slice none 0 0]
def cpC(aac:Nat->bB)(now:Int)(k:Nat):List Value:=cpP aac k 0++(cpP aac k 1++(cpP aac k 2++(cpP aac k 3++[.int .i64 now])))
theorem agI(aac:Nat->bB)(now:Int){k:Nat}(hk:k<4)(v:bB):lG (cpC aac now k) (k*3) v=cpC (EJ aac k v) now (k+1):=by
 unfold lG cpC cpP EJ bB.cells
 match k,hk with
 |0,_=>rfl
 |1,_=>rfl
 |2,_=>rfl
 |3,_=>rfl
theorem ahM(aac:Nat->bB)(now:Int){k:Nat}(hk:k<4):(cpC aac now k)[k*3]?=some (.pointer none)/\(cpC aac now k)[k*3+1]?=some (.pointer none)/\(cpC aac now k)[k*3+2]?=some (.slice none 0 0):=by
 unfold cpC cpP
 match k,hk with
 |0,_=>exact⟨rfl,rfl,rfl⟩
 |1,_=>exact⟨rfl,rfl,rfl⟩
 |2,_=>exact⟨rfl,rfl,rfl⟩
 |3,_=>exact⟨rfl,rfl,rfl⟩
structure aez (base:Nat) (w:World) (x:bW) (k:Nat) (aac:Nat->bB) (W:World):Prop where
 fr:Fr ay w W
 cR:W.heap[w.heap.size]?=some (.cells (cpC aac x.now k).toArray 105 (0,0))
 part:∀i,i<k->cC base W (aac i) (x.part i)
 new:∀i,i<k->∀j,(aac i).gL j->w.heap.size<j
 apart:∀i j,i<k->j<k->i≠j->∀n,(aac i).gL n->¬(aac j).gL n
theorem aez.step{base:Nat}{w W U:World}{x:bW}{k:Nat}{aac:Nat->bB}(h:aez base w x k aac W)(hb:base<=w.heap.size)(hk:k<4)(hU:Fr ay W U){v:bB}(hp:cC base U v (x.part k))(hn:∀j,v.gL j->W.heap.size<=j) :
  aez base w x (k+1) (EJ aac k v) (((U.setCell ⟨w.heap.size,k*3,none⟩ (.pointer (some ⟨v.b,0,none⟩))).setCell ⟨w.heap.size,k*3+1,none⟩ (.pointer (some ⟨v.k,0,none⟩))).setCell ⟨w.heap.size,k*3+2,none⟩ v.cv):=by
 have hN:w.heap.size<W.heap.size:=aj h.cR;have o7:=hU.keep h.cR (fun h=>h);have M3:Fr (one w.heap.size) U (((U.setCell ⟨w.heap.size,k*3,none⟩ (.pointer (some ⟨v.b,0,none⟩))).setCell ⟨w.heap.size,k*3+1,none⟩ (.pointer (some ⟨v.k,0,none⟩))).setCell ⟨w.heap.size,k*3+2,none⟩ v.cv) :=
  (((Fr.refl (one w.heap.size) U).setCell (p:=⟨w.heap.size,k*3,none⟩) (fun _=>rfl) _).setCell (p:=⟨w.heap.size,k*3+1,none⟩) (fun _=>rfl) _).setCell (p:=⟨w.heap.size,k*3+2,none⟩) (fun _=>rfl) _
 have kb:lT base U (one w.heap.size):=by
  rintro j rfl _;exact⟨hb,fun c f e=>by rw[o7]at e;cases e⟩
 have e1:=aP o7 (k*3) (.pointer (some ⟨v.b,0,none⟩));have e2:=aP e1 (k*3+1) (.pointer (some ⟨v.k,0,none⟩));have e3:=aP e2 (k*3+2) v.cv;have vT:∀i,i<k->∀j,(aac i).gL j->j<W.heap.size:=fun i hi j hj=>(h.part i hi).fO hj
 refine⟨(((h.fr.trans hU).dI (p:=⟨w.heap.size,k*3,none⟩) (Nat.le_refl _) _).dI (p:=⟨w.heap.size,k*3+1,none⟩) (Nat.le_refl _) _).dI (p:=⟨w.heap.size,k*3+2,none⟩) (Nat.le_refl _) _,?_,fun i hi=>?_,fun i hi j hj=>?_,fun i j hi hj hij n UA Jp=>?_⟩
 ·rw[e3, <-agI aac x.now hk v];unfold lG;simp
 ·by_cases YS:i=k
  ·subst YS;rw[JU];exact hp.fr M3 kb (fun j hj e=>by have e':j=w.heap.size:=e;have:=hn j hj;omega)
  ·rw[uo aac v YS];have ahR:i<k:=by omega
   exact((h.part i ahR).bd hU).fr M3 kb (fun j hj e=>by have e':j=w.heap.size:=e;have:=h.new i ahR j hj;omega)
 ·by_cases YS:i=k
  ·subst YS;rw[JU]at hj;have:=hn j hj;omega
  ·rw[uo aac v YS]at hj;exact h.new i (by omega) j hj
 ·by_cases YS:i=k
  ·subst YS;rw[JU]at UA;rw[uo aac v (Ne.symm hij)]at Jp;have a1:=hn n UA;have a2:=vT j (by omega) n Jp;omega
  ·rw[uo aac v YS]at UA;by_cases hjk:j=k
   ·subst hjk;rw[JU]at Jp;have a1:=hn n Jp;have a2:=vT i (by omega) n UA;omega
   ·rw[uo aac v hjk]at Jp;exact h.apart i j (by omega) (by omega) hij n UA Jp
theorem aez.done{base:Nat}{w W:World}{x:bW}{aac:Nat->bB}(h:aez base w x 4 aac W)(hb:base<=w.heap.size):aR base W w.heap.size aac x :=
 ⟨hb,h.cR,h.part,h.apart⟩
def ai_(base:Nat)(w:World)(x:bW)(t:Value)(wr:World):Prop:=∃(k:Nat) (aac:Nat->bB),k<=4/\t=.int .i64 k/\aez base w x k aac wr
def afL(base:Nat)(w:World)(x:bW)(e:Ending)(w':World):Prop :=
 ∃B aac,e=.returned (.pointer (some ⟨B,0,none⟩))/\aR base w' B aac x/\Fr ay w w'/\∀j,jV B aac j->w.heap.size<=j
theorem aeQ(base:Nat)(w:World)(B:Nat)(pv:Nat->bB)(x:bW)(h:aR base w B pv x)(hs:∀i,i<4->(x.part i).aH.length<68719476736/\(x.part i).waits.length<68719476736/\(x.part i).book.length<1000000/\(x.part i).dh.length<=1000000) :
  Calls Tryz.prog 31 #[.pointer (some ⟨B,0,none⟩)] w (afL base w x):=by
 have hb:base<=w.heap.size:=Nat.le_trans h.low (Nat.le_of_lt h.lt);obtain⟨x1,sM⟩:∃x1,x1=w.alloc (.cells #[.pointer none,.pointer none,.slice none 0 0,.pointer none,.pointer none,.slice none 0 0,.pointer none,.pointer none,.slice none 0 0,.pointer none,.pointer none,.slice none 0 0,.int .i64 x.now] 105):=⟨_,rfl⟩;have bt:Fr ay w x1:=by rw[sM];exact(Fr.refl _ _).alloc _
 have h0:aez base w x 0 pv x1:=⟨bt,by rw[sM];exact af _ _,fun i hi=>absurd hi (Nat.not_lt_zero i),fun i hi=>absurd hi (Nat.not_lt_zero i),fun i j hi=>absurd hi (Nat.not_lt_zero i)⟩;have H0:=O h0;have HW:=O h;have HB:=O hb;have HS:=O hs;have o7:=h.cR;have abg:=bt.keep h.cR (fun h=>h);unfold fo bB.cells at o7 abg;simp only[List.cons_append,List.nil_append]at o7 abg
 have aiN:w.cell? ⟨B,12,none⟩=some (.int .i64 x.now):=by simp only[World.cell?,o7];rfl
 have c0:x1.cell? ⟨B,0,none⟩=some (.pointer (some ⟨(pv 0).b,0,none⟩)):=by simp only[World.cell?,abg];rfl
 have c1:x1.cell? ⟨B,1,none⟩=some (.pointer (some ⟨(pv 0).k,0,none⟩)):=by simp only[World.cell?,abg];rfl
 have c2:x1.cell? ⟨B,2,none⟩=some ((pv 0).cv):=by simp only[World.cell?,abg];rfl
 have c3:x1.cell? ⟨B,3,none⟩=some (.pointer (some ⟨(pv 1).b,0,none⟩)):=by simp only[World.cell?,abg];rfl
 have c4:x1.cell? ⟨B,4,none⟩=some (.pointer (some ⟨(pv 1).k,0,none⟩)):=by simp only[World.cell?,abg];rfl
 have c5:x1.cell? ⟨B,5,none⟩=some ((pv 1).cv):=by simp only[World.cell?,abg];rfl
 have c6:x1.cell? ⟨B,6,none⟩=some (.pointer (some ⟨(pv 2).b,0,none⟩)):=by simp only[World.cell?,abg];rfl
 have c7:x1.cell? ⟨B,7,none⟩=some (.pointer (some ⟨(pv 2).k,0,none⟩)):=by simp only[World.cell?,abg];rfl
 have c8:x1.cell? ⟨B,8,none⟩=some ((pv 2).cv):=by simp only[World.cell?,abg];rfl
 have c9:x1.cell? ⟨B,9,none⟩=some (.pointer (some ⟨(pv 3).b,0,none⟩)):=by simp only[World.cell?,abg];rfl
 have FT:x1.cell? ⟨B,10,none⟩=some (.pointer (some ⟨(pv 3).k,0,none⟩)):=by simp only[World.cell?,abg];rfl
 have Xl:x1.cell? ⟨B,11,none⟩=some ((pv 3).cv):=by simp only[World.cell?,abg];rfl
 have ZL:=O (show∀k:Nat,k<4->∀u,Sem.run Tryz.prog (Instr.index 103 (.agg #[.pointer (some ⟨(pv 0).b,0,none⟩),.pointer (some ⟨(pv 0).k,0,none⟩),(pv 0).cv,.pointer (some ⟨(pv 1).b,0,none⟩),.pointer (some ⟨(pv 1).k,0,none⟩),(pv 1).cv,.pointer (some ⟨(pv 2).b,0,none⟩),.pointer (some ⟨(pv 2).k,0,none⟩),(pv 2).cv,.pointer (some ⟨(pv 3).b,0,none⟩),.pointer (some ⟨(pv 3).k,0,none⟩),(pv 3).cv]) (.int .i64 k)) u=.ok (.agg #[.pointer (some ⟨(pv k).b,0,none⟩),.pointer (some ⟨(pv k).k,0,none⟩),(pv k).cv]) u from fun k hk u=>by
  rcases(show k=0\/k=1\/k=2\/k=3 by omega)with rfl|rfl|rfl|rfl
  ·kernel_rfl
  ·kernel_rfl
  ·kernel_rfl
  ·kernel_rfl)
 have HX1:=O sM;rw[sM]at c0 c1 c2 c3 c4 c5 c6 c7 c8 c9 FT Xl;clear h0 h hb hs o7 abg sM bt;go_enter Tryz.func31,Tryz.ntmps31;go_wp2_with fail
 rw[<-HX1.out];clear c0 c1 c2 c3 c4 c5 c6 c7 c8 c9 FT Xl aiN;go_loopw[16] (ai_ base w x) (fun i _=>4-(intOf i).toNat)
 case atStart=>exact⟨0,pv,Nat.zero_le _,rfl,H0.out⟩
 case round =>
  obtain⟨k,aac,hk,rfl,hcp⟩:=hrel;by_cases cG:k<4
  ·have lf:(k:Int)<4:=by omega
   have U8:¬(k:Int)<0:=by omega
   have ax4:(0:Int)<=(k:Int):=by omega
   have ait:¬(4:Int)<=(k:Int):=by omega
   have rm:=ZL.out k cG;have HCP:=O hcp;have HKS:=O cG;obtain⟨cvk,alW⟩:∃c,c=(pv k).cv:=⟨_,rfl⟩;obtain⟨ca,cc,hcf⟩:=(HW.out.part k cG).dh.form;rw[List.length_map]at hcf;rw[hcf]at rm;obtain⟨y1,ze⟩:∃y1,y1=wr.alloc (.cells #[.pointer (some ⟨(pv k).b,0,none⟩),.pointer (some ⟨(pv k).k,0,none⟩),.slice ca (x.part k).dh.length cc] 102):=⟨_,rfl⟩;have hfy:Fr ay wr y1:=by rw[ze];exact(Fr.refl _ _).alloc _
   have mi:y1.heap[wr.heap.size]?=some (.cells #[.pointer (some ⟨(pv k).b,0,none⟩),.pointer (some ⟨(pv k).k,0,none⟩),.slice ca (x.part k).dh.length cc] 102 (0,0)):=by rw[ze];exact af _ _
   have HWY:=O (HW.out.bd (hcp.fr.trans hfy));have HFY:=O hfy;have HBY:=O mi;have HY1:=O ze;have Yb:=O hcf;have HC:=O (show∀U,Fr ay y1 U->(U.cell? ⟨wr.heap.size,0,none⟩=some (.pointer (some ⟨(pv k).b,0,none⟩))/\U.cell? ⟨wr.heap.size,1,none⟩=some (.pointer (some ⟨(pv k).k,0,none⟩))/\U.cell? ⟨wr.heap.size,2,none⟩=some (.slice ca (x.part k).dh.length cc))from fun U hU=>by
    have j:=hU.keep HBY.out (fun h=>h);refine⟨?_,?_,?_⟩<;>simp[World.cell?,j])
   have HKB:=O (show∀U,Fr ay y1 U->Calls Tryz.prog 77 #[.pointer (some ⟨(pv k).b,0,none⟩)] U (ae0 base U (x.part k).aH (x.part k).waits)from fun U hU=>ags base U (pv k).b (pv k).gv (pv k).wv (x.part k).aH (x.part k).waits ((HWY.out.bd hU).part k HKS.out).gK (HS.out k HKS.out).1 (HS.out k HKS.out).2.1)
   have HKK:=O (show∀U,Fr ay y1 U->Calls Tryz.prog 78 #[.pointer (some ⟨(pv k).k,0,none⟩)] U fun e w'=>∃b' v',e=.returned (.pointer (some ⟨b',0,none⟩))/\cy U.heap.size w' b' v' (x.part k).book/\Fr ay U w' from fun U hU=>aeX base U (pv k).k (pv k).kv (x.part k).book ((HWY.out.bd hU).part k HKS.out).book (HS.out k HKS.out).2.2.1)
   have HKC:=O (show∀U,Fr ay y1 U->Calls Tryz.prog 79 #[.slice ca (x.part k).dh.length cc] U fun e w'=>∃v',e=.returned v'/\OwnRows U.heap.size 109 4 w' v' ((x.part k).dh.map ic)/\Fr ay U w' from fun U hU=>by
    have hh:=((HWY.out.bd hU).part k HKS.out).dh.at;rw[Yb.out]at hh;exact afd _ _ U hh (by rw[List.length_map];have:=(HS.out k HKS.out).2.2.2;omega))
   clear hcp hfy mi ze hcf alW cvk cG;go_wp2_with fail
   rw[<-HY1.out];refine wp_region_held_drew (S:=(fun U=>U.cell? ⟨wr.heap.size,0,none⟩=some (.pointer (some ⟨(pv k).b,0,none⟩))/\U.cell? ⟨wr.heap.size,1,none⟩=some (.pointer (some ⟨(pv k).k,0,none⟩))/\U.cell? ⟨wr.heap.size,2,none⟩=some (.slice ca (x.part k).dh.length cc))) (by kernel_rfl) (HC.out _ (Fr.drew (Fr.refl _ _))) ?_;intro cW;refine tk 0 ⟨some 20,_,_,_,_,_⟩ (v:=?_) rfl (by rfl) ?hy ?_
   case hy=>(intro w hSw;(try dsimp only at hSw);go_simp<;>with_reducible rfl)
   try simp only[Act.put,sA,sB,sC]
   refine tk 1 ⟨some 21,_,_,_,_,_⟩ (v:=?_) rfl (by rfl) ?hy ?_
   case hy=>(intro w hSw;(try dsimp only at hSw);go_simp<;>with_reducible rfl)
   try simp only[Act.put,sA,sB,sC]
   refine tk 2 ⟨some 22,_,_,_,_,_⟩ (v:=?_) rfl (by rfl) ?hy ?_
   case hy=>(intro w hSw;(try dsimp only at hSw);go_simp<;>with_reducible rfl)
   try simp only[Act.put,sA,sB,sC]
   refine tk 3 ⟨some 23,_,_,_,_,_⟩ (v:=?_) rfl (by rfl) ?hy ?_
   case hy=>(intro w hSw;(try dsimp only at hSw);go_simp<;>with_reducible rfl)
   try simp only[Act.put,sA,sB,sC]
   refine tk 5 ⟨some 25,_,_,_,_,_⟩ (v:=?_) rfl (by rfl) ?hy ?_
   case hy=>(intro w hSw;(try dsimp only at hSw);go_simp<;>with_reducible rfl)
   try simp only[Act.put,sA,sB,sC]
   refine tk 6 ⟨some 26,_,_,_,_,_⟩ (v:=?_) rfl (by rfl) ?hy ?_
   case hy=>(intro w hSw;(try dsimp only at hSw);go_simp<;>with_reducible rfl)
   try simp only[Act.put,sA,sB,sC]
   refine tk 8 ⟨some 28,_,_,_,_,_⟩ (v:=?_) rfl (by rfl) ?hy ?_
   case hy=>(intro w hSw;(try dsimp only at hSw);go_simp<;>with_reducible rfl)
   try simp only[Act.put,sA,sB,sC]
   refine tk 9 ⟨some 29,_,_,_,_,_⟩ (v:=?_) rfl (by rfl) ?hy ?_
   case hy=>(intro w hSw;(try dsimp only at hSw);go_simp<;>with_reducible rfl)
   try simp only[Act.put,sA,sB,sC]
   refine tk 12 ⟨some 32,_,_,_,_,_⟩ (v:=?_) rfl (by rfl) ?hy ?_
   case hy=>(intro w hSw;(try dsimp only at hSw);go_simp<;>with_reducible rfl)
   try simp only[Act.put,sA,sB,sC]
   refine tk 13 ⟨some 33,_,_,_,_,_⟩ (v:=?_) rfl (by rfl) ?hy ?_
   case hy=>(intro w hSw;(try dsimp only at hSw);go_simp<;>with_reducible rfl)
   try simp only[Act.put,sA,sB,sC]
   refine wpAnyH_ready (rs:=[4]) (by kernel_rfl) (by simp) ?_;refine AllReadyH.cons rfl (fun K hK=>?_) AllReadyH.nil;go_simp;refine(HKB.out _ (Fr.drew (Fr.refl ay y1))).mono ?_;rintro e u1⟨aah,aaj,kw,rfl,hb,hf,hn⟩;have gV:=O ((Fr.drew (Fr.refl ay y1)).trans hf);have He:=O hf;have HGB:=O hb;have HGN:=O hn;clear hb hf hn;refine hK.out _ _ (HC.out _ gV.out) ?_;intro CY;clear hK cW K
   try simp only[Act.put,sA,sB,sC]
   refine wpAnyH_ready (rs:=[7]) (by kernel_rfl) (by simp) ?_;refine AllReadyH.cons rfl (fun K hK=>?_) AllReadyH.nil;go_simp;refine(HKK.out _ (gV.out)).mono ?_;rintro e u2⟨aak,kv,rfl,hb,hf⟩;have dk:=O ((gV.out).trans hf);have HQ2:=O hf;have HGK:=O hb;clear hb hf;refine hK.out _ _ (HC.out _ dk.out) ?_;intro G_;clear hK CY K
   try simp only[Act.put,sA,sB,sC]
   refine wpAnyH_ready (rs:=[10]) (by kernel_rfl) (by simp) ?_;refine AllReadyH.cons rfl (fun K hK=>?_) AllReadyH.nil;go_simp;refine(HKC.out _ (dk.out)).mono ?_;rintro e u3⟨kc,rfl,hb,hf⟩;have dV:=O ((dk.out).trans hf);have HQ3:=O hf;have HGC:=O hb;obtain⟨aan,aaq,Xw⟩:=hb.form;rw[List.length_map]at Xw;subst Xw;clear hb hf;refine hK.out _ _ (HC.out _ dV.out) ?_;intro PZ;clear hK G_ K
   try simp only[Act.put,sA,sB,sC]
   refine tk 11 ⟨some 31,_,_,_,_,_⟩ (v:=?_) rfl (by rfl) ?hy ?_
   case hy=>(intro w hSw;(try dsimp only at hSw);go_simp<;>with_reducible rfl)
   try simp only[Act.put,sA,sB,sC]
   refine tk 14 ⟨some 34,_,_,_,_,_⟩ (v:=?_) rfl (by rfl) ?hy ?_
   case hy=>(intro w hSw;(try dsimp only at hSw);go_simp<;>with_reducible rfl)
   try simp only[Act.put,sA,sB,sC]
   refine wpAnyH_ready (rs:=[15]) (by kernel_rfl) (by simp) ?_;refine AllReadyH.cons rfl (fun K hK=>?_) AllReadyH.nil
   have fR:=HCP.out.step HB.out HKS.out (HFY.out.trans dV.out) (v:=⟨aah,aaj,kw,aak,kv,.slice aan (x.part k).dh.length aaq⟩) ⟨HGB.out.bd (HQ2.out.trans HQ3.out),(cy.mono HGK.out (Nat.le_trans (Nat.le_trans HB.out HCP.out.fr.size) (HFY.out.trans (gV.out)).size)).bd HQ3.out,OwnRows.fr (OwnRows.mono HGC.out (Nat.le_trans (Nat.le_trans HB.out HCP.out.fr.size) (HFY.out.trans (dk.out)).size)) (Fr.refl _ _) (fun _ _ h=>h)⟩ (by
    rintro j(hj|hj|hj)
    ·exact Nat.le_trans (HFY.out.trans (Fr.drew (Fr.refl _ _))).size (HGN.out j hj)
    ·exact Nat.le_trans (HFY.out.trans (gV.out)).size (HGK.out.iU hj)
    ·exact Nat.le_trans (HFY.out.trans (dk.out)).size (HGC.out.block _ hj))
   have jn:=O fR;have o5:=dV.out.keep (HFY.out.keep HCP.out.cR (fun h=>h)) (fun h=>h);obtain⟨q0,q1,q2⟩:=ahM aac x.now HKS.out;have c0:u3.cell? ⟨w.heap.size,k*3,none⟩=some (.pointer none):=by simp[World.cell?,o5,q0]
   have c1:u3.cell? ⟨w.heap.size,k*3+1,none⟩=some (.pointer none):=by simp[World.cell?,o5,q1]
   have c2:u3.cell? ⟨w.heap.size,k*3+2,none⟩=some (.slice none 0 0):=by simp[World.cell?,o5,q2]
   have f0:∀j,u3.frozen? ⟨w.heap.size,j,none⟩=false:=fun j=>by simp[World.frozen?,o5]
   have f1:=f0 (k*3);have f2:=f0 (k*3+1);have f3:=f0 (k*3+2);obtain⟨W9,ij⟩:∃W9,W9=((u3.setCell ⟨w.heap.size,k*3,none⟩ (.pointer (some ⟨aah,0,none⟩))).setCell ⟨w.heap.size,k*3+1,none⟩ (.pointer (some ⟨aak,0,none⟩))).setCell ⟨w.heap.size,k*3+2,none⟩ (.slice aan (x.part k).dh.length aaq):=⟨_,rfl⟩
   have HS9:=O (show aez base w x (k+1) (EJ aac k ⟨aah,aaj,kw,aak,kv,.slice aan (x.part k).dh.length aaq⟩) W9 by rw[ij];exact jn.out);have M3:Fr (one w.heap.size) u3 W9:=by rw[ij];exact(((Fr.refl (one w.heap.size) u3).setCell (p:=⟨w.heap.size,k*3,none⟩) (fun _=>rfl) _).setCell (p:=⟨w.heap.size,k*3+1,none⟩) (fun _=>rfl) _).setCell (p:=⟨w.heap.size,k*3+2,none⟩) (fun _=>rfl) _
   have hb9:=M3.keep (dV.out.keep HBY.out (fun h=>h)) (fun e=>by have e':wr.heap.size=w.heap.size:=e;have:=aj HCP.out.cR;omega);have HB9:=O hb9;clear M3 hb9;clear fR q0 q1 q2 f0 o5;go_simp;rw[<-ij];clear ij;have hb9:=HB9.out;refine hK.out _ _ ⟨by simp[World.cell?,hb9],by simp[World.cell?,hb9],by simp[World.cell?,hb9]⟩ ?_;intro hS4;clear hK PZ K hS4 hb9
   try simp only[Act.put,sA,sB,sC]
   refine wpAnyH_done (by kernel_rfl) ?_ _;go_wp2_with fail
   go_roundw
   case rel=>exact⟨k+1,_,by omega,by go_num,HS9.out⟩
   case measure=>simp[intOf];omega
  ·have MU:k=4:=by omega
   subst MU;have HD:=O (hcp.done HB.out);have py:=O hcp.fr;have Qx:=O (show∀j,jV w.heap.size aac j->w.heap.size<=j from fun j hj=>by
    rcases hj with rfl|⟨i,hi,hj⟩
    ·exact Nat.le_refl _
    ·exact Nat.le_of_lt (hcp.new i hi j hj))
   clear hcp H0;go_wp2;go_ret;exact⟨_,_,rfl,HD.out,py.out,Qx.out⟩
structure abr (a U:World) (B:Nat) (pv:Nat->bB) (x:bW) (C:Nat) (aac:Nat->bB) (y:bW):Prop where
 one:aR a.heap.size U B pv x
 two:aR a.heap.size U C aac y
 fr:Fr ay a U
 off:∀k,jV C aac k->¬jV B pv k
section
variable {a U U' : World} {B C : Nat} {pv aac : Nat → bB} {x x' y : bW}
theorem abr.swap(h:abr a U B pv x C aac y):abr a U C aac y B pv x:=⟨h.two,h.one,h.fr,fun k hk Zw=>h.off k Zw hk⟩
def ahI(a U:World)(B:Nat)(x:bW)(C:Nat)(aac:Nat->bB)(y:bW)(U':World):Prop :=
 ∃zu,abr a U' B zu x C aac y/\∀(n:Nat) (c:Array Value) (t:TypeId),U.heap[n]?=some (.cells c t (0,0))->fJ t->t≠105->U'.heap[n]?=some (.cells c t (0,0))
theorem abr.step(h:abr a U B pv x C aac y)(hp:aC a.heap.size U B pv x' U'):ahI a U B x' C aac y U':=by
 have hf':=hp.frame h.one h.fr (Nat.le_refl _);obtain⟨zu,h1,h2,h3⟩:=hp;refine⟨zu,⟨h1,h.two.fr h2 h.one.off h.off,hf',fun k hk Zw=>?_⟩,fun n c t hn ht hw=>h2.keep hn (h.one.yT hn ht hw)⟩;rcases h3 k Zw with e|e
 ·exact h.off k hk e
 ·have:=h.two.fO hk;omega
theorem abr.copied(h:aR a.heap.size U B pv x)(hf:Fr ay a U)(hc:aR a.heap.size U' C aac y)(hu:Fr ay U U')(hn:∀j,jV C aac j->U.heap.size<=j):abr a U' B pv x C aac y :=
 ⟨h.bd hu,hc,hf.trans hu,fun k hk Zw=>by
  have h1:=hn k hk;have h2:=h.fO Zw;omega⟩
end
theorem fW.xc{x:bW}(h:fW x):∀i,i<4->(x.part i).aH.length<68719476736/\(x.part i).waits.length<68719476736/\(x.part i).book.length<1000000/\(x.part i).dh.length<=1000000:=fun i _=>by
 obtain⟨l1,l2,l3,l4⟩:=(h.ok.part i).xc;exact⟨by omega,by omega,by omega,by omega⟩
theorem akg{P G:Nat->Nat->World->Prop}{T:Prop}(main:(∀a b c,P a b c->G a b c)->T)(rest:∀a b c,P a b c->G a b c):T:=main rest
theorem cj{base:Nat}{w U:World}{B n:Nat}{pv:Nat->bB}{x:bW}(h:aR base U B pv x)(hf:Fr ay w U)(ku:base<=n)(M7:w.heap.size<=n){cs:Array Value}{t:TypeId}(hb:U.heap[n]?=some (.cells cs t (0,0)))(ht:fJ t)(hw:t≠105)(hs:t≠9)(X:Array Value) :
  aR base (U.setRow n X) B pv x/\Fr ay w (U.setRow n X)/\(U.setRow n X).heap[n]?=some (.cells X t (0,0)) /\
   ∀(m:Nat) (o:Obj),m≠n->U.heap[m]?=some o->(U.setRow n X).heap[m]?=some o:=by
 have fM:Fr (one n) U (U.setRow n X):=(Fr.refl (one n) U).setRow (fun _=>rfl) _;refine⟨h.fr fM ?_ (fun k hk e=>h.yT hb ht hw (by have e':k=n:=e;rw[<-e'];exact hk)),jv hf M7 _,nP hb,fun m o hm ho=>fM.keep ho (fun e=>hm e)⟩;rintro k rfl _;exact⟨ku,fun c f e=>by rw[hb]at e;cases e;exact hs rfl⟩
structure ThW (a:World) (c:Array Value) (B C E:Nat) (x y z:bW) (l:List (Nat×Array Value)) (U:World):Prop where
 is:∃pv aac aar,aR a.heap.size U B pv x/\aR a.heap.size U C aac y/\aR a.heap.size U E aar z/\(∀k,jV C aac k->¬jV B pv k)/\(∀k,jV E aar k->¬jV B pv k)/\∀k,jV E aar k->¬jV C aac k
 fr:Fr ay a U
 op:U.heap[a.heap.size]?=some (.cells c 33 (0,0))
 rep:∀p,p∈l->a.heap.size<p.1/\U.heap[p.1]?=some (.cells p.2 39 (0,0))
section
variable {a U U' : World} {c : Array Value} {B C E : Nat} {x x' y z : bW} {l : List (Nat × Array Value)}
theorem ThW.bd(h:ThW a c B C E x y z l U)(hf:Fr ay U U'):ThW a c B C E x y z l U':=by
 obtain⟨pv,aac,aar,h1,h2,h3,o⟩:=h.is;exact⟨⟨pv,aac,aar,h1.bd hf,h2.bd hf,h3.bd hf,o⟩,h.fr.trans hf,hf.keep h.op (fun h=>h),fun p hp=>⟨(h.rep p hp).1,hf.keep (h.rep p hp).2 (fun h=>h)⟩⟩
theorem ThW.swap(h:ThW a c B C E x y z l U):ThW a c C B E y x z l U:=by
 obtain⟨pv,aac,aar,h1,h2,h3,o1,o2,o3⟩:=h.is;exact⟨⟨aac,pv,aar,h2,h1,h3,fun k hk Zw=>o1 k Zw hk,o3,o2⟩,h.fr,h.op,h.rep⟩
theorem ThW.ahS(h:ThW a c B C E x y z l U):ThW a c E C B z y x l U:=by
 obtain⟨pv,aac,aar,h1,h2,h3,o1,o2,o3⟩:=h.is;exact⟨⟨aar,aac,pv,h3,h2,h1,fun k hk Zw=>o3 k Zw hk,fun k hk Zw=>o2 k Zw hk,fun k hk Zw=>o1 k Zw hk⟩,h.fr,h.op,h.rep⟩
theorem ThW.act{f:FuncId}{args:Array Value}{R:Ending->Prop}(h:ThW a c B C E x y z l U)
  (hc:∀pv,aR a.heap.size U B pv x->(∀aac,(∃aar,aR a.heap.size U C aac y/\aR a.heap.size U E aar z)->Calls Tryz.prog f args U fun e w'=>R e/\aC a.heap.size U B pv x' w')) :
  Calls Tryz.prog f args U fun e w'=>R e/\ThW a c B C E x' y z l w':=by
 obtain⟨pv,aac,aar,h1,h2,h3,o1,o2,o3⟩:=h.is;refine(hc pv h1 aac ⟨aar,h2,h3⟩).mono fun e w' hh=>⟨hh.1,?_⟩;have hf':=hh.2.frame h1 h.fr (Nat.le_refl _);obtain⟨zu,g1,g2,g3⟩:=hh.2;have keep:∀(n:Nat) (d:Array Value) (t:TypeId),U.heap[n]?=some (.cells d t (0,0))->fJ t->t≠105->w'.heap[n]?=some (.cells d t (0,0)):=fun n d t hn ht hw=>g2.keep hn (h1.yT hn ht hw)
 refine⟨⟨zu,aac,aar,g1,h2.fr g2 h1.off o1,h3.fr g2 h1.off o2,fun k hk Zw=>?_,fun k hk Zw=>?_,o3⟩,hf',keep _ _ _ h.op aO (by decide),fun p hp=>⟨(h.rep p hp).1,keep _ _ _ (h.rep p hp).2 aD (by decide)⟩⟩
 ·rcases g3 k Zw with e|e
  ·exact o1 k hk e
  ·have:=h2.fO hk;omega
 ·rcases g3 k Zw with e|e
  ·exact o2 k hk e
  ·have:=h3.fO hk;omega
theorem ThW.ahT(h:ThW a c B C E x y z l U)(hi:fW x)(ht:fN a){o:ei}{hs:List dW}(ho:bg U o hs) :
  Calls Tryz.prog 17 #[.pointer (some ⟨B,0,none⟩),.agg o.cells.toArray] U (fun e w'=>e=.returned (.agg #[.int .i64 (cV x (o.bF hs)).2.what,.string (cV x (o.bF hs)).2.head,.int .i64 (cV x (o.bF hs)).2.cert])/\ThW a c B C E (cV x (o.bF hs)).1 y z l w') :=
 h.act (R:=fun e=>e=.returned (.agg #[.int .i64 (cV x (o.bF hs)).2.what,.string (cV x (o.bF hs)).2.head,.int .i64 (cV x (o.bF hs)).2.cert])) fun _ h1 _ _=>ja h1 h.fr hi ht ho
theorem ThW.made(h:ThW a c B C E x y z l U)(r:Array Value):ThW a c B C E x y z ((U.heap.size,r) :: l) (U.alloc (.cells r 39)):=by
 have hf:Fr ay U (U.alloc (.cells r 39)):=(Fr.refl _ _).alloc _;have g:=h.bd hf;refine⟨g.is,g.fr,g.op,fun p hp=>?_⟩;rcases List.mem_cons.1 hp with rfl|hp
 ·exact⟨aj h.op,af _ _⟩
 ·exact g.rep p hp
theorem ThW.stored{n:Nat}{r:Array Value}(h:ThW a c B C E x y z ((n,r) :: l) U)(hl:∀p,p∈l->p.1≠n)(X:Array Value):ThW a c B C E x y z ((n,X) :: l) (U.setRow n X):=by
 obtain⟨hn,hb⟩:=h.rep _ (List.mem_cons_self ..);obtain⟨pv,aac,aar,h1,h2,h3,o⟩:=h.is;have q1:=cj h1 h.fr (Nat.le_of_lt hn) (Nat.le_of_lt hn) hb aD (by decide) (by decide) X;have q2:=cj h2 h.fr (Nat.le_of_lt hn) (Nat.le_of_lt hn) hb aD (by decide) (by decide) X;have q3:=cj h3 h.fr (Nat.le_of_lt hn) (Nat.le_of_lt hn) hb aD (by decide) (by decide) X
 refine⟨⟨pv,aac,aar,q1.1,q2.1,q3.1,o⟩,q1.2.1,q1.2.2.2 _ _ (Nat.ne_of_lt hn) h.op,fun p hp=>?_⟩;rcases List.mem_cons.1 hp with rfl|hp
 ·exact⟨hn,q1.2.2.1⟩
 ·exact⟨(h.rep p (List.mem_cons_of_mem _ hp)).1,q1.2.2.2 _ _ (hl p hp) (h.rep p (List.mem_cons_of_mem _ hp)).2⟩
theorem ThW.perm{l':List (Nat×Array Value)}(h:ThW a c B C E x y z l U)(hl:∀p,p∈l'->p∈l):ThW a c B C E x y z l' U:=⟨h.is,h.fr,h.op,fun p hp=>h.rep p (hl p hp)⟩
end
def aeB(b:Bool)(w:World)(p:Addr)(v:Value):World:=if b then w.setCell p v else w
theorem abp{B:Nat}{a w:World}(h:Fr (one B) a w)(b:Bool)(k:Nat)(v:Value):Fr (one B) a (aeB b w ⟨B,k,none⟩ v):=by
 cases b
 ·exact h
 ·exact h.setCell (p:=⟨B,k,none⟩) (fun _=>rfl) v
theorem abq{B:Nat}{w:World}{cs:List Value}{t:TypeId}{f:Nat×Nat}(h:w.heap[B]?=some (.cells cs.toArray t f))(b:Bool)(k:Nat){vT:Value}(hk:cs[k]?=some vT)(v:Value) :
  (aeB b w ⟨B,k,none⟩ v).heap[B]?=some (.cells (cs.set k (if b then v else vT)).toArray t f):=by
 cases b
 ·have e:cs.set k vT=cs:=by
   apply List.ext_getElem?;intro i;by_cases hi:i=k
   ·subst hi;rw[List.getElem?_set_self (List.getElem?_eq_some_iff.1 hk).1,hk]
   ·rw[List.getElem?_set_ne (Ne.symm hi)]
  show w.heap[B]?=some (.cells (cs.set k vT).toArray t f);rw[e,h]
 ·show(w.setCell ⟨B,k,none⟩ v).heap[B]?=some (.cells (cs.set k v).toArray t f);rw[aP h k v,List.setIfInBounds_toArray]
def aeC(b0 b1 b2:Bool)(v q:bB):bB :=
 ⟨if b0 then q.b else v.b,if b0 then q.gv else v.gv,if b0 then q.wv else v.wv,if b1 then q.k else v.k,if b1 then q.kv else v.kv,if b2 then q.cv else v.cv⟩
theorem afn{b0 b1 b2:Bool}{v q:bB}{k:Nat}(h:(aeC b0 b1 b2 v q).gL k):v.gL k\/q.gL k:=by
 rcases h with h|h|h
 ·cases b0
  ·exact Or.inl (Or.inl h)
  ·exact Or.inr (Or.inl h)
 ·cases b1
  ·exact Or.inl (Or.inr (Or.inl h))
  ·exact Or.inr (Or.inr (Or.inl h))
 ·cases b2
  ·exact Or.inl (Or.inr (Or.inr h))
  ·exact Or.inr (Or.inr (Or.inr h))
theorem cC.take{base:Nat}{w:World}{v q:bB}{P F:bH}(h:cC base w v P)(g:cC base w q F)(b0 b1 b2:Bool) :
  cC base w (aeC b0 b1 b2 v q) ⟨if b0 then F.aH else P.aH,if b0 then F.waits else P.waits,if b1 then F.book else P.book,if b2 then F.dh else P.dh⟩ :=
 ⟨by cases b0;exact h.gK;exact g.gK,by cases b1;exact h.book;exact g.book,by cases b2;exact h.dh;exact g.dh⟩
def aeV(b0 b1 b2 b3:Bool)(W:World)(B i:Nat)(q:bB)(n:Int):World :=
 aeB b3 (aeB b2 (aeB b1 (aeB b0 W ⟨B,i*3,none⟩ (.pointer (some ⟨q.b,0,none⟩))) ⟨B,i*3+1,none⟩ (.pointer (some ⟨q.k,0,none⟩))) ⟨B,i*3+2,none⟩ q.cv) ⟨B,12,none⟩ (.int .i64 n)
theorem afO{base:Nat}{w W:World}{B N:Nat}{pv qc:Nat->bB}{x f:bW}(h:aR base w B pv x)(hW:Fr ay w W)(hc:aR base W N qc f)(hn:∀k,jV N qc k->w.heap.size<=k){part:Int}{i:Nat}(hi:i<4)(hp:part=(i:Int)){c:Nat}{b0 b1 b2 b3:Bool}
  (h0:c.testBit 0=b0)(h1:c.testBit 1=b1)(h2:c.testBit 2=b2)(h3:c.testBit 3=b3):aC base w B pv (aaU x f part c) (aeV b0 b1 b2 b3 W B i (qc i) f.now):=by
 have hB:=h.bd hW;have aW:Fr (one B) W (aeV b0 b1 b2 b3 W B i (qc i) f.now):=abp (abp (abp (abp (Fr.refl _ _) _ _ _) _ _ _) _ _ _) _ _ _;have hpi:part.toNat=i:=by rw[hp];simp
 have hx:aaU x f part c={part:=fun j=>if j=i then⟨if b0 then(f.part j).aH else(x.part j).aH,if b0 then(f.part j).waits else(x.part j).waits,if b1 then(f.part j).book else(x.part j).book,if b2 then(f.part j).dh else(x.part j).dh⟩else x.part j,now:=if b3 then f.now else x.now}:=by
  rw[aex (by omega) (by omega),hpi];unfold abb;rw[h0,h1,h2,h3]
 have pD:∀j k,j<4->(pv j).gL k->k<w.heap.size:=fun j k hj hk=>h.fO (Or.inr ⟨j,hj,hk⟩);have hge:∀k,(qc i).gL k->w.heap.size<=k:=fun k hk=>hn k (Or.inr ⟨i,hi,hk⟩);have ia:∀j k,j<4->(EJ pv i (aeC b0 b1 b2 (pv i) (qc i)) j).gL k->(pv j).gL k\/(j=i/\w.heap.size<=k):=by
  intro j k hj hk;by_cases NI:j=i
  ·subst NI;rw[JU]at hk;rcases afn hk with e|e
   ·exact Or.inl e
   ·exact Or.inr ⟨rfl,hge k e⟩
  ·rw[uo pv _ NI]at hk;exact Or.inl hk
 rw[hx];refine⟨EJ pv i (aeC b0 b1 b2 (pv i) (qc i)),⟨h.low,?_,fun j hj=>?_,fun j l hj hl hjl k hkj hkl=>?_⟩,?_,?_⟩
 ·obtain⟨c0,c1,c2⟩:=vn pv x.now hi;have e0:=abq hB.cR b0 (i*3) c0 (.pointer (some ⟨(qc i).b,0,none⟩));have e1:=abq e0 b1 (i*3+1) (vT:=.pointer (some ⟨(pv i).k,0,none⟩)) (by rw[List.getElem?_set_ne (by omega)];exact c1) (.pointer (some ⟨(qc i).k,0,none⟩));have e2:=abq e1 b2 (i*3+2) (vT:=(pv i).cv) (by rw[List.getElem?_set_ne (by omega),List.getElem?_set_ne (by omega)];exact c2) (qc i).cv
  have e3:=abq e2 b3 12 (vT:=.int .i64 x.now) (by rw[List.getElem?_set_ne (by omega),List.getElem?_set_ne (by omega),List.getElem?_set_ne (by omega)];exact afk pv x.now) (.int .i64 f.now);unfold aeV;rw[e3]
  have s1:(((fo pv x.now).set (i*3) (if b0=true then .pointer (some ⟨(qc i).b,0,none⟩)else .pointer (some ⟨(pv i).b,0,none⟩))).set (i*3+1) (if b1=true then .pointer (some ⟨(qc i).k,0,none⟩)else .pointer (some ⟨(pv i).k,0,none⟩))).set (i*3+2) (if b2=true then(qc i).cv else(pv i).cv)=fo (EJ pv i (aeC b0 b1 b2 (pv i) (qc i))) x.now:=by
   rw[<-yL pv x.now hi];unfold lG aeC;cases b0<;>cases b1<;>rfl
  rw[s1];cases b3
  ·rw[if_neg (by decide),abt];rfl
  ·rw[if_pos rfl,abt];rfl
 ·by_cases NI:j=i
  ·subst NI;rw[JU];show cC base _ _ (if j=j then _ else _);rw[if_pos rfl];have hB':¬(qc j).gL B:=fun e=>by
    have a1:=hge B e;have a2:=h.lt;omega
   exact((hB.part j hj).fr aW hB.aai (fun k hk e=>hB.EK hj (by have e':k=B:=e;rw[<-e'];exact hk))).take ((hc.part j hj).fr aW hB.aai (fun k hk e=>hB' (by have e':k=B:=e;rw[<-e'];exact hk))) b0 b1 b2
  ·rw[uo pv _ NI];show cC base _ _ (if j=i then _ else _);rw[if_neg NI];exact(hB.part j hj).fr aW hB.aai (fun k hk e=>hB.EK hj (by have e':k=B:=e;rw[<-e'];exact hk))
 ·rcases ia j k hj hkj with e|⟨e,he⟩
  ·rcases ia l k hl hkl with g|⟨g,hg⟩
   ·exact h.apart j l hj hl hjl k e g
   ·have:=pD j k hj e;omega
  ·rcases ia l k hl hkl with g|⟨g,hg⟩
   ·have:=pD l k hl g;omega
   ·exact hjl (e.trans g.symm)
 ·exact(hW.mono (T:=jV B pv) (fun _ _ h=>absurd h (fun h=>h))).step aW (fun k _ e=>Or.inl e)
 ·rintro k(rfl|⟨j,hj,hk⟩)
  ·exact Or.inl (Or.inl rfl)
  ·rcases ia j k hj hk with e|⟨_,e⟩
   ·exact Or.inl (Or.inr ⟨j,hj,e⟩)
   ·exact Or.inr e
theorem aey{base:Nat}{w:World}{B D:Nat}{pv qd:Nat->bB}{x f:bW}(h:aR base w B pv x)(hF:aR base w D qd f)(hs:fW f)(part:Int){c:Nat}(hc:c=0\/c=1\/c=4\/c=7\/c=8\/c=10) :
  Calls Tryz.prog 39 #[.pointer (some ⟨B,0,none⟩),.pointer (some ⟨D,0,none⟩),.int .i64 part,.int .i64 c] w fun e w'=>e=.returned (.tuple #[])/\aC base w B pv (aaU x f part c) w':=by
 have HCP:=O (aeQ base w D qd f hF hs.xc);have HH:=O h;have qR:=h.lt;have j8:=O qR;have HC:=O hc;clear h hF hs hc;by_cases h0:part<0
 ·have h1:¬(0:Int)<=part:=by omega
  have HX:=O (show aaU x f part c=x by unfold aaU;rw[if_neg (by omega)]);clear HCP HC qR;go_enter Tryz.func39,Tryz.ntmps39;go_wp2
  try simp only[Exit.inBlock,Exit.then]
  refine bodyPost_ret (results_none rfl _ _ _) rfl ?_;rw[HX.out];exact⟨rfl,aC.same HH.out (Fr.refl _ _)⟩
 by_cases h4:4<=part
 ·have h1:(0:Int)<=part:=by omega
  have h5:¬part<4:=by omega
  have HX:=O (show aaU x f part c=x by unfold aaU;rw[if_neg (by omega)]);clear HCP HC qR;go_enter Tryz.func39,Tryz.ntmps39;go_wp2
  try simp only[Exit.inBlock,Exit.then]
  refine bodyPost_ret (results_none rfl _ _ _) rfl ?_;rw[HX.out];exact⟨rfl,aC.same HH.out (Fr.refl _ _)⟩
 obtain⟨i,hi,wD⟩:∃i:Nat,part=(i:Int)/\i<4:=⟨part.toNat,by omega,by omega⟩;subst hi;have Nr:(i:Int)<4:=by omega
 have qD:¬(i:Int)<0:=by omega
 have Oh:¬(4:Int)<=(i:Int):=by omega
 have Lb:(0:Int)<=(i:Int):=by omega
 have nR:=O wD;clear h0 h4;go_enter Tryz.func39,Tryz.ntmps39;go_wp2_with fail
 refine HCP.out.mono ?_;rintro e u⟨N,qc,rfl,hcw,hu,hn⟩;have HCW:=O hcw;have HN:=O hn;have HU:=O (show∀n,Fr ay u (u.drewN n)from fun n=>Fr.drewN n (Fr.refl ay u));have HWU:=O hu;clear hcw hu hn HCP;go_wp2_with fail
 go_quiet (fail);have rF:=HU.out nq;generalize u.drewN nq=u1 at rF ⊢;have HC1:=O (HCW.out.bd rF);have S':=O (HWU.out.trans rF);have hBN:¬B=N:=by have a1:=HN.out N (Or.inl rfl);omega
 have hNB:¬N=B:=fun e=>hBN e.symm;have htd:=fun(c:Nat) (b0 b1 b2 b3:Bool) (h0:c.testBit 0=b0) (h1:c.testBit 1=b1) (h2:c.testBit 2=b2) (h3:c.testBit 3=b3)=>afO HH.out S'.out HC1.out HN.out nR.out (part:=(i:Int)) rfl h0 h1 h2 h3;unfold aeV at htd;have hN:=HC1.out.partAt nR.out;have n0:=hN.cell0;have n1:=hN.dM;have n2:=hN.ir;have n3:u1.cell? ⟨N,12,none⟩=some (.int .i64 f.now):=by
  have j:=HC1.out.cR;simp only[World.cell?,j];rfl
 have hB:=(HH.out.bd S'.out).partAt nR.out;have b0:=hB.cell0;have b1:=hB.dM;have b2:=hB.ir;have b3:u1.cell? ⟨B,12,none⟩=some (.int .i64 x.now):=by
  have j:=(HH.out.bd S'.out).cR;simp only[World.cell?,j];rfl
 have f0:=hB.free (i*3);have f1:=hB.free (i*3+1);have f2:=hB.free (i*3+2);have f3:=hB.free 12;have amh:B<u1.heap.size:=aj hB.cR;have ami:N<u1.heap.size:=aj hN.cR;obtain⟨ca,ck,hcf⟩:=(HC1.out.part i nR.out).dh.form;rw[List.length_map]at hcf;rw[hcf]at n2 htd;have HTD:=O htd;clear htd;obtain⟨aaw,cl,hcg⟩:=((HH.out.bd S'.out).part i nR.out).dh.form;rw[List.length_map]at hcg;rw[hcg]at b2
 clear hN hB rF HC1 S' HU HWU HN HCW HH hcf hcg qR;rcases HC.out with rfl|rfl|rfl|rfl|rfl|rfl
 ·clear HC;go_wp2_with fail
  go_end0;exact⟨rfl,HTD.out _ false false false false (by decide) (by decide) (by decide) (by decide)⟩
 ·clear HC;go_wp2_with fail
  go_end0;exact⟨rfl,HTD.out _ true false false false (by decide) (by decide) (by decide) (by decide)⟩
 ·clear HC;go_wp2_with fail
  go_end0;exact⟨rfl,HTD.out _ false false true false (by decide) (by decide) (by decide) (by decide)⟩
 ·clear HC;go_wp2_with fail
  go_end0;exact⟨rfl,HTD.out _ true true true false (by decide) (by decide) (by decide) (by decide)⟩
 ·clear HC;go_wp2_with fail
  go_end0;exact⟨rfl,HTD.out _ false false false true (by decide) (by decide) (by decide) (by decide)⟩
 ·clear HC;go_wp2_with fail
  go_end0;exact⟨rfl,HTD.out _ false true false true (by decide) (by decide) (by decide) (by decide)⟩
theorem afV(w:World)(o:ei)(hs:List dW)(hf:bg w o hs) :
  Calls Tryz.prog 38 #[.agg o.cells.toArray] w fun e w'=>e=.returned (.tuple #[.int .i64 ((aaH (o.bF hs)).1:Nat),.bool (aaH (o.bF hs)).2])/\Fr ay w w':=by
 obtain⟨ah,ch,df⟩:=hf.eJ;obtain⟨w2,bK⟩:∃w2,w2=w.alloc (.cells o.cells.toArray 33):=⟨_,rfl⟩;have bq:Fr ay w w2:=by rw[bK];exact(Fr.refl ay w).alloc _
 have k1:w2.heap[w.heap.size]?=some (.cells o.cells.toArray 33 (0,0)):=by rw[bK];exact af _ _
 have oJ:=O (gF o hs w2 (hf.bd bq));obtain⟨a0,a1,a2,a3,a4,a5,a6,a7,a8,a9,eK,eL,a12,eH,eM,eC,eW,eX,eY,fc,a20,a21⟩:=bJ k1 df;have iw:=O k1;have fX:=O df;have dk:=O bq;rw[bK]at a0 a1 a2 a3 a4 a5 a6 a7 a8 a9 eK eL a12 eH eM eC eW eX eY fc a20 a21;rw[aZ df]at bK oJ a0 a1 a2 a3 a4 a5 a6 a7 a8 a9 eK eL a12 eH eM eC eW eX eY fc a20 a21 ⊢;have ka:=O bK;clear bK df bq k1 hf;go_enter Tryz.func38,Tryz.ntmps38
 have uw:=O (af w (.cells #[.int .i64 o.what,.int .i64 o.ab.part,.bool o.ab.aI.ae,.string o.ab.aI.host,.int .i64 o.ab.aI.port,.bool o.ab.o.ae,.string o.ab.o.host,.int .i64 o.ab.o.port,.string o.ab.path,.string o.ab.query,.string o.ab.method,.slice ah hs.length ch,.bool o.ab.bP,.string o.ab.body,.bool o.proxy,.string o.text,.string o.user,.string o.pass,.string o.aB,.int .i64 o.cert,.bool o.all,.int .i64 o.n] 33))
 go_wp2_with (first|((with_reducible refine ag ⟨some 4,_,_,_,_,_⟩ ?_);go_must(refine wpList_load_row rfl 33 (.tmp 1) rfl w.heap.size rfl _ #[.int .i64 o.what,.int .i64 o.ab.part,.bool o.ab.aI.ae,.string o.ab.aI.host,.int .i64 o.ab.aI.port,.bool o.ab.o.ae,.string o.ab.o.host,.int .i64 o.ab.o.port,.string o.ab.path,.string o.ab.query,.string o.ab.method,.slice ah hs.length ch,.bool o.ab.bP,.string o.ab.body,.bool o.proxy,.string o.text,.string o.user,.string o.pass,.string o.aB,.int .i64 o.cert,.bool o.all,.int .i64 o.n] (0,0) _ uw.out Tryz.underlying33 rfl (by kernel_rfl) ?_))|fail)
 rw[<-ka.out];refine oJ.out.mono ?_;rintro e u⟨rfl,hu⟩;clear a0 a1 a2 a3 a4 a5 a6 a7 a8 a9 eK eL a12 eH eM eC eW eX eY fc a20 a21 oJ;obtain⟨a0,a1,a2,a3,a4,a5,a6,a7,a8,a9,eK,eL,a12,eH,eM,eC,eW,eX,eY,fc,a20,a21⟩:=bJ (hu.keep iw.out (fun h=>h)) fX.out;have HU:=O (dk.out.trans hu);clear hu;cases hr:(o.bF hs).right
 ·have HC:=O (show aaH (o.bF hs)=(0,false)by unfold aaH;rw[hr];rfl);clear hr;go_wp2;go_ret2;rw[HC.out];exact⟨rfl,HU.out⟩
 ·have hr':=hr;unfold ib.right at hr';simp only[Bool.and_eq_true,decide_eq_true_eq]at hr';have jt:1<=o.what:=hr'.1;have alX:o.what<=10:=hr'.2.1;clear hr'
  have HC:=O (show aaH (o.bF hs)=if o.what=1\/o.what=2\/o.what=3\/o.what=8 then(1,true)else if o.what=4 then(10,false)else if o.what=5 then(10,true)else if o.what=6 then(4,false)else if o.what=7 then(4,true)else if o.what=10 then(8,true)else(7,true)by unfold aaH;rw[hr];rfl);clear hr;have hq:o.what=1\/o.what=2\/o.what=3\/o.what=4\/o.what=5\/o.what=6\/o.what=7\/o.what=8\/o.what=9\/o.what=10:=by omega
  clear jt alX;rcases hq with hq|hq|hq|hq|hq|hq|hq|hq|hq|hq
  ·as_aux_lemma =>
    rw[hq]at a0 HC;have Xk:=O (HC.out.trans (by first|rfl|decide));clear HC;have HQ:=O hq;clear hq;go_wp2;go_ret2;rw[Xk.out];exact⟨rfl,HU.out⟩
  ·as_aux_lemma =>
    rw[hq]at a0 HC;have Xk:=O (HC.out.trans (by first|rfl|decide));clear HC;have HQ:=O hq;clear hq;go_wp2;go_ret2;rw[Xk.out];exact⟨rfl,HU.out⟩
  ·as_aux_lemma =>
    rw[hq]at a0 HC;have Xk:=O (HC.out.trans (by first|rfl|decide));clear HC;have HQ:=O hq;clear hq;go_wp2;go_ret2;rw[Xk.out];exact⟨rfl,HU.out⟩
  ·as_aux_lemma =>
    rw[hq]at a0 HC;have Xk:=O (HC.out.trans (by first|rfl|decide));clear HC;have HQ:=O hq;clear hq;go_wp2;go_ret2;rw[Xk.out];exact⟨rfl,HU.out⟩
  ·as_aux_lemma =>
    rw[hq]at a0 HC;have Xk:=O (HC.out.trans (by first|rfl|decide));clear HC;have HQ:=O hq;clear hq;go_wp2;go_ret2;rw[Xk.out];exact⟨rfl,HU.out⟩
  ·as_aux_lemma =>
    rw[hq]at a0 HC;have Xk:=O (HC.out.trans (by first|rfl|decide));clear HC;have HQ:=O hq;clear hq;go_wp2;go_ret2;rw[Xk.out];exact⟨rfl,HU.out⟩
  ·as_aux_lemma =>
    rw[hq]at a0 HC;have Xk:=O (HC.out.trans (by first|rfl|decide));clear HC;have HQ:=O hq;clear hq;go_wp2;go_ret2;rw[Xk.out];exact⟨rfl,HU.out⟩
  ·as_aux_lemma =>
    rw[hq]at a0 HC;have Xk:=O (HC.out.trans (by first|rfl|decide));clear HC;have HQ:=O hq;clear hq;go_wp2;go_ret2;rw[Xk.out];exact⟨rfl,HU.out⟩
  ·as_aux_lemma =>
    rw[hq]at a0 HC;have Xk:=O (HC.out.trans (by first|rfl|decide));clear HC;have HQ:=O hq;clear hq;go_wp2;go_ret2;rw[Xk.out];exact⟨rfl,HU.out⟩
  ·as_aux_lemma =>
    rw[hq]at a0 HC;have Xk:=O (HC.out.trans (by first|rfl|decide));clear HC;have HQ:=O hq;clear hq;go_wp2;go_ret2;rw[Xk.out];exact⟨rfl,HU.out⟩
theorem aeE(v v':Value)(ss:List ByteArray)(w:World)(h:cX w v ss)(h':cX w v' ss)(hl:ss.length<=9223372036854775807) :
  Calls Tryz.prog 90 #[v,v'] w fun e w'=>e=.returned (.bool true)/\Fr ay w w':=by
 rcases h with ⟨a,c,rfl,rfl,_⟩|⟨bk,o,c,rfl,h1,h2,h3,h4⟩
 ·obtain⟨a',c',rfl⟩:=h'.form;refine(Tryz.slices_Equal_string_empty a a' c 0 c' w (by omega)).mono ?_;rintro e w'⟨rfl,rfl⟩;exact⟨rfl,Fr.refl _ _⟩
 ·rcases h' with ⟨a',c',rfl,rfl,_⟩|⟨ZE,o',c',rfl,JG,h2',h3',h4'⟩
  ·refine(Tryz.slices_Equal_string_empty (some ⟨bk,o,none⟩) a' c 0 c' w (by omega)).mono ?_;rintro e w'⟨rfl,rfl⟩;exact⟨rfl,Fr.refl _ _⟩
  ·refine(Tryz.slices_Equal_string bk o ss.length c ZE o' ss.length c' ss ss w (Nat.le_refl _) (Nat.le_refl _) hl hl (fun j hj=>h4 j _ (by simp[List.getD,hj])) (fun j hj=>h4' j _ (by simp[List.getD,hj]))).mono ?_;rintro e w'⟨rfl,q,rfl⟩;exact⟨by simp,Fr.drewN _ (Fr.refl _ _)⟩
theorem aeU(u p:ByteArray)(w:World):(binOp .eql 31 (.agg #[.string u,.string p]) (.agg #[.string u,.string p])).run Tryz.prog w=.ok (.bool true) w:=by
 go_simp
theorem aet(r r':cQ Value)(a:cQ aF)(w:World)(h:r.Reads (cX w) a)(h':r'.Reads (cX w) a)(hl:a.dom.length<=9223372036854775807) :
  Calls Tryz.prog 81 #[.agg r.cells.toArray,.agg r'.cells.toArray] w fun e w'=>e=.returned (.bool true)/\Fr ay w w':=by
 obtain⟨e1,e2,e3,e4,e5,e6,e7,hd⟩:=h;obtain⟨f1,f2,f3,f4,f5,f6,f7,hd'⟩:=h';obtain⟨ad,cd,Aw⟩:=hd.form;obtain⟨aax,cd',aeF⟩:=hd'.form;unfold cQ.cells;rw[e1,e2,e3,e4,e5,e6,e7,f1,f2,f3,f4,f5,f6,f7,Aw,aeF];rw[Aw]at hd;rw[aeF]at hd'
 have hf:Fr ay w _:=((Fr.refl ay w).alloc (.cells #[.int .i64 a.scheme,.string a.ar,.string a.aE,.string a.aK,.bool a.aL,.string a.bU,.bool a.aX,.slice ad a.dom.length cd] 47)).alloc (.cells #[.int .i64 a.scheme,.string a.ar,.string a.aE,.string a.aK,.bool a.aL,.string a.bU,.bool a.aX,.slice aax a.dom.length cd'] 47);have EQ:=O (aeE _ _ _ _ (hd.bu hf) (hd'.bu hf) hl)
 clear e1 e2 e3 e4 e5 e6 e7 f1 f2 f3 f4 f5 f6 f7 Aw aeF hd hd';go_enter Tryz.func81,Tryz.ntmps81;go_wp2_with fail
 refine EQ.out.mono ?_;rintro e w1⟨rfl,bt⟩;go_wp2;go_ret;exact⟨rfl,hf.trans bt⟩
theorem aeM(r r':ai Value)(g:ai aF)(w:World)(h:r.Reads (cX w) g)(h':r'.Reads (cX w) g)(hl:g.a.dom.length<=9223372036854775807)(si:g.paths.length<=9223372036854775807) :
  Calls Tryz.prog 83 #[.agg r.cells.toArray,.agg r'.cells.toArray] w fun e w'=>e=.returned (.bool true)/\Fr ay w w':=by
 obtain⟨e1,e2,e3,e4,e5,e6,hd⟩:=h;obtain⟨f1,f2,f3,f4,f5,f6,hd'⟩:=h';obtain⟨ad,cd,Aw⟩:=hd.form;obtain⟨aax,cd',aeF⟩:=hd'.form;obtain⟨am,cm,hm⟩:=e5.2.2.2.2.2.2.2.form;obtain⟨aay,cm',NF⟩:=f5.2.2.2.2.2.2.2.form
 have hr:r.cells=[.bool g.o.ae,.string g.o.host,.int .i64 g.o.port,.bool g.proxy,.string g.user,.string g.pass,.int .i64 g.a.scheme,.string g.a.ar,.string g.a.aE,.string g.a.aK,.bool g.a.aL,.string g.a.bU,.bool g.a.aX,.slice am g.a.dom.length cm,.int .i64 g.count,.slice ad g.paths.length cd]:=by
  unfold ai.cells;rw[e1,e2,e3,e4,e5.1,e5.2.1,e5.2.2.1,e5.2.2.2.1,e5.2.2.2.2.1,e5.2.2.2.2.2.1,e5.2.2.2.2.2.2.1,hm,e6,Aw]
 have hr':r'.cells=[.bool g.o.ae,.string g.o.host,.int .i64 g.o.port,.bool g.proxy,.string g.user,.string g.pass,.int .i64 g.a.scheme,.string g.a.ar,.string g.a.aE,.string g.a.aK,.bool g.a.aL,.string g.a.bU,.bool g.a.aX,.slice aay g.a.dom.length cm',.int .i64 g.count,.slice aax g.paths.length cd']:=by
  unfold ai.cells;rw[f1,f2,f3,f4,f5.1,f5.2.1,f5.2.2.1,f5.2.2.2.1,f5.2.2.2.2.1,f5.2.2.2.2.2.1,f5.2.2.2.2.2.2.1,NF,f6,aeF]
 have hra:r.a.cells=[.int .i64 g.a.scheme,.string g.a.ar,.string g.a.aE,.string g.a.aK,.bool g.a.aL,.string g.a.bU,.bool g.a.aX,.slice am g.a.dom.length cm]:=by
  unfold cQ.cells;rw[e5.1,e5.2.1,e5.2.2.1,e5.2.2.2.1,e5.2.2.2.2.1,e5.2.2.2.2.2.1,e5.2.2.2.2.2.2.1,hm]
 have ah1:r'.a.cells=[.int .i64 g.a.scheme,.string g.a.ar,.string g.a.aE,.string g.a.aK,.bool g.a.aL,.string g.a.bU,.bool g.a.aX,.slice aay g.a.dom.length cm']:=by
  unfold cQ.cells;rw[f5.1,f5.2.1,f5.2.2.1,f5.2.2.2.1,f5.2.2.2.2.1,f5.2.2.2.2.2.1,f5.2.2.2.2.2.2.1,NF]
 rw[hr,hr'];rw[Aw]at hd;rw[aeF]at hd'
 have hf:Fr ay w _:=((Fr.refl ay w).alloc (.cells #[.bool g.o.ae,.string g.o.host,.int .i64 g.o.port,.bool g.proxy,.string g.user,.string g.pass,.int .i64 g.a.scheme,.string g.a.ar,.string g.a.aE,.string g.a.aK,.bool g.a.aL,.string g.a.bU,.bool g.a.aX,.slice am g.a.dom.length cm,.int .i64 g.count,.slice ad g.paths.length cd] 49)).alloc (.cells #[.bool g.o.ae,.string g.o.host,.int .i64 g.o.port,.bool g.proxy,.string g.user,.string g.pass,.int .i64 g.a.scheme,.string g.a.ar,.string g.a.aE,.string g.a.aK,.bool g.a.aL,.string g.a.bU,.bool g.a.aX,.slice aay g.a.dom.length cm',.int .i64 g.count,.slice aax g.paths.length cd'] 49)
 have aaA:=O (aet r.a r'.a g.a _ (e5.mono (fun _ _ h=>h.bu hf)) (f5.mono (fun _ _ h=>h.bu hf)) hl);rw[hra,ah1]at aaA;have hpa:=O (hd.bu hf);have agU:=O (hd'.bu hf);have Kz:cO.eN g.o g.o=true:=(cO.sW _ _).2 rfl;have hne:=ey g.o g.o;rw[Kz]at hne;have hce:=aeU g.user g.pass;clear e1 e2 e3 e4 e5 e6 f1 f2 f3 f4 f5 f6 Aw aeF hd hd' hm NF hr hr' hra ah1 Kz
 obtain⟨x,hx⟩:∃x:Array Value,x= #[.bool g.o.ae,.string g.o.host,.int .i64 g.o.port,.bool g.proxy,.string g.user,.string g.pass,.int .i64 g.a.scheme,.string g.a.ar,.string g.a.aE,.string g.a.aK,.bool g.a.aL,.string g.a.bU,.bool g.a.aX,.slice am g.a.dom.length cm,.int .i64 g.count,.slice ad g.paths.length cd]:=⟨_,rfl⟩
 obtain⟨y,hy⟩:∃y:Array Value,y= #[.bool g.o.ae,.string g.o.host,.int .i64 g.o.port,.bool g.proxy,.string g.user,.string g.pass,.int .i64 g.a.scheme,.string g.a.ar,.string g.a.aE,.string g.a.aK,.bool g.a.aL,.string g.a.bU,.bool g.a.aX,.slice aay g.a.dom.length cm',.int .i64 g.count,.slice aax g.paths.length cd']:=⟨_,rfl⟩
 have hb0:((w.alloc (.cells x 49)).alloc (.cells y 49)).heap[w.heap.size]?=some (.cells x 49 (0,0)):=by
  rw[Below.heap_alloc _ _ _ (by simp)];exact af w _
 have o9:((w.alloc (.cells x 49)).alloc (.cells y 49)).heap[w.heap.size+1]?=some (.cells y 49 (0,0)):=by
  have:=af (w.alloc (.cells x 49)) (.cells y 49);simpa using this
 have x14:x[14]?=some (.int .i64 g.count):=by rw[hx];rfl
 have x15:x[15]?=some (.slice ad g.paths.length cd):=by rw[hx];rfl
 have y14:y[14]?=some (.int .i64 g.count):=by rw[hy];rfl
 have y15:y[15]?=some (.slice aax g.paths.length cd'):=by rw[hy];rfl
 have X:=O (And.intro x14 x15);have Y:=O (And.intro y14 y15);have HB:=O (And.intro hb0 o9);have HX:=O hx;have HY:=O hy;clear x14 x15 y14 y15 hb0 o9 hx hy;go_enter Tryz.func83,Tryz.ntmps83;go_wp2_with fail
 refine aaA.out.mono ?_;rintro e w1⟨rfl,bt⟩;clear aaA;rw[<-HX.out, <-HY.out]at hf bt hpa agU;have hb0:=bt.keep HB.out.1 (fun h=>h);have o9:=bt.keep HB.out.2 (fun h=>h);have c14:w1.cell? ⟨w.heap.size,14,none⟩=some (.int .i64 g.count):=by simp only[World.cell?,hb0];simpa using X.out.1
 have c15:w1.cell? ⟨w.heap.size,15,none⟩=some (.slice ad g.paths.length cd):=by simp only[World.cell?,hb0];simpa using X.out.2
 have d14:w1.cell? ⟨w.heap.size+1,14,none⟩=some (.int .i64 g.count):=by simp only[World.cell?,o9];simpa using Y.out.1
 have d15:w1.cell? ⟨w.heap.size+1,15,none⟩=some (.slice aax g.paths.length cd'):=by simp only[World.cell?,o9];simpa using Y.out.2
 have EQ:=O (aeE _ _ _ w1 (hpa.out.bu bt) (agU.out.bu bt) si);have HF:=O (hf.trans bt);clear hb0 o9 hf bt hpa agU HB X Y HX HY hne hce;go_wp2_with fail
 refine EQ.out.mono ?_;rintro e w2⟨rfl,bq⟩;go_wp2;go_ret;exact⟨rfl,HF.out.trans bq⟩
def ajQ(w:World)(n:Nat)(i:Value)(wr:World):Prop:=∃k:Nat,k<=n/\i=.int .i64 k/\Fr ay w wr
theorem ae'(v v':Value)(rs rs':List (ai Value))(gs:List (ai aF))(w:World)(hv:aN 16 w v (rs.map ai.cells))(nu:aN 16 w v' (rs'.map ai.cells))(hb:fF (ai.Reads (cX w)) rs gs)(hb':fF (ai.Reads (cX w)) rs' gs)
  (hl:∀g∈gs,g.a.dom.length<=9223372036854775807/\g.paths.length<=9223372036854775807) :
  Calls Tryz.prog 82 #[v,v',.func (.func 83) #[] #[]] w fun e w'=>e=.returned (.bool true)/\Fr ay w w':=by
 have hn:=hb.len;have hn':=hb'.len;obtain⟨av,cv,cA⟩:=hv.form;obtain⟨av',XO,afZ⟩:=nu.form;rw[List.length_map,hn]at cA;rw[List.length_map,hn']at afZ;subst cA afZ;go_enter Tryz.func82,Tryz.ntmps82;go_wp2;go_loopw[17] (ajQ w gs.length) (fun i _=>gs.length-(intOf i).toNat)
 case atStart=>exact⟨0,Nat.zero_le _,rfl,Fr.refl _ _⟩
 case round =>
  obtain⟨k,hk,rfl,aW⟩:=hrel;by_cases cG:k<gs.length
  ·obtain⟨r,sg⟩:∃r,rs[k]?=some r:=⟨_,List.getElem?_eq_getElem (by omega)⟩;obtain⟨r',afC⟩:∃r,rs'[k]?=some r:=⟨_,List.getElem?_eq_getElem (by omega)⟩;obtain⟨g,hg,hr⟩:=hb.get sg;obtain⟨g',hg',hr'⟩:=hb'.get afC;rw[hg]at hg';cases hg';obtain⟨hl1,si⟩:=hl g (List.mem_of_getElem? hg);have bG:=(hv.1 _ (List.mem_map.2 ⟨r,List.mem_of_getElem? sg,rfl⟩)).2
   have ag0:=(nu.1 _ (List.mem_map.2 ⟨r',List.mem_of_getElem? afC,rfl⟩)).2;rcases(hv.bu aW).2 with ⟨_,_,_,e,_⟩|⟨bk,o,c,e1,q1,q2,q3,q4⟩
   ·simp at e;rw[e]at hn;simp at hn;omega
   rcases(nu.bu aW).2 with ⟨_,_,_,e,_⟩|⟨ZE,o',c',e1',q1',q2',q3',q4'⟩
   ·simp at e;rw[e]at hn';simp at hn';omega
   rw[List.length_map,hn]at e1 q1;rw[List.length_map,hn']at e1' q1';cases e1;cases e1';unfold maxLen at q2 q2';have hcell:=q4 k r.cells (by rw[List.getElem?_map,sg];rfl);have aeN:=q4' k r'.cells (by rw[List.getElem?_map,afC];rfl);obtain⟨x,hx⟩:∃x,x=r.cells:=⟨_,rfl⟩;obtain⟨y,hy⟩:∃y,y=r'.cells:=⟨_,rfl⟩;have gD:x.length=16:=by rw[hx];rfl
   have FH:y.length=16:=by rw[hy];rfl
   have fR:=fun W=>run_storeCells_new (P:=Tryz.prog) W 49 bZ x (by rw[gD];rfl) (by rw[hx];exact bG);have ah4:=run_storeCells_new (P:=Tryz.prog) (wr.alloc (.cells x.toArray 49)) 49 bZ y (by rw[FH];rfl) (by rw[hy];exact ag0);rw[show(wr.alloc (.cells x.toArray 49)).heap.size=wr.heap.size+1 from by simp]at ah4;rw[<-hx]at hcell;rw[<-hy]at aeN
   have ahN:∀(i:Nat) u,y[i]?=some u->(wr.alloc (.cells x.toArray 49)).cell? ⟨ZE,o'+k*16+i,none⟩=some u:=fun i u hu=>by
    have:=aeN i u hu;rw[<-this];exact((Fr.refl ay wr).alloc _).cell (p:=⟨ZE,o'+k*16+i,none⟩) q3' (fun h=>h)
   have bq:Fr ay wr ((wr.alloc (.cells x.toArray 49)).alloc (.cells y.toArray 49)):=((Fr.refl ay wr).alloc _).alloc _;have hb0:((wr.alloc (.cells x.toArray 49)).alloc (.cells y.toArray 49)).heap[wr.heap.size]?=some (.cells x.toArray 49 (0,0)):=by
    rw[Below.heap_alloc _ _ _ (by simp)];exact af wr _
   have o9:((wr.alloc (.cells x.toArray 49)).alloc (.cells y.toArray 49)).heap[wr.heap.size+1]?=some (.cells y.toArray 49 (0,0)):=by
    have:=af (wr.alloc (.cells x.toArray 49)) (.cells y.toArray 49);simpa using this
   have aaB:=O (aeM r r' g _ (hr.mono (fun _ _ h=>(h.bu aW).bu bq)) (hr'.mono (fun _ _ h=>(h.bu aW).bu bq)) hl1 si);rw[<-hx, <-hy]at aaB;have HB:=O (And.intro hb0 o9);have HF:=O (aW.trans bq);have AD:(Tryz.prog.info? 49).map (·.size)=some x.length:=by rw[gD];kernel_rfl
   have hyi:(Tryz.prog.info? 49).map (·.size)=some y.length:=by rw[FH];kernel_rfl
   have JF:=O AD;have HYI:=O hyi;clear hx hy hb0 o9 bG ag0 hr hr' hg sg afC q4 q4' aeN AD hyi hl1 si bq
   go_wp2_with (first|((with_reducible refine ag ⟨some 21,_,_,_,_,_⟩ ?_);go_must(refine wpList_load_mid rfl 49 (.tmp 20) rfl bk (o+k*16) rfl x _ hcell Tryz.underlying49 rfl JF.out ?_))|((with_reducible refine ag ⟨some 25,_,_,_,_,_⟩ ?_);go_must(refine wpList_load_mid rfl 49 (.tmp 24) rfl ZE (o'+k*16) rfl y _ ahN Tryz.underlying49 rfl HYI.out ?_))|((with_reducible refine ag ⟨some 27,_,_,_,_,_⟩ ?_);go_must(refine wpList_load_row rfl 49 (.tmp 8) rfl wr.heap.size rfl _ x.toArray (0,0) _ HB.out.1 Tryz.underlying49 rfl (by rw[List.size_toArray];exact JF.out) ?_))|((with_reducible refine ag ⟨some 28,_,_,_,_,_⟩ ?_);go_must(refine wpList_load_row rfl 49 (.tmp 9) rfl (wr.heap.size+1) rfl _ y.toArray (0,0) _ HB.out.2 Tryz.underlying49 rfl (by rw[List.size_toArray];exact HYI.out) ?_))|fail)
   clear fR ah4;refine aaB.out.mono ?_;rintro e w3⟨rfl,dv⟩;have dV:=O (HF.out.trans dv);go_wp2;go_roundw
   case rel=>exact⟨k+1,by omega,by go_num,dV.out⟩
   case measure=>simp[intOf];omega
  ·go_wp2;go_ret;exact⟨rfl,aW⟩
theorem dx.rows{base:Nat}{w:World}{v:Value}{gs:List (ai aF)}(h:dx base w v gs):∃rs:List (ai Value),aN 16 w v (rs.map ai.cells)/\fF (ai.Reads (cX w)) rs gs/\∀g∈gs,g.a.dom.length<=9223372036854775807/\g.paths.length<=9223372036854775807:=by
 obtain⟨rs,h1,h2⟩:=h;refine⟨rs,h1.at,h2.mono (fun _ _ h=>h.mono (fun _ _ h=>h.rd)),fun g hg=>?_⟩;obtain⟨k,hk⟩:=List.getElem?_of_mem hg;obtain⟨r,hr⟩:∃r,rs[k]?=some r:=⟨_,List.getElem?_eq_getElem (by rw[h2.len];exact(List.getElem?_eq_some_iff.1 hk).1)⟩;obtain⟨g',hg',EW⟩:=h2.get hr;rw[hk]at hg';cases hg';have:=EW.2.2.2.2.2.2.xc;have:=EW.2.2.2.2.1.2.2.2.2.2.2.2.xc;omega
theorem afW{base abi:Nat}{w:World}{v v':Value}{gs:List (ai aF)}(h:dx base w v gs)(h':dx abi w v' gs) :
  Calls Tryz.prog 82 #[v,v',.func (.func 83) #[] #[]] w fun e w'=>e=.returned (.bool true)/\Fr ay w w':=by
 obtain⟨rs,h1,h2,h3⟩:=h.rows;obtain⟨rs',JG,h2',_⟩:=h'.rows;exact ae' v v' rs rs' gs w h1 JG h2 h2' h3
theorem afa(p:bI)(w:World):(binOp .neq 65 (.agg p.cells.toArray) (.agg p.cells.toArray)).run Tryz.prog w=.ok (.bool false) w:=by
 unfold bI.cells;go_simp
def ahO(w:World)(n:Nat)(i:Value)(wr:World):Prop:=∃k:Nat,k<=n/\i=.int .i64 k/\Fr ay w wr
theorem aeY(v v':Value)(ps:List bI)(w:World)(h:oV w v ps)(h':oV w v' ps) :
  Calls Tryz.prog 33 #[v,v'] w fun e w'=>e=.returned (.bool true)/\Fr ay w w':=by
 obtain⟨av,cv,hv⟩:=aN.form h;obtain⟨av',XO,nu⟩:=aN.form h';subst hv nu;rw[List.length_map]at h h' ⊢;have HL:=O (fun U (hU:Fr ay w U)=>aN.bu h hU);have HL':=O (fun U (hU:Fr ay w U)=>aN.bu h' hU);have HQ:=O (afa);clear h h';go_enter Tryz.func33,Tryz.ntmps33;go_wp2;go_loopw[13] (ahO w ps.length) (fun i _=>ps.length-(intOf i).toNat)
 case atStart=>exact⟨0,Nat.zero_le _,rfl,Fr.refl _ _⟩
 case round =>
  obtain⟨k,hk,rfl,aW⟩:=hrel;by_cases cG:k<ps.length
  ·have lf:(k:Int)<(ps.length:Int):=by omega
   have U8:(0:Int)<=(k:Int):=by omega
   have hne:ps≠ []:=by intro e;rw[e]at cG;cases cG
   obtain⟨bk,of,rfl,g1,g2,g3,g4,g5⟩:=oV.lie (HL.out wr aW) hne;obtain⟨ZE,of',rfl,g1',g2',g3',g4',g5'⟩:=oV.lie (HL'.out wr aW) hne;unfold maxLen at g3 g3';have bC:=O (List.getElem?_eq_getElem cG);generalize ps[k]=q at bC;obtain⟨c0,c1,c2,c3,c4,c5,c6,c7,c8,c9,FT,Xl⟩:=g5 k q bC.out;obtain⟨d0,d1,d2,d3,d4,d5,d6,d7,d8,d9,d10,d11⟩:=g5' k q bC.out;have heq:=HQ.out q;unfold bI.cells at heq;clear g1 g5 g1' g5'
   go_wp2;go_quiet (fail);go_wp2;go_roundw
   case rel=>exact⟨k+1,by omega,by go_num,aW.drewN _⟩
   case measure=>simp[intOf];omega
  ·have lf:¬(k:Int)<(ps.length:Int):=by omega
   go_wp2;go_ret;exact⟨rfl,aW⟩
theorem aaI{w U:World}{p:Addr}{u:Value}(h:w.cell? p=some u)(hf:Fr ay w U):U.cell? p=some u:=by
 unfold World.cell? at h ⊢;cases hb:w.heap[p.block]? with
 |none=>rw[hb]at h;cases h
 |some o=>rw[hb]at h;rw[hf.keep hb (fun h=>h)];exact h
def af1(w:World)(n:Nat)(i:Value)(wr:World):Prop:=∃k:Nat,k<=n/\i=.int .i64 k/\Fr ay w wr
theorem aeu(a:cO)(w:World):(binOp .neq 24 (.agg #[.bool a.ae,.string a.host,.int .i64 a.port]) (.agg #[.bool a.ae,.string a.host,.int .i64 a.port])).run Tryz.prog w=.ok (.bool false) w:=by
 go_simp
theorem aeZ{base abi:Nat}{w:World}{B aaC:Nat}{pv zu:Nat->bB}{x y:bW}(h:aR base w B pv x)(h':aR abi w aaC zu y)(FQ:uk x)(i:Nat)(h4:i<4)(hxy:y.part i=x.part i) :
  Calls Tryz.prog 36 #[.pointer (some ⟨B,0,none⟩),.pointer (some ⟨aaC,0,none⟩),.int .i64 i] w fun e w'=>e=.returned (.bool true)/\Fr ay w w':=by
 obtain⟨l1,l2,l3,l4⟩:=(FQ.part i).xc;have D3:=O (aeH base w B pv x h i h4 (by omega));have ka:=O (fun U (hU:Fr ay w U)=>aeH abi U aaC zu y (h'.bd hU) i h4 (by rw[hxy];omega));have HC1:=O (fun U (hU:Fr ay w U)=>aeI base U B pv x (h.bd hU) i h4 (by omega));have Xk:=O (fun U (hU:Fr ay w U)=>aeI abi U aaC zu y (h'.bd hU) i h4 (by rw[hxy];omega))
 have Tg:=O (fun U (hU:Fr ay w U)=>wE base U B pv x (h.bd hU) i h4 (by omega));have Xh:=O (fun U (hU:Fr ay w U)=>wE abi U aaC zu y (h'.bd hU) i h4 (by rw[hxy];omega));have HP1:=O (fun U (hU:Fr ay w U)=>aeD base U B pv x (h.bd hU) i h4 (by omega));have HP2:=O (fun U (hU:Fr ay w U)=>aeD abi U aaC zu y (h'.bd hU) i h4 (by rw[hxy];omega));rw[hxy]at ka Xk Xh HP2
 obtain⟨gs,Xz⟩:∃gs,gs=(x.part i).aH:=⟨_,rfl⟩;obtain⟨ws,sF⟩:∃ws,ws=(x.part i).waits:=⟨_,rfl⟩;obtain⟨ps,hps⟩:∃ps,ps=(x.part i).book:=⟨_,rfl⟩;obtain⟨cs,hcs⟩:∃cs,cs=(x.part i).dh:=⟨_,rfl⟩;rw[<-sF]at D3 ka l2;rw[<-hcs]at HC1 Xk l4;rw[<-Xz]at Tg Xh;rw[<-hps]at HP1 HP2;have HL2:=O l2;have HL4:=O l4;have HE:=O (fun g:aG aF=>aeu g.o);clear h h' FQ h4 hxy l1 l2 l3 l4 Xz sF hps hcs
 go_enter Tryz.func36,Tryz.ntmps36;go_wp2_with fail
 refine D3.out.mono ?_;rintro e u1⟨v1,rfl,⟨FG,_⟩,rF⟩;have HV1:=O FG;have S':=O rF;clear FG rF D3;go_wp2_with fail
 refine(ka.out _ S'.out).mono ?_;rintro e u2⟨v2,rfl,⟨hv2,_⟩,jZ⟩;have HV2:=O hv2;have ql:=O (S'.out.trans jZ);have ah5:=O (HV1.out.fr jZ (lT.none _ _) (fun _ _ h=>h));clear hv2 jZ ka HV1;go_wp2_with fail
 refine(HC1.out _ ql.out).mono ?_;rintro e u3⟨v3,rfl,xr,pz⟩;have HV3:=O xr.at;have HU3:=O (ql.out.trans pz);have HV1:=O (ah5.out.fr pz (lT.none _ _) (fun _ _ h=>h));have agV:=O (HV2.out.fr pz (lT.none _ _) (fun _ _ h=>h));clear xr pz HC1 HV2 ah5;go_wp2_with fail
 refine(Xk.out _ HU3.out).mono ?_;rintro e u4⟨v4,rfl,SJ,hu4⟩;obtain⟨a1,c1,f1⟩:=(HV1.out.fr hu4 (lT.none _ _) (fun _ _ h=>h)).form;obtain⟨a2,c2,f2⟩:=(agV.out.fr hu4 (lT.none _ _) (fun _ _ h=>h)).form;obtain⟨a3,c3,f3⟩:=(aN.bu HV3.out hu4).form;obtain⟨a4,c4,f4⟩:=SJ.at.form;rw[List.length_map]at f3 f4;subst f1 f2 f3 f4;have HX1:=O (HV1.out.fr hu4 (lT.none _ _) (fun _ _ h=>h))
 have Xs:=O (agV.out.fr hu4 (lT.none _ _) (fun _ _ h=>h));have Vt:=O (aN.bu HV3.out hu4);have HX4:=O SJ.at;have HU4:=O (HU3.out.trans hu4);clear SJ hu4 Xk HV1 agV HV3;go_wp2_with fail
 go_loopw[11] (af1 u4 ws.length) (fun i _=>ws.length-(intOf i).toNat)
 case atStart=>exact⟨0,Nat.zero_le _,rfl,Fr.refl _ _⟩
 case round =>
  obtain⟨k,hk,rfl,aW⟩:=hrel;have h8:=HL2.out;by_cases cG:k<ws.length
  ·have lf:(k:Int)<(ws.length:Int):=by omega
   have U8:(0:Int)<=(k:Int):=by omega
   obtain⟨aaG,ca,e1,m1,r1,o1,q1,g1⟩:=(HX1.out.fr aW (lT.none _ _) (fun _ _ h=>h)).at cG;obtain⟨bb,aaw,e2,m2,r2,o2,q2,g2⟩:=(Xs.out.fr aW (lT.none _ _) (fun _ _ h=>h)).at cG;cases e1;cases e2;unfold maxLen at m1 m2;generalize ws[k]=g at q1 q2;have QA1:=O q1.2.2.2;have QA2:=O q2.2.2.2;obtain⟨p1,p2,p3,d1,d2,d3,d4,d5,d6,d7,d8⟩:=q1;obtain⟨p1',p2',p3',d1',d2',d3',d4',d5',d6',d7',d8'⟩:=q2
   obtain⟨ad,cd,zl⟩:=d8.rd.form;obtain⟨aax,cd',qE⟩:=d8'.rd.form;have x1:r1.cells=[.bool g.o.ae,.string g.o.host,.int .i64 g.o.port,.bool g.proxy,.string g.path,.int .i64 g.a.scheme,.string g.a.ar,.string g.a.aE,.string g.a.aK,.bool g.a.aL,.string g.a.bU,.bool g.a.aX,.slice ad g.a.dom.length cd]:=by unfold aG.cells;rw[p1,p2,p3,d1,d2,d3,d4,d5,d6,d7,zl]
   have x2:r2.cells=[.bool g.o.ae,.string g.o.host,.int .i64 g.o.port,.bool g.proxy,.string g.path,.int .i64 g.a.scheme,.string g.a.ar,.string g.a.aE,.string g.a.aK,.bool g.a.aL,.string g.a.bU,.bool g.a.aX,.slice aax g.a.dom.length cd']:=by unfold aG.cells;rw[p1',p2',p3',d1',d2',d3',d4',d5',d6',d7',qE]
   have y1:r1.a.cells=[.int .i64 g.a.scheme,.string g.a.ar,.string g.a.aE,.string g.a.aK,.bool g.a.aL,.string g.a.bU,.bool g.a.aX,.slice ad g.a.dom.length cd]:=by unfold cQ.cells;rw[d1,d2,d3,d4,d5,d6,d7,zl]
   have y2:r2.a.cells=[.int .i64 g.a.scheme,.string g.a.ar,.string g.a.aE,.string g.a.aK,.bool g.a.aL,.string g.a.bU,.bool g.a.aX,.slice aax g.a.dom.length cd']:=by unfold cQ.cells;rw[d1',d2',d3',d4',d5',d6',d7',qE]
   have hlen:g.a.dom.length<=9223372036854775807:=by have:=d8.xc;omega
   rw[x1]at g1;rw[x2]at g2
   have HS:=O (show∀U,Fr ay wr U->(U.cell? ⟨aaG,k*13,none⟩=some (.bool g.o.ae)/\U.cell? ⟨aaG,k*13+1,none⟩=some (.string g.o.host)/\U.cell? ⟨aaG,k*13+2,none⟩=some (.int .i64 g.o.port)/\U.cell? ⟨aaG,k*13+3,none⟩=some (.bool g.proxy)/\U.cell? ⟨aaG,k*13+4,none⟩=some (.string g.path)/\U.cell? ⟨aaG,k*13+5,none⟩=some (.int .i64 g.a.scheme)/\U.cell? ⟨aaG,k*13+6,none⟩=some (.string g.a.ar)/\U.cell? ⟨aaG,k*13+7,none⟩=some (.string g.a.aE)/\U.cell? ⟨aaG,k*13+8,none⟩=some (.string g.a.aK)/\U.cell? ⟨aaG,k*13+9,none⟩=some (.bool g.a.aL)/\U.cell? ⟨aaG,k*13+10,none⟩=some (.string g.a.bU)/\U.cell? ⟨aaG,k*13+11,none⟩=some (.bool g.a.aX)/\U.cell? ⟨aaG,k*13+12,none⟩=some (.slice ad g.a.dom.length cd)/\U.cell? ⟨bb,k*13,none⟩=some (.bool g.o.ae)/\U.cell? ⟨bb,k*13+1,none⟩=some (.string g.o.host)/\U.cell? ⟨bb,k*13+2,none⟩=some (.int .i64 g.o.port)/\U.cell? ⟨bb,k*13+3,none⟩=some (.bool g.proxy)/\U.cell? ⟨bb,k*13+4,none⟩=some (.string g.path)/\U.cell? ⟨bb,k*13+5,none⟩=some (.int .i64 g.a.scheme)/\U.cell? ⟨bb,k*13+6,none⟩=some (.string g.a.ar)/\U.cell? ⟨bb,k*13+7,none⟩=some (.string g.a.aE)/\U.cell? ⟨bb,k*13+8,none⟩=some (.string g.a.aK)/\U.cell? ⟨bb,k*13+9,none⟩=some (.bool g.a.aL)/\U.cell? ⟨bb,k*13+10,none⟩=some (.string g.a.bU)/\U.cell? ⟨bb,k*13+11,none⟩=some (.bool g.a.aX)/\U.cell? ⟨bb,k*13+12,none⟩=some (.slice aax g.a.dom.length cd'))from fun U hU=>by
    refine⟨aaI (g1 0 _ rfl) hU,aaI (g1 1 _ rfl) hU,aaI (g1 2 _ rfl) hU,aaI (g1 3 _ rfl) hU,aaI (g1 4 _ rfl) hU,aaI (g1 5 _ rfl) hU,aaI (g1 6 _ rfl) hU,aaI (g1 7 _ rfl) hU,aaI (g1 8 _ rfl) hU,aaI (g1 9 _ rfl) hU,aaI (g1 10 _ rfl) hU,aaI (g1 11 _ rfl) hU,aaI (g1 12 _ rfl) hU,aaI (g2 0 _ rfl) hU,aaI (g2 1 _ rfl) hU,aaI (g2 2 _ rfl) hU,aaI (g2 3 _ rfl) hU,aaI (g2 4 _ rfl) hU,aaI (g2 5 _ rfl) hU,aaI (g2 6 _ rfl) hU,aaI (g2 7 _ rfl) hU,aaI (g2 8 _ rfl) hU,aaI (g2 9 _ rfl) hU,aaI (g2 10 _ rfl) hU,aaI (g2 11 _ rfl) hU,aaI (g2 12 _ rfl) hU⟩)
   have HSA:=O (show∀U,Fr ay wr U->Calls Tryz.prog 81 #[.agg #[.int .i64 g.a.scheme,.string g.a.ar,.string g.a.aE,.string g.a.aK,.bool g.a.aL,.string g.a.bU,.bool g.a.aX,.slice ad g.a.dom.length cd],.agg #[.int .i64 g.a.scheme,.string g.a.ar,.string g.a.aE,.string g.a.aK,.bool g.a.aL,.string g.a.bU,.bool g.a.aX,.slice aax g.a.dom.length cd']] U (fun e w'=>e=.returned (.bool true)/\Fr ay U w')from fun U hU=>by
    have h:=aet r1.a r2.a g.a U (QA1.out.mono (fun _ _ h=>(h.bd hU).rd)) (QA2.out.mono (fun _ _ h=>(h.bd hU).rd)) hlen;rw[y1,y2]at h;exact h)
   have py:=O aW;have heq:=HE.out g;clear p1 p2 p3 d1 d2 d3 d4 d5 d6 d7 d8 p1' p2' p3' d1' d2' d3' d4' d5' d6' d7' d8' zl qE x1 x2 y1 y2 hlen o1 o2 g1 g2 aW QA1 QA2;go_wp2_with fail
   go_region_held3 (fun U=>Fr ay wr U/\U.cell? ⟨aaG,k*13,none⟩=some (.bool g.o.ae)/\U.cell? ⟨aaG,k*13+1,none⟩=some (.string g.o.host)/\U.cell? ⟨aaG,k*13+2,none⟩=some (.int .i64 g.o.port)/\U.cell? ⟨aaG,k*13+3,none⟩=some (.bool g.proxy)/\U.cell? ⟨aaG,k*13+4,none⟩=some (.string g.path)/\U.cell? ⟨aaG,k*13+5,none⟩=some (.int .i64 g.a.scheme)/\U.cell? ⟨aaG,k*13+6,none⟩=some (.string g.a.ar)/\U.cell? ⟨aaG,k*13+7,none⟩=some (.string g.a.aE)/\U.cell? ⟨aaG,k*13+8,none⟩=some (.string g.a.aK)/\U.cell? ⟨aaG,k*13+9,none⟩=some (.bool g.a.aL)/\U.cell? ⟨aaG,k*13+10,none⟩=some (.string g.a.bU)/\U.cell? ⟨aaG,k*13+11,none⟩=some (.bool g.a.aX)/\U.cell? ⟨aaG,k*13+12,none⟩=some (.slice ad g.a.dom.length cd)/\U.cell? ⟨bb,k*13,none⟩=some (.bool g.o.ae)/\U.cell? ⟨bb,k*13+1,none⟩=some (.string g.o.host)/\U.cell? ⟨bb,k*13+2,none⟩=some (.int .i64 g.o.port)/\U.cell? ⟨bb,k*13+3,none⟩=some (.bool g.proxy)/\U.cell? ⟨bb,k*13+4,none⟩=some (.string g.path)/\U.cell? ⟨bb,k*13+5,none⟩=some (.int .i64 g.a.scheme)/\U.cell? ⟨bb,k*13+6,none⟩=some (.string g.a.ar)/\U.cell? ⟨bb,k*13+7,none⟩=some (.string g.a.aE)/\U.cell? ⟨bb,k*13+8,none⟩=some (.string g.a.aK)/\U.cell? ⟨bb,k*13+9,none⟩=some (.bool g.a.aL)/\U.cell? ⟨bb,k*13+10,none⟩=some (.string g.a.bU)/\U.cell? ⟨bb,k*13+11,none⟩=some (.bool g.a.aX)/\U.cell? ⟨bb,k*13+12,none⟩=some (.slice aax g.a.dom.length cd')) ((refine(fun hU=>⟨hU,HS.out _ hU⟩) ?_;first|exact Fr.drew (Fr.refl _ _)|assumption))
    ((first
     |(go_at_call 81;refine(HSA.out _ (Fr.drew (Fr.refl _ _))).mono ?_;rintro e u6 ⟨rfl,wP⟩;have Fl:Fr ay wr u6:=(Fr.drew (Fr.refl _ _)).trans wP)))
   go_wp2;go_roundw
   case rel=>exact⟨k+1,by omega,by go_num,py.out.trans Fl⟩
   case measure=>simp[intOf];omega
  ·have lf:¬(k:Int)<(ws.length:Int):=by omega
   have HX5:=O (aN.bu Vt.out aW);have HX6:=O (aN.bu HX4.out aW);have HU5:=O (HU4.out.trans aW);clear aW HX1 Xs Vt HX4 HU4 HE h8;go_wp2_with fail
   go_loopw[12] (af1 wr cs.length) (fun i _=>cs.length-(intOf i).toNat)
   case atStart=>exact⟨0,Nat.zero_le _,rfl,Fr.refl _ _⟩
   case round =>
    obtain⟨j,hj,rfl,fe⟩:=hrel;have h9:=HL4.out;by_cases hjs:j<cs.length
    ·have NI:(j:Int)<(cs.length:Int):=by omega
     have amj:(0:Int)<=(j:Int):=by omega
     rcases(aN.bu HX5.out fe).2 with ⟨_,_,_,e,_⟩|⟨bk,of,c,hf,h1,h2,h3,h4⟩
     ·rw[List.map_eq_nil_iff]at e;rw[e]at hjs;exact absurd hjs (Nat.not_lt_zero _)
     rcases(aN.bu HX6.out fe).2 with ⟨_,_,_,e,_⟩|⟨ZE,of',c',hf',JG,h2',h3',h4'⟩
     ·rw[List.map_eq_nil_iff]at e;rw[e]at hjs;exact absurd hjs (Nat.not_lt_zero _)
     rw[List.length_map]at hf hf';cases hf;cases hf';unfold maxLen at h2 h2';rw[List.length_map]at h1 JG;have d:=h4 j (ic cs[j]) (by rw[List.getElem?_map,List.getElem?_eq_getElem hjs];rfl);have d':=h4' j (ic cs[j]) (by rw[List.getElem?_map,List.getElem?_eq_getElem hjs];rfl);generalize cs[j]=g at d d';have d0:wr.cell? ⟨bk,of+j*4,none⟩=some (.bool g.1.ae):=d 0 _ rfl
     have d1:wr.cell? ⟨bk,of+j*4+1,none⟩=some (.string g.1.host):=d 1 _ rfl;have d2:wr.cell? ⟨bk,of+j*4+2,none⟩=some (.int .i64 g.1.port):=d 2 _ rfl;have d3:wr.cell? ⟨bk,of+j*4+3,none⟩=some (.int .i64 g.2):=d 3 _ rfl;have d4:wr.cell? ⟨ZE,of'+j*4,none⟩=some (.bool g.1.ae):=d' 0 _ rfl;have d5:wr.cell? ⟨ZE,of'+j*4+1,none⟩=some (.string g.1.host):=d' 1 _ rfl
     have d6:wr.cell? ⟨ZE,of'+j*4+2,none⟩=some (.int .i64 g.1.port):=d' 2 _ rfl;have d7:wr.cell? ⟨ZE,of'+j*4+3,none⟩=some (.int .i64 g.2):=d' 3 _ rfl;have heq:=aeu g.1;have py:=O fe;clear d d' h4 h4' h1 JG h3 h3' fe;go_wp2_with fail
     go_quiet (fail);go_wp2;go_roundw
     case rel=>exact⟨j+1,by omega,by go_num,py.out.drewN _⟩
     case measure=>simp[intOf];omega
    ·have NI:¬(j:Int)<(cs.length:Int):=by omega
     have HU6:=O (HU5.out.trans fe);clear fe HX5 HX6 HU5 h9;go_wp2_with fail
     refine(Tg.out _ HU6.out).mono ?_;rintro e u6⟨g1,rfl,⟨Ko,_⟩,hu6⟩;have HU7:=O (HU6.out.trans hu6);have HGA:=O Ko;clear hu6 Ko HU6;go_wp2_with fail
     refine(Xh.out _ HU7.out).mono ?_;rintro e u7⟨g2,rfl,⟨wG,_⟩,hu7⟩;have HU8:=O (HU7.out.trans hu7);have Us:=O (afW (HGA.out.fr hu7 (lT.none _ _) (fun _ _ h=>h)) wG);clear hu7 wG HU7 HGA;go_wp2_with fail
     refine Us.out.mono ?_;rintro e u8⟨rfl,hu8⟩;have HU9:=O (HU8.out.trans hu8);clear hu8 HU8 Us;go_wp2_with fail
     refine(HP1.out _ HU9.out).mono ?_;rintro e u9⟨p1,rfl,Ee,Wi⟩;have agW:=O (HU9.out.trans Wi);have HPA:=O Ee.at;clear Wi Ee HU9;go_wp2_with fail
     refine(HP2.out _ agW.out).mono ?_;rintro e u10⟨p2,rfl,vR,agX⟩;have alY:=O (agW.out.trans agX);have HEP:=O (aeY p1 p2 ps _ (aN.bu HPA.out agX) vR.at);clear agX vR agW HPA;go_wp2_with fail
     refine HEP.out.mono ?_;rintro e CZ⟨rfl,afE⟩;go_wp2_with fail
     go_ret;exact⟨rfl,alY.out.trans afE⟩
def ahP(w:World)(i:Value)(wr:World):Prop:=∃k:Nat,k<=4/\i=.int .i64 k/\Fr ay w wr
theorem abk{base abi:Nat}{w:World}{B aaC:Nat}{pv zu:Nat->bB}{x:bW}(h:aR base w B pv x)(h':aR abi w aaC zu x)(FQ:uk x) :
  Calls Tryz.prog 37 #[.pointer (some ⟨B,0,none⟩),.pointer (some ⟨aaC,0,none⟩)] w fun e w'=>e=.returned (.bool true)/\Fr ay w w':=by
 have HP:=O (fun(i:Nat) (h4:i<4) U (hU:Fr ay w U)=>aeZ (h.bd hU) (h'.bd hU) FQ i h4 rfl);have HN1:=O (fun U (hU:Fr ay w U)=>Fz base U B pv x (h.bd hU));have HN2:=O (fun U (hU:Fr ay w U)=>Fz abi U aaC zu x (h'.bd hU));clear h h' FQ;go_enter Tryz.func37,Tryz.ntmps37;go_wp2_with fail
 go_loopw[5] (ahP w) (fun i _=>4-(intOf i).toNat)
 case atStart=>exact⟨0,by decide,rfl,Fr.refl _ _⟩
 case round =>
  obtain⟨k,hk,rfl,aW⟩:=hrel;have HF:=O aW;clear aW;by_cases cG:k<4
  ·have lf:(k:Int)<4:=by omega
   go_wp2_with fail
   refine(HP.out k cG _ HF.out).mono ?_;rintro e u⟨rfl,hu⟩;go_wp2_with fail
   go_roundw
   case rel=>exact⟨k+1,by omega,by go_num,HF.out.trans hu⟩
   case measure=>simp[intOf];omega
  ·have lf:¬(k:Int)<4:=by omega
   go_wp2_with fail
   refine(HN1.out _ HF.out).mono ?_;rintro e u⟨rfl,hu⟩;rw[hu];clear hu;go_wp2_with fail
   refine(HN2.out _ HF.out).mono ?_;rintro e u⟨rfl,hu⟩;rw[hu];clear hu;go_wp2_with fail
   go_ret;exact⟨rfl,HF.out⟩
theorem afb(a c:Int)(s:ByteArray)(u:World):(binOp .neq 39 (.agg #[.int .i64 a,.string s,.int .i64 c]) (.agg #[.int .i64 a,.string s,.int .i64 c])).run Tryz.prog u=.ok (.bool false) u:=by
 go_simp
theorem afY(o:ib):(aaH o).1=0\/(aaH o).1=1\/(aaH o).1=4\/(aaH o).1=7\/(aaH o).1=8\/(aaH o).1=10:=by
 unfold aaH;split
 ·split
  ·simp
  ·split
   ·simp
   ·split
    ·simp
    ·split
     ·simp
     ·split
      ·simp
      ·split<;>simp
 ·simp
theorem fW.take{x f:bW}(h:fW x)(g:fW f)(part:Int)(c:Nat):fW (aaU x f part c):=by
 unfold aaU;split
 ·refine⟨⟨fun k=>?_,?_⟩,fun k=>?_,fun k=>?_⟩
  ·show jh (if k=part.toNat then abb c (x.part k) (f.part k)else x.part k);have a:=h.ok.part k;have b:=g.ok.part k;split
   ·unfold abb;cases c.testBit 0<;>cases c.testBit 1<;>cases c.testBit 2<;>exact⟨by first|exact a.uniq|exact b.uniq,by first|exact a.nat|exact b.nat,by first|exact a.xc.1|exact b.xc.1,by first|exact a.xc.2.1|exact b.xc.2.1,by first|exact a.xc.2.2.1|exact b.xc.2.2.1,by first|exact a.xc.2.2.2|exact b.xc.2.2.2⟩
   ·exact a
  ·show 0<=(if c.testBit 3=true then f.now else x.now)/\(if c.testBit 3=true then f.now else x.now)<=1099511627776;split
   ·exact g.ok.now
   ·exact h.ok.now
  ·show nn (if k=part.toNat then abb c (x.part k) (f.part k)else x.part k);have a:=h.sm k;have b:=g.sm k;split
   ·unfold abb;cases c.testBit 0<;>exact⟨by first|exact a.aH|exact b.aH,by first|exact a.waits|exact b.waits⟩
   ·exact a
  ·show iH (if k=part.toNat then abb c (x.part k) (f.part k)else x.part k);have a:=h.path k;have b:=g.path k;split
   ·unfold abb;cases c.testBit 0
    ·exact fun y hy=>a y hy
    ·exact fun y hy=>b y hy
   ·exact a
 ·exact h
theorem aeG(v:Value)(os:List (ei×List dW))(o:ei)(hs:List dW)(w:World)(sO:gM w v os)(vD:jw w o hs)(pw:nI w)(md:kX w)(sh:kZ w)(db:iu w 9 .u8 Gr) :
  Calls Tryz.prog 12 #[v,.agg o.cells.toArray] w fun e w'=>e=.returned (.bool true)/\Below w.heap.size w w':=by
 have ht:fN w:=⟨⟨db,md,sh⟩,pw⟩;obtain⟨av,cv,cA⟩:=sO.1.form;rw[List.length_map]at cA;subst cA;obtain⟨ah,ch,df⟩:=aN.form vD.ab.cU;rw[List.length_map]at df;obtain⟨w0,pB⟩:∃w0,w0=w.alloc (.cells o.cells.toArray 33):=⟨_,rfl⟩;have iJ:Fr ay w w0:=by rw[pB];exact(Fr.refl ay w).alloc _
 have k0:w0.heap[w.heap.size]?=some (.cells o.cells.toArray 33 (0,0)):=by rw[pB];exact af _ _
 have qw:w0.heap.size=w.heap.size+1:=by rw[pB];simp
 have HT:=O ht;have fX:=O df;have oK:=O iJ;have HK0:=O k0;have Qf:=O vD;have HA0:=O sO
 have Qu:=O (show∀U,Fr ay w0 U->U.heap[w.heap.size]?=some (.cells #[.int .i64 o.what,.int .i64 o.ab.part,.bool o.ab.aI.ae,.string o.ab.aI.host,.int .i64 o.ab.aI.port,.bool o.ab.o.ae,.string o.ab.o.host,.int .i64 o.ab.o.port,.string o.ab.path,.string o.ab.query,.string o.ab.method,.slice ah hs.length ch,.bool o.ab.bP,.string o.ab.body,.bool o.proxy,.string o.text,.string o.user,.string o.pass,.string o.aB,.int .i64 o.cert,.bool o.all,.int .i64 o.n] 33 (0,0))from fun U hU=>by rw[<-aZ df];exact hU.keep k0 (fun h=>h))
 have Qv:=O (show∀U,Fr ay w U->Calls Tryz.prog 14 #[] U _ from fun U hU=>qU U (ht.fr hU));have LU:=O (show∀U,Fr ay w U->Calls Tryz.prog 15 #[.slice av os.length cv] U _ from fun U hU=>kQ _ os U (sO.fr hU))
 have BD:=O (show∀U n t,Fr ay w U->U.heap[n]?=some (.cells #[.int .i64 o.what,.int .i64 o.ab.part,.bool o.ab.aI.ae,.string o.ab.aI.host,.int .i64 o.ab.aI.port,.bool o.ab.o.ae,.string o.ab.o.host,.int .i64 o.ab.o.port,.string o.ab.path,.string o.ab.query,.string o.ab.method,.slice ah hs.length ch,.bool o.ab.bP,.string o.ab.body,.bool o.proxy,.string o.text,.string o.user,.string o.pass,.string o.aB,.int .i64 o.cert,.bool o.all,.int .i64 o.n] t (0,0))->Calls Tryz.prog 15 #[.slice (some ⟨n,0,none⟩) 1 1] U fun e w'=>e=.returned (.bool (!fU (o,hs)))/\Fr ay U w' from fun U n t hU hb=>by
  have h:=kQ _ [(o,hs)] U (gM.one (vD.fr hU) df (by rw[aZ df];exact hb));rw[vA]at h;exact h)
 have Qw:=O (show jy os=true->∀U,Fr ay w U->Calls Tryz.prog 16 #[.slice av os.length cv] U _ from fun rO U hU=>oM w.heap.size _ os U (sO.fr hU) rO w ht (Nat.le_refl _) hU hU.size);rw[pB]at k0;rw[aZ df]at pB k0 ⊢;have HW0:=O pB;clear pB df iJ k0 qw sO vD ht pw md sh db;go_enter Tryz.func12,Tryz.ntmps12;go_wp2_with fail
 rw[<-HW0.out];refine(Qv.out _ oK.out).mono ?_;rintro e u1⟨rfl,h1⟩;have H1:=O h1;clear h1;go_wp2_with fail
 refine(LU.out _ (oK.out.trans H1.out)).mono ?_;rintro e u2⟨rfl,h2⟩;have H2:=O (H1.out.trans h2);have Ja:=O (Qu.out _ H2.out);clear h2 Qv LU;cases zg:jy os
 ·clear zg;go_wp2;go_ret;exact⟨rfl,(oK.out.trans H2.out).bQ⟩
 have LS:=O zg;clear zg
 go_wp2_with (first|((with_reducible refine ag ⟨some 18,_,_,_,_,_⟩ ?_);go_must(refine fV (by rfl) 33 (.tmp 3) rfl w.heap.size rfl _ #[.int .i64 o.what,.int .i64 o.ab.part,.bool o.ab.aI.ae,.string o.ab.aI.host,.int .i64 o.ab.aI.port,.bool o.ab.o.ae,.string o.ab.o.host,.int .i64 o.ab.o.port,.string o.ab.path,.string o.ab.query,.string o.ab.method,.slice ah hs.length ch,.bool o.ab.bP,.string o.ab.body,.bool o.proxy,.string o.text,.string o.user,.string o.pass,.string o.aB,.int .i64 o.cert,.bool o.all,.int .i64 o.n] (0,0) _ Ja.out Tryz.underlying33 rfl (by kernel_rfl) ?_))|fail)
 obtain⟨u3,pz⟩:∃u3,u3=u2.alloc (.cells #[.int .i64 o.what,.int .i64 o.ab.part,.bool o.ab.aI.ae,.string o.ab.aI.host,.int .i64 o.ab.aI.port,.bool o.ab.o.ae,.string o.ab.o.host,.int .i64 o.ab.o.port,.string o.ab.path,.string o.ab.query,.string o.ab.method,.slice ah hs.length ch,.bool o.ab.bP,.string o.ab.body,.bool o.proxy,.string o.text,.string o.user,.string o.pass,.string o.aB,.int .i64 o.cert,.bool o.all,.int .i64 o.n] 33):=⟨_,rfl⟩
 have dv:Fr ay u2 u3:=by rw[pz];exact(Fr.refl _ _).alloc _
 have H3:=O (H2.out.trans dv)
 have jQ:=af u2 (.cells #[.int .i64 o.what,.int .i64 o.ab.part,.bool o.ab.aI.ae,.string o.ab.aI.host,.int .i64 o.ab.aI.port,.bool o.ab.o.ae,.string o.ab.o.host,.int .i64 o.ab.o.port,.string o.ab.path,.string o.ab.query,.string o.ab.method,.slice ah hs.length ch,.bool o.ab.bP,.string o.ab.body,.bool o.proxy,.string o.text,.string o.user,.string o.pass,.string o.aB,.int .i64 o.cert,.bool o.all,.int .i64 o.n] 33)
 rw[<-pz]at jQ ⊢;clear pz dv;refine(BD.out _ _ _ (oK.out.trans H3.out) jQ).mono ?_;rintro e u4⟨rfl,h4⟩;have H4:=O (H3.out.trans h4);clear h4 jQ BD;cases FI:fU (o,hs)
 case true =>
  clear FI;go_wp2;go_ret;exact⟨rfl,(oK.out.trans H4.out).bQ⟩
 have Nf:=O FI;clear FI;go_wp2_with fail
 refine(Qw.out LS.out _ (oK.out.trans H4.out)).mono ?_;rintro e u5⟨B,pv,rfl,wQ,rk,h5,AF⟩;obtain⟨x,hx⟩:∃x,x=nM (opsL os):=⟨_,rfl⟩;rw[<-hx]at wQ rk;have Nd:=O wQ;have C4:=O rk;have H5:=O (H4.out.trans h5);have HLW:=O AF;have uI:=O (show∀U,Fr ay w U->bg U o hs from fun U hU=>bg.Mt (Qf.out.fr hU) Nf.out);clear wQ rk h5 AF hx Qw LS Nf;have jF:=O (oK.out.trans H5.out);have rA:=O (Qu.out _ H5.out)
 obtain⟨cn,hcn⟩:∃n,n=(aaH (o.bF hs)).1:=⟨_,rfl⟩;obtain⟨cw,hcw⟩:∃n,n=(aaH (o.bF hs)).2:=⟨_,rfl⟩;have hce:=afV u5 o hs (uI.out _ jF.out);rw[aZ fX.out, <-hcn, <-hcw]at hce;have HCE:=O hce;have HCK:=O (show cn=0\/cn=1\/cn=4\/cn=7\/cn=8\/cn=10 by rw[hcn];exact afY _);obtain⟨z,hz⟩:∃z,z=cV x (o.bF hs):=⟨_,rfl⟩;obtain⟨vv,WV⟩:∃v,v=aaU yD x o.ab.part cn:=⟨_,rfl⟩;obtain⟨z2,gU⟩:∃z,z=cV vv (o.bF hs):=⟨_,rfl⟩
 have CD:=afK x (o.bF hs);rw[<-hcn, <-hcw,show(o.bF hs).part=o.ab.part from rfl, <-WV, <-gU, <-hz]at CD;have aco:=O CD;have HIV:=O (show fW vv by rw[WV];exact fW.take fW.new C4.out _ _);have HIZ:=O (show fW z.1 by rw[hz];exact bg.small (uI.out _ jF.out) C4.out)
 have HD1:=O (show∀C E l y U,ThW w #[.int .i64 o.what,.int .i64 o.ab.part,.bool o.ab.aI.ae,.string o.ab.aI.host,.int .i64 o.ab.aI.port,.bool o.ab.o.ae,.string o.ab.o.host,.int .i64 o.ab.o.port,.string o.ab.path,.string o.ab.query,.string o.ab.method,.slice ah hs.length ch,.bool o.ab.bP,.string o.ab.body,.bool o.proxy,.string o.text,.string o.user,.string o.pass,.string o.aB,.int .i64 o.cert,.bool o.all,.int .i64 o.n] B C E x y x l U->Calls Tryz.prog 17 #[.pointer (some ⟨B,0,none⟩),.agg #[.int .i64 o.what,.int .i64 o.ab.part,.bool o.ab.aI.ae,.string o.ab.aI.host,.int .i64 o.ab.aI.port,.bool o.ab.o.ae,.string o.ab.o.host,.int .i64 o.ab.o.port,.string o.ab.path,.string o.ab.query,.string o.ab.method,.slice ah hs.length ch,.bool o.ab.bP,.string o.ab.body,.bool o.proxy,.string o.text,.string o.user,.string o.pass,.string o.aB,.int .i64 o.cert,.bool o.all,.int .i64 o.n]] U (fun e w'=>e=.returned (.agg #[.int .i64 z.2.what,.string z.2.head,.int .i64 z.2.cert])/\ThW w #[.int .i64 o.what,.int .i64 o.ab.part,.bool o.ab.aI.ae,.string o.ab.aI.host,.int .i64 o.ab.aI.port,.bool o.ab.o.ae,.string o.ab.o.host,.int .i64 o.ab.o.port,.string o.ab.path,.string o.ab.query,.string o.ab.method,.slice ah hs.length ch,.bool o.ab.bP,.string o.ab.body,.bool o.proxy,.string o.text,.string o.user,.string o.pass,.string o.aB,.int .i64 o.cert,.bool o.all,.int .i64 o.n] B C E z.1 y x l w')from fun C E l y U h=>by
  have g:=h.ahT (o:=o) (hs:=hs) C4.out HT.out (uI.out _ h.fr);rw[aZ fX.out]at g;rw[hz];exact g)
 have Wx:=O (show∀C E l y U,ThW w #[.int .i64 o.what,.int .i64 o.ab.part,.bool o.ab.aI.ae,.string o.ab.aI.host,.int .i64 o.ab.aI.port,.bool o.ab.o.ae,.string o.ab.o.host,.int .i64 o.ab.o.port,.string o.ab.path,.string o.ab.query,.string o.ab.method,.slice ah hs.length ch,.bool o.ab.bP,.string o.ab.body,.bool o.proxy,.string o.text,.string o.user,.string o.pass,.string o.aB,.int .i64 o.cert,.bool o.all,.int .i64 o.n] B C E y vv x l U->Calls Tryz.prog 17 #[.pointer (some ⟨C,0,none⟩),.agg #[.int .i64 o.what,.int .i64 o.ab.part,.bool o.ab.aI.ae,.string o.ab.aI.host,.int .i64 o.ab.aI.port,.bool o.ab.o.ae,.string o.ab.o.host,.int .i64 o.ab.o.port,.string o.ab.path,.string o.ab.query,.string o.ab.method,.slice ah hs.length ch,.bool o.ab.bP,.string o.ab.body,.bool o.proxy,.string o.text,.string o.user,.string o.pass,.string o.aB,.int .i64 o.cert,.bool o.all,.int .i64 o.n]] U (fun e w'=>e=.returned (.agg #[.int .i64 z.2.what,.string z.2.head,.int .i64 z.2.cert])/\ThW w #[.int .i64 o.what,.int .i64 o.ab.part,.bool o.ab.aI.ae,.string o.ab.aI.host,.int .i64 o.ab.aI.port,.bool o.ab.o.ae,.string o.ab.o.host,.int .i64 o.ab.o.port,.string o.ab.path,.string o.ab.query,.string o.ab.method,.slice ah hs.length ch,.bool o.ab.bP,.string o.ab.body,.bool o.proxy,.string o.text,.string o.user,.string o.pass,.string o.aB,.int .i64 o.cert,.bool o.all,.int .i64 o.n] B C E y z2.1 x l w')from fun C E l y U h=>by
  have g:=h.swap.ahT (o:=o) (hs:=hs) HIV.out HT.out (uI.out _ h.fr);rw[aZ fX.out, <-gU,CD.1]at g;exact g.mono fun e w' hh=>⟨hh.1,hh.2.swap⟩)
 have HVV:=O WV;clear hcn hcw hce hz WV gU CD
 go_wp2_with (first|((with_reducible refine ag ⟨some 26,_,_,_,_,_⟩ ?_);go_must(refine wpList_load_row rfl 33 (.tmp 3) rfl (w.heap.size) rfl _ #[.int .i64 o.what,.int .i64 o.ab.part,.bool o.ab.aI.ae,.string o.ab.aI.host,.int .i64 o.ab.aI.port,.bool o.ab.o.ae,.string o.ab.o.host,.int .i64 o.ab.o.port,.string o.ab.path,.string o.ab.query,.string o.ab.method,.slice ah hs.length ch,.bool o.ab.bP,.string o.ab.body,.bool o.proxy,.string o.text,.string o.user,.string o.pass,.string o.aB,.int .i64 o.cert,.bool o.all,.int .i64 o.n] (0,0) _ rA.out Tryz.underlying33 rfl (by kernel_rfl) ?_))|fail)
 refine HCE.out.mono ?_;rintro e u6⟨rfl,hu6⟩;have D4:=O (Nd.out.bd hu6);have uE:=O (jF.out.trans hu6);have HB6:=O (hu6.keep rA.out (fun h=>h));clear hu6 HCE Nd jF rA;go_wp2_with fail
 refine(J5 u6).mono ?_;rintro e u7⟨C,aac,rfl,hw7,jC⟩;have HT7:=O (abr.copied D4.out uE.out (hw7 w.heap.size uE.out.size) jC (fun j hj=>(hw7 u6.heap.size (Nat.le_refl _)).iU hj));have HB7:=O (jC.keep HB6.out (fun h=>h));clear hw7 jC D4 uE HB6;have c1:u7.cell? ⟨w.heap.size,1,none⟩=some (.int .i64 o.ab.part):=by have h:=HB7.out;simp only[World.cell?,h];rfl
 have htk:=aey HT7.out.two HT7.out.one C4.out o.ab.part HCK.out;rw[<-HVV.out]at htk;have TI:=O htk;clear htk HVV;go_wp2_with fail
 clear c1;refine TI.out.mono ?_;rintro e u8⟨rfl,hp8⟩;obtain⟨qv8,h8,hk8⟩:=HT7.out.swap.step hp8;have HT8:=O h8;have HB8:=O (hk8 _ _ _ HB7.out aO (by decide));have HCP:=O (aeQ _ _ _ _ _ h8.two C4.out.xc);clear hp8 h8 hk8 HT7 HB7 TI;go_wp2_with fail
 refine HCP.out.mono ?_;rintro e u9⟨E,aar,rfl,hc,Up,hl9⟩
 have HT0:=O (show ThW w #[.int .i64 o.what,.int .i64 o.ab.part,.bool o.ab.aI.ae,.string o.ab.aI.host,.int .i64 o.ab.aI.port,.bool o.ab.o.ae,.string o.ab.o.host,.int .i64 o.ab.o.port,.string o.ab.path,.string o.ab.query,.string o.ab.method,.slice ah hs.length ch,.bool o.ab.bP,.string o.ab.body,.bool o.proxy,.string o.text,.string o.user,.string o.pass,.string o.aB,.int .i64 o.cert,.bool o.all,.int .i64 o.n] B C E x vv x [] u9 from⟨⟨pv,qv8,aar,HT8.out.two.bd Up,HT8.out.one.bd Up,hc,fun k hk Zw=>HT8.out.off k Zw hk,fun k hk Zw=>by have h1:=hl9 k hk;have h2:=HT8.out.two.fO Zw;omega,fun k hk Zw=>by have h1:=hl9 k hk;have h2:=HT8.out.one.fO Zw;omega⟩,HT8.out.fr.trans Up,Up.keep HB8.out (fun h=>h),fun p hp=>by cases hp⟩)
 clear hc Up hl9 HCP HT8 HB8;go_wp2_with fail
 apply akg (P:=fun a b W=>a≠b/\ThW w #[.int .i64 o.what,.int .i64 o.ab.part,.bool o.ab.aI.ae,.string o.ab.aI.host,.int .i64 o.ab.aI.port,.bool o.ab.o.ae,.string o.ab.o.host,.int .i64 o.ab.o.port,.string o.ab.path,.string o.ab.query,.string o.ab.method,.slice ah hs.length ch,.bool o.ab.bP,.string o.ab.body,.bool o.proxy,.string o.text,.string o.user,.string o.pass,.string o.aB,.int .i64 o.cert,.bool o.all,.int .i64 o.n] B C E z.1 z2.1 x [(a, #[.int .i64 z.2.what,.string z.2.head,.int .i64 z.2.cert]),(b, #[.int .i64 z.2.what,.string z.2.head,.int .i64 z.2.cert])] W)
 ·intro hJ;have HJF:=O hJ;clear hJ
  apply akg (P:=fun a b W=>a≠b/\ThW w #[.int .i64 o.what,.int .i64 o.ab.part,.bool o.ab.aI.ae,.string o.ab.aI.host,.int .i64 o.ab.aI.port,.bool o.ab.o.ae,.string o.ab.o.host,.int .i64 o.ab.o.port,.string o.ab.path,.string o.ab.query,.string o.ab.method,.slice ah hs.length ch,.bool o.ab.bP,.string o.ab.body,.bool o.proxy,.string o.text,.string o.user,.string o.pass,.string o.aB,.int .i64 o.cert,.bool o.all,.int .i64 o.n] B C E z.1 z2.1 x [(a, #[.int .i64 0,.string ⟨#[]⟩,.int .i64 0]),(b, #[.int .i64 0,.string ⟨#[]⟩,.int .i64 0])] W)
  ·intro hJ;have HJ:=O hJ;clear hJ;have HT:=O HT0.out
   refine wp_region_held_drew (S:=(fun U=>U.heap[w.heap.size]?=some (.cells #[.int .i64 o.what,.int .i64 o.ab.part,.bool o.ab.aI.ae,.string o.ab.aI.host,.int .i64 o.ab.aI.port,.bool o.ab.o.ae,.string o.ab.o.host,.int .i64 o.ab.o.port,.string o.ab.path,.string o.ab.query,.string o.ab.method,.slice ah hs.length ch,.bool o.ab.bP,.string o.ab.body,.bool o.proxy,.string o.text,.string o.user,.string o.pass,.string o.aB,.int .i64 o.cert,.bool o.all,.int .i64 o.n] 33 (0,0)))) (by kernel_rfl) (HT.out.op) ?_
   intro cW;refine tk 0 ⟨some 40,_,_,_,_,_⟩ (v:=?_) rfl (by rfl) ?hy ?_
   case hy=>(intro w hSw;(try dsimp only at hSw);go_simp<;>with_reducible rfl)
   try simp only[Act.put,sA,sB,sC]
   refine wpAnyH_take (i:=1) (oi:=⟨some 41,_,_,_,_,_⟩) rfl (by kernel_rfl) (by kernel_rfl) (by kernel_rfl) (fun _ _ _ h=>h) (yieldsIf_load_mid (by rfl) 33 (.tmp 3) rfl w.heap.size 0 rfl [.int .i64 o.what,.int .i64 o.ab.part,.bool o.ab.aI.ae,.string o.ab.aI.host,.int .i64 o.ab.aI.port,.bool o.ab.o.ae,.string o.ab.o.host,.int .i64 o.ab.o.port,.string o.ab.path,.string o.ab.query,.string o.ab.method,.slice ah hs.length ch,.bool o.ab.bP,.string o.ab.body,.bool o.proxy,.string o.text,.string o.user,.string o.pass,.string o.aB,.int .i64 o.cert,.bool o.all,.int .i64 o.n] _ (fun U hU=>vw hU) Tryz.underlying33 rfl (by kernel_rfl)) (by assumption) ?_
   try simp only[Act.put,sA,sB,sC]
   refine tk 3 ⟨some 43,_,_,_,_,_⟩ (v:=?_) rfl (by rfl) ?hy ?_
   case hy=>(intro w hSw;(try dsimp only at hSw);go_simp<;>with_reducible rfl)
   try simp only[Act.put,sA,sB,sC]
   refine wpAnyH_take (i:=4) (oi:=⟨some 44,_,_,_,_,_⟩) rfl (by kernel_rfl) (by kernel_rfl) (by kernel_rfl) (fun _ _ _ h=>h) (yieldsIf_load_mid (by rfl) 33 (.tmp 3) rfl w.heap.size 0 rfl [.int .i64 o.what,.int .i64 o.ab.part,.bool o.ab.aI.ae,.string o.ab.aI.host,.int .i64 o.ab.aI.port,.bool o.ab.o.ae,.string o.ab.o.host,.int .i64 o.ab.o.port,.string o.ab.path,.string o.ab.query,.string o.ab.method,.slice ah hs.length ch,.bool o.ab.bP,.string o.ab.body,.bool o.proxy,.string o.text,.string o.user,.string o.pass,.string o.aB,.int .i64 o.cert,.bool o.all,.int .i64 o.n] _ (fun U hU=>vw hU) Tryz.underlying33 rfl (by kernel_rfl)) (by assumption) ?_
   try simp only[Act.put,sA,sB,sC]
   refine wpAnyH_ready (rs:=[2,6,7]) (by kernel_rfl) (by simp) ?_;refine AllReadyH.cons rfl (fun K hK=>?_) (AllReadyH.cons rfl (fun K hK=>?_) (AllReadyH.cons rfl (fun K hK=>?_) AllReadyH.nil))
   ·go_simp;refine(HD1.out _ _ _ _ _ (HT.out.bd (Fr.drew (Fr.refl ay _)))).mono ?_;rintro e U11⟨rfl,hT⟩;clear HT;have HT:=O hT;clear hT;refine hK.out _ _ HT.out.op ?_;intro ct;clear hK cW K;have cW:=ct;clear ct
    try simp only[Act.put,sA,sB,sC]
    refine wpAnyH_ready (rs:=[5,6,7]) (by kernel_rfl) (by simp) ?_;refine AllReadyH.cons rfl (fun K hK=>?_) (AllReadyH.cons rfl (fun K hK=>?_) (AllReadyH.cons rfl (fun K hK=>?_) AllReadyH.nil))
    ·go_simp;refine(Wx.out _ _ _ _ _ HT.out).mono ?_;rintro e U12⟨rfl,hT⟩;clear HT;have HT:=O hT;clear hT;refine hK.out _ _ HT.out.op ?_;intro ct;clear hK cW K;have cW:=ct;clear ct
     try simp only[Act.put,sA,sB,sC]
     refine wpAnyH_ready (rs:=[6,7]) (by kernel_rfl) (by simp) ?_;refine AllReadyH.cons rfl (fun K hK=>?_) (AllReadyH.cons rfl (fun K hK=>?_) AllReadyH.nil)
     ·go_simp;have hT:=(HT.out.made #[.int .i64 0,.string ⟨#[]⟩,.int .i64 0]);obtain⟨n6,hne⟩:∃n,n=U12.heap.size:=⟨_,rfl⟩;obtain⟨U13,cY⟩:∃W,W=(U12.alloc (.cells #[.int .i64 0,.string ⟨#[]⟩,.int .i64 0] 39)):=⟨_,rfl⟩;rw[<-cY, <-hne]at hT ⊢;clear cY hne HT;have HT:=O hT;clear hT;refine hK.out _ _ HT.out.op ?_;intro ct;clear hK cW K;have cW:=ct;clear ct
      try simp only[Act.put,sA,sB,sC]
      refine wpAnyH_ready (rs:=[7]) (by kernel_rfl) (by simp) ?_;refine AllReadyH.cons rfl (fun K hK=>?_) AllReadyH.nil;go_simp;have hT:=(HT.out.made #[.int .i64 0,.string ⟨#[]⟩,.int .i64 0]);obtain⟨n7,hne⟩:∃n,n=U13.heap.size:=⟨_,rfl⟩;obtain⟨U14,cY⟩:∃W,W=(U13.alloc (.cells #[.int .i64 0,.string ⟨#[]⟩,.int .i64 0] 39)):=⟨_,rfl⟩
      have HN:=O (show n6<n7 by rw[hne];exact aj (HT.out.rep (n6, #[.int .i64 0,.string ⟨#[]⟩,.int .i64 0]) (List.mem_cons_self ..)).2);rw[<-cY, <-hne]at hT ⊢;clear cY hne HT;have HT:=O hT;clear hT;refine hK.out _ _ HT.out.op ?_;intro ct;clear hK cW K;have cW:=ct;clear ct
      try simp only[Act.put,sA,sB,sC]
      exact HJ.out n6 n7 _ ⟨Nat.ne_of_lt HN.out,HT.out.perm (fun p hp=>by rcases List.mem_cons.1 hp with rfl|hp;exact List.mem_cons_of_mem _ (List.mem_cons_self ..);rcases List.mem_cons.1 hp with rfl|hp;exact List.mem_cons_self ..; cases hp)⟩
     ·go_simp;have hT:=(HT.out.made #[.int .i64 0,.string ⟨#[]⟩,.int .i64 0]);obtain⟨n7,hne⟩:∃n,n=U12.heap.size:=⟨_,rfl⟩;obtain⟨U15,cY⟩:∃W,W=(U12.alloc (.cells #[.int .i64 0,.string ⟨#[]⟩,.int .i64 0] 39)):=⟨_,rfl⟩;rw[<-cY, <-hne]at hT ⊢;clear cY hne HT;have HT:=O hT;clear hT;refine hK.out _ _ HT.out.op ?_;intro ct;clear hK cW K;have cW:=ct;clear ct
      try simp only[Act.put,sA,sB,sC]
      refine wpAnyH_ready (rs:=[6]) (by kernel_rfl) (by simp) ?_;refine AllReadyH.cons rfl (fun K hK=>?_) AllReadyH.nil;go_simp;have hT:=(HT.out.made #[.int .i64 0,.string ⟨#[]⟩,.int .i64 0]);obtain⟨n6,hne⟩:∃n,n=U15.heap.size:=⟨_,rfl⟩;obtain⟨U16,cY⟩:∃W,W=(U15.alloc (.cells #[.int .i64 0,.string ⟨#[]⟩,.int .i64 0] 39)):=⟨_,rfl⟩
      have HN:=O (show n7<n6 by rw[hne];exact aj (HT.out.rep (n7, #[.int .i64 0,.string ⟨#[]⟩,.int .i64 0]) (List.mem_cons_self ..)).2);rw[<-cY, <-hne]at hT ⊢;clear cY hne HT;have HT:=O hT;clear hT;refine hK.out _ _ HT.out.op ?_;intro ct;clear hK cW K;have cW:=ct;clear ct
      try simp only[Act.put,sA,sB,sC]
      exact HJ.out n6 n7 _ ⟨Nat.ne_of_gt HN.out,HT.out⟩
    ·go_simp;have hT:=(HT.out.made #[.int .i64 0,.string ⟨#[]⟩,.int .i64 0]);obtain⟨n6,hne⟩:∃n,n=U11.heap.size:=⟨_,rfl⟩;obtain⟨U17,cY⟩:∃W,W=(U11.alloc (.cells #[.int .i64 0,.string ⟨#[]⟩,.int .i64 0] 39)):=⟨_,rfl⟩;rw[<-cY, <-hne]at hT ⊢;clear cY hne HT;have HT:=O hT;clear hT;refine hK.out _ _ HT.out.op ?_;intro ct;clear hK cW K;have cW:=ct;clear ct
     try simp only[Act.put,sA,sB,sC]
     refine wpAnyH_ready (rs:=[5,7]) (by kernel_rfl) (by simp) ?_;refine AllReadyH.cons rfl (fun K hK=>?_) (AllReadyH.cons rfl (fun K hK=>?_) AllReadyH.nil)
     ·go_simp;refine(Wx.out _ _ _ _ _ HT.out).mono ?_;rintro e U18⟨rfl,hT⟩;clear HT;have HT:=O hT;clear hT;refine hK.out _ _ HT.out.op ?_;intro ct;clear hK cW K;have cW:=ct;clear ct
      try simp only[Act.put,sA,sB,sC]
      refine wpAnyH_ready (rs:=[7]) (by kernel_rfl) (by simp) ?_;refine AllReadyH.cons rfl (fun K hK=>?_) AllReadyH.nil;go_simp;have hT:=(HT.out.made #[.int .i64 0,.string ⟨#[]⟩,.int .i64 0]);obtain⟨n7,hne⟩:∃n,n=U18.heap.size:=⟨_,rfl⟩;obtain⟨U19,cY⟩:∃W,W=(U18.alloc (.cells #[.int .i64 0,.string ⟨#[]⟩,.int .i64 0] 39)):=⟨_,rfl⟩
      have HN:=O (show n6<n7 by rw[hne];exact aj (HT.out.rep (n6, #[.int .i64 0,.string ⟨#[]⟩,.int .i64 0]) (List.mem_cons_self ..)).2);rw[<-cY, <-hne]at hT ⊢;clear cY hne HT;have HT:=O hT;clear hT;refine hK.out _ _ HT.out.op ?_;intro ct;clear hK cW K;have cW:=ct;clear ct
      try simp only[Act.put,sA,sB,sC]
      exact HJ.out n6 n7 _ ⟨Nat.ne_of_lt HN.out,HT.out.perm (fun p hp=>by rcases List.mem_cons.1 hp with rfl|hp;exact List.mem_cons_of_mem _ (List.mem_cons_self ..);rcases List.mem_cons.1 hp with rfl|hp;exact List.mem_cons_self ..; cases hp)⟩
     ·go_simp;have hT:=(HT.out.made #[.int .i64 0,.string ⟨#[]⟩,.int .i64 0]);obtain⟨n7,hne⟩:∃n,n=U17.heap.size:=⟨_,rfl⟩;obtain⟨U20,cY⟩:∃W,W=(U17.alloc (.cells #[.int .i64 0,.string ⟨#[]⟩,.int .i64 0] 39)):=⟨_,rfl⟩;have HN:=O (show n6<n7 by rw[hne];exact aj (HT.out.rep (n6, #[.int .i64 0,.string ⟨#[]⟩,.int .i64 0]) (List.mem_cons_self ..)).2);rw[<-cY, <-hne]at hT ⊢;clear cY hne HT;have HT:=O hT
      clear hT;refine hK.out _ _ HT.out.op ?_;intro ct;clear hK cW K;have cW:=ct;clear ct
      try simp only[Act.put,sA,sB,sC]
      refine wpAnyH_ready (rs:=[5]) (by kernel_rfl) (by simp) ?_;refine AllReadyH.cons rfl (fun K hK=>?_) AllReadyH.nil;go_simp;refine(Wx.out _ _ _ _ _ HT.out).mono ?_;rintro e U21⟨rfl,hT⟩;clear HT;have HT:=O hT;clear hT;refine hK.out _ _ HT.out.op ?_;intro ct;clear hK cW K;have cW:=ct;clear ct
      try simp only[Act.put,sA,sB,sC]
      exact HJ.out n6 n7 _ ⟨Nat.ne_of_lt HN.out,HT.out.perm (fun p hp=>by rcases List.mem_cons.1 hp with rfl|hp;exact List.mem_cons_of_mem _ (List.mem_cons_self ..);rcases List.mem_cons.1 hp with rfl|hp;exact List.mem_cons_self ..; cases hp)⟩
    ·go_simp;have hT:=(HT.out.made #[.int .i64 0,.string ⟨#[]⟩,.int .i64 0]);obtain⟨n7,hne⟩:∃n,n=U11.heap.size:=⟨_,rfl⟩;obtain⟨U22,cY⟩:∃W,W=(U11.alloc (.cells #[.int .i64 0,.string ⟨#[]⟩,.int .i64 0] 39)):=⟨_,rfl⟩;rw[<-cY, <-hne]at hT ⊢;clear cY hne HT;have HT:=O hT;clear hT;refine hK.out _ _ HT.out.op ?_;intro ct;clear hK cW K;have cW:=ct;clear ct
     try simp only[Act.put,sA,sB,sC]
     refine wpAnyH_ready (rs:=[5,6]) (by kernel_rfl) (by simp) ?_;refine AllReadyH.cons rfl (fun K hK=>?_) (AllReadyH.cons rfl (fun K hK=>?_) AllReadyH.nil)
     ·go_simp;refine(Wx.out _ _ _ _ _ HT.out).mono ?_;rintro e U23⟨rfl,hT⟩;clear HT;have HT:=O hT;clear hT;refine hK.out _ _ HT.out.op ?_;intro ct;clear hK cW K;have cW:=ct;clear ct
      try simp only[Act.put,sA,sB,sC]
      refine wpAnyH_ready (rs:=[6]) (by kernel_rfl) (by simp) ?_;refine AllReadyH.cons rfl (fun K hK=>?_) AllReadyH.nil;go_simp;have hT:=(HT.out.made #[.int .i64 0,.string ⟨#[]⟩,.int .i64 0]);obtain⟨n6,hne⟩:∃n,n=U23.heap.size:=⟨_,rfl⟩;obtain⟨U24,cY⟩:∃W,W=(U23.alloc (.cells #[.int .i64 0,.string ⟨#[]⟩,.int .i64 0] 39)):=⟨_,rfl⟩
      have HN:=O (show n7<n6 by rw[hne];exact aj (HT.out.rep (n7, #[.int .i64 0,.string ⟨#[]⟩,.int .i64 0]) (List.mem_cons_self ..)).2);rw[<-cY, <-hne]at hT ⊢;clear cY hne HT;have HT:=O hT;clear hT;refine hK.out _ _ HT.out.op ?_;intro ct;clear hK cW K;have cW:=ct;clear ct
      try simp only[Act.put,sA,sB,sC]
      exact HJ.out n6 n7 _ ⟨Nat.ne_of_gt HN.out,HT.out⟩
     ·go_simp;have hT:=(HT.out.made #[.int .i64 0,.string ⟨#[]⟩,.int .i64 0]);obtain⟨n6,hne⟩:∃n,n=U22.heap.size:=⟨_,rfl⟩;obtain⟨U25,cY⟩:∃W,W=(U22.alloc (.cells #[.int .i64 0,.string ⟨#[]⟩,.int .i64 0] 39)):=⟨_,rfl⟩;have HN:=O (show n7<n6 by rw[hne];exact aj (HT.out.rep (n7, #[.int .i64 0,.string ⟨#[]⟩,.int .i64 0]) (List.mem_cons_self ..)).2);rw[<-cY, <-hne]at hT ⊢;clear cY hne HT;have HT:=O hT
      clear hT;refine hK.out _ _ HT.out.op ?_;intro ct;clear hK cW K;have cW:=ct;clear ct
      try simp only[Act.put,sA,sB,sC]
      refine wpAnyH_ready (rs:=[5]) (by kernel_rfl) (by simp) ?_;refine AllReadyH.cons rfl (fun K hK=>?_) AllReadyH.nil;go_simp;refine(Wx.out _ _ _ _ _ HT.out).mono ?_;rintro e U26⟨rfl,hT⟩;clear HT;have HT:=O hT;clear hT;refine hK.out _ _ HT.out.op ?_;intro ct;clear hK cW K;have cW:=ct;clear ct
      try simp only[Act.put,sA,sB,sC]
      exact HJ.out n6 n7 _ ⟨Nat.ne_of_gt HN.out,HT.out⟩
   ·go_simp;have hT:=(HT.out.made #[.int .i64 0,.string ⟨#[]⟩,.int .i64 0]).bd (Fr.drew (Fr.refl ay _));obtain⟨n6,hne⟩:∃n,n=u9.heap.size:=⟨_,rfl⟩;obtain⟨U27,cY⟩:∃W,W=(u9.alloc (.cells #[.int .i64 0,.string ⟨#[]⟩,.int .i64 0] 39)).drew:=⟨_,rfl⟩;rw[<-cY, <-hne]at hT ⊢;clear cY hne HT;have HT:=O hT;clear hT;refine hK.out _ _ HT.out.op ?_;intro ct;clear hK cW K;have cW:=ct;clear ct
    try simp only[Act.put,sA,sB,sC]
    refine wpAnyH_ready (rs:=[2,7]) (by kernel_rfl) (by simp) ?_;refine AllReadyH.cons rfl (fun K hK=>?_) (AllReadyH.cons rfl (fun K hK=>?_) AllReadyH.nil)
    ·go_simp;refine(HD1.out _ _ _ _ _ HT.out).mono ?_;rintro e U28⟨rfl,hT⟩;clear HT;have HT:=O hT;clear hT;refine hK.out _ _ HT.out.op ?_;intro ct;clear hK cW K;have cW:=ct;clear ct
     try simp only[Act.put,sA,sB,sC]
     refine wpAnyH_ready (rs:=[5,7]) (by kernel_rfl) (by simp) ?_;refine AllReadyH.cons rfl (fun K hK=>?_) (AllReadyH.cons rfl (fun K hK=>?_) AllReadyH.nil)
     ·go_simp;refine(Wx.out _ _ _ _ _ HT.out).mono ?_;rintro e U29⟨rfl,hT⟩;clear HT;have HT:=O hT;clear hT;refine hK.out _ _ HT.out.op ?_;intro ct;clear hK cW K;have cW:=ct;clear ct
      try simp only[Act.put,sA,sB,sC]
      refine wpAnyH_ready (rs:=[7]) (by kernel_rfl) (by simp) ?_;refine AllReadyH.cons rfl (fun K hK=>?_) AllReadyH.nil;go_simp;have hT:=(HT.out.made #[.int .i64 0,.string ⟨#[]⟩,.int .i64 0]);obtain⟨n7,hne⟩:∃n,n=U29.heap.size:=⟨_,rfl⟩;obtain⟨U30,cY⟩:∃W,W=(U29.alloc (.cells #[.int .i64 0,.string ⟨#[]⟩,.int .i64 0] 39)):=⟨_,rfl⟩
      have HN:=O (show n6<n7 by rw[hne];exact aj (HT.out.rep (n6, #[.int .i64 0,.string ⟨#[]⟩,.int .i64 0]) (List.mem_cons_self ..)).2);rw[<-cY, <-hne]at hT ⊢;clear cY hne HT;have HT:=O hT;clear hT;refine hK.out _ _ HT.out.op ?_;intro ct;clear hK cW K;have cW:=ct;clear ct
      try simp only[Act.put,sA,sB,sC]
      exact HJ.out n6 n7 _ ⟨Nat.ne_of_lt HN.out,HT.out.perm (fun p hp=>by rcases List.mem_cons.1 hp with rfl|hp;exact List.mem_cons_of_mem _ (List.mem_cons_self ..);rcases List.mem_cons.1 hp with rfl|hp;exact List.mem_cons_self ..; cases hp)⟩
     ·go_simp;have hT:=(HT.out.made #[.int .i64 0,.string ⟨#[]⟩,.int .i64 0]);obtain⟨n7,hne⟩:∃n,n=U28.heap.size:=⟨_,rfl⟩;obtain⟨U31,cY⟩:∃W,W=(U28.alloc (.cells #[.int .i64 0,.string ⟨#[]⟩,.int .i64 0] 39)):=⟨_,rfl⟩;have HN:=O (show n6<n7 by rw[hne];exact aj (HT.out.rep (n6, #[.int .i64 0,.string ⟨#[]⟩,.int .i64 0]) (List.mem_cons_self ..)).2);rw[<-cY, <-hne]at hT ⊢;clear cY hne HT;have HT:=O hT
      clear hT;refine hK.out _ _ HT.out.op ?_;intro ct;clear hK cW K;have cW:=ct;clear ct
      try simp only[Act.put,sA,sB,sC]
      refine wpAnyH_ready (rs:=[5]) (by kernel_rfl) (by simp) ?_;refine AllReadyH.cons rfl (fun K hK=>?_) AllReadyH.nil;go_simp;refine(Wx.out _ _ _ _ _ HT.out).mono ?_;rintro e U32⟨rfl,hT⟩;clear HT;have HT:=O hT;clear hT;refine hK.out _ _ HT.out.op ?_;intro ct;clear hK cW K;have cW:=ct;clear ct
      try simp only[Act.put,sA,sB,sC]
      exact HJ.out n6 n7 _ ⟨Nat.ne_of_lt HN.out,HT.out.perm (fun p hp=>by rcases List.mem_cons.1 hp with rfl|hp;exact List.mem_cons_of_mem _ (List.mem_cons_self ..);rcases List.mem_cons.1 hp with rfl|hp;exact List.mem_cons_self ..; cases hp)⟩
    ·go_simp;have hT:=(HT.out.made #[.int .i64 0,.string ⟨#[]⟩,.int .i64 0]);obtain⟨n7,hne⟩:∃n,n=U27.heap.size:=⟨_,rfl⟩;obtain⟨U33,cY⟩:∃W,W=(U27.alloc (.cells #[.int .i64 0,.string ⟨#[]⟩,.int .i64 0] 39)):=⟨_,rfl⟩;have HN:=O (show n6<n7 by rw[hne];exact aj (HT.out.rep (n6, #[.int .i64 0,.string ⟨#[]⟩,.int .i64 0]) (List.mem_cons_self ..)).2);rw[<-cY, <-hne]at hT ⊢;clear cY hne HT;have HT:=O hT
     clear hT;refine hK.out _ _ HT.out.op ?_;intro ct;clear hK cW K;have cW:=ct;clear ct
     try simp only[Act.put,sA,sB,sC]
     refine wpAnyH_ready (rs:=[2]) (by kernel_rfl) (by simp) ?_;refine AllReadyH.cons rfl (fun K hK=>?_) AllReadyH.nil;go_simp;refine(HD1.out _ _ _ _ _ HT.out).mono ?_;rintro e U34⟨rfl,hT⟩;clear HT;have HT:=O hT;clear hT;refine hK.out _ _ HT.out.op ?_;intro ct;clear hK cW K;have cW:=ct;clear ct
     try simp only[Act.put,sA,sB,sC]
     refine wpAnyH_ready (rs:=[5]) (by kernel_rfl) (by simp) ?_;refine AllReadyH.cons rfl (fun K hK=>?_) AllReadyH.nil;go_simp;refine(Wx.out _ _ _ _ _ HT.out).mono ?_;rintro e U35⟨rfl,hT⟩;clear HT;have HT:=O hT;clear hT;refine hK.out _ _ HT.out.op ?_;intro ct;clear hK cW K;have cW:=ct;clear ct
     try simp only[Act.put,sA,sB,sC]
     exact HJ.out n6 n7 _ ⟨Nat.ne_of_lt HN.out,HT.out.perm (fun p hp=>by rcases List.mem_cons.1 hp with rfl|hp;exact List.mem_cons_of_mem _ (List.mem_cons_self ..);rcases List.mem_cons.1 hp with rfl|hp;exact List.mem_cons_self ..; cases hp)⟩
   ·go_simp;have hT:=(HT.out.made #[.int .i64 0,.string ⟨#[]⟩,.int .i64 0]).bd (Fr.drew (Fr.refl ay _));obtain⟨n7,hne⟩:∃n,n=u9.heap.size:=⟨_,rfl⟩;obtain⟨U36,cY⟩:∃W,W=(u9.alloc (.cells #[.int .i64 0,.string ⟨#[]⟩,.int .i64 0] 39)).drew:=⟨_,rfl⟩;rw[<-cY, <-hne]at hT ⊢;clear cY hne HT;have HT:=O hT;clear hT;refine hK.out _ _ HT.out.op ?_;intro ct;clear hK cW K;have cW:=ct;clear ct
    try simp only[Act.put,sA,sB,sC]
    refine wpAnyH_ready (rs:=[2,6]) (by kernel_rfl) (by simp) ?_;refine AllReadyH.cons rfl (fun K hK=>?_) (AllReadyH.cons rfl (fun K hK=>?_) AllReadyH.nil)
    ·go_simp;refine(HD1.out _ _ _ _ _ HT.out).mono ?_;rintro e U37⟨rfl,hT⟩;clear HT;have HT:=O hT;clear hT;refine hK.out _ _ HT.out.op ?_;intro ct;clear hK cW K;have cW:=ct;clear ct
     try simp only[Act.put,sA,sB,sC]
     refine wpAnyH_ready (rs:=[5,6]) (by kernel_rfl) (by simp) ?_;refine AllReadyH.cons rfl (fun K hK=>?_) (AllReadyH.cons rfl (fun K hK=>?_) AllReadyH.nil)
     ·go_simp;refine(Wx.out _ _ _ _ _ HT.out).mono ?_;rintro e U38⟨rfl,hT⟩;clear HT;have HT:=O hT;clear hT;refine hK.out _ _ HT.out.op ?_;intro ct;clear hK cW K;have cW:=ct;clear ct
      try simp only[Act.put,sA,sB,sC]
      refine wpAnyH_ready (rs:=[6]) (by kernel_rfl) (by simp) ?_;refine AllReadyH.cons rfl (fun K hK=>?_) AllReadyH.nil;go_simp;have hT:=(HT.out.made #[.int .i64 0,.string ⟨#[]⟩,.int .i64 0]);obtain⟨n6,hne⟩:∃n,n=U38.heap.size:=⟨_,rfl⟩;obtain⟨U39,cY⟩:∃W,W=(U38.alloc (.cells #[.int .i64 0,.string ⟨#[]⟩,.int .i64 0] 39)):=⟨_,rfl⟩
      have HN:=O (show n7<n6 by rw[hne];exact aj (HT.out.rep (n7, #[.int .i64 0,.string ⟨#[]⟩,.int .i64 0]) (List.mem_cons_self ..)).2);rw[<-cY, <-hne]at hT ⊢;clear cY hne HT;have HT:=O hT;clear hT;refine hK.out _ _ HT.out.op ?_;intro ct;clear hK cW K;have cW:=ct;clear ct
      try simp only[Act.put,sA,sB,sC]
      exact HJ.out n6 n7 _ ⟨Nat.ne_of_gt HN.out,HT.out⟩
     ·go_simp;have hT:=(HT.out.made #[.int .i64 0,.string ⟨#[]⟩,.int .i64 0]);obtain⟨n6,hne⟩:∃n,n=U37.heap.size:=⟨_,rfl⟩;obtain⟨U40,cY⟩:∃W,W=(U37.alloc (.cells #[.int .i64 0,.string ⟨#[]⟩,.int .i64 0] 39)):=⟨_,rfl⟩;have HN:=O (show n7<n6 by rw[hne];exact aj (HT.out.rep (n7, #[.int .i64 0,.string ⟨#[]⟩,.int .i64 0]) (List.mem_cons_self ..)).2);rw[<-cY, <-hne]at hT ⊢;clear cY hne HT;have HT:=O hT
      clear hT;refine hK.out _ _ HT.out.op ?_;intro ct;clear hK cW K;have cW:=ct;clear ct
      try simp only[Act.put,sA,sB,sC]
      refine wpAnyH_ready (rs:=[5]) (by kernel_rfl) (by simp) ?_;refine AllReadyH.cons rfl (fun K hK=>?_) AllReadyH.nil;go_simp;refine(Wx.out _ _ _ _ _ HT.out).mono ?_;rintro e U41⟨rfl,hT⟩;clear HT;have HT:=O hT;clear hT;refine hK.out _ _ HT.out.op ?_;intro ct;clear hK cW K;have cW:=ct;clear ct
      try simp only[Act.put,sA,sB,sC]
      exact HJ.out n6 n7 _ ⟨Nat.ne_of_gt HN.out,HT.out⟩
    ·go_simp;have hT:=(HT.out.made #[.int .i64 0,.string ⟨#[]⟩,.int .i64 0]);obtain⟨n6,hne⟩:∃n,n=U36.heap.size:=⟨_,rfl⟩;obtain⟨U42,cY⟩:∃W,W=(U36.alloc (.cells #[.int .i64 0,.string ⟨#[]⟩,.int .i64 0] 39)):=⟨_,rfl⟩;have HN:=O (show n7<n6 by rw[hne];exact aj (HT.out.rep (n7, #[.int .i64 0,.string ⟨#[]⟩,.int .i64 0]) (List.mem_cons_self ..)).2);rw[<-cY, <-hne]at hT ⊢;clear cY hne HT;have HT:=O hT
     clear hT;refine hK.out _ _ HT.out.op ?_;intro ct;clear hK cW K;have cW:=ct;clear ct
     try simp only[Act.put,sA,sB,sC]
     refine wpAnyH_ready (rs:=[2]) (by kernel_rfl) (by simp) ?_;refine AllReadyH.cons rfl (fun K hK=>?_) AllReadyH.nil;go_simp;refine(HD1.out _ _ _ _ _ HT.out).mono ?_;rintro e U43⟨rfl,hT⟩;clear HT;have HT:=O hT;clear hT;refine hK.out _ _ HT.out.op ?_;intro ct;clear hK cW K;have cW:=ct;clear ct
     try simp only[Act.put,sA,sB,sC]
     refine wpAnyH_ready (rs:=[5]) (by kernel_rfl) (by simp) ?_;refine AllReadyH.cons rfl (fun K hK=>?_) AllReadyH.nil;go_simp;refine(Wx.out _ _ _ _ _ HT.out).mono ?_;rintro e U44⟨rfl,hT⟩;clear HT;have HT:=O hT;clear hT;refine hK.out _ _ HT.out.op ?_;intro ct;clear hK cW K;have cW:=ct;clear ct
     try simp only[Act.put,sA,sB,sC]
     exact HJ.out n6 n7 _ ⟨Nat.ne_of_gt HN.out,HT.out⟩
  ·rintro n6 n7 W0⟨hne,hT⟩;have wY:=O hne;have HT:=O hT;clear hne hT;have cW:=HT.out.op;refine wpAnyH_ready (rs:=[8]) (by kernel_rfl) (by simp) ?_;refine AllReadyH.cons rfl (fun K hK=>?_) AllReadyH.nil
   refine aJ rfl 39 (.tmp 10) (.tmp 42) rfl n6 #[.int .i64 z.2.what,.string z.2.head,.int .i64 z.2.cert] rfl rfl 39 #[.int .i64 0,.string ⟨#[]⟩,.int .i64 0] (HT.out.rep (n6, #[.int .i64 0,.string ⟨#[]⟩,.int .i64 0]) (List.mem_cons_self ..)).2 (az _ rfl) rfl (by simp[Value.oneCell']) ?_
   have hT:=(HT.out.stored (by intro p hp;rcases List.mem_cons.1 hp with rfl|hp;exact Ne.symm wY.out;cases hp) #[.int .i64 z.2.what,.string z.2.head,.int .i64 z.2.cert]).perm (l':=[(n7, #[.int .i64 0,.string ⟨#[]⟩,.int .i64 0]),(n6, #[.int .i64 z.2.what,.string z.2.head,.int .i64 z.2.cert])]) (fun p hp=>by rcases List.mem_cons.1 hp with rfl|hp;exact List.mem_cons_of_mem _ (List.mem_cons_self ..);rcases List.mem_cons.1 hp with rfl|hp;exact List.mem_cons_self ..; cases hp)
   clear HT;have HT:=O hT;clear hT;refine hK.out _ _ HT.out.op ?_;intro ct;clear hK cW K;have cW:=ct;clear ct
   try simp only[Act.put,sA,sB,sC]
   refine wpAnyH_ready (rs:=[9]) (by kernel_rfl) (by simp) ?_;refine AllReadyH.cons rfl (fun K hK=>?_) AllReadyH.nil;refine aJ rfl 39 (.tmp 11) (.tmp 45) rfl n7 #[.int .i64 z.2.what,.string z.2.head,.int .i64 z.2.cert] rfl rfl 39 #[.int .i64 0,.string ⟨#[]⟩,.int .i64 0] (HT.out.rep (n7, #[.int .i64 0,.string ⟨#[]⟩,.int .i64 0]) (List.mem_cons_self ..)).2 (az _ rfl) rfl (by simp[Value.oneCell']) ?_
   have hT:=(HT.out.stored (by intro p hp;rcases List.mem_cons.1 hp with rfl|hp;exact wY.out;cases hp) #[.int .i64 z.2.what,.string z.2.head,.int .i64 z.2.cert]).perm (l':=[(n6, #[.int .i64 z.2.what,.string z.2.head,.int .i64 z.2.cert]),(n7, #[.int .i64 z.2.what,.string z.2.head,.int .i64 z.2.cert])]) (fun p hp=>by rcases List.mem_cons.1 hp with rfl|hp;exact List.mem_cons_of_mem _ (List.mem_cons_self ..);rcases List.mem_cons.1 hp with rfl|hp;exact List.mem_cons_self ..; cases hp)
   clear HT;have HT:=O hT;clear hT;refine hK.out _ _ HT.out.op ?_;intro ct;clear hK cW K;have cW:=ct;clear ct
   try simp only[Act.put,sA,sB,sC]
   clear cW;refine wpAnyH_done (by kernel_rfl) ?_ _;exact HJF.out n6 n7 _ ⟨wY.out,HT.out⟩
 ·rintro n6 n7 W⟨_,hP⟩;have HT:=O hP;clear hP HD1 Wx HIV;have wP:=(HT.out.rep (n6, #[.int .i64 z.2.what,.string z.2.head,.int .i64 z.2.cert]) (List.mem_cons_self ..)).2;have yR:=(HT.out.rep (n7, #[.int .i64 z.2.what,.string z.2.head,.int .i64 z.2.cert]) (List.mem_cons_of_mem _ (List.mem_cons_self ..))).2;have d0:W.cell? ⟨n6,0,none⟩=some (.int .i64 z.2.what):=by simp only[World.cell?,wP];rfl
  have d1:W.cell? ⟨n6,1,none⟩=some (.string z.2.head):=by simp only[World.cell?,wP];rfl
  have d2:W.cell? ⟨n6,2,none⟩=some (.int .i64 z.2.cert):=by simp only[World.cell?,wP];rfl
  have e0:W.cell? ⟨n7,0,none⟩=some (.int .i64 z.2.what):=by simp only[World.cell?,yR];rfl
  have e1:W.cell? ⟨n7,1,none⟩=some (.string z.2.head):=by simp only[World.cell?,yR];rfl
  have e2:W.cell? ⟨n7,2,none⟩=some (.int .i64 z.2.cert):=by simp only[World.cell?,yR];rfl
  have heq:=afb z.2.what z.2.cert z.2.head;clear wP yR;cases cw
  case false =>
   obtain⟨_,_,_,g1,_,g3,_⟩:=HT.out.is;have ah_:=O (abk g3 ((aco.out.2.1 rfl)▸g1) C4.out.ok);clear g1 g3;go_wp2_with fail
   clear heq d0 d1 d2 e0 e1 e2;refine ah_.out.mono ?_;rintro e CZ⟨rfl,afE⟩;have HTT:=O (HT.out.bd afE);clear afE ah_ HT;have c1:CZ.cell? ⟨w.heap.size,1,none⟩=some (.int .i64 o.ab.part):=by have h:=HTT.out.op;simp only[World.cell?,h];rfl
   have htk:=HTT.out.ahS.act (x':=aaU x z.1 o.ab.part cn) (R:=fun e=>e=.returned (.tuple #[])) (f:=39) (args:= #[.pointer (some ⟨E,0,none⟩),.pointer (some ⟨B,0,none⟩),.int .i64 o.ab.part,.int .i64 cn]) (fun _ g1 _ ⟨_,_,g3⟩=>aey g1 g3 HIZ.out o.ab.part HCK.out);rw[aco.out.2.2]at htk;have TI:=O htk;clear htk;go_wp2_with fail
   clear c1;refine TI.out.mono ?_;rintro e u12⟨rfl,h12⟩;have HTL:=O h12;clear h12 TI;obtain⟨_,_,_,g1,_,g3,_⟩:=HTL.out.is;have HWS:=O (abk g1 g3 HIZ.out.ok);clear g1 g3;go_wp2_with fail
   refine HWS.out.mono ?_;rintro e u13⟨rfl,agZ⟩;go_wp2_with fail
   go_ret;exact⟨rfl,(HTL.out.fr.trans agZ).bQ⟩
  case true =>
   have HTT:=O HT.out;have N0:=O (show W.cell? ⟨w.heap.size,1,none⟩=some (.int .i64 o.ab.part)by have h:=HT.out.op;simp only[World.cell?,h];rfl);clear HT;have c1:=N0.out
   have htk:=HTT.out.ahS.act (x':=aaU x z.1 o.ab.part cn) (R:=fun e=>e=.returned (.tuple #[])) (f:=39) (args:= #[.pointer (some ⟨E,0,none⟩),.pointer (some ⟨B,0,none⟩),.int .i64 o.ab.part,.int .i64 cn]) (fun _ g1 _ ⟨_,_,g3⟩=>aey g1 g3 HIZ.out o.ab.part HCK.out);rw[aco.out.2.2]at htk;have TI:=O htk;clear htk;go_wp2_with fail
   clear c1;refine TI.out.mono ?_;rintro e u12⟨rfl,h12⟩;have HTL:=O h12;clear h12 TI;obtain⟨_,_,_,g1,_,g3,_⟩:=HTL.out.is;have HWS:=O (abk g1 g3 HIZ.out.ok);clear g1 g3;go_wp2_with fail
   refine HWS.out.mono ?_;rintro e u13⟨rfl,agZ⟩;go_wp2_with fail
   go_ret;exact⟨rfl,(HTL.out.fr.trans agZ).bQ⟩
end Go.Proofs.YtjdmjbdkdmbaiaaGreatDoor
namespace Go.Proofs.YtjdmjbdkdmbaiaaGreatDoor.worldFrame
open Go.ChangeShapes Go.WideShapes Go.ChangeAt Go.RowKit
open Go.ChangeMaps (open_string shut_string)
theorem own:ownKnob Tryz.prog.godebug=none:=by kernel_rfl
theorem laidOut:laidOutB Tryz.prog=true:=by kernel_rfl
theorem lifted(os:Os)(started:os.Started)(H:Type)(enc:TypeId×Value->H) :
  ReturnsInHanded {} Tryz.checked os 12 .any (fun w args=>(Rows.worldFrameSpec.pre enc Tryz.prog Tryz.f12 Rows.worldFrameRow.domain false w args/\laidMetH Tryz.prog Rows.worldFrameRow.laid w)/\sizedMet enc Tryz.prog Tryz.f12 (OpenSpec.ofChange Rows.worldFrameSpec) false w args)
   (Rows.worldFrameSpec.post enc Tryz.prog Tryz.f12 false true false false):=by
 refine returnsInHanded_of_change_and (C:=Tryz.checked) (X:=fun w _=>laidMetH Tryz.prog Rows.worldFrameRow.laid w) (fun _ _ _ hh h=>h.of_heap hh) own started (by kernel_rfl) Tryz.func12
  (ChangeSpec.witness_shaped (enc:=enc) (C:=Tryz.checked) (os:=os) (X:=fun w _=>laidMetH Tryz.prog Rows.worldFrameRow.laid w) false (World.laidAll Tryz.prog os Rows.worldFrameRow.laid) #[.slice none 0 0,.agg #[.int .i64 0,.int .i64 0,.bool false,.string ByteArray.empty,.int .i64 0,.bool false,.string ByteArray.empty,.int .i64 0,.string ByteArray.empty,.string ByteArray.empty,.string ByteArray.empty,.slice none 0 0,.bool false,.string ByteArray.empty,.bool false,.string ByteArray.empty,.string ByteArray.empty,.string ByteArray.empty,.string ByteArray.empty,.int .i64 0,.bool false,.int .i64 0]] 8 (World.laidAll_os _ _ _)
   (World.shaped_of_ZipB (by kernel_rfl) (by kernel_rfl)) (by kernel_rfl) (by kernel_rfl) (by kernel_rfl)
   (by rw[MakeChecks.laidMetH_plain _ _ _ (by kernel_rfl)];exact laidMet_laidAll _ (by kernel_rfl) (by kernel_rfl))) ?_
 intro W base args ds gs before qx hW _ qw hL _;have mz:(DataW.weightsEach Tryz.prog (Tryz.f12.params.toList++Rows.worldFrameSpec.plain.varTypes Tryz.prog) (ds++gs)).all (· <=reachBytes)=true:=qw;clear qw;have hval:∀(j:Nat) t v,Tryz.f12.params[j]?=some t->args[j]?=some v->Value.okWide Tryz.prog W .any base t v:=qx;have hW':=hW;obtain⟨p,q,Qz,hV,rfl,_,_⟩:=hW
 have hA:DataW.TrodAll enc Tryz.prog W 0 (fun _=>true) true Tryz.f12.params.toList args.toList ds p:=Qz;rw[Tryz.params12]at hA hval mz;obtain⟨v0,vs0,d0,ds0,p0,q0,QA,rfl,rfl,h0,r0⟩:=trodAll_cons hA;obtain⟨v1,vs1,d1,ds1,p1,q1,rfl,rfl,rfl,h1,r1⟩:=trodAll_cons r0;obtain⟨rfl,rfl,rfl⟩:=trodAll_nil r1;obtain rfl:args= #[v0,v1]:=by cases args;simp_all
 obtain⟨rfl,rfl⟩:=trodVars_none hV;have k0:=h0;have lt0:∀x∈p0,x.block<W.heap.size:=by obtain⟨m,hm⟩:=k0;exact DataW.trod_lt m _ _ _ hm
 obtain⟨ss0,sO⟩:=mY (hval 0 22 v0 rfl rfl) h0 (jY mz (j:=0) (t:=22) rfl rfl);have k1:=h1;have lt1:∀x∈p1,x.block<W.heap.size:=by obtain⟨m,hm⟩:=k1;exact DataW.trod_lt m _ _ _ hm
 obtain⟨o1,ss1,rfl,vD⟩:=mh (hval 1 33 v1 rfl rfl) h1 (jY mz (j:=1) (t:=33) rfl rfl);clear Qz qx;rw[MakeChecks.laidMetH_plain _ _ _ (by kernel_rfl)]at hL;have tb0:=ot hL (by refine⟨?_,?_⟩<;>repeat(first|exact True.intro|exact List.Mem.head _|refine List.Mem.tail _ ?_));have tb1:=mR hL (by refine⟨?_,?_⟩<;>repeat(first|exact True.intro|exact List.Mem.head _|refine List.Mem.tail _ ?_))
 have tb2:=mS hL (by refine⟨?_,?_⟩<;>repeat(first|exact True.intro|exact List.Mem.head _|refine List.Mem.tail _ ?_));have tb3:=om hL (by refine⟨?_,?_⟩<;>repeat(first|exact True.intro|exact List.Mem.head _|refine List.Mem.tail _ ?_));refine(aeG _ ss0 o1 ss1  W sO vD tb0 tb1 tb2 tb3).mono fun e W' ⟨he,jE⟩=>?_;subst he
 exact⟨_,rfl,_,_,_,[],_,[],hW',trodAll_mk1 (shut_bool Tryz.underlying4 _),(trodAll_cons_mk (Below.trod laidOut (by kernel_rfl) (of_decide_eq_true (by kernel_rfl)) k0 jE lt0) (trodAll_cons_mk (Below.trod laidOut (by kernel_rfl) (of_decide_eq_true (by kernel_rfl)) k1 jE lt1) trodAll_mk0)),rfl,jE.frame _,fun h=>by cases h⟩
end Go.Proofs.YtjdmjbdkdmbaiaaGreatDoor.worldFrame
