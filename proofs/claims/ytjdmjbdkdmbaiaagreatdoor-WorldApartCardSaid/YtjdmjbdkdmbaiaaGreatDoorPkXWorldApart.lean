/- Base, Shelf, Pick, UnbP, Waits, ClonePa, Book4, WorldLaw, CloneCe, WGet, TwoW, SameG, EqG, EqPa, PartSame, RepEq, WApart, LiftWorldApart. -/
import Derived.Test.YtjdmjbdkdmbaiaaGreatDoorPk47
import Derived.Deep.Onto
import Derived.Test.YtjdmjbdkdmbaiaaGreatDoorTie
import Derived.Test.YtjdmjbdkdmbaiaaGreatDoorCards
import Derived.LaidMore
import Derived.Lay
set_option maxRecDepth 100000
set_option maxHeartbeats 16000000
set_option linter.unusedSimpArgs false
namespace Go.Proofs.YtjdmjbdkdmbaiaaGreatDoor
open Go.RowKit
theorem ae8{k:IntKind}{a b:Int}(h:a=b):Ending.returned (.int k a)=.returned (.int k b):=by rw[h]
namespace Fr
variable {S T : Nat → Prop} {a w w' w1 w2 : World}
end Fr
end Go.Proofs.YtjdmjbdkdmbaiaaGreatDoor
namespace Go.Proofs
open Go.Shelf
def Tryz.aew:Go.Shelf.Ren:=⟨fun|193=>90|n=>n,fun|31=>45|9=>9|4=>4|3=>3|0=>0|n=>n,fun|n=>n⟩
theorem Tryz.aeB:Go.Proofs.Lays.n193 Tryz.prog Tryz.aew:={
 mixed:=by kernel_rfl
 f193:=Tryz.func90.trans (congrArg some (by kernel_rfl))
 t0:=Tryz.underlying0
 a0:=Tryz.isAgg0
 z0:=Tryz.sizeOf0
 v0:=Tryz.zeroValue0
 t3:=Tryz.underlying3
 a3:=Tryz.isAgg3
 z3:=Tryz.sizeOf3
 v3:=Tryz.zeroValue3
 t4:=Tryz.underlying4
 a4:=Tryz.isAgg4
 z4:=Tryz.sizeOf4
 v4:=Tryz.zeroValue4
 t9:=Tryz.underlying9
 a9:=Tryz.isAgg9
 z9:=Tryz.sizeOf9
 v9:=Tryz.zeroValue9
 t31:=Tryz.underlying45
 a31:=Tryz.isAgg45
 z31:=Tryz.sizeOf45
 v31:=Tryz.zeroValue45}
open Go.RowKit Go.Lib in
theorem Tryz.slices_Equal_string(b1 o1 n c b2 o2 m d:Nat)(xs ys:List ByteArray)(w:World)(hx:n<=xs.length)(hy:m<=ys.length)(YR:n<=9223372036854775807)(aeH:m<=9223372036854775807)(kS:∀j,j<xs.length->w.cell? ⟨b1,o1+j,none⟩=some (.string (xs.getD j ByteArray.empty)))(nW:∀j,j<ys.length->w.cell? ⟨b2,o2+j,none⟩=some (.string (ys.getD j ByteArray.empty))) :
  Calls Tryz.prog 90 #[.slice (some ⟨b1,o1,none⟩) n c,.slice (some ⟨b2,o2,none⟩) m d] w fun e w'=>e=.returned (.bool (decide (xs.take n=ys.take m)))/\∃q,w'=w.drewN q:=Any.slices_Equal_string Tryz.aeB b1 o1 n c b2 o2 m d xs ys w hx hy YR aeH kS nW
open Go.RowKit Go.Lib in
theorem Tryz.slices_Equal_string_empty(a1 a2:Option Addr)(c m d:Nat)(w:World)(aeH:m<=9223372036854775807) :
  Calls Tryz.prog 90 #[.slice a1 0 c,.slice a2 m d] w fun e w'=>e=.returned (.bool (decide (m=0)))/\w'=w:=Any.slices_Equal_string_empty Tryz.aeB a1 a2 c m d w aeH
end Go.Proofs
namespace Go.Proofs.YtjdmjbdkdmbaiaaGreatDoor
open Go.RowKit
def aaH(a n:Int):Int:=(a%18446744073709551616)%n
theorem abi(a n:Int)(hn:0<n):0<=aaH a n/\aaH a n<n:=⟨Int.emod_nonneg _ (by omega),Int.emod_lt_of_pos _ hn⟩
theorem aeV(a n:Int)(hn:0<n)(Jp:n<4611686018427387904):wrap64 ((IntKind.u64.wrap a).tmod n)=aaH a n:=by
 have e:IntKind.u64.wrap a=a%18446744073709551616:=by simp[IntKind.wrap,IntKind.signed,IntKind.bits]
 rw[e,Int.tmod_eq_emod_of_nonneg (Int.emod_nonneg _ (by decide))];have h:=abi a n hn;unfold aaH at h ⊢;exact IntWalk.wrap64_in _ ⟨by omega,by omega⟩
theorem aeW(a n:Int)(w:World)(hn:0<n)(Jp:n<4611686018427387904) :
  Calls Tryz.prog 34 #[.int .i64 a,.int .i64 n] w fun e w'=>e=.returned (.int .i64 (aaH a n))/\w=w':=by
 go_enter Tryz.func34,Tryz.ntmps34;go_wp2;go_ret;exact⟨ae8 (aeV a n hn Jp),rfl⟩
def agG(c:UInt8):Option Nat:=if 65<=c/\c<=90 then some (c.toNat-65)else if 97<=c/\c<=122 then some (c.toNat-71)else if 48<=c/\c<=57 then some (c.toNat+4)else if c=43 then some 62 else if c=47 then some 63 else none
def aac(l:List UInt8):Nat->Nat
 |0=>0
 |j+1=>aac l j*64+(match l[j]? with|some c=>(agG c).getD 0|none=>0)
def aeX(base:Nat)(w:World)(gs:List (aG aF))(v:Value)(w':World):Prop:=fq base w' v gs/\∀k,v.ownBlock=some k->w.heap.size<=k
def abr(base:Nat)(w:World)(gs:List (aG aF))(e:Ending)(w':World):Prop :=
 ∃v,e=.returned v/\aeX base w gs v w'/\Fr ay w w'
def afJ(base:Nat)(w:World)(gs:List (aG aF))(v i:Value)(wr:World):Prop :=
 ∃(k:Nat) (rs:List (aG Value)),k<=gs.length/\i=.int .i64 k/\OwnRows w.heap.size 144 13 wr v (rs.map aG.cells)/\fF (aG.Reads (aS base wr)) rs (gs.take k)/\Fr ay w wr
theorem aeJ(base:Nat)(w:World)(b:Nat)(gv wv:Value)(gs:List (ai aF))(ws:List (aG aF))(h:ba base w b gv wv gs ws)(M1:ws.length<68719476736) :
  Calls Tryz.prog 150 #[.pointer (some ⟨b,0,none⟩)] w (abr base w ws):=by
 have h0:=h.c1;obtain⟨av,cv,hv⟩:=h.waits.form;subst hv;have pD:=h.lt;have eI:base<=w.heap.size:=by have:=h.low;omega
 go_enter Tryz.func150,Tryz.ntmps150;go_wp2;clear h0;go_loopw[3,11] (afJ base w ws) (fun _ i _=>ws.length-(intOf i).toNat)
 case atStart=>exact⟨0,[],Nat.zero_le _,rfl,OwnRows.nil _ _ _ _,.nil,Fr.refl _ _⟩
 case round =>
  obtain⟨k,rs,hk,rfl,a_,Ef,aW⟩:=hrel;by_cases cG:k<ws.length
  ·obtain⟨bk,c,bt,nv,r,bG,hr,hcell⟩:=(h.bd aW).waits.at cG;cases bt;unfold maxLen at nv;obtain⟨ad,cd,Aw⟩:=hr.2.2.2.2.2.2.2.2.2.2.rd.form;obtain⟨x,hx⟩:∃x,x=r.cells:=⟨_,rfl⟩;have gD:x.length=13:=by rw[hx];rfl
   have fR:=fun W=>run_storeCells_new (P:=Tryz.prog) W 144 rB x (by rw[gD];rfl) (by rw[hx];exact bG);rw[<-hx]at hcell;have HX:=O hx;have JF:=O (Cb gD);have aeY:x[12]?=some (.slice ad ws[k].a.dom.length cd):=by rw[hx, <-Aw];rfl
   clear hx;obtain⟨av,cv,ZH⟩:=a_.form;subst ZH;rw[List.length_map,Ef.len,List.length_take,Nat.min_eq_left hk]at a_ ⊢;have dF:Fr ay wr (wr.alloc (.cells x.toArray 144)):=(Fr.refl ay wr).alloc _;have hb0:(wr.alloc (.cells x.toArray 144)).heap[wr.heap.size]?=some (.cells x.toArray 144 (0,0)):=af _ _
   have c12:(wr.alloc (.cells x.toArray 144)).cell? ⟨wr.heap.size,12,none⟩=some (.slice ad ws[k].a.dom.length cd):=by simp only[World.cell?,hb0];simpa using aeY
   have kR:=hr.mono (fun _ _ h=>h.bd dF);have AP:=kR.2.2.2.2.2.2.2.2.2.2;rw[Aw]at AP;have CL:=O (ou base _ _ _ AP);go_wp2_with (first|((with_reducible refine ag ⟨some 14,_,_,_,_,_⟩ ?_);go_must(refine wpList_load_mid rfl 144 (.tmp 13) rfl bk (k*13) rfl x _ hcell Tryz.underlying144 rfl JF.out ?_))|fail)
   have nj:=O (aW.trans dF);have bV:=a_.alloc (.cells x.toArray 144);have OE:=Ef.mono (fun _ _ h=>h.mono (fun _ _ h=>h.bd dF));have eQ:w.heap.size<=wr.heap.size:=aW.size;have agH:=a_.lt;clear fR hcell hr a_ Ef aW AP dF;generalize wr.alloc (.cells x.toArray 144)=W2 at *
   refine CL.out.mono ?_;rintro e u1⟨a2,c2,rfl,zo,bt⟩;have o9:=bt.keep hb0 (fun h=>h);have oT:=kR.mono (fun _ _ h=>h.bd bt);have cz:=bV.fr bt (fun _ _ h=>h);have OG:=OE.mono (fun _ _ h=>h.mono (fun _ _ h=>h.bd bt));have hF1:=nj.out.trans bt;have aoh:u1.cell? ⟨wr.heap.size,12,none⟩=some (.slice ad ws[k].a.dom.length cd):=by simp only[World.cell?,o9];simpa using aeY
   have f12:u1.frozen? ⟨wr.heap.size,12,none⟩=false:=by simp[World.frozen?,o9]
   have fC:=aP o9 12 (.slice a2 ws[k].a.dom.length c2);have hye:x.toArray.setIfInBounds 12 (.slice a2 ws[k].a.dom.length c2)=(r.oz (.slice a2 ws[k].a.dom.length c2)).cells.toArray:=by rw[HX.out];rfl
   rw[hye]at fC;have lZ:lT base u1 (one wr.heap.size):=by
    rintro j rfl hj;exact⟨by omega,fun c f e=>by rw[o9]at e;cases e⟩
   have fM:Fr (one wr.heap.size) u1 (u1.setCell ⟨wr.heap.size,12,none⟩ (.slice a2 ws[k].a.dom.length c2)):=(Fr.refl (one wr.heap.size) u1).setCell (p:=⟨wr.heap.size,12,none⟩) (fun _=>rfl) _;have wJ:∀j,(Value.slice av k cv).ownBlock=some j->¬one wr.heap.size j:=by
    rintro j hj rfl;have:=agH _ hj;omega
   have dk:=hF1.dI (p:=⟨wr.heap.size,12,none⟩) eQ (.slice a2 ws[k].a.dom.length c2);have qX:(r.oz (.slice a2 ws[k].a.dom.length c2)).Reads (aS base (u1.setCell ⟨wr.heap.size,12,none⟩ (.slice a2 ws[k].a.dom.length c2))) ws[k] :=
    ⟨oT.1,oT.2.1,oT.2.2.1,oT.2.2.2.1,oT.2.2.2.2.1,oT.2.2.2.2.2.1,oT.2.2.2.2.2.2.1,oT.2.2.2.2.2.2.2.1,oT.2.2.2.2.2.2.2.2.1,oT.2.2.2.2.2.2.2.2.2.1,zo.fr fM lZ⟩
   have cZ:=cz.fr fM wJ;have aeu:=OG.mono (fun _ _ h=>h.mono (fun _ _ h=>h.fr fM lZ));have JL:∀u∈(r.oz (.slice a2 ws[k].a.dom.length c2)).cells,u.oneCell'=true:=by
    intro u hu;simp only[aG.cells,aG.oz,List.mem_cons,List.not_mem_nil,or_false]at hu;rcases hu with rfl|rfl|rfl|rfl|rfl|rfl|rfl|rfl|rfl|rfl|rfl|rfl|rfl<;>rfl
   obtain⟨y,hy⟩:∃y,y=(r.oz (.slice a2 ws[k].a.dom.length c2)).cells:=⟨_,rfl⟩;have FH:y.length=13:=by rw[hy];rfl
   rw[<-hy]at JL fC;have HY:=O hy;have mj:=O fC;have HYI:=O (Cb FH);have ZI:=O cZ;have Eg:=tD y rB (by rw[FH];rfl);have hbw:w.heap.size<=(u1.setCell ⟨wr.heap.size,12,none⟩ (.slice a2 ws[k].a.dom.length c2)).heap.size:=dk.size;have HSZ:=O (show(u1.setCell ⟨wr.heap.size,12,none⟩ (.slice a2 ws[k].a.dom.length c2)).heap.size=u1.heap.size by simp[World.setCell])
   have ahx:w.heap.size<=u1.heap.size:=hF1.size;have qW:=aeu.len;rw[List.length_take,Nat.min_eq_left hk]at qW;have tS:(rs.map aG.cells).length<68719476736:=by rw[List.length_map,qW];omega
   have HR4:=O qX;have afK:=O aeu;have agI:=O dk;clear qW oT kR bV cz OE OG hb0 o9 lZ fM wJ zo hye hy aeY c12 CL cZ aeu qX dk hF1 bt fC nj Aw
   go_wp2_with (first|((with_reducible refine ag ⟨some 22,_,_,_,_,_⟩ ?_);go_must(refine wpList_load_row rfl 144 (.tmp 5) rfl wr.heap.size rfl _ y.toArray (0,0) _ mj.out Tryz.underlying144 rfl (by rw[List.size_toArray];exact HYI.out) ?_))|(at_builtin;go_must(refine lR rfl _ _ 137 144 rfl 13 168 (.agg rB) Tryz.underlying137 Ls rfl (by decide) (by decide) w.heap.size (.slice av k cv) (rs.map aG.cells) rfl (ZI.out.alloc _) u1.heap.size 1 y rfl FH JL (fun i u hi=>by rw[<-HSZ.out,World.cell?_alloc_mark];simpa using hi) tS (by simp;omega) ?_);intro v' w4 cZ Ag))
   have M3:=Fr.TU _ Ag;have kb:=ZI.out.off (base:=base) eI (by decide);rw[HY.out]at cZ;refine⟨⟨k+1,rs++[r.oz (.slice a2 ws[k].a.dom.length c2)],by omega,by go_num,by rw[List.map_append];exact cZ,?_,agI.out.step M3 (fun j hj hS=>by have h2:=ZI.out.block j hS;omega)⟩,by simp[intOf];omega⟩;rw[bz (List.getElem?_eq_getElem cG)]
   exact(afK.out.mono (fun _ _ h=>h.mono (fun _ _ h=>h.fr M3 kb))).app (.cons (HR4.out.mono (fun _ _ h=>h.fr M3 kb)) .nil)
  ·rw[List.take_of_length_le (by omega)]at Ef;obtain⟨av,cv,ZH⟩:=a_.form;subst ZH;go_wp2;go_ret;exact⟨_,rfl,⟨⟨rs,a_.up eI,Ef⟩,a_.block⟩,aW⟩
theorem ae9:(Tryz.prog.info? 65).map (fun i=>(i.zero,i.size,i.bytes))=some (some (.agg #[.bool false,.string ⟨#[]⟩,.int .i64 0,.bool false,.string ⟨#[]⟩,.int .i64 0,.string ⟨#[]⟩,.string ⟨#[]⟩,.bool false,.string ⟨#[]⟩,.string ⟨#[]⟩,.int .i64 0]),12,144):=by kernel_rfl
theorem ae_(v:Value)(xs:List (List Value))(w:World)(h:aN 12 w v xs)(hl:xs.length<=1000000000) :
  Calls Tryz.prog 144 #[v] w fun e w'=>∃v',e=.returned v'/\OwnRows w.heap.size 65 12 w' v' xs/\Fr ay w w':=by
 obtain⟨a,c,hv⟩:=h.form;subst hv;have q22:∀(w:World) (a:Option Addr) (n c n' c':Nat),(binOp .eql 60 (.slice a n c) (.slice none n' c')).run Tryz.prog w=.ok (.bool a.isNone) w:=fun w a n c n' c'=>Lib.run_eql_slice_nil w _ _ a n c n' c' Tryz.underlying60;cases a with
 |none =>
  obtain⟨rfl,rfl⟩:xs=[]/\c=0:=by
   rcases h.2 with ⟨a',c',hv,hs,hc⟩|⟨bk,o',c',hf,_⟩
   ·injection hv with e1 e2 e3
    exact⟨hs,e3.trans (hc e1.symm)⟩
   ·injection hf with e1;cases e1
  go_enter Tryz.func144,Tryz.ntmps144;go_wp2;go_ret;exact⟨_,rfl,OwnRows.nil _ _ _ _,Fr.refl _ _⟩
 |some ad =>
  have HX:=h.1;have HC:=O (show∀j u,xs.flatten[j]?=some u->w.cell? (ad.add j)=some u from fun j u hj=>by
   rcases h.2 with ⟨_,_,_,e,_⟩|⟨bk,o',c',hf,g1,g2,g3,g4⟩
   ·subst e;simp at hj
   ·cases hf;have yr:xs.flatten.length=xs.length*12:=eU (fun x hx=>(HX x hx).1);have hjl:=(List.getElem?_eq_some_iff.1 hj).1;have hd:j/12<xs.length:=by omega
    have hm:j%12<12:=by omega
    have hx:(xs[j/12]).length=12:=(HX _ (List.getElem_mem hd)).1;have e1:=xB (k:=12) (xs:=xs) (fun x hx=>(HX x hx).1) (j:=j/12) (List.getElem?_eq_getElem hd) (i:=j%12) (List.getElem?_eq_getElem (by rw[hx];exact hm));rw[Nat.div_add_mod']at e1;rw[e1]at hj;cases hj;have:=g4 (j/12) _ (List.getElem?_eq_getElem hd) (j%12) _ (List.getElem?_eq_getElem (by rw[hx];exact hm))
    have ea:(Addr.add ⟨bk,o',none⟩ j)=⟨bk,o'+j,none⟩:=by unfold Addr.add;split<;>simp_all
    rw[ea, <-this]
    congr 2
    omega)
  have HF:=O (show xs.flatten.length=xs.length*12 from eU (fun x hx=>(HX x hx).1));have HXX:=O HX;obtain⟨i0,hi,oZ,iy,gU⟩:=info_parts ae9;clear HX h;go_enter Tryz.func144,Tryz.ntmps144
  go_wp2_with (at_builtin;refine wpList_append_own _ rfl _ _ 60 rfl w.heap.size 65 i0 (.agg #[.bool false,.string ⟨#[]⟩,.int .i64 0,.bool false,.string ⟨#[]⟩,.int .i64 0,.string ⟨#[]⟩,.string ⟨#[]⟩,.bool false,.string ⟨#[]⟩,.string ⟨#[]⟩,.int .i64 0]) 12 144 Tryz.underlying60 hi oZ iy gU rfl (by decide) _ _ _ rfl (World.ownsRow_made w #[] 0 (Nat.le_refl _) (Nat.zero_le _) rfl) ad xs.length c xs.flatten rfl HF.out ?qc2 ?qc3 ?qc4 ?qc5 ?qc6 ?_)
  case qc2 =>
   intro j u hj;exact Lib.cell?_alloc_some _ (HC.out j u hj)
  case qc3 =>
   intro u hu;obtain⟨x,hx,FR⟩:=List.mem_flatten.1 hu;exact(HXX.out x hx).2 u FR
  case qc4=>unfold maxLen;omega
  case qc5=>omega
  case qc6=>simp
  intro v' w1 a_ gQ Ku;go_wp2;go_ret;refine⟨v',rfl,⟨HXX.out,by simpa using a_⟩,Fr.gW (((Below.refl _ w).alloc (Nat.le_refl _) _).grown gQ (by simp) (by intro k hk;simp[Value.ownBlock]at hk;omega))⟩
theorem abu(base:Nat)(w:World)(b:Nat)(v:Value)(ps:List bI)(h:cy base w b v ps)(hlen:ps.length<1000000) :
  Calls Tryz.prog 74 #[.pointer (some ⟨b,0,none⟩)] w fun e w'=>∃v',e=.returned v'/\OwnRows w.heap.size 65 12 w' v' (ps.map bI.cells)/\Fr ay w w':=by
 obtain⟨av,cv,hv⟩:=h.form;subst hv;have c0:=h.c0;have hc:=O (ae_ _ _ w h.rows.at (by rw[List.length_map];omega));clear h;go_enter Tryz.func74,Tryz.ntmps74;go_wp2_with fail
 refine hc.out.mono ?_;rintro e u⟨v',rfl,ho,hf⟩;obtain⟨a',c',nu⟩:=ho.form;subst nu;rw[List.length_map]at ho;have HO:=O ho;clear ho;go_wp2;go_ret;exact⟨_,rfl,HO.out,hf⟩
theorem aex(w:bW)(o:ib)(k:Nat)(h:o.right=true->o.what=10\/o.part.toNat≠k):(cV w o).1.part k=w.part k:=by
 cases hr:o.right
 ·rw[gR hr]
 ·by_cases hw:o.what=10
  ·rw[uh hr hw];split<;>rfl
  ·rw[fI hr hw];have:=(h hr).resolve_left hw;exact bW.Cf _ _ (Ne.symm this)
theorem aeK(w:bW)(o:ib)(h:o.what≠10):(cV w o).1.now=w.now:=by
 have:=O9 w o;rw[if_neg (fun g=>h g.1)]at this;exact this
theorem aeG{v w:bW}{o:ib}{k:Nat}(ho:o.what=10\/o.part=(k:Int))(hp:v.part k=w.part k)(hn:v.now=w.now) :
  (cV v o).2=(cV w o).2/\(cV v o).1.part k=(cV w o).1.part k/\(cV v o).1.now=(cV w o).1.now:=by
 cases hr:o.right
 ·rw[gR hr,gR hr];exact⟨rfl,hp,hn⟩
 ·by_cases hw:o.what=10
  ·rw[uh hr hw,uh hr hw,hn];split
   ·exact⟨rfl,hp,hn⟩
   ·exact⟨rfl,hp,rfl⟩
  ·have hk:o.part.toNat=k:=by rcases ho with h|h;exact absurd h hw;omega
   rw[fI hr hw,fI hr hw,hk,hp,hn];exact⟨rfl,by rw[bW.qj,bW.qj],hn⟩
theorem ae':(Tryz.prog.info? 109).map (fun i=>(i.zero,i.size,i.bytes))=some (some (.agg #[.bool false,.string ⟨#[]⟩,.int .i64 0,.int .i64 0]),4,40):=by kernel_rfl
theorem afa(v:Value)(xs:List (List Value))(w:World)(h:aN 4 w v xs)(hl:xs.length<=1000000000) :
  Calls Tryz.prog 79 #[v] w fun e w'=>∃v',e=.returned v'/\OwnRows w.heap.size 109 4 w' v' xs/\Fr ay w w':=by
 obtain⟨a,c,hv⟩:=h.form;subst hv;have q22:∀(w:World) (a:Option Addr) (n c n' c':Nat),(binOp .eql 69 (.slice a n c) (.slice none n' c')).run Tryz.prog w=.ok (.bool a.isNone) w:=fun w a n c n' c'=>Lib.run_eql_slice_nil w _ _ a n c n' c' Tryz.underlying69;cases a with
 |none =>
  obtain⟨rfl,rfl⟩:xs=[]/\c=0:=by
   rcases h.2 with ⟨a',c',hv,hs,hc⟩|⟨bk,o',c',hf,_⟩
   ·injection hv with e1 e2 e3
    exact⟨hs,e3.trans (hc e1.symm)⟩
   ·injection hf with e1;cases e1
  go_enter Tryz.func79,Tryz.ntmps79;go_wp2;go_ret;exact⟨_,rfl,OwnRows.nil _ _ _ _,Fr.refl _ _⟩
 |some ad =>
  have HX:=h.1;have HC:=O (show∀j u,xs.flatten[j]?=some u->w.cell? (ad.add j)=some u from fun j u hj=>by
   rcases h.2 with ⟨_,_,_,e,_⟩|⟨bk,o',c',hf,g1,g2,g3,g4⟩
   ·subst e;simp at hj
   ·cases hf;have yr:xs.flatten.length=xs.length*4:=eU (fun x hx=>(HX x hx).1);have hjl:=(List.getElem?_eq_some_iff.1 hj).1;have hd:j/4<xs.length:=by omega
    have hm:j%4<4:=by omega
    have hx:(xs[j/4]).length=4:=(HX _ (List.getElem_mem hd)).1;have e1:=xB (k:=4) (xs:=xs) (fun x hx=>(HX x hx).1) (j:=j/4) (List.getElem?_eq_getElem hd) (i:=j%4) (List.getElem?_eq_getElem (by rw[hx];exact hm));rw[Nat.div_add_mod']at e1;rw[e1]at hj;cases hj;have:=g4 (j/4) _ (List.getElem?_eq_getElem hd) (j%4) _ (List.getElem?_eq_getElem (by rw[hx];exact hm))
    have ea:(Addr.add ⟨bk,o',none⟩ j)=⟨bk,o'+j,none⟩:=by unfold Addr.add;split<;>simp_all
    rw[ea, <-this]
    congr 2
    omega)
  have HF:=O (show xs.flatten.length=xs.length*4 from eU (fun x hx=>(HX x hx).1));have HXX:=O HX;obtain⟨i0,hi,oZ,iy,gU⟩:=info_parts ae';clear HX h;go_enter Tryz.func79,Tryz.ntmps79
  go_wp2_with (at_builtin;refine wpList_append_own _ rfl _ _ 69 rfl w.heap.size 109 i0 (.agg #[.bool false,.string ⟨#[]⟩,.int .i64 0,.int .i64 0]) 4 40 Tryz.underlying69 hi oZ iy gU rfl (by decide) _ _ _ rfl (World.ownsRow_made w #[] 0 (Nat.le_refl _) (Nat.zero_le _) rfl) ad xs.length c xs.flatten rfl HF.out ?qc2 ?qc3 ?qc4 ?qc5 ?qc6 ?_)
  case qc2 =>
   intro j u hj;exact Lib.cell?_alloc_some _ (HC.out j u hj)
  case qc3 =>
   intro u hu;obtain⟨x,hx,FR⟩:=List.mem_flatten.1 hu;exact(HXX.out x hx).2 u FR
  case qc4=>unfold maxLen;omega
  case qc5=>omega
  case qc6=>simp
  intro v' w1 a_ gQ Ku;go_wp2;go_ret;refine⟨v',rfl,⟨HXX.out,by simpa using a_⟩,Fr.gW (((Below.refl _ w).alloc (Nat.le_refl _) _).grown gQ (by simp) (by intro k hk;simp[Value.ownBlock]at hk;omega))⟩
theorem abn(base:Nat)(w:World)(B:Nat)(pv:Nat->bB)(x:bW)(h:aR base w B pv x)(i:Nat)(hi:i<4)(hl:(x.part i).waits.length<68719476736) :
  Calls Tryz.prog 80 #[.pointer (some ⟨B,0,none⟩),.int .i64 i] w (abr base w (x.part i).waits):=by
 have c:=(h.partAt hi).cell0;have HR:=O (aeJ base w (pv i).b (pv i).gv (pv i).wv (x.part i).aH (x.part i).waits (h.part i hi).gK hl);have Nr:(i:Int)<4:=by omega
 have qD:¬(i:Int)<0:=by omega
 have Oh:¬(4:Int)<=(i:Int):=by omega
 have Lb:(0:Int)<=(i:Int):=by omega
 clear h hl;go_enter Tryz.func80,Tryz.ntmps80;go_wp2_with fail
 refine HR.out.mono ?_;rintro e u⟨v',rfl,hg⟩;go_wp2;go_ret;exact⟨v',rfl,hg⟩
theorem abj(base:Nat)(w:World)(B:Nat)(pv:Nat->bB)(x:bW)(h:aR base w B pv x)(i:Nat)(hi:i<4)(hl:(x.part i).book.length<1000000) :
  Calls Tryz.prog 27 #[.pointer (some ⟨B,0,none⟩),.int .i64 i] w (fun e w'=>∃v',e=.returned v'/\OwnRows w.heap.size 65 12 w' v' ((x.part i).book.map bI.cells)/\Fr ay w w'):=by
 have c:=(h.partAt hi).dM;have HR:=O (abu base w (pv i).k (pv i).kv (x.part i).book (h.part i hi).book hl);have Nr:(i:Int)<4:=by omega
 have qD:¬(i:Int)<0:=by omega
 have Oh:¬(4:Int)<=(i:Int):=by omega
 have Lb:(0:Int)<=(i:Int):=by omega
 clear h hl;go_enter Tryz.func27,Tryz.ntmps27;go_wp2_with fail
 refine HR.out.mono ?_;rintro e u⟨v',rfl,hg⟩;go_wp2;go_ret;exact⟨v',rfl,hg⟩
theorem abo(base:Nat)(w:World)(B:Nat)(pv:Nat->bB)(x:bW)(h:aR base w B pv x)(i:Nat)(hi:i<4)(hl:(x.part i).dh.length<=1000000) :
  Calls Tryz.prog 32 #[.pointer (some ⟨B,0,none⟩),.int .i64 i] w (fun e w'=>∃v',e=.returned v'/\OwnRows w.heap.size 109 4 w' v' ((x.part i).dh.map ic)/\Fr ay w w'):=by
 have c:=(h.partAt hi).ir;have HR:=O (afa (pv i).cv ((x.part i).dh.map ic) w (h.part i hi).dh.at (by rw[List.length_map];omega));have Nr:(i:Int)<4:=by omega
 have qD:¬(i:Int)<0:=by omega
 have Oh:¬(4:Int)<=(i:Int):=by omega
 have Lb:(0:Int)<=(i:Int):=by omega
 obtain⟨a,k,hcv⟩:=(h.part i hi).dh.form;rw[List.length_map]at hcv;rw[hcv]at c HR;clear h hl;go_enter Tryz.func32,Tryz.ntmps32;go_wp2_with fail
 refine HR.out.mono ?_;rintro e u⟨v',rfl,hg⟩;go_wp2;go_ret;exact⟨v',rfl,hg⟩
structure aaC (a U:World) (B:Nat) (pv:Nat->bB) (x:bW) (C:Nat) (aac:Nat->bB) (y:bW):Prop where
 one:aR a.heap.size U B pv x
 two:aR a.heap.size U C aac y
 fr:Fr ay a U
 off:∀k,jV C aac k->¬jV B pv k
section
variable {a U U' : World} {B C : Nat} {pv aac : Nat → bB} {x x' y : bW}
theorem aaC.swap(h:aaC a U B pv x C aac y):aaC a U C aac y B pv x:=⟨h.two,h.one,h.fr,fun k hk Zw=>h.off k Zw hk⟩
theorem aaC.bd(h:aaC a U B pv x C aac y)(hf:Fr ay U U'):aaC a U' B pv x C aac y:=⟨h.one.bd hf,h.two.bd hf,h.fr.trans hf,h.off⟩
def abh(a U:World)(B:Nat)(x:bW)(C:Nat)(aac:Nat->bB)(y:bW)(U':World):Prop :=
 ∃zu,aaC a U' B zu x C aac y/\∀(n:Nat) (c:Array Value) (t:TypeId),U.heap[n]?=some (.cells c t (0,0))->fJ t->t≠105->U'.heap[n]?=some (.cells c t (0,0))
theorem aaC.step(h:aaC a U B pv x C aac y)(hp:aC a.heap.size U B pv x' U'):abh a U B x' C aac y U':=by
 have hf':=hp.frame h.one h.fr (Nat.le_refl _);obtain⟨zu,h1,h2,h3⟩:=hp;refine⟨zu,⟨h1,h.two.fr h2 h.one.off h.off,hf',fun k hk Zw=>?_⟩,fun n c t hn ht hw=>h2.keep hn (h.one.yT hn ht hw)⟩;rcases h3 k Zw with e|e
 ·exact h.off k hk e
 ·have:=h.two.fO hk;omega
theorem aaC.afd(h:aaC a U B pv x C aac y)(hi:fW x)(ht:fN a){o:ei}{hs:List dW}(ho:bg U o hs) :
  Calls Tryz.prog 17 #[.pointer (some ⟨B,0,none⟩),.agg o.cells.toArray] U (fun e w'=>e=.returned (.agg #[.int .i64 (cV x (o.bF hs)).2.what,.string (cV x (o.bF hs)).2.head,.int .i64 (cV x (o.bF hs)).2.cert])/\abh a U B (cV x (o.bF hs)).1 C aac y w') :=
 (ja h.one h.fr hi ht ho).mono fun _ _ hh=>⟨hh.1,h.step hh.2⟩
theorem aaC.copied(h:aR a.heap.size U B pv x)(hf:Fr ay a U)(hc:aR a.heap.size U' C aac y)(hu:Fr ay U U')(hn:∀j,jV C aac j->U.heap.size<=j):aaC a U' B pv x C aac y :=
 ⟨h.bd hu,hc,hf.trans hu,fun k hk Zw=>by
  have h1:=hn k hk;have h2:=h.fO Zw;omega⟩
end
theorem abk(v v':Value)(ss:List ByteArray)(w:World)(h:cX w v ss)(h':cX w v' ss)(hl:ss.length<=9223372036854775807) :
  Calls Tryz.prog 90 #[v,v'] w fun e w'=>e=.returned (.bool true)/\Fr ay w w':=by
 rcases h with ⟨a,c,rfl,rfl,_⟩|⟨bk,o,c,rfl,h1,h2,h3,h4⟩
 ·obtain⟨a',c',rfl⟩:=h'.form;refine(Tryz.slices_Equal_string_empty a a' c 0 c' w (by omega)).mono ?_;rintro e w'⟨rfl,rfl⟩;exact⟨rfl,Fr.refl _ _⟩
 ·rcases h' with ⟨a',c',rfl,rfl,_⟩|⟨ZE,o',c',rfl,JG,h2',h3',h4'⟩
  ·refine(Tryz.slices_Equal_string_empty (some ⟨bk,o,none⟩) a' c 0 c' w (by omega)).mono ?_;rintro e w'⟨rfl,rfl⟩;exact⟨rfl,Fr.refl _ _⟩
  ·refine(Tryz.slices_Equal_string bk o ss.length c ZE o' ss.length c' ss ss w (Nat.le_refl _) (Nat.le_refl _) hl hl (fun j hj=>h4 j _ (by simp[List.getD,hj])) (fun j hj=>h4' j _ (by simp[List.getD,hj]))).mono ?_;rintro e w'⟨rfl,q,rfl⟩;exact⟨by simp,Fr.drewN _ (Fr.refl _ _)⟩
theorem abt(u p:ByteArray)(w:World):(binOp .eql 31 (.agg #[.string u,.string p]) (.agg #[.string u,.string p])).run Tryz.prog w=.ok (.bool true) w:=by
 go_simp
theorem aaU(r r':cQ Value)(a:cQ aF)(w:World)(h:r.Reads (cX w) a)(h':r'.Reads (cX w) a)(hl:a.dom.length<=9223372036854775807) :
  Calls Tryz.prog 81 #[.agg r.cells.toArray,.agg r'.cells.toArray] w fun e w'=>e=.returned (.bool true)/\Fr ay w w':=by
 obtain⟨e1,e2,e3,e4,e5,e6,e7,hd⟩:=h;obtain⟨f1,f2,f3,f4,f5,f6,f7,hd'⟩:=h';obtain⟨ad,cd,Aw⟩:=hd.form;obtain⟨aah,cd',abl⟩:=hd'.form;unfold cQ.cells;rw[e1,e2,e3,e4,e5,e6,e7,f1,f2,f3,f4,f5,f6,f7,Aw,abl];rw[Aw]at hd;rw[abl]at hd'
 have hf:Fr ay w _:=((Fr.refl ay w).alloc (.cells #[.int .i64 a.scheme,.string a.ar,.string a.aE,.string a.aK,.bool a.aL,.string a.bU,.bool a.aX,.slice ad a.dom.length cd] 47)).alloc (.cells #[.int .i64 a.scheme,.string a.ar,.string a.aE,.string a.aK,.bool a.aL,.string a.bU,.bool a.aX,.slice aah a.dom.length cd'] 47);have EQ:=O (abk _ _ _ _ (hd.bu hf) (hd'.bu hf) hl)
 clear e1 e2 e3 e4 e5 e6 e7 f1 f2 f3 f4 f5 f6 f7 Aw abl hd hd';go_enter Tryz.func81,Tryz.ntmps81;go_wp2_with fail
 refine EQ.out.mono ?_;rintro e w1⟨rfl,bt⟩;go_wp2;go_ret;exact⟨rfl,hf.trans bt⟩
theorem abp(r r':ai Value)(g:ai aF)(w:World)(h:r.Reads (cX w) g)(h':r'.Reads (cX w) g)(hl:g.a.dom.length<=9223372036854775807)(si:g.paths.length<=9223372036854775807) :
  Calls Tryz.prog 83 #[.agg r.cells.toArray,.agg r'.cells.toArray] w fun e w'=>e=.returned (.bool true)/\Fr ay w w':=by
 obtain⟨e1,e2,e3,e4,e5,e6,hd⟩:=h;obtain⟨f1,f2,f3,f4,f5,f6,hd'⟩:=h';obtain⟨ad,cd,Aw⟩:=hd.form;obtain⟨aah,cd',abl⟩:=hd'.form;obtain⟨am,cm,hm⟩:=e5.2.2.2.2.2.2.2.form;obtain⟨aaj,cm',NF⟩:=f5.2.2.2.2.2.2.2.form
 have hr:r.cells=[.bool g.o.ae,.string g.o.host,.int .i64 g.o.port,.bool g.proxy,.string g.user,.string g.pass,.int .i64 g.a.scheme,.string g.a.ar,.string g.a.aE,.string g.a.aK,.bool g.a.aL,.string g.a.bU,.bool g.a.aX,.slice am g.a.dom.length cm,.int .i64 g.count,.slice ad g.paths.length cd]:=by
  unfold ai.cells;rw[e1,e2,e3,e4,e5.1,e5.2.1,e5.2.2.1,e5.2.2.2.1,e5.2.2.2.2.1,e5.2.2.2.2.2.1,e5.2.2.2.2.2.2.1,hm,e6,Aw]
 have hr':r'.cells=[.bool g.o.ae,.string g.o.host,.int .i64 g.o.port,.bool g.proxy,.string g.user,.string g.pass,.int .i64 g.a.scheme,.string g.a.ar,.string g.a.aE,.string g.a.aK,.bool g.a.aL,.string g.a.bU,.bool g.a.aX,.slice aaj g.a.dom.length cm',.int .i64 g.count,.slice aah g.paths.length cd']:=by
  unfold ai.cells;rw[f1,f2,f3,f4,f5.1,f5.2.1,f5.2.2.1,f5.2.2.2.1,f5.2.2.2.2.1,f5.2.2.2.2.2.1,f5.2.2.2.2.2.2.1,NF,f6,abl]
 have hra:r.a.cells=[.int .i64 g.a.scheme,.string g.a.ar,.string g.a.aE,.string g.a.aK,.bool g.a.aL,.string g.a.bU,.bool g.a.aX,.slice am g.a.dom.length cm]:=by
  unfold cQ.cells;rw[e5.1,e5.2.1,e5.2.2.1,e5.2.2.2.1,e5.2.2.2.2.1,e5.2.2.2.2.2.1,e5.2.2.2.2.2.2.1,hm]
 have afe:r'.a.cells=[.int .i64 g.a.scheme,.string g.a.ar,.string g.a.aE,.string g.a.aK,.bool g.a.aL,.string g.a.bU,.bool g.a.aX,.slice aaj g.a.dom.length cm']:=by
  unfold cQ.cells;rw[f5.1,f5.2.1,f5.2.2.1,f5.2.2.2.1,f5.2.2.2.2.1,f5.2.2.2.2.2.1,f5.2.2.2.2.2.2.1,NF]
 rw[hr,hr'];rw[Aw]at hd;rw[abl]at hd'
 have hf:Fr ay w _:=((Fr.refl ay w).alloc (.cells #[.bool g.o.ae,.string g.o.host,.int .i64 g.o.port,.bool g.proxy,.string g.user,.string g.pass,.int .i64 g.a.scheme,.string g.a.ar,.string g.a.aE,.string g.a.aK,.bool g.a.aL,.string g.a.bU,.bool g.a.aX,.slice am g.a.dom.length cm,.int .i64 g.count,.slice ad g.paths.length cd] 49)).alloc (.cells #[.bool g.o.ae,.string g.o.host,.int .i64 g.o.port,.bool g.proxy,.string g.user,.string g.pass,.int .i64 g.a.scheme,.string g.a.ar,.string g.a.aE,.string g.a.aK,.bool g.a.aL,.string g.a.bU,.bool g.a.aX,.slice aaj g.a.dom.length cm',.int .i64 g.count,.slice aah g.paths.length cd'] 49)
 have aak:=O (aaU r.a r'.a g.a _ (e5.mono (fun _ _ h=>h.bu hf)) (f5.mono (fun _ _ h=>h.bu hf)) hl);rw[hra,afe]at aak;have hpa:=O (hd.bu hf);have aeZ:=O (hd'.bu hf);have Kz:cO.eN g.o g.o=true:=(cO.sW _ _).2 rfl;have hne:=ey g.o g.o;rw[Kz]at hne;have hce:=abt g.user g.pass;clear e1 e2 e3 e4 e5 e6 f1 f2 f3 f4 f5 f6 Aw abl hd hd' hm NF hr hr' hra afe Kz
 obtain⟨x,hx⟩:∃x:Array Value,x= #[.bool g.o.ae,.string g.o.host,.int .i64 g.o.port,.bool g.proxy,.string g.user,.string g.pass,.int .i64 g.a.scheme,.string g.a.ar,.string g.a.aE,.string g.a.aK,.bool g.a.aL,.string g.a.bU,.bool g.a.aX,.slice am g.a.dom.length cm,.int .i64 g.count,.slice ad g.paths.length cd]:=⟨_,rfl⟩
 obtain⟨y,hy⟩:∃y:Array Value,y= #[.bool g.o.ae,.string g.o.host,.int .i64 g.o.port,.bool g.proxy,.string g.user,.string g.pass,.int .i64 g.a.scheme,.string g.a.ar,.string g.a.aE,.string g.a.aK,.bool g.a.aL,.string g.a.bU,.bool g.a.aX,.slice aaj g.a.dom.length cm',.int .i64 g.count,.slice aah g.paths.length cd']:=⟨_,rfl⟩
 have hb0:((w.alloc (.cells x 49)).alloc (.cells y 49)).heap[w.heap.size]?=some (.cells x 49 (0,0)):=by
  rw[Below.heap_alloc _ _ _ (by simp)];exact af w _
 have o9:((w.alloc (.cells x 49)).alloc (.cells y 49)).heap[w.heap.size+1]?=some (.cells y 49 (0,0)):=by
  have:=af (w.alloc (.cells x 49)) (.cells y 49);simpa using this
 have x14:x[14]?=some (.int .i64 g.count):=by rw[hx];rfl
 have x15:x[15]?=some (.slice ad g.paths.length cd):=by rw[hx];rfl
 have y14:y[14]?=some (.int .i64 g.count):=by rw[hy];rfl
 have y15:y[15]?=some (.slice aah g.paths.length cd'):=by rw[hy];rfl
 have X:=O (And.intro x14 x15);have Y:=O (And.intro y14 y15);have HB:=O (And.intro hb0 o9);have HX:=O hx;have HY:=O hy;clear x14 x15 y14 y15 hb0 o9 hx hy;go_enter Tryz.func83,Tryz.ntmps83;go_wp2_with fail
 refine aak.out.mono ?_;rintro e w1⟨rfl,bt⟩;clear aak;rw[<-HX.out, <-HY.out]at hf bt hpa aeZ;have hb0:=bt.keep HB.out.1 (fun h=>h);have o9:=bt.keep HB.out.2 (fun h=>h);have c14:w1.cell? ⟨w.heap.size,14,none⟩=some (.int .i64 g.count):=by simp only[World.cell?,hb0];simpa using X.out.1
 have c15:w1.cell? ⟨w.heap.size,15,none⟩=some (.slice ad g.paths.length cd):=by simp only[World.cell?,hb0];simpa using X.out.2
 have d14:w1.cell? ⟨w.heap.size+1,14,none⟩=some (.int .i64 g.count):=by simp only[World.cell?,o9];simpa using Y.out.1
 have d15:w1.cell? ⟨w.heap.size+1,15,none⟩=some (.slice aah g.paths.length cd'):=by simp only[World.cell?,o9];simpa using Y.out.2
 have EQ:=O (abk _ _ _ w1 (hpa.out.bu bt) (aeZ.out.bu bt) si);have HF:=O (hf.trans bt);clear hb0 o9 hf bt hpa aeZ HB X Y HX HY hne hce;go_wp2_with fail
 refine EQ.out.mono ?_;rintro e w2⟨rfl,bq⟩;go_wp2;go_ret;exact⟨rfl,HF.out.trans bq⟩
def afL(w:World)(n:Nat)(i:Value)(wr:World):Prop:=∃k:Nat,k<=n/\i=.int .i64 k/\Fr ay w wr
theorem aey(v v':Value)(rs rs':List (ai Value))(gs:List (ai aF))(w:World)(hv:aN 16 w v (rs.map ai.cells))(nu:aN 16 w v' (rs'.map ai.cells))(hb:fF (ai.Reads (cX w)) rs gs)(hb':fF (ai.Reads (cX w)) rs' gs)
  (hl:∀g∈gs,g.a.dom.length<=9223372036854775807/\g.paths.length<=9223372036854775807) :
  Calls Tryz.prog 82 #[v,v',.func (.func 83) #[] #[]] w fun e w'=>e=.returned (.bool true)/\Fr ay w w':=by
 have hn:=hb.len;have hn':=hb'.len;obtain⟨av,cv,cA⟩:=hv.form;obtain⟨av',XO,aeM⟩:=nu.form;rw[List.length_map,hn]at cA;rw[List.length_map,hn']at aeM;subst cA aeM;go_enter Tryz.func82,Tryz.ntmps82;go_wp2;go_loopw[17] (afL w gs.length) (fun i _=>gs.length-(intOf i).toNat)
 case atStart=>exact⟨0,Nat.zero_le _,rfl,Fr.refl _ _⟩
 case round =>
  obtain⟨k,hk,rfl,aW⟩:=hrel;by_cases cG:k<gs.length
  ·obtain⟨r,sg⟩:∃r,rs[k]?=some r:=⟨_,List.getElem?_eq_getElem (by omega)⟩;obtain⟨r',aeI⟩:∃r,rs'[k]?=some r:=⟨_,List.getElem?_eq_getElem (by omega)⟩;obtain⟨g,hg,hr⟩:=hb.get sg;obtain⟨g',hg',hr'⟩:=hb'.get aeI;rw[hg]at hg';cases hg';obtain⟨hl1,si⟩:=hl g (List.mem_of_getElem? hg);have bG:=(hv.1 _ (List.mem_map.2 ⟨r,List.mem_of_getElem? sg,rfl⟩)).2
   have ae3:=(nu.1 _ (List.mem_map.2 ⟨r',List.mem_of_getElem? aeI,rfl⟩)).2;rcases(hv.bu aW).2 with ⟨_,_,_,e,_⟩|⟨bk,o,c,e1,q1,q2,q3,q4⟩
   ·simp at e;rw[e]at hn;simp at hn;omega
   rcases(nu.bu aW).2 with ⟨_,_,_,e,_⟩|⟨ZE,o',c',e1',q1',q2',q3',q4'⟩
   ·simp at e;rw[e]at hn';simp at hn';omega
   rw[List.length_map,hn]at e1 q1;rw[List.length_map,hn']at e1' q1';cases e1;cases e1';unfold maxLen at q2 q2';have hcell:=q4 k r.cells (by rw[List.getElem?_map,sg];rfl);have abq:=q4' k r'.cells (by rw[List.getElem?_map,aeI];rfl);obtain⟨x,hx⟩:∃x,x=r.cells:=⟨_,rfl⟩;obtain⟨y,hy⟩:∃y,y=r'.cells:=⟨_,rfl⟩;have gD:x.length=16:=by rw[hx];rfl
   have FH:y.length=16:=by rw[hy];rfl
   have fR:=fun W=>run_storeCells_new (P:=Tryz.prog) W 49 bZ x (by rw[gD];rfl) (by rw[hx];exact bG);have aff:=run_storeCells_new (P:=Tryz.prog) (wr.alloc (.cells x.toArray 49)) 49 bZ y (by rw[FH];rfl) (by rw[hy];exact ae3);rw[show(wr.alloc (.cells x.toArray 49)).heap.size=wr.heap.size+1 from by simp]at aff;rw[<-hx]at hcell;rw[<-hy]at abq
   have afb:∀(i:Nat) u,y[i]?=some u->(wr.alloc (.cells x.toArray 49)).cell? ⟨ZE,o'+k*16+i,none⟩=some u:=fun i u hu=>by
    have:=abq i u hu;rw[<-this];exact((Fr.refl ay wr).alloc _).cell (p:=⟨ZE,o'+k*16+i,none⟩) q3' (fun h=>h)
   have bq:Fr ay wr ((wr.alloc (.cells x.toArray 49)).alloc (.cells y.toArray 49)):=((Fr.refl ay wr).alloc _).alloc _;have hb0:((wr.alloc (.cells x.toArray 49)).alloc (.cells y.toArray 49)).heap[wr.heap.size]?=some (.cells x.toArray 49 (0,0)):=by
    rw[Below.heap_alloc _ _ _ (by simp)];exact af wr _
   have o9:((wr.alloc (.cells x.toArray 49)).alloc (.cells y.toArray 49)).heap[wr.heap.size+1]?=some (.cells y.toArray 49 (0,0)):=by
    have:=af (wr.alloc (.cells x.toArray 49)) (.cells y.toArray 49);simpa using this
   have aan:=O (abp r r' g _ (hr.mono (fun _ _ h=>(h.bu aW).bu bq)) (hr'.mono (fun _ _ h=>(h.bu aW).bu bq)) hl1 si);rw[<-hx, <-hy]at aan;have HB:=O (And.intro hb0 o9);have HF:=O (aW.trans bq);have AD:(Tryz.prog.info? 49).map (·.size)=some x.length:=by rw[gD];kernel_rfl
   have hyi:(Tryz.prog.info? 49).map (·.size)=some y.length:=by rw[FH];kernel_rfl
   have JF:=O AD;have HYI:=O hyi;clear hx hy hb0 o9 bG ae3 hr hr' hg sg aeI q4 q4' abq AD hyi hl1 si bq
   go_wp2_with (first|((with_reducible refine ag ⟨some 21,_,_,_,_,_⟩ ?_);go_must(refine wpList_load_mid rfl 49 (.tmp 20) rfl bk (o+k*16) rfl x _ hcell Tryz.underlying49 rfl JF.out ?_))|((with_reducible refine ag ⟨some 25,_,_,_,_,_⟩ ?_);go_must(refine wpList_load_mid rfl 49 (.tmp 24) rfl ZE (o'+k*16) rfl y _ afb Tryz.underlying49 rfl HYI.out ?_))|((with_reducible refine ag ⟨some 27,_,_,_,_,_⟩ ?_);go_must(refine wpList_load_row rfl 49 (.tmp 8) rfl wr.heap.size rfl _ x.toArray (0,0) _ HB.out.1 Tryz.underlying49 rfl (by rw[List.size_toArray];exact JF.out) ?_))|((with_reducible refine ag ⟨some 28,_,_,_,_,_⟩ ?_);go_must(refine wpList_load_row rfl 49 (.tmp 9) rfl (wr.heap.size+1) rfl _ y.toArray (0,0) _ HB.out.2 Tryz.underlying49 rfl (by rw[List.size_toArray];exact HYI.out) ?_))|fail)
   clear fR aff;refine aan.out.mono ?_;rintro e w3⟨rfl,dv⟩;have dV:=O (HF.out.trans dv);go_wp2;go_roundw
   case rel=>exact⟨k+1,by omega,by go_num,dV.out⟩
   case measure=>simp[intOf];omega
  ·go_wp2;go_ret;exact⟨rfl,aW⟩
theorem dx.rows{base:Nat}{w:World}{v:Value}{gs:List (ai aF)}(h:dx base w v gs):∃rs:List (ai Value),aN 16 w v (rs.map ai.cells)/\fF (ai.Reads (cX w)) rs gs/\∀g∈gs,g.a.dom.length<=9223372036854775807/\g.paths.length<=9223372036854775807:=by
 obtain⟨rs,h1,h2⟩:=h;refine⟨rs,h1.at,h2.mono (fun _ _ h=>h.mono (fun _ _ h=>h.rd)),fun g hg=>?_⟩;obtain⟨k,hk⟩:=List.getElem?_of_mem hg;obtain⟨r,hr⟩:∃r,rs[k]?=some r:=⟨_,List.getElem?_eq_getElem (by rw[h2.len];exact(List.getElem?_eq_some_iff.1 hk).1)⟩;obtain⟨g',hg',EW⟩:=h2.get hr;rw[hk]at hg';cases hg';have:=EW.2.2.2.2.2.2.xc;have:=EW.2.2.2.2.1.2.2.2.2.2.2.2.xc;omega
theorem aeL{base aaI:Nat}{w:World}{v v':Value}{gs:List (ai aF)}(h:dx base w v gs)(h':dx aaI w v' gs) :
  Calls Tryz.prog 82 #[v,v',.func (.func 83) #[] #[]] w fun e w'=>e=.returned (.bool true)/\Fr ay w w':=by
 obtain⟨rs,h1,h2,h3⟩:=h.rows;obtain⟨rs',JG,h2',_⟩:=h'.rows;exact aey v v' rs rs' gs w h1 JG h2 h2' h3
theorem aez(p:bI)(w:World):(binOp .neq 65 (.agg p.cells.toArray) (.agg p.cells.toArray)).run Tryz.prog w=.ok (.bool false) w:=by
 unfold bI.cells;go_simp
def afc(w:World)(n:Nat)(i:Value)(wr:World):Prop:=∃k:Nat,k<=n/\i=.int .i64 k/\Fr ay w wr
theorem abv(v v':Value)(ps:List bI)(w:World)(h:oV w v ps)(h':oV w v' ps) :
  Calls Tryz.prog 33 #[v,v'] w fun e w'=>e=.returned (.bool true)/\Fr ay w w':=by
 obtain⟨av,cv,hv⟩:=aN.form h;obtain⟨av',XO,nu⟩:=aN.form h';subst hv nu;rw[List.length_map]at h h' ⊢;have HL:=O (fun U (hU:Fr ay w U)=>aN.bu h hU);have HL':=O (fun U (hU:Fr ay w U)=>aN.bu h' hU);have HQ:=O (aez);clear h h';go_enter Tryz.func33,Tryz.ntmps33;go_wp2;go_loopw[13] (afc w ps.length) (fun i _=>ps.length-(intOf i).toNat)
 case atStart=>exact⟨0,Nat.zero_le _,rfl,Fr.refl _ _⟩
 case round =>
  obtain⟨k,hk,rfl,aW⟩:=hrel;by_cases cG:k<ps.length
  ·have lf:(k:Int)<(ps.length:Int):=by omega
   have U8:(0:Int)<=(k:Int):=by omega
   have hne:ps≠ []:=by intro e;rw[e]at cG;cases cG
   obtain⟨bk,of,rfl,g1,g2,g3,g4,g5⟩:=oV.lie (HL.out wr aW) hne;obtain⟨ZE,of',rfl,g1',g2',g3',g4',g5'⟩:=oV.lie (HL'.out wr aW) hne;unfold maxLen at g3 g3';have bC:=O (List.getElem?_eq_getElem cG);generalize ps[k]=q at bC;obtain⟨c0,c1,c2,c3,c4,c5,c6,c7,c8,c9,FT,Xl⟩:=g5 k q bC.out;obtain⟨d0,d1,d2,d3,d4,d5,d6,d7,d8,d9,d10,d11⟩:=g5' k q bC.out;have heq:=HQ.out q;unfold bI.cells at heq;clear g1 g5 g1' g5'
   go_wp2;go_quiet (fail);go_wp2;go_roundw
   case rel=>exact⟨k+1,by omega,by go_num,aW.drewN _⟩
   case measure=>simp[intOf];omega
  ·have lf:¬(k:Int)<(ps.length:Int):=by omega
   go_wp2;go_ret;exact⟨rfl,aW⟩
theorem aaB{w U:World}{p:Addr}{u:Value}(h:w.cell? p=some u)(hf:Fr ay w U):U.cell? p=some u:=by
 unfold World.cell? at h ⊢;cases hb:w.heap[p.block]? with
 |none=>rw[hb]at h;cases h
 |some o=>rw[hb]at h;rw[hf.keep hb (fun h=>h)];exact h
def aeN(w:World)(n:Nat)(i:Value)(wr:World):Prop:=∃k:Nat,k<=n/\i=.int .i64 k/\Fr ay w wr
theorem abb(a:cO)(w:World):(binOp .neq 24 (.agg #[.bool a.ae,.string a.host,.int .i64 a.port]) (.agg #[.bool a.ae,.string a.host,.int .i64 a.port])).run Tryz.prog w=.ok (.bool false) w:=by
 go_simp
theorem aet{base aaI:Nat}{w:World}{B aaq:Nat}{pv zu:Nat->bB}{x y:bW}(h:aR base w B pv x)(h':aR aaI w aaq zu y)(FQ:uk x)(i:Nat)(h4:i<4)(hxy:y.part i=x.part i) :
  Calls Tryz.prog 36 #[.pointer (some ⟨B,0,none⟩),.pointer (some ⟨aaq,0,none⟩),.int .i64 i] w fun e w'=>e=.returned (.bool true)/\Fr ay w w':=by
 obtain⟨l1,l2,l3,l4⟩:=(FQ.part i).xc;have D3:=O (abn base w B pv x h i h4 (by omega));have ka:=O (fun U (hU:Fr ay w U)=>abn aaI U aaq zu y (h'.bd hU) i h4 (by rw[hxy];omega));have HC1:=O (fun U (hU:Fr ay w U)=>abo base U B pv x (h.bd hU) i h4 (by omega));have Xk:=O (fun U (hU:Fr ay w U)=>abo aaI U aaq zu y (h'.bd hU) i h4 (by rw[hxy];omega))
 have Tg:=O (fun U (hU:Fr ay w U)=>wE base U B pv x (h.bd hU) i h4 (by omega));have Xh:=O (fun U (hU:Fr ay w U)=>wE aaI U aaq zu y (h'.bd hU) i h4 (by rw[hxy];omega));have HP1:=O (fun U (hU:Fr ay w U)=>abj base U B pv x (h.bd hU) i h4 (by omega));have HP2:=O (fun U (hU:Fr ay w U)=>abj aaI U aaq zu y (h'.bd hU) i h4 (by rw[hxy];omega));rw[hxy]at ka Xk Xh HP2
 obtain⟨gs,Xz⟩:∃gs,gs=(x.part i).aH:=⟨_,rfl⟩;obtain⟨ws,sF⟩:∃ws,ws=(x.part i).waits:=⟨_,rfl⟩;obtain⟨ps,hps⟩:∃ps,ps=(x.part i).book:=⟨_,rfl⟩;obtain⟨cs,hcs⟩:∃cs,cs=(x.part i).dh:=⟨_,rfl⟩;rw[<-sF]at D3 ka l2;rw[<-hcs]at HC1 Xk l4;rw[<-Xz]at Tg Xh;rw[<-hps]at HP1 HP2;have HL2:=O l2;have HL4:=O l4;have HE:=O (fun g:aG aF=>abb g.o);clear h h' FQ h4 hxy l1 l2 l3 l4 Xz sF hps hcs
 go_enter Tryz.func36,Tryz.ntmps36;go_wp2_with fail
 refine D3.out.mono ?_;rintro e u1⟨v1,rfl,⟨FG,_⟩,rF⟩;have HV1:=O FG;have S':=O rF;clear FG rF D3;go_wp2_with fail
 refine(ka.out _ S'.out).mono ?_;rintro e u2⟨v2,rfl,⟨hv2,_⟩,jZ⟩;have HV2:=O hv2;have ql:=O (S'.out.trans jZ);have afg:=O (HV1.out.fr jZ (lT.none _ _) (fun _ _ h=>h));clear hv2 jZ ka HV1;go_wp2_with fail
 refine(HC1.out _ ql.out).mono ?_;rintro e u3⟨v3,rfl,xr,pz⟩;have HV3:=O xr.at;have HU3:=O (ql.out.trans pz);have HV1:=O (afg.out.fr pz (lT.none _ _) (fun _ _ h=>h));have ae0:=O (HV2.out.fr pz (lT.none _ _) (fun _ _ h=>h));clear xr pz HC1 HV2 afg;go_wp2_with fail
 refine(Xk.out _ HU3.out).mono ?_;rintro e u4⟨v4,rfl,SJ,hu4⟩;obtain⟨a1,c1,f1⟩:=(HV1.out.fr hu4 (lT.none _ _) (fun _ _ h=>h)).form;obtain⟨a2,c2,f2⟩:=(ae0.out.fr hu4 (lT.none _ _) (fun _ _ h=>h)).form;obtain⟨a3,c3,f3⟩:=(aN.bu HV3.out hu4).form;obtain⟨a4,c4,f4⟩:=SJ.at.form;rw[List.length_map]at f3 f4;subst f1 f2 f3 f4;have HX1:=O (HV1.out.fr hu4 (lT.none _ _) (fun _ _ h=>h))
 have Xs:=O (ae0.out.fr hu4 (lT.none _ _) (fun _ _ h=>h));have Vt:=O (aN.bu HV3.out hu4);have HX4:=O SJ.at;have HU4:=O (HU3.out.trans hu4);clear SJ hu4 Xk HV1 ae0 HV3;go_wp2_with fail
 go_loopw[11] (aeN u4 ws.length) (fun i _=>ws.length-(intOf i).toNat)
 case atStart=>exact⟨0,Nat.zero_le _,rfl,Fr.refl _ _⟩
 case round =>
  obtain⟨k,hk,rfl,aW⟩:=hrel;have h8:=HL2.out;by_cases cG:k<ws.length
  ·have lf:(k:Int)<(ws.length:Int):=by omega
   have U8:(0:Int)<=(k:Int):=by omega
   obtain⟨aar,ca,e1,m1,r1,o1,q1,g1⟩:=(HX1.out.fr aW (lT.none _ _) (fun _ _ h=>h)).at cG;obtain⟨bb,aaw,e2,m2,r2,o2,q2,g2⟩:=(Xs.out.fr aW (lT.none _ _) (fun _ _ h=>h)).at cG;cases e1;cases e2;unfold maxLen at m1 m2;generalize ws[k]=g at q1 q2;have QA1:=O q1.2.2.2;have QA2:=O q2.2.2.2;obtain⟨p1,p2,p3,d1,d2,d3,d4,d5,d6,d7,d8⟩:=q1;obtain⟨p1',p2',p3',d1',d2',d3',d4',d5',d6',d7',d8'⟩:=q2
   obtain⟨ad,cd,zl⟩:=d8.rd.form;obtain⟨aah,cd',qE⟩:=d8'.rd.form;have x1:r1.cells=[.bool g.o.ae,.string g.o.host,.int .i64 g.o.port,.bool g.proxy,.string g.path,.int .i64 g.a.scheme,.string g.a.ar,.string g.a.aE,.string g.a.aK,.bool g.a.aL,.string g.a.bU,.bool g.a.aX,.slice ad g.a.dom.length cd]:=by unfold aG.cells;rw[p1,p2,p3,d1,d2,d3,d4,d5,d6,d7,zl]
   have x2:r2.cells=[.bool g.o.ae,.string g.o.host,.int .i64 g.o.port,.bool g.proxy,.string g.path,.int .i64 g.a.scheme,.string g.a.ar,.string g.a.aE,.string g.a.aK,.bool g.a.aL,.string g.a.bU,.bool g.a.aX,.slice aah g.a.dom.length cd']:=by unfold aG.cells;rw[p1',p2',p3',d1',d2',d3',d4',d5',d6',d7',qE]
   have y1:r1.a.cells=[.int .i64 g.a.scheme,.string g.a.ar,.string g.a.aE,.string g.a.aK,.bool g.a.aL,.string g.a.bU,.bool g.a.aX,.slice ad g.a.dom.length cd]:=by unfold cQ.cells;rw[d1,d2,d3,d4,d5,d6,d7,zl]
   have y2:r2.a.cells=[.int .i64 g.a.scheme,.string g.a.ar,.string g.a.aE,.string g.a.aK,.bool g.a.aL,.string g.a.bU,.bool g.a.aX,.slice aah g.a.dom.length cd']:=by unfold cQ.cells;rw[d1',d2',d3',d4',d5',d6',d7',qE]
   have hlen:g.a.dom.length<=9223372036854775807:=by have:=d8.xc;omega
   rw[x1]at g1;rw[x2]at g2
   have HS:=O (show∀U,Fr ay wr U->(U.cell? ⟨aar,k*13,none⟩=some (.bool g.o.ae)/\U.cell? ⟨aar,k*13+1,none⟩=some (.string g.o.host)/\U.cell? ⟨aar,k*13+2,none⟩=some (.int .i64 g.o.port)/\U.cell? ⟨aar,k*13+3,none⟩=some (.bool g.proxy)/\U.cell? ⟨aar,k*13+4,none⟩=some (.string g.path)/\U.cell? ⟨aar,k*13+5,none⟩=some (.int .i64 g.a.scheme)/\U.cell? ⟨aar,k*13+6,none⟩=some (.string g.a.ar)/\U.cell? ⟨aar,k*13+7,none⟩=some (.string g.a.aE)/\U.cell? ⟨aar,k*13+8,none⟩=some (.string g.a.aK)/\U.cell? ⟨aar,k*13+9,none⟩=some (.bool g.a.aL)/\U.cell? ⟨aar,k*13+10,none⟩=some (.string g.a.bU)/\U.cell? ⟨aar,k*13+11,none⟩=some (.bool g.a.aX)/\U.cell? ⟨aar,k*13+12,none⟩=some (.slice ad g.a.dom.length cd)/\U.cell? ⟨bb,k*13,none⟩=some (.bool g.o.ae)/\U.cell? ⟨bb,k*13+1,none⟩=some (.string g.o.host)/\U.cell? ⟨bb,k*13+2,none⟩=some (.int .i64 g.o.port)/\U.cell? ⟨bb,k*13+3,none⟩=some (.bool g.proxy)/\U.cell? ⟨bb,k*13+4,none⟩=some (.string g.path)/\U.cell? ⟨bb,k*13+5,none⟩=some (.int .i64 g.a.scheme)/\U.cell? ⟨bb,k*13+6,none⟩=some (.string g.a.ar)/\U.cell? ⟨bb,k*13+7,none⟩=some (.string g.a.aE)/\U.cell? ⟨bb,k*13+8,none⟩=some (.string g.a.aK)/\U.cell? ⟨bb,k*13+9,none⟩=some (.bool g.a.aL)/\U.cell? ⟨bb,k*13+10,none⟩=some (.string g.a.bU)/\U.cell? ⟨bb,k*13+11,none⟩=some (.bool g.a.aX)/\U.cell? ⟨bb,k*13+12,none⟩=some (.slice aah g.a.dom.length cd'))from fun U hU=>by
    refine⟨aaB (g1 0 _ rfl) hU,aaB (g1 1 _ rfl) hU,aaB (g1 2 _ rfl) hU,aaB (g1 3 _ rfl) hU,aaB (g1 4 _ rfl) hU,aaB (g1 5 _ rfl) hU,aaB (g1 6 _ rfl) hU,aaB (g1 7 _ rfl) hU,aaB (g1 8 _ rfl) hU,aaB (g1 9 _ rfl) hU,aaB (g1 10 _ rfl) hU,aaB (g1 11 _ rfl) hU,aaB (g1 12 _ rfl) hU,aaB (g2 0 _ rfl) hU,aaB (g2 1 _ rfl) hU,aaB (g2 2 _ rfl) hU,aaB (g2 3 _ rfl) hU,aaB (g2 4 _ rfl) hU,aaB (g2 5 _ rfl) hU,aaB (g2 6 _ rfl) hU,aaB (g2 7 _ rfl) hU,aaB (g2 8 _ rfl) hU,aaB (g2 9 _ rfl) hU,aaB (g2 10 _ rfl) hU,aaB (g2 11 _ rfl) hU,aaB (g2 12 _ rfl) hU⟩)
   have HSA:=O (show∀U,Fr ay wr U->Calls Tryz.prog 81 #[.agg #[.int .i64 g.a.scheme,.string g.a.ar,.string g.a.aE,.string g.a.aK,.bool g.a.aL,.string g.a.bU,.bool g.a.aX,.slice ad g.a.dom.length cd],.agg #[.int .i64 g.a.scheme,.string g.a.ar,.string g.a.aE,.string g.a.aK,.bool g.a.aL,.string g.a.bU,.bool g.a.aX,.slice aah g.a.dom.length cd']] U (fun e w'=>e=.returned (.bool true)/\Fr ay U w')from fun U hU=>by
    have h:=aaU r1.a r2.a g.a U (QA1.out.mono (fun _ _ h=>(h.bd hU).rd)) (QA2.out.mono (fun _ _ h=>(h.bd hU).rd)) hlen;rw[y1,y2]at h;exact h)
   have py:=O aW;have heq:=HE.out g;clear p1 p2 p3 d1 d2 d3 d4 d5 d6 d7 d8 p1' p2' p3' d1' d2' d3' d4' d5' d6' d7' d8' zl qE x1 x2 y1 y2 hlen o1 o2 g1 g2 aW QA1 QA2;go_wp2_with fail
   go_region_held3 (fun U=>Fr ay wr U/\U.cell? ⟨aar,k*13,none⟩=some (.bool g.o.ae)/\U.cell? ⟨aar,k*13+1,none⟩=some (.string g.o.host)/\U.cell? ⟨aar,k*13+2,none⟩=some (.int .i64 g.o.port)/\U.cell? ⟨aar,k*13+3,none⟩=some (.bool g.proxy)/\U.cell? ⟨aar,k*13+4,none⟩=some (.string g.path)/\U.cell? ⟨aar,k*13+5,none⟩=some (.int .i64 g.a.scheme)/\U.cell? ⟨aar,k*13+6,none⟩=some (.string g.a.ar)/\U.cell? ⟨aar,k*13+7,none⟩=some (.string g.a.aE)/\U.cell? ⟨aar,k*13+8,none⟩=some (.string g.a.aK)/\U.cell? ⟨aar,k*13+9,none⟩=some (.bool g.a.aL)/\U.cell? ⟨aar,k*13+10,none⟩=some (.string g.a.bU)/\U.cell? ⟨aar,k*13+11,none⟩=some (.bool g.a.aX)/\U.cell? ⟨aar,k*13+12,none⟩=some (.slice ad g.a.dom.length cd)/\U.cell? ⟨bb,k*13,none⟩=some (.bool g.o.ae)/\U.cell? ⟨bb,k*13+1,none⟩=some (.string g.o.host)/\U.cell? ⟨bb,k*13+2,none⟩=some (.int .i64 g.o.port)/\U.cell? ⟨bb,k*13+3,none⟩=some (.bool g.proxy)/\U.cell? ⟨bb,k*13+4,none⟩=some (.string g.path)/\U.cell? ⟨bb,k*13+5,none⟩=some (.int .i64 g.a.scheme)/\U.cell? ⟨bb,k*13+6,none⟩=some (.string g.a.ar)/\U.cell? ⟨bb,k*13+7,none⟩=some (.string g.a.aE)/\U.cell? ⟨bb,k*13+8,none⟩=some (.string g.a.aK)/\U.cell? ⟨bb,k*13+9,none⟩=some (.bool g.a.aL)/\U.cell? ⟨bb,k*13+10,none⟩=some (.string g.a.bU)/\U.cell? ⟨bb,k*13+11,none⟩=some (.bool g.a.aX)/\U.cell? ⟨bb,k*13+12,none⟩=some (.slice aah g.a.dom.length cd')) ((refine(fun hU=>⟨hU,HS.out _ hU⟩) ?_;first|exact Fr.drew (Fr.refl _ _)|assumption))
    ((first
     |(go_at_call 81;refine(HSA.out _ (Fr.drew (Fr.refl _ _))).mono ?_;rintro e u6 ⟨rfl,wP⟩;have Fl:Fr ay wr u6:=(Fr.drew (Fr.refl _ _)).trans wP)))
   go_wp2;go_roundw
   case rel=>exact⟨k+1,by omega,by go_num,py.out.trans Fl⟩
   case measure=>simp[intOf];omega
  ·have lf:¬(k:Int)<(ws.length:Int):=by omega
   have HX5:=O (aN.bu Vt.out aW);have HX6:=O (aN.bu HX4.out aW);have HU5:=O (HU4.out.trans aW);clear aW HX1 Xs Vt HX4 HU4 HE h8;go_wp2_with fail
   go_loopw[12] (aeN wr cs.length) (fun i _=>cs.length-(intOf i).toNat)
   case atStart=>exact⟨0,Nat.zero_le _,rfl,Fr.refl _ _⟩
   case round =>
    obtain⟨j,hj,rfl,fe⟩:=hrel;have h9:=HL4.out;by_cases hjs:j<cs.length
    ·have NI:(j:Int)<(cs.length:Int):=by omega
     have ahy:(0:Int)<=(j:Int):=by omega
     rcases(aN.bu HX5.out fe).2 with ⟨_,_,_,e,_⟩|⟨bk,of,c,hf,h1,h2,h3,h4⟩
     ·rw[List.map_eq_nil_iff]at e;rw[e]at hjs;exact absurd hjs (Nat.not_lt_zero _)
     rcases(aN.bu HX6.out fe).2 with ⟨_,_,_,e,_⟩|⟨ZE,of',c',hf',JG,h2',h3',h4'⟩
     ·rw[List.map_eq_nil_iff]at e;rw[e]at hjs;exact absurd hjs (Nat.not_lt_zero _)
     rw[List.length_map]at hf hf';cases hf;cases hf';unfold maxLen at h2 h2';rw[List.length_map]at h1 JG;have d:=h4 j (ic cs[j]) (by rw[List.getElem?_map,List.getElem?_eq_getElem hjs];rfl);have d':=h4' j (ic cs[j]) (by rw[List.getElem?_map,List.getElem?_eq_getElem hjs];rfl);generalize cs[j]=g at d d';have d0:wr.cell? ⟨bk,of+j*4,none⟩=some (.bool g.1.ae):=d 0 _ rfl
     have d1:wr.cell? ⟨bk,of+j*4+1,none⟩=some (.string g.1.host):=d 1 _ rfl;have d2:wr.cell? ⟨bk,of+j*4+2,none⟩=some (.int .i64 g.1.port):=d 2 _ rfl;have d3:wr.cell? ⟨bk,of+j*4+3,none⟩=some (.int .i64 g.2):=d 3 _ rfl;have d4:wr.cell? ⟨ZE,of'+j*4,none⟩=some (.bool g.1.ae):=d' 0 _ rfl;have d5:wr.cell? ⟨ZE,of'+j*4+1,none⟩=some (.string g.1.host):=d' 1 _ rfl
     have d6:wr.cell? ⟨ZE,of'+j*4+2,none⟩=some (.int .i64 g.1.port):=d' 2 _ rfl;have d7:wr.cell? ⟨ZE,of'+j*4+3,none⟩=some (.int .i64 g.2):=d' 3 _ rfl;have heq:=abb g.1;have py:=O fe;clear d d' h4 h4' h1 JG h3 h3' fe;go_wp2_with fail
     go_quiet (fail);go_wp2;go_roundw
     case rel=>exact⟨j+1,by omega,by go_num,py.out.drewN _⟩
     case measure=>simp[intOf];omega
    ·have NI:¬(j:Int)<(cs.length:Int):=by omega
     have HU6:=O (HU5.out.trans fe);clear fe HX5 HX6 HU5 h9;go_wp2_with fail
     refine(Tg.out _ HU6.out).mono ?_;rintro e u6⟨g1,rfl,⟨Ko,_⟩,hu6⟩;have HU7:=O (HU6.out.trans hu6);have HGA:=O Ko;clear hu6 Ko HU6;go_wp2_with fail
     refine(Xh.out _ HU7.out).mono ?_;rintro e u7⟨g2,rfl,⟨wG,_⟩,hu7⟩;have HU8:=O (HU7.out.trans hu7);have Us:=O (aeL (HGA.out.fr hu7 (lT.none _ _) (fun _ _ h=>h)) wG);clear hu7 wG HU7 HGA;go_wp2_with fail
     refine Us.out.mono ?_;rintro e u8⟨rfl,hu8⟩;have HU9:=O (HU8.out.trans hu8);clear hu8 HU8 Us;go_wp2_with fail
     refine(HP1.out _ HU9.out).mono ?_;rintro e u9⟨p1,rfl,Ee,Wi⟩;have ae1:=O (HU9.out.trans Wi);have HPA:=O Ee.at;clear Wi Ee HU9;go_wp2_with fail
     refine(HP2.out _ ae1.out).mono ?_;rintro e u10⟨p2,rfl,vR,ae2⟩;have agL:=O (ae1.out.trans ae2);have HEP:=O (abv p1 p2 ps _ (aN.bu HPA.out ae2) vR.at);clear ae2 vR ae1 HPA;go_wp2_with fail
     refine HEP.out.mono ?_;rintro e CZ⟨rfl,agU⟩;go_wp2_with fail
     go_ret;exact⟨rfl,agL.out.trans agU⟩
theorem aeA(a c:Int)(s:ByteArray)(u:World):(binOp .neq 39 (.agg #[.int .i64 a,.string s,.int .i64 c]) (.agg #[.int .i64 a,.string s,.int .i64 c])).run Tryz.prog u=.ok (.bool false) u:=by
 go_simp
def afO(w:World)(B C m n:Nat)(i _t:Value)(wr:World):Prop :=
 ∃(k:Nat) (pv aac:Nat->bB) (y z:bW),k<=n/\i=.int .i64 k/\aaC w wr B pv y C aac z/\fW y/\fW z/\z.part m=y.part m/\z.now=y.now
theorem abm(v:Value)(os:List (ei×List dW))(part:Int)(w:World)(sO:gM w v os)(pw:nI w)(md:kX w)(sh:kZ w)(db:iu w 9 .u8 Gr) :
  Calls Tryz.prog 9 #[v,.int .i64 part] w fun e w'=>e=.returned (.bool true)/\Below w.heap.size w w':=by
 have ht:fN w:=⟨⟨db,md,sh⟩,pw⟩;obtain⟨av,cv,cA⟩:=sO.1.form;rw[List.length_map]at cA;subst cA;have HT:=O ht;have HM:=O sO;have Qv:=O (qU w ht);have LU:=O (show∀U,Fr ay w U->Calls Tryz.prog 15 #[.slice av os.length cv] U _ from fun U hU=>kQ _ os U (sO.fr hU));obtain⟨m,hm4,hm⟩:∃m:Nat,m<4/\aaH part 4=(m:Int):=by
  have h:=abi part 4 (by decide);exact⟨(aaH part 4).toNat,by omega,by omega⟩
 have HPK:=O (fun U=>aeW part 4 U (by decide) (by decide));rw[hm]at HPK;have HM4:=O hm4;clear sO ht pw md sh db hm hm4;go_enter Tryz.func9,Tryz.ntmps9;go_wp2_with fail
 refine Qv.out.mono ?_;rintro e u1⟨rfl,h1⟩;have H1:=O h1;clear h1 Qv;go_wp2_with fail
 refine(LU.out _ H1.out).mono ?_;rintro e u2⟨rfl,h2⟩;have H2:=O (H1.out.trans h2);clear h2 LU H1;cases zg:jy os
 ·clear zg;go_wp2;go_ret;exact⟨rfl,H2.out.bQ⟩
 have HSM:=O (H' zg);clear zg;go_wp2_with fail
 refine(HPK.out u2).mono ?_;rintro e u3⟨rfl,pz⟩;rw[<-pz];clear pz HPK;go_wp2_with fail
 refine(J5 u2).mono ?_;rintro e u4⟨B,pv,rfl,cY,bT⟩;have Tc:=O (cY w.heap.size H2.out.size);have fu:=O (H2.out.trans bT);clear cY bT;go_wp2_with fail
 refine(J5 u4).mono ?_;rintro e u5⟨C,aac,rfl,hw5,gH⟩;have HTW:=O (aaC.copied Tc.out fu.out (hw5 w.heap.size fu.out.size) gH (fun j hj=>(hw5 u4.heap.size (Nat.le_refl _)).iU hj));clear hw5 gH Tc fu H2;go_wp2_with fail
 go_loopw[7,8] (afO w B C m os.length) (fun i _ _=>os.length-(intOf i).toNat)
 case atStart=>exact⟨0,pv,aac,yD,yD,Nat.zero_le _,rfl,HTW.out,fW.new,fW.new,rfl,rfl⟩
 case round =>
  obtain⟨k,zu,qv',y,z,hk,rfl,htw,hiy,hiz,hpp,CV⟩:=hrel;by_cases cG:k<os.length
  ·have lf:(k:Int)<(os.length:Int):=by omega
   have U8:(0:Int)<=(k:Int):=by omega
   rcases HM.out.1.2 with ⟨_,_,_,e,_⟩|⟨bk,of,c,hf,h1,h2,h3,h4⟩
   ·have D':=congrArg List.length e;rw[List.length_map]at D';rw[List.length_nil]at D';omega
   rw[List.length_map]at hf;cases hf;rw[List.length_map]at h1;unfold maxLen at h2;obtain⟨o,bC⟩:∃o,os[k]?=some o:=⟨_,List.getElem?_eq_getElem cG⟩;have hcell:=h4 k o.1.cells (by rw[List.getElem?_map,bC];rfl);have ed:=List.mem_of_getElem? bC;have HOF:=O (show∀U,Fr ay w U->bg U o.1 o.2 from fun U hU=>bg.Mt ((HM.out.2.2 o ed).fr hU) (HSM.out.2 o ed))
   have HRG:=O (show∀U,Fr ay w U->U.rangeAt bk (of+k*22) o.1.cells from fun U hU i u hi=>aaB (hcell i u hi) hU);have N0:=O (show∀U,Fr ay w U->U.cell? ⟨bk,of+k*22,none⟩=some (.int .i64 o.1.what)/\U.cell? ⟨bk,of+k*22+1,none⟩=some (.int .i64 o.1.ab.part)from fun U hU=>⟨aaB (hcell 0 _ rfl) hU,aaB (hcell 1 _ rfl) hU⟩);have j6:=O (show(o.1.bF o.2).what=o.1.what/\(o.1.bF o.2).part=o.1.ab.part from⟨rfl,rfl⟩)
   obtain⟨z1,iy⟩:∃z1,z1=cV y (o.1.bF o.2):=⟨_,rfl⟩;obtain⟨z2,gU⟩:∃z2,z2=cV z (o.1.bF o.2):=⟨_,rfl⟩;have HD1:=O (show Calls Tryz.prog 17 #[.pointer (some ⟨B,0,none⟩),.agg o.1.cells.toArray] wr (fun e w'=>e=.returned (.agg #[.int .i64 z1.2.what,.string z1.2.head,.int .i64 z1.2.cert])/\abh w wr B z1.1 C qv' z w')from by
    rw[iy];exact htw.afd hiy HT.out (HOF.out _ htw.fr))
   have Wx:=O (show∀U pa pb,aaC w U C pa z B pb z1.1->Calls Tryz.prog 17 #[.pointer (some ⟨C,0,none⟩),.agg o.1.cells.toArray] U (fun e w'=>e=.returned (.agg #[.int .i64 z2.2.what,.string z2.2.head,.int .i64 z2.2.cert])/\abh w U C z2.1 B pb z1.1 w')from fun U pa pb h=>by
    rw[gU];exact h.afd hiz HT.out (HOF.out _ h.fr))
   have HI1:=O (show fW z1.1 by rw[iy];exact bg.small (HOF.out _ htw.fr) hiy);have HI2:=O (show fW z2.1 by rw[gU];exact bg.small (HOF.out _ htw.fr) hiz);have HIZ:=O hiz;have HSA:=O (show(o.1.what=10\/o.1.ab.part=(m:Int))->z2.2=z1.2/\z2.1.part m=z1.1.part m/\z2.1.now=z1.1.now from fun h=>by
    rw[iy,gU];exact aeG (v:=z) (w:=y) (o:=o.1.bF o.2) h hpp CV)
   have HOT:=O (show¬o.1.ab.part=(m:Int)->¬o.1.what=10->z.part m=z1.1.part m/\z.now=z1.1.now from fun h1 h2=>by
    rw[iy,aex y (o.1.bF o.2) m (fun hr=>Or.inr (fun e=>h1 (by have:=fl hr;rw[j6.out.2]at this e;omega))),aeK y (o.1.bF o.2) h2];exact⟨hpp,CV⟩)
   have gD:o.1.cells.length=22:=rfl;obtain⟨xs,WG⟩:∃xs,xs=o.1.cells:=⟨_,rfl⟩;have hrg:=HRG.out _ htw.fr;have ahF:=O htw;rw[<-WG]at gD HD1 Wx HRG hrg;obtain⟨aax,Vy⟩:∃n,n=o.1.what:=⟨_,rfl⟩;obtain⟨pt,Gy⟩:∃n,n=o.1.ab.part:=⟨_,rfl⟩;rw[<-Vy]at N0 HSA HOT;rw[<-Gy]at N0 HSA HOT;clear h4 h3 hiy hiz hpp CV htw iy gU WG bC hcell ed HOF j6 Vy Gy
   go_wp2_with (first|((with_reducible refine ag ⟨some 28,_,_,_,_,_⟩ ?_);go_must(refine wpList_load_mid rfl 33 (.tmp 27) rfl bk (of+k*22) rfl xs _ hrg Tryz.underlying33 rfl (H9 gD) ?_))|fail)
   refine HD1.out.mono ?_;rintro e aay⟨rfl,pa,mq,_⟩;clear HD1 hrg;have wI:Fr ay aay (aay.alloc (.cells #[.int .i64 z1.2.what,.string z1.2.head,.int .i64 z1.2.cert] 39)):=(Fr.refl _ _).alloc _;have L':=O (mq.bd wI);have HNB:=O (af aay (.cells #[.int .i64 z1.2.what,.string z1.2.head,.int .i64 z1.2.cert] 39));have c0:=(N0.out _ L'.out.fr).1;have c1:=(N0.out _ L'.out.fr).2;clear mq wI N0
   by_cases hdo:aax=10\/pt=(m:Int)
   case neg =>
    have UA:decide (pt=(m:Int))=false:=decide_eq_false (fun h=>hdo (Or.inr h));have Jp:decide (aax=10)=false:=decide_eq_false (fun h=>hdo (Or.inl h));have agV:(pt !=(m:Int))=true:=bne_iff_ne.2 (fun h=>hdo (Or.inr h));have ahH:(aax !=10)=true:=bne_iff_ne.2 (fun h=>hdo (Or.inl h));have HZ:=O (HOT.out (fun h=>hdo (Or.inr h)) (fun h=>hdo (Or.inl h)));clear HOT HSA hdo;go_wp2_with fail
    go_roundw
    case rel=>exact⟨k+1,pa,qv',z1.1,z,by omega,by go_num,L'.out,HI1.out,HIZ.out,HZ.out.1,HZ.out.2⟩
    case measure=>simp[intOf];omega
   have HZ:=O (HSA.out hdo);obtain⟨nb,wJ⟩:∃n,n=aay.heap.size:=⟨_,rfl⟩;obtain⟨aaA,hub⟩:∃u,u=aay.alloc (.cells #[.int .i64 z1.2.what,.string z1.2.head,.int .i64 z1.2.cert] 39):=⟨_,rfl⟩;have HUB:=O hub;have HNN:=O wJ;have HTB:=O (show aaC w aaA B pa z1.1 C qv' z by rw[hub];exact L'.out)
   have HNC:=O (show aaA.heap[nb]?=some (.cells #[.int .i64 z1.2.what,.string z1.2.head,.int .i64 z1.2.cert] 39 (0,0))by rw[hub,wJ];exact HNB.out);have Us:=O (aeA z1.2.what z1.2.cert z1.2.head);rw[HZ.out.1]at Wx;clear HOT HSA HNB L' hub wJ;by_cases hpm:pt=(m:Int)
   ·rw[hpm]at c1;clear hdo hpm;clear c0;go_wp2_with fail
    rw[<-HUB.out, <-HNN.out];refine wp_region_held_drew (S:=(fun U=>U.rangeAt bk (of+k*22) xs/\U.heap[nb]?=some (.cells #[.int .i64 z1.2.what,.string z1.2.head,.int .i64 z1.2.cert] 39 (0,0)))) (by kernel_rfl) (⟨HRG.out _ HTB.out.fr.drew,HNC.out⟩) ?_;intro cW;refine tk 0 ⟨some 46,_,_,_,_,_⟩ (v:=?_) rfl (by rfl) ?hy ?_
    case hy=>(intro w hSw;(try dsimp only at hSw);go_simp<;>with_reducible rfl)
    try simp only[Act.put,sA,sB,sC]
    refine tk 1 ⟨some 47,_,_,_,_,_⟩ (v:=?_) rfl (by rfl) ?hy ?_
    case hy=>(intro w hSw;(try dsimp only at hSw);go_simp<;>with_reducible rfl)
    try simp only[Act.put,sA,sB,sC]
    refine tk 2 ⟨some 48,_,_,_,_,_⟩ (v:=?_) rfl (by rfl) ?hy ?_
    case hy=>(intro w hSw;(try dsimp only at hSw);go_simp<;>with_reducible rfl)
    try simp only[Act.put,sA,sB,sC]
    refine tk 3 ⟨some 49,_,_,_,_,_⟩ (v:=?_) rfl (by rfl) ?hy ?_
    case hy=>(intro w hSw;(try dsimp only at hSw);go_simp<;>with_reducible rfl)
    try simp only[Act.put,sA,sB,sC]
    refine wpAnyH_take (i:=4) (oi:=⟨some 50,_,_,_,_,_⟩) rfl (by kernel_rfl) (by kernel_rfl) (by kernel_rfl) (fun _ _ _ h=>h) (yieldsIf_load_mid (by rfl) 33 (.tmp 49) rfl bk (of+k*22) rfl xs _ (fun U hU=>hU.1) Tryz.underlying33 rfl (H9 gD)) (by assumption) ?_
    try simp only[Act.put,sA,sB,sC]
    refine wpAnyH_take (i:=6) (oi:=⟨some 52,_,_,_,_,_⟩) rfl (by kernel_rfl) (by kernel_rfl) (by kernel_rfl) (fun _ _ _ h=>h) (yieldsIf_load_mid (by rfl) 39 (.tmp 8) rfl nb 0 rfl [.int .i64 z1.2.what,.string z1.2.head,.int .i64 z1.2.cert] _ (fun U hU=>vw hU.2) Tryz.underlying39 rfl (by kernel_rfl)) (by assumption) ?_
    try simp only[Act.put,sA,sB,sC]
    refine wpAnyH_ready (rs:=[5]) (by kernel_rfl) (by simp) ?_;refine AllReadyH.cons rfl (fun K hK=>?_) AllReadyH.nil;go_simp;refine(Wx.out _ _ _ (HTB.out.swap.bd (Fr.drew (Fr.refl ay _)))).mono ?_;rintro e uc⟨rfl,qa,htc,hkc⟩;have HTC:=O htc;refine hK.out _ _ ⟨HRG.out _ htc.fr,hkc _ _ _ HNC.out aD (by decide)⟩ ?_;intro ct;clear hK cW K htc hkc;have cW:=ct;clear ct
    try simp only[Act.put,sA,sB,sC]
    have heq:=Us.out;refine tk 7 ⟨some 53,_,_,_,_,_⟩ (v:=?_) rfl (by rfl) ?hy ?_
    case hy=>(intro w hSw;(try dsimp only at hSw);go_simp<;>with_reducible rfl)
    try simp only[Act.put,sA,sB,sC]
    clear cW;refine wpAnyH_done (by kernel_rfl) ?_ _;go_wp2_with fail
    go_roundw
    case rel=>exact⟨k+1,pa,qa,z1.1,z2.1,by omega,by go_num,HTC.out.swap,HI1.out,HI2.out,HZ.out.2.1,HZ.out.2.2⟩
    case measure=>simp[intOf];omega
   ·have UA:decide (pt=(m:Int))=false:=decide_eq_false hpm;have agV:(pt !=(m:Int))=true:=bne_iff_ne.2 hpm;have hw:aax=10:=hdo.resolve_right hpm;rw[hw]at c0;clear hdo hpm hw;go_wp2_with fail
    rw[<-HUB.out, <-HNN.out];refine wp_region_held_drew (S:=(fun U=>U.rangeAt bk (of+k*22) xs/\U.heap[nb]?=some (.cells #[.int .i64 z1.2.what,.string z1.2.head,.int .i64 z1.2.cert] 39 (0,0)))) (by kernel_rfl) (⟨HRG.out _ HTB.out.fr.drew,HNC.out⟩) ?_;intro cW;refine tk 0 ⟨some 46,_,_,_,_,_⟩ (v:=?_) rfl (by rfl) ?hy ?_
    case hy=>(intro w hSw;(try dsimp only at hSw);go_simp<;>with_reducible rfl)
    try simp only[Act.put,sA,sB,sC]
    refine tk 1 ⟨some 47,_,_,_,_,_⟩ (v:=?_) rfl (by rfl) ?hy ?_
    case hy=>(intro w hSw;(try dsimp only at hSw);go_simp<;>with_reducible rfl)
    try simp only[Act.put,sA,sB,sC]
    refine tk 2 ⟨some 48,_,_,_,_,_⟩ (v:=?_) rfl (by rfl) ?hy ?_
    case hy=>(intro w hSw;(try dsimp only at hSw);go_simp<;>with_reducible rfl)
    try simp only[Act.put,sA,sB,sC]
    refine tk 3 ⟨some 49,_,_,_,_,_⟩ (v:=?_) rfl (by rfl) ?hy ?_
    case hy=>(intro w hSw;(try dsimp only at hSw);go_simp<;>with_reducible rfl)
    try simp only[Act.put,sA,sB,sC]
    refine wpAnyH_take (i:=4) (oi:=⟨some 50,_,_,_,_,_⟩) rfl (by kernel_rfl) (by kernel_rfl) (by kernel_rfl) (fun _ _ _ h=>h) (yieldsIf_load_mid (by rfl) 33 (.tmp 49) rfl bk (of+k*22) rfl xs _ (fun U hU=>hU.1) Tryz.underlying33 rfl (H9 gD)) (by assumption) ?_
    try simp only[Act.put,sA,sB,sC]
    refine wpAnyH_take (i:=6) (oi:=⟨some 52,_,_,_,_,_⟩) rfl (by kernel_rfl) (by kernel_rfl) (by kernel_rfl) (fun _ _ _ h=>h) (yieldsIf_load_mid (by rfl) 39 (.tmp 8) rfl nb 0 rfl [.int .i64 z1.2.what,.string z1.2.head,.int .i64 z1.2.cert] _ (fun U hU=>vw hU.2) Tryz.underlying39 rfl (by kernel_rfl)) (by assumption) ?_
    try simp only[Act.put,sA,sB,sC]
    refine wpAnyH_ready (rs:=[5]) (by kernel_rfl) (by simp) ?_;refine AllReadyH.cons rfl (fun K hK=>?_) AllReadyH.nil;go_simp;refine(Wx.out _ _ _ (HTB.out.swap.bd (Fr.drew (Fr.refl ay _)))).mono ?_;rintro e uc⟨rfl,qa,htc,hkc⟩;have HTC:=O htc;refine hK.out _ _ ⟨HRG.out _ htc.fr,hkc _ _ _ HNC.out aD (by decide)⟩ ?_;intro ct;clear hK cW K htc hkc;have cW:=ct;clear ct
    try simp only[Act.put,sA,sB,sC]
    have heq:=Us.out;refine tk 7 ⟨some 53,_,_,_,_,_⟩ (v:=?_) rfl (by rfl) ?hy ?_
    case hy=>(intro w hSw;(try dsimp only at hSw);go_simp<;>with_reducible rfl)
    try simp only[Act.put,sA,sB,sC]
    clear cW;refine wpAnyH_done (by kernel_rfl) ?_ _;go_wp2_with fail
    go_roundw
    case rel=>exact⟨k+1,pa,qa,z1.1,z2.1,by omega,by go_num,HTC.out.swap,HI1.out,HI2.out,HZ.out.2.1,HZ.out.2.2⟩
    case measure=>simp[intOf];omega
  ·have lf:¬(k:Int)<(os.length:Int):=by omega
   have UZ:=O (aet htw.one htw.two hiy.ok m HM4.out hpp);have HTE:=O htw;have wY:=O CV;clear htw hiy hiz hpp CV;go_wp2_with fail
   refine UZ.out.mono ?_;rintro e u⟨rfl,hu⟩;have HU:=O (HTE.out.bd hu);clear hu;go_wp2_with fail
   refine(Fz _ _ _ _ _ HU.out.one).mono ?_;rintro e u'⟨rfl,hu⟩;rw[hu];clear hu;go_wp2_with fail
   refine(Fz _ _ _ _ _ HU.out.two).mono ?_;rintro e u'⟨rfl,hu⟩;rw[hu,wY.out];clear hu;go_wp2_with fail
   go_ret;exact⟨rfl,HU.out.fr.bQ⟩
end Go.Proofs.YtjdmjbdkdmbaiaaGreatDoor
namespace Go.Proofs.YtjdmjbdkdmbaiaaGreatDoor.worldApart
open Go.ChangeShapes Go.WideShapes Go.ChangeAt Go.RowKit
open Go.ChangeMaps (open_string shut_string)
theorem own:ownKnob Tryz.prog.godebug=none:=by kernel_rfl
theorem laidOut:laidOutB Tryz.prog=true:=by kernel_rfl
theorem lifted(os:Os)(started:os.Started)(H:Type)(enc:TypeId×Value->H) :
  ReturnsInHanded {} Tryz.checked os 9 .any (fun w args=>(Rows.worldApartSpec.pre enc Tryz.prog Tryz.f9 Rows.worldApartRow.domain false w args/\laidMetH Tryz.prog Rows.worldApartRow.laid w)/\sizedMet enc Tryz.prog Tryz.f9 (OpenSpec.ofChange Rows.worldApartSpec) false w args)
   (Rows.worldApartSpec.post enc Tryz.prog Tryz.f9 false true false false):=by
 refine returnsInHanded_of_change_and (C:=Tryz.checked) (X:=fun w _=>laidMetH Tryz.prog Rows.worldApartRow.laid w) (fun _ _ _ hh h=>h.of_heap hh) own started (by kernel_rfl) Tryz.func9
  (ChangeSpec.witness_shaped (enc:=enc) (C:=Tryz.checked) (os:=os) (X:=fun w _=>laidMetH Tryz.prog Rows.worldApartRow.laid w) false (World.laidAll Tryz.prog os Rows.worldApartRow.laid) #[.slice none 0 0,.int .i64 0] 8 (World.laidAll_os _ _ _)
   (World.shaped_of_ZipB (by kernel_rfl) (by kernel_rfl)) (by kernel_rfl) (by kernel_rfl) (by kernel_rfl)
   (by rw[MakeChecks.laidMetH_plain _ _ _ (by kernel_rfl)];exact laidMet_laidAll _ (by kernel_rfl) (by kernel_rfl))) ?_
 intro W base args ds gs before qx hW _ qw hL _;have mz:(DataW.weightsEach Tryz.prog (Tryz.f9.params.toList++Rows.worldApartSpec.plain.varTypes Tryz.prog) (ds++gs)).all (· <=reachBytes)=true:=qw;clear qw;have hval:∀(j:Nat) t v,Tryz.f9.params[j]?=some t->args[j]?=some v->Value.okWide Tryz.prog W .any base t v:=qx;have hW':=hW;obtain⟨p,q,Qz,hV,rfl,_,_⟩:=hW
 have hA:DataW.TrodAll enc Tryz.prog W 0 (fun _=>true) true Tryz.f9.params.toList args.toList ds p:=Qz;rw[Tryz.params9]at hA hval mz;obtain⟨v0,vs0,d0,ds0,p0,q0,QA,rfl,rfl,h0,r0⟩:=trodAll_cons hA;obtain⟨v1,vs1,d1,ds1,p1,q1,rfl,rfl,rfl,h1,r1⟩:=trodAll_cons r0;obtain⟨rfl,rfl,rfl⟩:=trodAll_nil r1;obtain rfl:args= #[v0,v1]:=by cases args;simp_all
 obtain⟨rfl,rfl⟩:=trodVars_none hV;have k0:=h0;have lt0:∀x∈p0,x.block<W.heap.size:=by obtain⟨m,hm⟩:=k0;exact DataW.trod_lt m _ _ _ hm
 obtain⟨ss0,sO⟩:=mY (hval 0 22 v0 rfl rfl) h0 (jY mz (j:=0) (t:=22) rfl rfl);obtain⟨a1,rfl,rfl,rfl,w1⟩:=open_int Tryz.underlying3 (hval 1 3 v1 rfl rfl) h1;clear Qz qx;rw[MakeChecks.laidMetH_plain _ _ _ (by kernel_rfl)]at hL;have tb0:=ot hL (by refine⟨?_,?_⟩<;>repeat(first|exact True.intro|exact List.Mem.head _|refine List.Mem.tail _ ?_))
 have tb1:=mR hL (by refine⟨?_,?_⟩<;>repeat(first|exact True.intro|exact List.Mem.head _|refine List.Mem.tail _ ?_));have tb2:=mS hL (by refine⟨?_,?_⟩<;>repeat(first|exact True.intro|exact List.Mem.head _|refine List.Mem.tail _ ?_));have tb3:=om hL (by refine⟨?_,?_⟩<;>repeat(first|exact True.intro|exact List.Mem.head _|refine List.Mem.tail _ ?_))
 refine(abm _ ss0 a1  W sO tb0 tb1 tb2 tb3).mono fun e W' ⟨he,jE⟩=>?_;subst he;exact⟨_,rfl,_,_,_,[],_,[],hW',trodAll_mk1 (shut_bool Tryz.underlying4 _),(trodAll_cons_mk (Below.trod laidOut (by kernel_rfl) (of_decide_eq_true (by kernel_rfl)) k0 jE lt0) (trodAll_cons_mk (shut_int Tryz.underlying3 w1) trodAll_mk0)),rfl,jE.frame _,fun h=>by cases h⟩
end Go.Proofs.YtjdmjbdkdmbaiaaGreatDoor.worldApart
