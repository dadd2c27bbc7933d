/- Best. -/
import Derived.Test.YtjdmjbdkdmbaiaaGreatDoorPk33
set_option maxRecDepth 100000
set_option maxHeartbeats 16000000
set_option linter.unusedSimpArgs false
namespace Go.Proofs.YtjdmjbdkdmbaiaaGreatDoor
open Go.RowKit
theorem aJ{P:Program}{ops:Array Oper}{a:Act}{w:World}{K:Act->World->Prop}{Q:Exit->Act->World->Prop}{E:Prop}{o:Oper}(zM:o.guard=none)(ty:TypeId)(x y:Operand)(ho:o.op=.store ty x y)
  (g:Nat)(cells:Array Value)(hx:a.eval x=.pointer (some ⟨g,0,none⟩))(hy:a.eval y=.agg cells)
  (t:TypeId)(vT:Array Value)(hg:w.heap[g]?=some (.cells vT t (0,0)))(hi:(P.info? ty).map (·.size)=some cells.size)
  (hold:vT.size=cells.size)(h1:cells.all (·.oneCell')=true)(h:K (a.put o.dst undef) (w.setRow g cells)):if Region.wanted o (yielded ops a.tmps)=true then Oper.wp P o a w K Q else E:=by
 have hw:Region.wanted o (yielded ops a.tmps)=true:=by simp[Region.wanted,zM]
 rw[if_pos hw];exact wp_store_row ty x y ho g cells hx hy t vT hg hi hold h1 h
def PS(xs:List iI)(w:World)(e:Ending)(w':World):Prop :=
 Fr ay w w'/\∃r:cQ Value,r.Reads (Strs w.heap.size w') (d_ xs)/\e=.returned (.tuple #[.agg r.cells.toArray,.bool (decide (0<(d_ xs).scheme))])
def ahW(w:World)(xs:List iI)(t:Value)(wr:World):Prop :=
 ∃(k:Nat) (r:cQ Value),k<=xs.length/\t=.int .i64 k/\wr.heap[w.heap.size]?=some (.cells dr 47 (0,0))/\cM wr (w.heap.size+1) r/\r.Reads (Strs w.heap.size wr) (d_ (xs.take k))/\Fr ay w wr
theorem Reads.apd{base:Nat}{w:World}{r:cQ Value}{a:cQ aF}(h:r.Reads (Strs base w) a):r.dom.oneCell'=true:=by
 obtain⟨x,c,e⟩:=h.2.2.2.2.2.2.2.form;rw[e];rfl
theorem Hf(base:Nat)(w:World):en.Reads (Strs base w) IW:=⟨rfl,rfl,rfl,rfl,rfl,rfl,rfl,Strs.nil _ _⟩
theorem Strs.upS{b b':Nat}{w:World}{v:Value}{ss:List ByteArray}(h:Strs b' w v ss)(hb:b<=b'):Strs b w v ss:=rK h hb
theorem PT(v:Value)(xs:List iI)(w:World)(h:oF w v xs)(_hl:xs.length<=1000000)(hz:∀x∈xs,x.Fit) :
  Calls Tryz.prog 85 #[v] w (PS xs w):=by
 obtain⟨av,cv,hv⟩:=h.form;subst hv;obtain⟨w2,bK⟩:∃w2,w2=(w.alloc (.cells dr 47)).alloc (.cells dr 47):=⟨_,rfl⟩;have bt:Fr ay (w.alloc (.cells dr 47)) w2:=by rw[bK];exact(Fr.refl _ _).alloc _
 have kR:w2.heap[w.heap.size]?=some (.cells dr 47 (0,0)):=bt.keep (af w _) (fun h=>h);have fC:cM w2 (w.heap.size+1) en:=by
  rw[bK];have:=af (w.alloc (.cells dr 47)) (.cells dr 47);rw[show(w.alloc (.cells dr 47)).heap.size=w.heap.size+1 from by simp]at this;exact this
 have bq:Fr ay w w2:=((Fr.refl ay w).alloc _).trans bt;have ka:=O bK;clear bK bt;go_enter Tryz.func85,Tryz.ntmps85;go_wp2_with fail
 rw[<-ka.out];go_loopw[11] (ahW w xs) (fun t _=>xs.length-(intOf t).toNat)
 case atStart=>exact⟨0,en,Nat.zero_le _,rfl,kR,fC,Hf _ _,bq⟩
 case round =>
  obtain⟨k,r,hk,rfl,o8,ry,EW,aW⟩:=hrel;by_cases cG:k<xs.length
  case pos =>
   have lf:(k:Int)<(xs.length:Int):=by omega
   have bC:=O (List.getElem?_eq_getElem cG);have HZ:=O (hz _ (List.getElem_mem cG));generalize xs[k]=x at bC HZ;obtain⟨bk,of,pv,rfl,h1,h2,c0,c1,c2,hp⟩:=(h.bu aW).cells bC.out;unfold maxLen at h2;have HBT:=O (show d_ (xs.take (k+1))=kq (d_ (xs.take k)) x by rw[List.take_add_one,bC.out];exact F2 _ _);obtain⟨a1,c1',e1⟩:=hp.form;subst e1
   obtain⟨wb,eQ⟩:∃wb,wb=wr.alloc (.cells #[.string (bA x.scheme),.string (bA x.token),.slice a1 x.params.length c1'] 88):=⟨_,rfl⟩;have fa:Fr ay wr wb:=by rw[eQ];exact(Fr.refl ay wr).alloc _
   have TZ:fy wb wr.heap.size (bA x.scheme) (bA x.token) (.slice a1 x.params.length c1'):=by rw[eQ];exact af _ _
   have x0:=TZ.cell0;have x1:=TZ.dM;have x2:=TZ.ir;have KN:=O (L5 x _ wb (aN.bu hp fa) HZ.out);have lq:=O eQ;have hsb:w.heap.size+1<wb.heap.size:=by have:=aj (fa.keep ry (fun h=>h));exact this
   clear eQ hp;go_wp2_with fail
   rw[<-lq.out];refine KN.out.mono ?_;intro e w3 hkp;obtain⟨dv,Uh⟩:=hkp;have PU:=(fa.trans dv).keep o8 (fun h=>h);have aaE:cM w3 (w.heap.size+1) r:=(fa.trans dv).keep ry (fun h=>h);have Vq:r.Reads (Strs w.heap.size w3) (d_ (xs.take k)):=EW.mono (fun u l hu=>hu.fr (fa.trans dv) (fun _ h=>h.elim));have dV:=O ((aW.trans fa).trans dv);have Nv:w.heap.size+1<w3.heap.size:=Nat.lt_of_lt_of_le hsb dv.size
   clear x0 x1 x2 c0 c1 c2 TZ o8 ry EW;cases K':iz x with
   |none =>
    rw[K']at Uh;subst Uh;have mj:=O (show d_ (xs.take (k+1))=d_ (xs.take k)by rw[HBT.out];unfold kq;rw[K']);have fR:=fun W=>run_storeCells_new (P:=Tryz.prog) W 47 dr dr.toList rfl LV;have bT:Fr ay w3 (w3.alloc (.cells dr 47)):=(Fr.refl _ _).alloc _;have JY:=bT.keep PU (fun h=>h);have Hg:cM (w3.alloc (.cells dr 47)) (w.heap.size+1) r:=bT.keep aaE (fun h=>h)
    have aaF:r.Reads (Strs w.heap.size (w3.alloc (.cells dr 47))) (d_ (xs.take k)):=Vq.mono (fun u l hu=>hu.fr bT (fun _ h=>h.elim));have fu:=O (dV.out.trans bT);clear K';go_wp2;go_roundw
    case rel=>exact⟨k+1,r,by omega,by go_num,JY,Hg,by rw[mj.out];exact aaF,fu.out⟩
    case measure=>simp[intOf];omega
   |some a =>
    rw[K']at Uh;obtain⟨r2,Vr,rfl⟩:=Uh;have bG:=O (Cp r2 (Reads.apd Vr));obtain⟨y,hy⟩:∃y,y=r2.cells.toArray:=⟨_,rfl⟩;have FH:y.size=8:=by rw[hy];rfl
    have HY:=O hy;have Ut:y.all (·.oneCell')=true:=by rw[hy];exact bG.out
    have sg:(Tryz.prog.info? 47).map (·.size)=some y.size:=by rw[FH];kernel_rfl
    have hyz:dr.size=y.size:=by rw[FH];rfl
    have hrz:r.cells.toArray.size=y.size:=by rw[FH];rfl
    obtain⟨w4,cY⟩:∃w4,w4=w3.alloc (.cells y 47):=⟨_,rfl⟩;have bT:Fr ay w3 w4:=by rw[cY];exact(Fr.refl _ _).alloc _
    have ahX:cM w4 w3.heap.size r2:=by rw[cY,hy];exact af _ _
    have JY:=bT.keep PU (fun h=>h);have Hg:cM w4 (w.heap.size+1) r:=bT.keep aaE (fun h=>h);have aaF:r.Reads (Strs w.heap.size w4) (d_ (xs.take k)):=Vq.mono (fun u l hu=>hu.fr bT (fun _ h=>h.elim));have apg:r2.Reads (Strs w.heap.size w4) a:=Vr.mono (fun u l hu=>(hu.upS (by omega)).fr bT (fun _ h=>h.elim));have fu:=O (dV.out.trans bT);have Tc:=O cY
    have n0:w4.cell? ⟨w3.heap.size,0,none⟩=some (.int .i64 a.scheme):=by rw[<-Vr.1];exact ahX.cell rfl
    have m0:w4.cell? ⟨w.heap.size+1,0,none⟩=some (.int .i64 (d_ (xs.take k)).scheme):=by rw[<-Vq.1];exact Hg.cell rfl
    have ahY:=O (show d_ (xs.take (k+1))=if(d_ (xs.take k)).scheme<a.scheme then a else d_ (xs.take k)by rw[HBT.out];unfold kq;rw[K']);have WY:w3.heap.size<w4.heap.size:=by rw[cY];simp
    rw[<-hy];clear K' hy cY PU aaE Vq Vr;by_cases pD:(d_ (xs.take k)).scheme<a.scheme
    case pos =>
     have mj:=O (show d_ (xs.take (k+1))=a by rw[ahY.out,if_pos pD]);obtain⟨w5,hw5⟩:∃w5,w5=w4.setRow (w.heap.size+1) y:=⟨_,rfl⟩;have gH:Fr (one (w.heap.size+1)) w4 w5:=by rw[hw5];exact(Fr.refl (one (w.heap.size+1)) w4).setRow (fun _=>rfl) y
     have Ay:=O hw5;have ahZ:=gH.keep JY (fun h=>by have h':w.heap.size=w.heap.size+1:=h;omega);have aph:cM w5 (w.heap.size+1) r2:=by rw[hw5,HY.out];unfold cM;simp[World.setRow,Array.getElem?_modify,show w4.heap[w.heap.size+1]?=_ from Hg]
     have api:r2.Reads (Strs w.heap.size w5) a:=apg.mono (fun u l hu=>hu.Vk gH Hg (by decide));have rj:=O (fu.out.step gH (fun k hk h=>by have h':k=w.heap.size+1:=h;omega));clear hw5 gH
     go_wp2_with (first|((with_reducible refine ag ⟨none,.store 47 (.tmp 7) (.tmp 18),_,_,_,_⟩ ?_);go_must(refine ks rfl 47 (.tmp 7) (.tmp 18) rfl dr y rfl rfl sg hyz Ut ?_);rw[<-Tc.out])|((with_reducible refine ag ⟨some 28,_,_,_,_,_⟩ ?_);go_must(refine wpList_load_row rfl 47 (.tmp 7) rfl w3.heap.size rfl 47 y (0,0) _ (by rw[HY.out];exact ahX) Tryz.underlying47 rfl sg ?_))|((with_reducible refine ag ⟨none,.store 47 (.tmp 4) (.tmp 28),_,_,_,_⟩ ?_);go_must(refine wpList_store_row rfl 47 (.tmp 4) (.tmp 28) rfl (w.heap.size+1) y rfl rfl 47 r.cells.toArray Hg sg hrz Ut ?_);rw[<-Ay.out])|fail)
     go_roundw
     case rel=>exact⟨k+1,r2,by omega,by go_num,ahZ,aph,by rw[mj.out];exact api,rj.out⟩
     case measure=>simp[intOf];omega
    case neg =>
     have mj:=O (show d_ (xs.take (k+1))=d_ (xs.take k)by rw[ahY.out,if_neg pD]);go_wp2_with (first|((with_reducible refine ag ⟨none,.store 47 (.tmp 7) (.tmp 18),_,_,_,_⟩ ?_);go_must(refine ks rfl 47 (.tmp 7) (.tmp 18) rfl dr y rfl rfl sg hyz Ut ?_);rw[<-Tc.out])|fail)
     go_roundw
     case rel=>exact⟨k+1,r,by omega,by go_num,JY,Hg,by rw[mj.out];exact aaF,fu.out⟩
     case measure=>simp[intOf];omega
  case neg =>
   have lf:¬(k:Int)<(xs.length:Int):=by omega
   have dy:xs.take k=xs:=List.take_of_length_le (by omega);rw[dy]at EW;have b0:=ry.cell (i:=0) rfl;have b1:=ry.cell (i:=1) rfl;have b2:=ry.cell (i:=2) rfl;have b3:=ry.cell (i:=3) rfl;have b4:=ry.cell (i:=4) rfl;have b5:=ry.cell (i:=5) rfl;have b6:=ry.cell (i:=6) rfl;have b7:=ry.cell (i:=7) rfl;obtain⟨da,dc,hd⟩:=EW.2.2.2.2.2.2.2.form;rw[hd]at b7;have U6:=O EW;have HD:=O hd;have py:=O aW
   have z:∀i u,dr[i]?=some u->wr.cell? ⟨w.heap.size,i,none⟩=some u:=fun i u hu=>by simp only[World.cell?,o8];simpa using hu
   have zf:∀i,wr.frozen? ⟨w.heap.size,i,none⟩=false:=fun i=>by simp[World.frozen?,o8]
   have z0:=z 0 _ rfl;have f0:=zf 0;have z1:=z 1 _ rfl;have f1:=zf 1;have z2:=z 2 _ rfl;have f2:=zf 2;have z3:=z 3 _ rfl;have f3:=zf 3;have z4:=z 4 _ rfl;have f4:=zf 4;have z5:=z 5 _ rfl;have f5:=zf 5;have z6:=z 6 _ rfl;have f6:=zf 6;have z7:=z 7 _ rfl;have f7:=zf 7;clear z zf;have di:=O o8;clear hd o8 ry EW aW;go_wp2_with fail
   go_region
   all_goals
    have oZ:cM wr w.heap.size en:=di.out
    have wP:=((((((((oZ.set 0 (.int .i64 r.scheme) (r':={en with scheme:=r.scheme}) rfl).set 1 (.string r.ar) (r':={en with scheme:=r.scheme,ar:=r.ar}) rfl).set 2 (.string r.aE) (r':={en with scheme:=r.scheme,ar:=r.ar,aE:=r.aE}) rfl).set 3 (.string r.aK) (r':={en with scheme:=r.scheme,ar:=r.ar,aE:=r.aE,aK:=r.aK}) rfl).set 4 (.bool r.aL) (r':={en with scheme:=r.scheme,ar:=r.ar,aE:=r.aE,aK:=r.aK,aL:=r.aL}) rfl).set 5 (.string r.bU) (r':={en with scheme:=r.scheme,ar:=r.ar,aE:=r.aE,aK:=r.aK,aL:=r.aL,bU:=r.bU}) rfl).set 6 (.bool r.aX) (r':={en with scheme:=r.scheme,ar:=r.ar,aE:=r.aE,aK:=r.aK,aL:=r.aL,bU:=r.bU,aX:=r.aX}) rfl).set 7 (.slice da (d_ xs).dom.length dc) (r':={en with scheme:=r.scheme,ar:=r.ar,aE:=r.aE,aK:=r.aK,aL:=r.aL,bU:=r.bU,aX:=r.aX,dom:=.slice da (d_ xs).dom.length dc}) rfl)
    have jz:=(((((((((Fr.refl (one w.heap.size) wr).setCell (p:=⟨w.heap.size,0,none⟩) (fun _=>rfl) (.int .i64 r.scheme)).setCell (p:=⟨w.heap.size,1,none⟩) (fun _=>rfl) (.string r.ar)).setCell (p:=⟨w.heap.size,2,none⟩) (fun _=>rfl) (.string r.aE)).setCell (p:=⟨w.heap.size,3,none⟩) (fun _=>rfl) (.string r.aK)).setCell (p:=⟨w.heap.size,4,none⟩) (fun _=>rfl) (.bool r.aL)).setCell (p:=⟨w.heap.size,5,none⟩) (fun _=>rfl) (.string r.bU)).setCell (p:=⟨w.heap.size,6,none⟩) (fun _=>rfl) (.bool r.aX)).setCell (p:=⟨w.heap.size,7,none⟩) (fun _=>rfl) (.slice da (d_ xs).dom.length dc))
    generalize ((((((((wr.setCell ⟨w.heap.size,0,none⟩ (.int .i64 r.scheme)).setCell ⟨w.heap.size,1,none⟩ (.string r.ar)).setCell ⟨w.heap.size,2,none⟩ (.string r.aE)).setCell ⟨w.heap.size,3,none⟩ (.string r.aK)).setCell ⟨w.heap.size,4,none⟩ (.bool r.aL)).setCell ⟨w.heap.size,5,none⟩ (.string r.bU)).setCell ⟨w.heap.size,6,none⟩ (.bool r.aX)).setCell ⟨w.heap.size,7,none⟩ (.slice da (d_ xs).dom.length dc))=w6 at wP jz ⊢
    have wT:({en with scheme:=r.scheme,ar:=r.ar,aE:=r.aE,aK:=r.aK,aL:=r.aL,bU:=r.bU,aX:=r.aX,dom:=.slice da (d_ xs).dom.length dc}:cQ Value)=r:=by rw[<-HD.out]
    rw[wT]at wP;have apj:r.Reads (Strs w.heap.size w6.drew) (d_ xs):=U6.out.mono (fun u l hu=>(hu.Vk jz di.out (by decide)).drew);have uE:=O (py.out.step jz (fun k hk h=>by have h':k=w.heap.size:=h;omega));have yR:cM w6.drew w.heap.size r:=wP;have d0:=yR.cell (i:=0) rfl;have d1:=yR.cell (i:=1) rfl;have d2:=yR.cell (i:=2) rfl;have d3:=yR.cell (i:=3) rfl;have d4:=yR.cell (i:=4) rfl
    have d5:=yR.cell (i:=5) rfl;have d6:=yR.cell (i:=6) rfl;have d7:=yR.cell (i:=7) rfl;have hsc:r.scheme=(d_ xs).scheme:=U6.out.1;clear wP jz oZ;go_wp2;refine bodyPost_ret (results_cell_tmp (by rfl) _ _ w.heap.size 47 r.cells.toArray (0,0) _ rfl yR Tryz.underlying47 rfl (by kernel_rfl)) rfl ?_;exact⟨uE.out.drewN 1,r,apj,by rw[<-hsc];rfl⟩
end Go.Proofs.YtjdmjbdkdmbaiaaGreatDoor
