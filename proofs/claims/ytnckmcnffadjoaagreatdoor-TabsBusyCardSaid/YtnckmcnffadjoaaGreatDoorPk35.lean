/- Lemmas for the law's walk. -/
import Derived.Test.YtnckmcnffadjoaaGreatDoorPk34
set_option maxRecDepth 100000
set_option maxHeartbeats 16000000
set_option linter.unusedSimpArgs false
namespace Go.Proofs.YtnckmcnffadjoaaGreatDoor
open Go.Proofs.Tryz
open Go.RowKit
variable {w:World} {v:Value} {ms:List tA}
def Pp:iz:=⟨10,0,um,um,⟨#[47]⟩,⟨#[]⟩,⟨#[71,69,84]⟩,[],false,⟨#[]⟩,false,⟨#[]⟩,⟨#[]⟩,⟨#[]⟩,⟨#[]⟩,0,false,7⟩
def abl:jG:=⟨10,⟨0,um,um,⟨#[47]⟩,⟨#[]⟩,⟨#[71,69,84]⟩,.slice none 0 0,false,⟨#[]⟩⟩,false,⟨#[]⟩,⟨#[]⟩,⟨#[]⟩,⟨#[]⟩,0,false,7⟩
def ak0:Array Value:= #[.int .i64 10,.int .i64 0,.bool true,.string ⟨#[97,46,116,101,115,116]⟩,.int .i64 443,.bool true,.string ⟨#[97,46,116,101,115,116]⟩,.int .i64 443,.string ⟨#[47]⟩,.string ⟨#[]⟩,.string ⟨#[71,69,84]⟩,.slice none 0 0,.bool false,.string ⟨#[]⟩,.bool false,.string ⟨#[]⟩,.string ⟨#[]⟩,.string ⟨#[]⟩,.string ⟨#[]⟩,.int .i64 0,.bool false,.int .i64 7]
theorem afV:abl.dS []=Pp:=rfl
theorem afW:abl.cells.toArray=ak0:=rfl
theorem abm(w:World):gH w abl [] :=
 ⟨dV.nil _ _,⟨ag,ag,fun _ h=>by cases h⟩,ag,ag,ag,ag,ag,ag,ag,ag,ag,ag,ag,ag,ag,ag,ag,ag⟩
def sK:Nat->fD
 |0=>(yS sa 2 Pp).1
 |k+1=>(lC (sK k) 2).1
theorem abn:(yS sa 2 Pp).2=0:=af
theorem aqJ:(lC (sK 0) 2).2=(rep 0,false,0):=af
theorem aqK:(lC (sK 1) 2).2=(rep 0,false,0):=af
theorem aqL:(lC (sK 2) 2).2=(⟨1,⟨#[]⟩,0⟩,true,0):=af
theorem Tk:(sK 3).cX.length=1:=af
theorem abo:(sK 3).w.now=7:=af
theorem AK(k:Nat):gy (1+2*(k:Int)) (sK k)/\(sK k).cX.length<=k:=by
 induction k with
 |zero=>exact⟨(gy.new.gG 2 Pp ⟨ag,ag,ag⟩).mono ab,by show(yS sa 2 Pp).1.cX.length<=0;rw[Hw];exact ay _⟩
 |succ k ih =>
  refine⟨(ih.1.step 2).mono ab,?_⟩;have:=EY (sK k) 2;have:=ih.2;show(lC (sK k) 2).1.cX.length<=k+1;omega
def afX(a:World)(T:Nat)(i:Value)(wr:World):Prop:=∃k:Nat,k<=2/\i=.int .i64 k/\cW none a wr T (sK k)
theorem afY(k:Nat)(i:Nat)(h:((sK k).tab i).does=2)(hk:k<=2):((sK k).tab i).op=Pp:=by
 rcases(show k=0\/k=1\/k=2 from ab)with rfl|rfl|rfl
 ·by_cases e:i=2
  ·subst e;exact absurd h dp
  ·exfalso;have e':¬i=(2:Int).toNat:=e;have:((sK 0).tab i).does=0:=by
    show((if i=(2:Int).toNat then _ else fe:vd)).does=0;rw[aq e'];rfl
   omega
 ·by_cases e:i=2
  ·subst e;rfl
  ·exfalso;have e':¬i=(2:Int).toNat:=e;have:((sK 1).tab i).does=0:=by
    show((if i=(2:Int).toNat then _ else(if i=(2:Int).toNat then _ else fe):vd)).does=0;rw[aq e',aq e'];rfl
   omega
 ·by_cases e:i=2
  ·subst e;exact absurd h dp
  ·exfalso;have e':¬i=(2:Int).toNat:=e;have:((sK 2).tab i).does=0:=by
    show((if i=(2:Int).toNat then _ else(if i=(2:Int).toNat then _ else(if i=(2:Int).toNat then _ else fe)):vd)).does=0;rw[aq e',aq e',aq e'];rfl
   omega
theorem Tl:Pp.right=true:=af
theorem Fa{a:World}{T k:Nat}(hk:k<=2)(ht:kG a)(h:cW none a w T (sK k)):Calls prog 21 #[.pointer (some ⟨T,0,none⟩),.int .i64 2] w (sj none a w T (lC (sK k) 2)) :=
 ME h 2 (k:=1+2*(k:Int)) ab (AK k).1 (by have:=(AK k).2;omega) fun i _ hd V B pv o hs ho hw hf qB=>by
  have e:=afY k i hd hk;have:=QF a.heap.size V B pv _ o hs hw qB ((AK k).1.seen i (Or.inl hd)) a ht (ay _) hf (by rw[ho,e];exact Tl) (by
   have:=ar iz.what (ho.trans e);exact this)
  rw[ho]at this;exact this
theorem Cm(a U:World)(hf:Fr aR a U)(ht:kG a):Calls prog 7 #[] U fun e w'=>e=.returned (.bool true)/\Fr aR a w':=by
 have HT:=O ht;have HN:=O (MB hf);clear ht hf;go_enter func7,ntmps7;go_wp2_with fail
 refine HN.o.mono ?_;rintro e u⟨T,rfl,h0, -⟩;have H0:=O h0;clear HN h0;go_wp2_with fail
 refine(Ai u).mono ?_;rintro e u1⟨rfl,df⟩;unfold gz.cells um;go_wp2_with fail
 refine(Ai u1).mono ?_;rintro e u2⟨rfl,dy⟩;unfold gz.cells um;have hb:=Hs (H0.o.dh (df.trans dy)) 2 abl [] (k:=0) ag gy.new (abm u2) (fun h=>absurd rfl h) ag;rw[afV,afW,abn]at hb;unfold ak0 CD at hb;rw[az rfl]at hb;have HB:=O hb;clear hb H0 df dy;go_wp2_with fail
 refine HB.o.mono ?_;rintro e u3⟨rfl,h3, -⟩;have H3:=O (show cW none a u3 T (sK 0)from h3);clear h3 HB;go_wp2;go_loopw[21] (afX a T) (fun i _=>2-(intOf i).toNat)
 case atStart=>exact⟨0,ab,rfl,H3.o⟩
 case round =>
  obtain⟨k,hk,rfl,hT⟩:=hrel;clear H3;rcases(show k=0\/k=1\/k=2 from ab)with rfl|rfl|rfl
  ·have hs:=Fa ag HT.o hT;unfold sj at hs;rw[aqJ]at hs;have HS:=O hs;clear hs hT;go_wp2_with fail
   refine HS.o.mono ?_;rintro e u4⟨rfl,h4, -⟩;have H4:=O (show cW none a u4 T (sK 1)from h4);clear h4 HS;unfold rep CD;go_wp2;go_roundw
   case rel=>exact⟨1,ab,a_,H4.o.dh ((ae aR u4).alloc _)⟩
   case measure=>simp[intOf]
  ·have hs:=Fa ag HT.o hT;unfold sj at hs;rw[aqK]at hs;have HS:=O hs;clear hs hT;go_wp2_with fail
   refine HS.o.mono ?_;rintro e u4⟨rfl,h4, -⟩;have H4:=O (show cW none a u4 T (sK 2)from h4);clear h4 HS;unfold rep CD;go_wp2;go_roundw
   case rel=>exact⟨2,ab,a_,H4.o.dh ((ae aR u4).alloc _)⟩
   case measure=>simp[intOf]
  ·have hs:=Fa ag HT.o hT;unfold sj at hs;rw[aqL]at hs;have HS:=O hs;clear hs hT;go_wp2_with fail
   refine HS.o.mono ?_;rintro e u4⟨rfl,h4, -⟩;have H4:=O (show cW none a u4 T (sK 3)from h4);clear h4 HS;unfold CD;go_wp2_with fail
   have h5:=H4.o.dh ((ae aR u4).alloc (.cells #[.int .i64 1,.string ⟨#[]⟩,.int .i64 0] 30));have H5:=O h5;have lH:=O (BI h5 (by have:=(AK 3).2;omega));clear h5 H4;refine lH.o.mono ?_;rintro e u5⟨sv,rfl,Yv,lG⟩;obtain⟨es,e1,e2, -⟩:=Yv;obtain⟨asv,csv,Xh⟩:=e2.form;have hel:es.length=1:=by
    have:=ar List.length e1;rw[ai,Tk]at this;exact this
   rw[ai,hel]at Xh;subst Xh;have h6:=H5.o.dh lG;have HW:=O (Hr h6 (AK 3).1.inv);have yX:=O h6.fr;clear e1 e2 hel lG h6 H5 lH;go_wp2_with fail
   refine HW.o.mono ?_;rintro e u6⟨C,qv,rfl,hc,nF, -⟩;have HN:=O (E' _ _ _ _ _ hc);rw[abo]at HN;have Gt:=O (yX.o.trans nF);clear hc nF HW;go_wp2_with fail
   refine HN.o.mono ?_;rintro e u7⟨rfl,rfl⟩;go_wp2;go_ret;exact⟨rfl,Gt.o⟩
theorem xf.dh{w':World}(h:xf w v ms)(hf:Fr aR w w'):xf w' v ms:=⟨bg h.1 hf,h.2.1,fun m hm=>(h.2.2 m hm).dh hf⟩
def JY(ms:List tA):fD:=wY (ms.map tA.dS)
theorem XR(h:vn w v ms)(hl:ms.length<=150):gy 300 (JY ms)/\(JY ms).cX.length<=150:=by
 have:=QN (ms.map tA.dS) (fun m hm=>by
  obtain⟨x,hx,rfl⟩:=bV.1 hm;exact E5 (h.fit x hx))
 rw[ai]at this;exact⟨this.1.mono ab,by have:=this.2;unfold JY;omega⟩
theorem XS(ms:List tA):vD (JY ms):=vD.run _
structure ak5 (u:World) (bk o c:Nat) (es:List (xK×(jG×List gZ))):Prop where
 cell:∀V,Fr aR u V->∀(j:Nat) x,es[j]?=some x->∀(i:Nat) v,(Fo x)[i]?=some v->V.cell? ⟨bk,o+j*28+i,none⟩=some v
 op:∀V,Fr aR u V->∀x∈es,gH V x.2.1 x.2.2
 is:∀x∈es,x.2.1.dS x.2.2=x.1.op
theorem ot.open{base:Nat}{u:World}{sv:Value}{l:List xK}(h:ot base u sv l):∃(es:List (xK×(jG×List gZ))) (av:Option Addr) (c:Nat),es.map (·.1)=l/\sv=.slice av es.length c/\(es=[]\/∃bk o,av=some ⟨bk,o,none⟩/\ak5 u bk o c es):=by
 obtain⟨es,e1,e2,e3⟩:=h;obtain⟨av,c,hv⟩:=e2.form;rw[ai]at hv;refine⟨es,av,c,e1,hv,?_⟩;rcases e2.at.2 with ⟨_,_,_,e,_⟩|⟨bk,o,c',hf,g1,g2,g3,g4⟩
 ·exact Or.inl (by simpa using e)
 ·rw[hv]at hf;injection hf with f1 f2 f3
  refine Or.inr ⟨bk,o,f1,fun V hV j x hx i v hi=>?_,fun V hV x hx=>(e3 x hx).fit.dh hV,fun x hx=>(e3 x hx).is⟩;exact nZ (g4 j (Fo x) (by rw[List.getElem?_map,hx];rfl) i v hi) hV id
