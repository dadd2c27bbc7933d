/- WNew, Attach. -/
import Derived.Test.YtjdmjbdkdmbaiaaGreatDoorPk40
import Derived.Test.YtjdmjbdkdmbaiaaGreatDoorPk35
set_option maxRecDepth 100000
set_option maxHeartbeats 16000000
set_option linter.unusedSimpArgs false
namespace Go.Proofs.YtjdmjbdkdmbaiaaGreatDoor
open Go.RowKit
def H_(n i:Nat):bB:=⟨n+1+2*i,.slice none 0 0,.slice none 0 0,n+2+2*i,.slice none 0 0,.slice none 0 0⟩
def VJ(n k i:Nat):List Value:=if i<k then(H_ n i).cells else [.pointer none,.pointer none,.slice none 0 0]
def Mu(n k:Nat):List Value:=VJ n k 0++(VJ n k 1++(VJ n k 2++(VJ n k 3++[.int .i64 0])))
structure za (w:World) (k:Nat) (W:World):Prop where
 fr:Fr ay w W
 cR:W.heap[w.heap.size]?=some (.cells (Mu w.heap.size k).toArray 105 (0,0))
 gK:∀i,i<k->W.heap[w.heap.size+1+2*i]?=some (.cells #[.slice none 0 0,.slice none 0 0] 139 (0,0))
 book:∀i,i<k->W.heap[w.heap.size+2+2*i]?=some (.cells #[.slice none 0 0] 141 (0,0))
 size:W.heap.size=w.heap.size+1+2*k
theorem Mv(n k:Nat)(hk:k<4):(((Mu n k).set (k*3) (.pointer (some ⟨n+1+2*k,0,none⟩))).set (k*3+1) (.pointer (some ⟨n+2+2*k,0,none⟩))).set (k*3+2) (.slice none 0 0)=Mu n (k+1):=by
 match k,hk with
 |0,_=>rfl
 |1,_=>rfl
 |2,_=>rfl
 |3,_=>rfl
theorem za.step{w W:World}{k:Nat}(h:za w k W)(hk:k<4):za w (k+1) (((((W.alloc (.cells #[.slice none 0 0,.slice none 0 0] 139)).alloc (.cells #[.slice none 0 0] 141)).setCell ⟨w.heap.size,k*3,none⟩ (.pointer (some ⟨W.heap.size,0,none⟩))).setCell ⟨w.heap.size,k*3+1,none⟩ (.pointer (some ⟨W.heap.size+1,0,none⟩))).setCell ⟨w.heap.size,k*3+2,none⟩ (.slice none 0 0)):=by
 obtain⟨V,hV⟩:∃V,V=(W.alloc (.cells #[.slice none 0 0,.slice none 0 0] 139)).alloc (.cells #[.slice none 0 0] 141):=⟨_,rfl⟩;have hf:Fr ay W V:=by rw[hV];exact((Fr.refl ay W).alloc _).alloc _
 have ry:V.heap[W.heap.size]?=some (.cells #[.slice none 0 0,.slice none 0 0] 139 (0,0)):=by rw[hV];exact((Fr.refl ay _).alloc _).keep (af _ _) (fun h=>h)
 have tS:V.heap[W.heap.size+1]?=some (.cells #[.slice none 0 0] 141 (0,0)):=by
  have h:=af (W.alloc (.cells #[.slice none 0 0,.slice none 0 0] 139)) (.cells #[.slice none 0 0] 141);rw[World.size_alloc]at h;rw[hV];exact h
 have hvs:V.heap.size=W.heap.size+2:=by rw[hV];simp
 rw[<-hV];have o7:=hf.keep h.cR (fun h=>h);have M3:Fr (one w.heap.size) V (((V.setCell ⟨w.heap.size,k*3,none⟩ (.pointer (some ⟨W.heap.size,0,none⟩))).setCell ⟨w.heap.size,k*3+1,none⟩ (.pointer (some ⟨W.heap.size+1,0,none⟩))).setCell ⟨w.heap.size,k*3+2,none⟩ (.slice none 0 0)) :=
  (((Fr.refl (one w.heap.size) V).setCell (p:=⟨w.heap.size,k*3,none⟩) (fun _=>rfl) _).setCell (p:=⟨w.heap.size,k*3+1,none⟩) (fun _=>rfl) _).setCell (p:=⟨w.heap.size,k*3+2,none⟩) (fun _=>rfl) _
 have e1:=aP o7 (k*3) (.pointer (some ⟨W.heap.size,0,none⟩));have e2:=aP e1 (k*3+1) (.pointer (some ⟨W.heap.size+1,0,none⟩));have e3:=aP e2 (k*3+2) (.slice none 0 0);have mz:=h.size;have JA:=Mv w.heap.size k hk;rw[show w.heap.size+1+2*k=W.heap.size by omega,show w.heap.size+2+2*k=W.heap.size+1 by omega]at JA;refine⟨?_,?_,fun i hi=>?_,fun i hi=>?_,?_⟩
 ·exact(((h.fr.trans hf).dI (p:=⟨w.heap.size,k*3,none⟩) (Nat.le_refl _) _).dI (p:=⟨w.heap.size,k*3+1,none⟩) (Nat.le_refl _) _).dI (p:=⟨w.heap.size,k*3+2,none⟩) (Nat.le_refl _) _
 ·rw[e3, <-JA];simp
 ·refine M3.keep ?_ (fun e=>by have e':w.heap.size+1+2*i=w.heap.size:=e;omega);by_cases YS:i<k
  ·exact hf.keep (h.gK i YS) (fun h=>h)
  ·rw[show w.heap.size+1+2*i=W.heap.size by omega];exact ry
 ·refine M3.keep ?_ (fun e=>by have e':w.heap.size+2+2*i=w.heap.size:=e;omega);by_cases YS:i<k
  ·exact hf.keep (h.book i YS) (fun h=>h)
  ·rw[show w.heap.size+2+2*i=W.heap.size+1 by omega];exact tS
 ·have e:(((V.setCell ⟨w.heap.size,k*3,none⟩ (.pointer (some ⟨W.heap.size,0,none⟩))).setCell ⟨w.heap.size,k*3+1,none⟩ (.pointer (some ⟨W.heap.size+1,0,none⟩))).setCell ⟨w.heap.size,k*3+2,none⟩ (.slice none 0 0)).heap.size=V.heap.size:=by simp[World.setCell]
  rw[e];omega
theorem za.done{base:Nat}{w W:World}(h:za w 4 W)(hb:base<=w.heap.size):aR base W w.heap.size (H_ w.heap.size) yD:=by
 refine⟨hb,h.cR,fun i hi=>⟨⟨?_,h.gK i hi,⟨[],OwnRows.nil _ _ _ _,.nil⟩,⟨[],OwnRows.nil _ _ _ _,.nil⟩⟩,⟨?_,h.book i hi,OwnRows.nil _ _ _ _⟩,OwnRows.nil _ _ _ _⟩,fun i j hi hj hij k hk Zw=>?_⟩
 ·show base<=w.heap.size+1+2*i;omega
 ·show base<=w.heap.size+2+2*i;omega
 ·have key:∀a,(H_ w.heap.size a).gL k->k=w.heap.size+1+2*a\/k=w.heap.size+2+2*a:=by
   rintro a(q|q|q)
   ·rcases q with q|q|q
    ·exact Or.inl q
    ·simp[H_,own,Value.ownBlock]at q
    ·simp[H_,own,Value.ownBlock]at q
   ·rcases q with q|q
    ·exact Or.inr q
    ·simp[H_,own,Value.ownBlock]at q
   ·simp[H_,own,Value.ownBlock]at q
  have h1:=key i hk;have h2:=key j Zw;omega
def ai1(w:World)(t:Value)(wr:World):Prop:=∃k:Nat,k<=4/\t=.int .i64 k/\za w k wr
theorem J5(w:World):Calls Tryz.prog 35 #[] w fun e w'=>∃B pv,e=.returned (.pointer (some ⟨B,0,none⟩))/\(∀base,base<=w.heap.size->aR base w' B pv yD)/\Fr ay w w':=by
 have h0:za w 0 (w.alloc (.cells #[.pointer none,.pointer none,.slice none 0 0,.pointer none,.pointer none,.slice none 0 0,.pointer none,.pointer none,.slice none 0 0,.pointer none,.pointer none,.slice none 0 0,.int .i64 0] 105)) :=
  ⟨(Fr.refl ay w).alloc _,af _ _,fun i hi=>absurd hi (Nat.not_lt_zero i),fun i hi=>absurd hi (Nat.not_lt_zero i),by simp⟩
 have H0:=O h0;clear h0;go_enter Tryz.func35,Tryz.ntmps35;go_wp2_with fail
 go_loopw[5] (ai1 w) (fun i _=>4-(intOf i).toNat)
 case atStart=>exact⟨0,Nat.zero_le _,rfl,H0.out⟩
 case round =>
  obtain⟨k,hk,rfl,hn⟩:=hrel;by_cases cG:k<4
  ·have lf:(k:Int)<4:=by omega
   have HN:=O (hn.step cG);have hb:=hn.cR;have zo:w.heap.size<wr.heap.size:=aj hb;have U8:¬(k:Int)<0:=by omega
   have ax4:(0:Int)<=(k:Int):=by omega
   have Fy:=(((Fr.refl ay wr).alloc (.cells #[.slice none 0 0,.slice none 0 0] 139)).alloc (.cells #[.slice none 0 0] 141)).keep hb (fun h=>h);obtain⟨q0,q1,q2⟩:(Mu w.heap.size k)[k*3]?=some (.pointer none)/\(Mu w.heap.size k)[k*3+1]?=some (.pointer none)/\(Mu w.heap.size k)[k*3+2]?=some (.slice none 0 0):=by
    match k,cG with
    |0,_=>exact⟨rfl,rfl,rfl⟩
    |1,_=>exact⟨rfl,rfl,rfl⟩
    |2,_=>exact⟨rfl,rfl,rfl⟩
    |3,_=>exact⟨rfl,rfl,rfl⟩
   have c0:((wr.alloc (.cells #[.slice none 0 0,.slice none 0 0] 139)).alloc (.cells #[.slice none 0 0] 141)).cell? ⟨w.heap.size,k*3,none⟩=some (.pointer none):=by simp[World.cell?,Fy,q0]
   have c1:((wr.alloc (.cells #[.slice none 0 0,.slice none 0 0] 139)).alloc (.cells #[.slice none 0 0] 141)).cell? ⟨w.heap.size,k*3+1,none⟩=some (.pointer none):=by simp[World.cell?,Fy,q1]
   have c2:((wr.alloc (.cells #[.slice none 0 0,.slice none 0 0] 139)).alloc (.cells #[.slice none 0 0] 141)).cell? ⟨w.heap.size,k*3+2,none⟩=some (.slice none 0 0):=by simp[World.cell?,Fy,q2]
   have f0:∀j,((wr.alloc (.cells #[.slice none 0 0,.slice none 0 0] 139)).alloc (.cells #[.slice none 0 0] 141)).frozen? ⟨w.heap.size,j,none⟩=false:=fun j=>by simp[World.frozen?,Fy]
   have f1:=f0 (k*3);have f2:=f0 (k*3+1);have f3:=f0 (k*3+2);have hx:=HN;clear hn H0 Fy q0 q1 q2 f0 hb;go_wp2_with (first|((with_reducible refine ag ⟨none,.store 102 _ _,_,_,_,_⟩ ?_);have Hy:=hx;clear hx Hy;go_must(generalize (wr.alloc (.cells #[.slice none 0 0,.slice none 0 0] 139)).alloc (.cells #[.slice none 0 0] 141)=W5 at *))|fail)
   go_roundw
   case rel=>exact⟨k+1,by omega,by go_num,HN.out⟩
   case measure=>simp[intOf];omega
  ·have MU:k=4:=by omega
   subst MU;have HD:=O (fun base hb=>hn.done (base:=base) hb);have py:=O hn.fr;clear hn H0;go_wp2;go_ret;exact⟨_,_,rfl,HD.out,py.out⟩
structure qT (w:World):Prop where
 db:iu w 9 .u8 Gr
 md:kX w
 sh:kZ w
theorem qT.fr{w w':World}(h:qT w)(hf:Fr ay w w'):qT w':=⟨h.db.fr hf,h.md.fr hf,h.sh.fr hf⟩
def ah0(u:Except Nat (ai aF)):Value:=match u with| .ok _=>.nilIface| .error n=>.iface 116 (.int .i64 n)
theorem lC.one{base:Nat}{w:World}{b:Nat}{gv wv:Value}{ws:List (aG aF)}{u:List (ai aF)×Except Nat (ai aF)}{e:Ending}{w':World}(h:lC base w b gv wv ws u e w') :
  fj base w b gv wv u.1 ws w'/\∃X:Array Value,e=.returned (.tuple #[.agg X,ah0 u.2])/\X.size=16/\X.all (·.oneCell')=true/\∀x,u.2=.ok x->∃r:ai Value,X=r.cells.toArray/\r.Reads (aS base w') x:=by
 obtain⟨h1,h2⟩:=h;refine⟨h1,?_⟩;cases hu:u.2 with
 |error n=>rw[hu]at h2;exact⟨bZ,h2,rfl,by decide +kernel,fun x hx=>by cases hx⟩
 |ok g =>
  rw[hu]at h2;obtain⟨r,e1,e2,e3⟩:=h2;exact⟨r.cells.toArray,e1,rfl,all_oneCell_toArray e3,fun x hx=>by cases hx;exact⟨r,rfl,e2⟩⟩
theorem yS{X:Array Value}(h:X.size=16):(Tryz.prog.info? 49).map (·.size)=some X.size:=by rw[h];kernel_rfl
def AtJ(base:Nat)(w2:World)(B off:Nat)(cs:List Value)(v:bB)(p:bH)(x:Except Nat (ai aF))(n:Nat)(X:Array Value)(W:World):Prop :=
 mW base w2 B off cs v p n X 49 W/\∀g,x=.ok g->∃r:ai Value,X=r.cells.toArray/\r.Reads (aS base W) g
theorem Hh{g:ai aF}{o:ib}{U:World}(h1:g.a.scheme=1)(h:jT g o=none)(hu:g.user.size<=100000)(hp:g.pass.size<=100000) :
  Calls Tryz.prog 84 #[.agg #[.string g.user,.string g.pass]] U fun e w'=>(∃t v,e=.returned (.tuple #[.string ⟨#[]⟩,.iface t v]))/\Fr ay U w':=by
 refine(Az g.user g.pass U hu hp).mono ?_;rintro e u⟨hb,hf⟩;refine⟨?_,hf⟩;unfold jT at h;rw[if_pos h1]at h;unfold im at hb;by_cases hc:0<=Lib.indexByte g.user.data.toList 58
 ·rw[if_pos hc]at hb;exact⟨_,_,hb⟩
 ·rw[if_neg hc]at hb h;cases hq:(fY g.user&&fY g.pass)
  ·rw[hq]at hb;exact⟨_,_,hb⟩
  ·rw[hq]at h;cases h
theorem Hi{g:ai aF}{o:ib}{s:ByteArray}{U:World}(h1:g.a.scheme=1)(h:jT g o=some s)(hu:g.user.size<=100000)(hp:g.pass.size<=100000) :
  Calls Tryz.prog 84 #[.agg #[.string g.user,.string g.pass]] U fun e w'=>e=.returned (.tuple #[.string s,.nilIface])/\Fr ay U w':=by
 refine(Az g.user g.pass U hu hp).mono ?_;rintro e u⟨hb,hf⟩;refine⟨?_,hf⟩;unfold jT at h;rw[if_pos h1]at h;unfold im at hb;by_cases hc:0<=Lib.indexByte g.user.data.toList 58
 ·rw[if_pos hc]at h;cases h
 ·rw[if_neg hc]at hb h;cases hq:(fY g.user&&fY g.pass)
  ·rw[hq]at h;cases h
  ·rw[hq]at hb h;cases h;exact hb
section
variable {g : ai aF} {o : ib} {s : ByteArray} {U : World} {dom : Value}
theorem PV(bG:dom.oneCell'=true)(hg:Pr g)(hm:(eD o.method).size<=5000)(ht:(iZ o.path o.query).size<=5000)(hb:o.body.size<=5000)(hc:o.aB.size<=5000)(hT:qT U) :
  Calls Tryz.prog 44 #[.agg #[.int .i64 g.a.scheme,.string g.a.ar,.string g.a.aE,.string g.a.aK,.bool g.a.aL,.string g.a.bU,.bool g.a.aX,dom],.agg #[.string g.user,.string g.pass],.string (eD o.method),.string (iZ o.path o.query),.string o.body,.string o.aB,.int .i64 g.count] U (jX g.a.scheme g.a.aK (o.UP g) g.count U):=by
 obtain⟨⟨a1,a2,a3,a4⟩,a5,a6⟩:=hg;exact LR g.a.scheme g.a.ar g.a.aE g.a.aK g.a.bU g.user g.pass (eD o.method) (iZ o.path o.query) o.body o.aB g.a.aL g.a.aX dom g.count U bG (by omega) (by omega) (by omega) a5 a6 hm ht hb hc hT.db (PN _ _ hT.md hT.sh)
theorem PW(h1:¬g.a.scheme=1)(h:jT g o=none){e:Ending}{w':World}(hd:jX g.a.scheme g.a.aK (o.UP g) g.count U e w'):(∃t v,e=.returned (.tuple #[.string ⟨#[]⟩,.iface t v]))/\Fr ay U w':=by
 unfold jT at h;rw[if_neg h1]at h;obtain⟨hf,hd⟩:=hd;refine⟨?_,hf⟩;rcases hd with ⟨_,hd⟩|⟨hg,_⟩
 ·exact hd
 ·split at h
  ·cases h
  ·rename_i hn;exact absurd hg hn
theorem PX(h1:¬g.a.scheme=1)(h:jT g o=some s){e:Ending}{w':World}(hd:jX g.a.scheme g.a.aK (o.UP g) g.count U e w'):e=.returned (.tuple #[.string s,.nilIface])/\Fr ay U w':=by
 unfold jT at h;rw[if_neg h1]at h;obtain⟨hf,hd⟩:=hd;refine⟨?_,hf⟩;rcases hd with ⟨hg,_⟩|⟨hg,hd⟩
 ·split at h
  ·rename_i hc;exact absurd hc hg
  ·cases h
 ·split at h
  ·cases h;exact hd
  ·rename_i hn;exact absurd hg hn
end
theorem L7(s:ByteArray)(h:s.size<=5000):(eD s).size<=5000:=by
 rcases tj dP s with ⟨h1,_⟩|h1
 ·have:=(show∀x∈dP,x.size<=5000 by decide) _ h1;exact this
 ·show(iM dP s).size<=5000;rw[h1];exact h
theorem L_(p q:ByteArray)(h:p.size<=2000)(h2:q.size<=2000):(iZ p q).size<=5000:=by
 unfold iZ;split
 ·omega
 ·rw[ByteArray.size_append,ByteArray.size_append,show(ByteArray.mk #[63]).size=1 from rfl];omega
theorem Hj(base:Nat)(w:World)(B off:Nat)(cs:List Value)(v:bB)(p:bH)(o:ei)(hs:List dW)(h:cC base w v p)(ha:cD w B cs off v)(ku:base<=B)(hf:bg w o hs)(hk:jh p)(kz:nn p)(a:World)(mq:qT a)(mo:a.heap.size<=base)(mr:Fr ay a w) :
  Calls Tryz.prog 54 #[.pointer (some ⟨B,off,none⟩),.agg o.cells.toArray] w (bL base w B cs off v (ft p (o.bF hs))):=by
 have qR:B<w.heap.size:=aj ha.cR;have Bd:¬v.gL B:=h.bX ha.cR (by decide);obtain⟨ah,ch,df⟩:=hf.eJ;obtain⟨w2,bK⟩:∃w2,w2=(w.alloc (.cells o.cells.toArray 33)).alloc (.cells aM 39):=⟨_,rfl⟩;have bq:Fr ay w w2:=by rw[bK];exact((Fr.refl ay w).alloc _).alloc _
 have k1:w2.heap[w.heap.size]?=some (.cells o.cells.toArray 33 (0,0)):=by rw[bK];exact((Fr.refl ay _).alloc _).keep (af _ _) (fun h=>h)
 have k2:w2.heap[w.heap.size+1]?=some (.cells aM 39 (0,0)):=by
  have h:=af (w.alloc (.cells o.cells.toArray 33)) (.cells aM 39);rw[World.size_alloc]at h;rw[bK];exact h
 have qV:w2.heap.size=w.heap.size+2:=by rw[bK];simp
 have PY:=O (show∀U,Fr ay w2 U->U.heap[w.heap.size]?=some (.cells o.cells.toArray 33 (0,0))from fun U hU=>hU.keep k1 (fun h=>h));have xk:=O Bd;have HH:=O h;have HA:=O ha;have HF:=O hf;have fX:=O df;have HK:=O hk;have dk:=O bq;have iw:=O k1;have mX:=O k2;have j6:=O (show base<=w.heap.size by omega);have q_:=O ku;have j8:=O qR;have LQ:=O bK
 obtain⟨a0,a1,a2,a3,a4,a5,a6,a7,a8,a9,eK,eL,a12,eH,eM,eC,eW,eX,eY,fc,a20,a21⟩:=bJ k1 df;rw[bK]at a0 a1 a2 a3 a4 a5 a6 a7 a8 a9 eK eL a12 eH eM eC eW eX eY fc a20 a21;rw[aZ df]at bK a0 a1 a2 a3 a4 a5 a6 a7 a8 a9 eK eL a12 eH eM eC eW eX eY fc a20 a21 ⊢;unfold aM at bK a0 a1 a2 a3 a4 a5 a6 a7 a8 a9 eK eL a12 eH eM eC eW eX eY fc a20 a21;have ka:=O bK;clear bK df bq k1 k2 h ha hf Bd hk
 obtain⟨x3,CU⟩:∃x3,x3=w2.alloc (.cells #[.int .i64 o.ab.part,.bool o.ab.aI.ae,.string o.ab.aI.host,.int .i64 o.ab.aI.port,.bool o.ab.o.ae,.string o.ab.o.host,.int .i64 o.ab.o.port,.string o.ab.path,.string o.ab.query,.string o.ab.method,.slice ah hs.length ch,.bool o.ab.bP,.string o.ab.body] 29):=⟨_,rfl⟩;have Vs:Fr ay w2 x3:=by rw[CU];exact(Fr.refl _ _).alloc _
 have Uq:x3.heap[w.heap.size+2]?=some (.cells #[.int .i64 o.ab.part,.bool o.ab.aI.ae,.string o.ab.aI.host,.int .i64 o.ab.aI.port,.bool o.ab.o.ae,.string o.ab.o.host,.int .i64 o.ab.o.port,.string o.ab.path,.string o.ab.query,.string o.ab.method,.slice ah hs.length ch,.bool o.ab.bP,.string o.ab.body] 29 (0,0)):=by
  have h:=af w2 (.cells #[.int .i64 o.ab.part,.bool o.ab.aI.ae,.string o.ab.aI.host,.int .i64 o.ab.aI.port,.bool o.ab.o.ae,.string o.ab.o.host,.int .i64 o.ab.o.port,.string o.ab.path,.string o.ab.query,.string o.ab.method,.slice ah hs.length ch,.bool o.ab.bP,.string o.ab.body] 29);rw[qV]at h;rw[CU];exact h
 have Hk:x3.heap.size=w.heap.size+3:=by rw[CU];simp;omega
 have dV:=O (dk.out.trans Vs);have HQ3:=O Uq;have Vt:=O CU;have H3:=O (HH.out.bd dV.out);have A3:=O (HA.out.bd dV.out);have KO:=O (Vs.keep iw.out (fun h=>h));have KR:=O (Vs.keep mX.out (fun h=>h));have Hl:=O (mr.trans dV.out);have L':=O mq;have HSM:=O kz;have axo:=O Hk;have Ma:=HK.out.xc;clear CU Vs Uq mq kz mr;go_enter Tryz.func54,Tryz.ntmps54
 have HC:=O (show∀U,Fr (aY v.b v.gv v.wv) x3 U->(U.cell? ⟨B,off,none⟩=some (.pointer (some ⟨v.b,0,none⟩))/\U.cell? ⟨w.heap.size+2,4,none⟩=some (.bool o.ab.o.ae)/\U.cell? ⟨w.heap.size+2,5,none⟩=some (.string o.ab.o.host)/\U.cell? ⟨w.heap.size+2,6,none⟩=some (.int .i64 o.ab.o.port)/\U.cell? ⟨w.heap.size+2,7,none⟩=some (.string o.ab.path)/\U.cell? ⟨w.heap.size,14,none⟩=some (.bool o.proxy))from fun U hU=>by
  have j1:=A3.out.fr hU (fun hb=>xk.out (Or.inl hb));have j2:=hU.keep HQ3.out (fun hb=>H3.out.bX HQ3.out A_ (Or.inl hb));have j3:=hU.keep KO.out (fun hb=>H3.out.bX KO.out aO (Or.inl hb));obtain⟨a0,a1,a2,a3,a4,a5,a6,a7,a8,a9,eK,eL,a12,eH,eM,eC,eW,eX,eY,fc,a20,a21⟩:=bJ j3 fX.out;refine⟨j1.cell0,?_,?_,?_,?_,eM⟩<;>simp[World.cell?,j2])
 have HUS:=O (show∀U,Fr ay x3 U->Calls Tryz.prog 108 #[.pointer (some ⟨v.b,0,none⟩),.agg #[.bool o.ab.o.ae,.string o.ab.o.host,.int .i64 o.ab.o.port],.bool o.proxy,.string o.ab.path] U (lC base U v.b v.gv v.wv p.waits (mD p.aH o.ab.o o.proxy o.ab.path))from fun U hU=>UG base U v.b v.gv v.wv p.aH p.waits o.ab.o o.proxy o.ab.path (H3.out.bd hU).gK (by omega) HK.out.nat)
 obtain⟨us,hus⟩:∃us,us=mD p.aH o.ab.o o.proxy o.ab.path:=⟨_,rfl⟩;rw[<-hus]at HUS;have HUE:=O hus;obtain⟨ev,hev⟩:∃ev,ev=ah0 us.2:=⟨_,rfl⟩;have HEV:=O hev;have ah2:=O (show base<=x3.heap.size from Nat.le_trans j6.out dV.out.size);have ah3:=O (show B<x3.heap.size from Nat.lt_of_lt_of_le j8.out dV.out.size);have mE:=ka.out;clear hus hev qV Hk;go_wp2_with fail
 rw[<-mE, <-Vt.out];clear a0 a1 a2 a3 a4 a5 a6 a7 a8 a9 eK eL a12 eH eM eC eW eX eY fc a20 a21 mE;apply PE (P:=AtJ base x3 B off cs v {p with aH:=us.1} us.2)
 ·intro hJ;have HJ:=O hJ;clear hJ
  refine wp_region_held_drew (S:=(fun U=>U.cell? ⟨B,off,none⟩=some (.pointer (some ⟨v.b,0,none⟩))/\U.cell? ⟨w.heap.size+2,4,none⟩=some (.bool o.ab.o.ae)/\U.cell? ⟨w.heap.size+2,5,none⟩=some (.string o.ab.o.host)/\U.cell? ⟨w.heap.size+2,6,none⟩=some (.int .i64 o.ab.o.port)/\U.cell? ⟨w.heap.size+2,7,none⟩=some (.string o.ab.path)/\U.cell? ⟨w.heap.size,14,none⟩=some (.bool o.proxy))) (by kernel_rfl) (HC.out _ (Fr.drew (Fr.refl _ _))) ?_
  intro cW;refine tk 0 ⟨some 12,_,_,_,_,_⟩ (v:=?_) rfl (by rfl) ?hy ?_
  case hy=>(intro w hSw;(try dsimp only at hSw);go_simp<;>with_reducible rfl)
  try simp only[Act.put,sA,sB,sC]
  refine tk 1 ⟨some 13,_,_,_,_,_⟩ (v:=?_) rfl (by rfl) ?hy ?_
  case hy=>(intro w hSw;(try dsimp only at hSw);go_simp<;>with_reducible rfl)
  try simp only[Act.put,sA,sB,sC]
  refine tk 2 ⟨some 14,_,_,_,_,_⟩ (v:=?_) rfl (by rfl) ?hy ?_
  case hy=>(intro w hSw;(try dsimp only at hSw);go_simp<;>with_reducible rfl)
  try simp only[Act.put,sA,sB,sC]
  refine tk 3 ⟨some 15,_,_,_,_,_⟩ (v:=?_) rfl (by rfl) ?hy ?_
  case hy=>(intro w hSw;(try dsimp only at hSw);go_simp<;>with_reducible rfl)
  try simp only[Act.put,sA,sB,sC]
  refine tk 4 ⟨some 16,_,_,_,_,_⟩ (v:=?_) rfl (by rfl) ?hy ?_
  case hy=>(intro w hSw;(try dsimp only at hSw);go_simp<;>with_reducible rfl)
  try simp only[Act.put,sA,sB,sC]
  refine tk 5 ⟨some 17,_,_,_,_,_⟩ (v:=?_) rfl (by rfl) ?hy ?_
  case hy=>(intro w hSw;(try dsimp only at hSw);go_simp<;>with_reducible rfl)
  try simp only[Act.put,sA,sB,sC]
  refine tk 6 ⟨some 18,_,_,_,_,_⟩ (v:=?_) rfl (by rfl) ?hy ?_
  case hy=>(intro w hSw;(try dsimp only at hSw);go_simp<;>with_reducible rfl)
  try simp only[Act.put,sA,sB,sC]
  refine tk 7 ⟨some 19,_,_,_,_,_⟩ (v:=?_) rfl (by rfl) ?hy ?_
  case hy=>(intro w hSw;(try dsimp only at hSw);go_simp<;>with_reducible rfl)
  try simp only[Act.put,sA,sB,sC]
  refine tk 8 ⟨some 20,_,_,_,_,_⟩ (v:=?_) rfl (by rfl) ?hy ?_
  case hy=>(intro w hSw;(try dsimp only at hSw);go_simp<;>with_reducible rfl)
  try simp only[Act.put,sA,sB,sC]
  refine tk 9 ⟨some 21,_,_,_,_,_⟩ (v:=?_) rfl (by rfl) ?hy ?_
  case hy=>(intro w hSw;(try dsimp only at hSw);go_simp<;>with_reducible rfl)
  try simp only[Act.put,sA,sB,sC]
  refine tk 10 ⟨some 22,_,_,_,_,_⟩ (v:=?_) rfl (by rfl) ?hy ?_
  case hy=>(intro w hSw;(try dsimp only at hSw);go_simp<;>with_reducible rfl)
  try simp only[Act.put,sA,sB,sC]
  refine tk 11 ⟨some 23,_,_,_,_,_⟩ (v:=?_) rfl (by rfl) ?hy ?_
  case hy=>(intro w hSw;(try dsimp only at hSw);go_simp<;>with_reducible rfl)
  try simp only[Act.put,sA,sB,sC]
  refine wpAnyH_ready (rs:=[12,16]) (by kernel_rfl) (by simp) ?_;refine AllReadyH.cons rfl (fun K hK=>?_) (AllReadyH.cons rfl (fun K hK=>?_) AllReadyH.nil)
  ·go_simp;refine(HUS.out _ (Fr.drew (Fr.refl _ _))).mono ?_;rintro e u3 EX;obtain⟨jQ,X,rfl,EY,EZ,yH⟩:=lC.one EX;rw[<-HEV.out];have zK:=O jQ;have HX:=O (And.intro EY (And.intro EZ yH));have qp:Fr (aY v.b v.gv v.wv) x3 u3:=(Fr.drew (Fr.refl _ _)).trans (by obtain⟨_,_,_,h,_⟩:=jQ;exact h);have vt:=O qp;clear EX jQ EY EZ yH qp;refine hK.out _ _ (HC.out _ vt.out) ?_;intro CY;clear hK cW K
   try simp only[Act.put,sA,sB,sC]
   refine tk 13 ⟨some 11,_,_,_,_,_⟩ (v:=?_) rfl (by rfl) ?hy ?_
   case hy=>(intro w hSw;(try dsimp only at hSw);go_simp<;>with_reducible rfl)
   try simp only[Act.put,sA,sB,sC]
   refine tk 14 ⟨some 25,_,_,_,_,_⟩ (v:=?_) rfl (by rfl) ?hy ?_
   case hy=>(intro w hSw;(try dsimp only at hSw);go_simp<;>with_reducible rfl)
   try simp only[Act.put,sA,sB,sC]
   refine tk 15 ⟨some 26,_,_,_,_,_⟩ (v:=?_) rfl (by rfl) ?hy ?_
   case hy=>(intro w hSw;(try dsimp only at hSw);go_simp<;>with_reducible rfl)
   try simp only[Act.put,sA,sB,sC]
   refine wpAnyH_ready (rs:=[16]) (by kernel_rfl) (by simp) ?_;refine AllReadyH.cons rfl (fun K hK=>?_) AllReadyH.nil;go_simp;obtain⟨n,hne⟩:∃n,n=u3.heap.size:=⟨_,rfl⟩;obtain⟨w4,cY⟩:∃w4,w4=u3.alloc (.cells bZ 49):=⟨_,rfl⟩;have ix:w4.heap[n]?=some (.cells bZ 49 (0,0)):=by rw[cY,hne];exact af _ _
   have bT:Fr (aY v.b v.gv v.wv) x3 w4:=by rw[cY];exact vt.out.alloc _
   have Vu:=O ix;have fu:=O bT;have Tc:=O cY;have wY:=O hne;rw[<-cY, <-hne];clear cY hne ix bT;refine hK.out _ _ (HC.out _ fu.out) ?_;intro G_;clear hK CY K
   try simp only[Act.put,sA,sB,sC]
   refine wpAnyH_ready (rs:=[17]) (by kernel_rfl) (by simp) ?_;refine AllReadyH.cons rfl (fun K hK=>?_) AllReadyH.nil;refine aJ rfl 49 (.tmp 6) (.tmp 25) rfl n X rfl rfl 49 bZ Vu.out (yS HX.out.1) HX.out.1.symm HX.out.2.1 ?_;obtain⟨W,hW⟩:∃W,W=w4.setRow n X:=⟨_,rfl⟩;have wB:Fr (aY v.b v.gv v.wv) x3 W:=by rw[hW];exact jv fu.out (by rw[wY.out];exact vt.out.size) _
   have hP:=mW.after (z:=bZ) (aA.after (Fr.drew (Fr.refl ay x3)) (aA.gK (H3.out.bd (Fr.drew (Fr.refl ay x3))) (A3.out.bd (Fr.drew (Fr.refl ay x3))) xk.out zK.out)) ah2.out ah3.out (t:=49) (by decide) X;rw[<-Tc.out, <-wY.out, <-hW]at hP;rw[<-hW];refine hK.out _ _ (HC.out _ wB) ?_;intro PZ;clear hK G_ K
   try simp only[Act.put,sA,sB,sC]
   refine tk 18 ⟨some 7,_,_,_,_,_⟩ (v:=?_) rfl (by rfl) ?hy ?_
   case hy=>(intro w hSw;(try dsimp only at hSw);go_simp<;>with_reducible rfl)
   try simp only[Act.put,sA,sB,sC]
   clear PZ;refine wpAnyH_done (by kernel_rfl) ?_ _;exact HJ.out n X W ⟨hP.1,fun g hg=>by
    obtain⟨r,e1,e2⟩:=HX.out.2.2 g hg;exact⟨r,e1,e2.mono (fun v l h=>hP.2 v l h)⟩⟩
  ·go_simp;obtain⟨n,hne⟩:∃n,n=x3.heap.size:=⟨_,rfl⟩;obtain⟨w4,cY⟩:∃w4,w4=(x3.alloc (.cells bZ 49)).drew:=⟨_,rfl⟩;have ix:w4.heap[n]?=some (.cells bZ 49 (0,0)):=by rw[cY,hne];exact af x3 _
   have bT:Fr ay x3 w4:=by rw[cY];exact((Fr.refl _ _).alloc _).drew
   have Vu:=O ix;have fu:=O bT;have wY:=O (show x3.heap.size<=n by omega);rw[<-cY, <-hne];clear cY hne ix bT;refine hK.out _ _ (HC.out _ (fu.out.mono (fun _ _ h=>absurd h (fun h=>h)))) ?_;intro CY;clear hK cW K
   try simp only[Act.put,sA,sB,sC]
   refine wpAnyH_ready (rs:=[12]) (by kernel_rfl) (by simp) ?_;refine AllReadyH.cons rfl (fun K hK=>?_) AllReadyH.nil;go_simp;refine(HUS.out _ fu.out).mono ?_;rintro e u3 EX;obtain⟨jQ,X,rfl,EY,EZ,yH⟩:=lC.one EX;rw[<-HEV.out];have zK:=O jQ;have HX:=O (And.intro EY (And.intro EZ yH))
   have qp:Fr (aY v.b v.gv v.wv) x3 u3:=(fu.out.mono (fun _ _ h=>absurd h (fun h=>h))).trans (by obtain⟨_,_,_,h,_⟩:=jQ;exact h);have Jb:u3.heap[n]?=some (.cells bZ 49 (0,0)):=(show Fr (aY v.b v.gv v.wv) w4 u3 by obtain⟨_,_,_,h,_⟩:=jQ;exact h).keep Vu.out (fun hb=>by have:=H3.out.fO (Or.inl hb);have:=wY.out;omega);have vt:=O qp;have HZ3:=O Jb;clear EX jQ EY EZ yH qp Jb
   refine hK.out _ _ (HC.out _ vt.out) ?_;intro G_;clear hK CY K
   try simp only[Act.put,sA,sB,sC]
   refine tk 13 ⟨some 11,_,_,_,_,_⟩ (v:=?_) rfl (by rfl) ?hy ?_
   case hy=>(intro w hSw;(try dsimp only at hSw);go_simp<;>with_reducible rfl)
   try simp only[Act.put,sA,sB,sC]
   refine tk 14 ⟨some 25,_,_,_,_,_⟩ (v:=?_) rfl (by rfl) ?hy ?_
   case hy=>(intro w hSw;(try dsimp only at hSw);go_simp<;>with_reducible rfl)
   try simp only[Act.put,sA,sB,sC]
   refine tk 15 ⟨some 26,_,_,_,_,_⟩ (v:=?_) rfl (by rfl) ?hy ?_
   case hy=>(intro w hSw;(try dsimp only at hSw);go_simp<;>with_reducible rfl)
   try simp only[Act.put,sA,sB,sC]
   refine wpAnyH_ready (rs:=[17]) (by kernel_rfl) (by simp) ?_;refine AllReadyH.cons rfl (fun K hK=>?_) AllReadyH.nil;refine aJ rfl 49 (.tmp 6) (.tmp 25) rfl n X rfl rfl 49 bZ HZ3.out (yS HX.out.1) HX.out.1.symm HX.out.2.1 ?_;obtain⟨W,hW⟩:∃W,W=u3.setRow n X:=⟨_,rfl⟩;have wB:Fr (aY v.b v.gv v.wv) x3 W:=by rw[hW];exact jv vt.out wY.out _
   have hP:=mW.before H3.out fu.out wY.out Vu.out (aA.gK (H3.out.bd fu.out) (A3.out.bd fu.out) xk.out zK.out) ah2.out ah3.out (by decide) X;rw[<-hW]at hP;rw[<-hW];refine hK.out _ _ (HC.out _ wB) ?_;intro PZ;clear hK G_ K
   try simp only[Act.put,sA,sB,sC]
   refine tk 18 ⟨some 7,_,_,_,_,_⟩ (v:=?_) rfl (by rfl) ?hy ?_
   case hy=>(intro w hSw;(try dsimp only at hSw);go_simp<;>with_reducible rfl)
   try simp only[Act.put,sA,sB,sC]
   clear PZ;refine wpAnyH_done (by kernel_rfl) ?_ _;exact HJ.out n X W ⟨hP.1,fun g hg=>by
    obtain⟨r,e1,e2⟩:=HX.out.2.2 g hg;exact⟨r,e1,e2.mono (fun v l h=>hP.2 v l h)⟩⟩
 ·intro n X W hj;obtain⟨⟨v1,i1,f1,wA,P1,hX,Xw,PF⟩,EW⟩:=hj;have aa1:=cD.after A3.out P1;have o1:=bM H3.out f1 KO.out aO (by omega);have r1:=bM H3.out f1 KR.out aD (by omega);have q1:=bM H3.out f1 HQ3.out A_ (by omega);have haW:Fr ay a W:=Hl.out.step f1 (fun k hk hp=>by
   rcases hp with rfl|hp
   ·omega
   ·have:=H3.out.iU hp;omega)
  have HTW:=O (L'.out.fr haW);have I1:=O i1;have F1:=O f1;have Xx:=O wA;have E0:=O aa1;have O1:=O o1;have R1:=O r1;have Q1:=O q1;have Xy:=O hX;have HNF:=O Xw;have HNA:=O PF;clear i1 f1 wA aa1 o1 r1 q1 P1 hX Xw PF HUS HC haW;cases FR:us.2 with
  |error k =>
   have hef:ev=.iface 116 (.int .i64 k):=by rw[HEV.out,FR];rfl
   have HR:=O (show ft p (o.bF hs)=({p with aH:=us.1},rep 2)by
    unfold ft;rw[show mD p.aH (o.bF hs).o (o.bF hs).proxy (o.bF hs).path=(us.1,.error k)from by rw[<-FR];exact HUE.out.symm])
   have HP:=O (show aA base w B cs off v {p with aH:=us.1} W from aA.after dV.out ⟨v1,I1.out,F1.out,Xx.out,E0.out.cR⟩);rw[hef];clear EW FR HEV HUE hef
   go_wp2_with (first|((with_reducible refine ag ⟨none,.store 39 _ _,_,_,_,_⟩ ?_);go_must(refine wpList_store_row rfl 39 (.tmp 4) (.tmp 29) rfl (w.heap.size+1) #[.int .i64 2,.string ⟨#[]⟩,.int .i64 0] rfl rfl _ aM R1.out (az _ rfl) rfl (by simp[Value.oneCell']) ?_))|fail)
   refine bodyPost_ret (results_cell_row (by rfl) _ _ (w.heap.size+1) 39 #[.int .i64 2,.string ⟨#[]⟩,.int .i64 0] (0,0) _ rfl (setRow_heap _ (w.heap.size+1) _ _ _ _ R1.out) Tryz.underlying39 rfl (az _ rfl)) rfl ?_;unfold bL;rw[HR.out];exact⟨rfl,aA.row HP.out j6.out j8.out (Nat.le_succ _) R1.out bN (by decide) _⟩
  |ok g =>
   have hef:ev=.nilIface:=by rw[HEV.out,FR];rfl
   obtain⟨r,S_,hr⟩:=EW g FR;have Xz:Pr g:=(EG (P:=Pr) (fun g h=>h) HSM.out.aH).2 g (by rw[<-HUE.out];exact FR);have P2:=O (show ft p (o.bF hs)=(match jT g (o.bF hs)with|none=>({p with aH:=oX us.1 g.o g.proxy g.a.ar},rep 2)|some s=>({p with aH:=us.1},⟨1,s,0⟩))by
    unfold ft;rw[show mD p.aH (o.bF hs).o (o.bF hs).proxy (o.bF hs).path=(us.1,.ok g)from by rw[<-FR];exact HUE.out.symm];rfl)
   obtain⟨q1,q2,q3,q4,q5,q6,q7⟩:=hr;obtain⟨e1,e2,e3,e4,e5,e6,e7,u_⟩:=q5;obtain⟨ad,cd,Aw⟩:=u_.rd.form;obtain⟨ap,cp,Gi⟩:=q7.rd.form
   have uF:X= #[.bool g.o.ae,.string g.o.host,.int .i64 g.o.port,.bool g.proxy,.string g.user,.string g.pass,.int .i64 g.a.scheme,.string g.a.ar,.string g.a.aE,.string g.a.aK,.bool g.a.aL,.string g.a.bU,.bool g.a.aX,.slice ad g.a.dom.length cd,.int .i64 g.count,.slice ap g.paths.length cp]:=by
    rw[S_];unfold ai.cells;rw[q1,q2,q3,q4,q6,e1,e2,e3,e4,e5,e6,e7,Aw,Gi]
   rw[uF]at Xy;have Mb:=Xy.out;have hqn:=Q1.out;have hon:=O1.out;have XA:=O Xz;have ZU:=O Xz.2.1;have ZP:=O Xz.2.2;have M9:=HF.out;rw[hef];clear EW FR HEV HUE hef q1 q2 q3 q4 q6 q7 e1 e2 e3 e4 e5 e6 e7 u_ Aw Gi uF S_ Xz;have z4:W.cell? ⟨n,4,none⟩=some (.string g.user):=by simp[World.cell?,Mb]
   have z5:W.cell? ⟨n,5,none⟩=some (.string g.pass):=by simp[World.cell?,Mb]
   have z6:W.cell? ⟨n,6,none⟩=some (.int .i64 g.a.scheme):=by simp[World.cell?,Mb]
   by_cases hsc:g.a.scheme=1
   ·have t6':(g.a.scheme==1)=true:=by rw[hsc];rfl
    cases sN:jT g (o.bF hs)with
    |none =>
     have HR:=O (show ft p (o.bF hs)=({p with aH:=oX us.1 g.o g.proxy g.a.ar},rep 2)by rw[P2.out,sN]);have HBA:=O (show∀U,Calls Tryz.prog 84 #[.agg #[.string g.user,.string g.pass]] U _ from fun U=>Hh hsc sN (Nat.le_trans ZU.out (by decide)) (Nat.le_trans ZP.out (by decide)));have Tf:=O hsc;rw[hsc]at z6;clear sN P2 hsc Mb hqn hon M9;go_wp2_with fail
     refine(HBA.out _).mono ?_;rintro e u5⟨⟨et,evv,rfl⟩,gH⟩;have HU:=O (gH)
     have N0:=O (show∀U,Fr (aY v1.b v1.gv v1.wv) u5 U->(U.cell? ⟨B,off,none⟩=some (.pointer (some ⟨v1.b,0,none⟩))/\U.cell? ⟨n,0,none⟩=some (.bool g.o.ae)/\U.cell? ⟨n,1,none⟩=some (.string g.o.host)/\U.cell? ⟨n,2,none⟩=some (.int .i64 g.o.port)/\U.cell? ⟨n,3,none⟩=some (.bool g.proxy)/\U.cell? ⟨n,7,none⟩=some (.string g.a.ar))from fun U hU=>by
      have j1:=(E0.out.bd HU.out).fr hU (fun hb=>I1.out.bX E0.out.cR (by decide) (Or.inl hb));have j2:=hU.keep (HU.out.keep Xy.out (fun h=>h)) (fun hb=>HNF.out (Or.inl hb));refine⟨j1.cell0,?_,?_,?_,?_,?_⟩<;>simp[World.cell?,j2])
     have MZ:=O (show∀U,Fr ay u5 U->Calls Tryz.prog 111 #[.pointer (some ⟨v1.b,0,none⟩),.agg #[.bool g.o.ae,.string g.o.host,.int .i64 g.o.port],.bool g.proxy,.string g.a.ar] U (qe base U v1.b v1.gv v1.wv us.1 p.waits (iv g.o g.proxy g.a.ar))from fun U hU=>tX base U v1.b v1.gv v1.wv us.1 p.waits g.o g.proxy g.a.ar ((I1.out.bd HU.out).bd hU).gK);go_wp2_with fail
     go_region_held3 (fun U=>Fr (aY v1.b v1.gv v1.wv) u5 U/\U.cell? ⟨B,off,none⟩=some (.pointer (some ⟨v1.b,0,none⟩))/\U.cell? ⟨n,0,none⟩=some (.bool g.o.ae)/\U.cell? ⟨n,1,none⟩=some (.string g.o.host)/\U.cell? ⟨n,2,none⟩=some (.int .i64 g.o.port)/\U.cell? ⟨n,3,none⟩=some (.bool g.proxy)/\U.cell? ⟨n,7,none⟩=some (.string g.a.ar)) ((refine(fun hU=>⟨hU,N0.out _ hU⟩) ?_;first|exact Fr.drew (Fr.refl _ _)|assumption))
      ((first
       |(go_at_call 111;refine(MZ.out _ (Fr.drew (Fr.refl _ _))).mono ?_;rintro e u9 ⟨rfl,hb9⟩;have P3:Fr (aY v1.b v1.gv v1.wv) u5 u9:=(Fr.drew (Fr.refl _ _)).trans (by obtain⟨_,_,_,h,_⟩:=hb9;exact h))))
     have P4:=aA.gK ((I1.out.bd HU.out).bd (Fr.drew (Fr.refl ay u5))) ((E0.out.bd HU.out).bd (Fr.drew (Fr.refl ay u5))) (I1.out.bX E0.out.cR (by decide)) hb9;have HP:=O (show aA base w B cs off v {p with aH:=oX us.1 g.o g.proxy g.a.ar} u9 from aA.after dV.out (aA.seq F1.out Xx.out (aA.after HU.out (aA.after (Fr.drew (Fr.refl ay u5)) P4))))
     have r9:=O (bM (B:=B) (I1.out.bd HU.out) (P3.mono (fun k _ hk=>Or.inr (Or.inl hk))) (HU.out.keep R1.out (fun h=>h)) aD (by omega));clear P4 hb9 P3 N0 MZ
     go_wp2_with (first|((with_reducible refine ag ⟨none,.store 39 _ _,_,_,_,_⟩ ?_);go_must(refine wpList_store_row rfl 39 (.tmp 4) (.tmp 74) rfl (w.heap.size+1) #[.int .i64 2,.string ⟨#[]⟩,.int .i64 0] rfl rfl _ aM r9.out (az _ rfl) rfl (by simp[Value.oneCell']) ?_))|fail)
     refine bodyPost_ret (results_cell_row (by rfl) _ _ (w.heap.size+1) 39 #[.int .i64 2,.string ⟨#[]⟩,.int .i64 0] (0,0) _ rfl (setRow_heap _ (w.heap.size+1) _ _ _ _ r9.out) Tryz.underlying39 rfl (az _ rfl)) rfl ?_;unfold bL;rw[HR.out];exact⟨rfl,aA.row HP.out j6.out j8.out (Nat.le_succ _) r9.out bN (by decide) _⟩
    |some s =>
     have HR:=O (show ft p (o.bF hs)=({p with aH:=us.1},⟨1,s,0⟩)by rw[P2.out,sN]);have HBA:=O (show∀U,Calls Tryz.prog 84 #[.agg #[.string g.user,.string g.pass]] U _ from fun U=>Hi hsc sN (Nat.le_trans ZU.out (by decide)) (Nat.le_trans ZP.out (by decide)));have Tf:=O hsc;rw[hsc]at z6;clear sN P2 hsc Mb hqn hon M9;go_wp2_with fail
     refine(HBA.out _).mono ?_;rintro e u5⟨rfl,gH⟩;have HU:=O (gH);have HP:=O (show aA base w B cs off v {p with aH:=us.1} u5 from aA.after dV.out (aA.then ⟨v1,I1.out,F1.out,Xx.out,E0.out.cR⟩ HU.out));have r9:=O (HU.out.keep R1.out (fun h=>h))
     go_wp2_with (first|((with_reducible refine ag ⟨none,.store 39 _ _,_,_,_,_⟩ ?_);go_must(refine wpList_store_row rfl 39 (.tmp 4) (.tmp 76) rfl (w.heap.size+1) #[.int .i64 1,.string s,.int .i64 0] rfl rfl _ aM r9.out (az _ rfl) rfl (by simp[Value.oneCell']) ?_))|fail)
     refine bodyPost_ret (results_cell_row (by rfl) _ _ (w.heap.size+1) 39 #[.int .i64 1,.string s,.int .i64 0] (0,0) _ rfl (setRow_heap _ (w.heap.size+1) _ _ _ _ r9.out) Tryz.underlying39 rfl (az _ rfl)) rfl ?_;unfold bL;rw[HR.out];exact⟨rfl,aA.row HP.out j6.out j8.out (Nat.le_succ _) r9.out bN (by decide) _⟩
   ·have t6':(g.a.scheme==1)=false:=beq_eq_false_iff_ne.2 hsc
    have HC8:=O (show∀U,Fr ay W U->(U.cell? ⟨n,4,none⟩=some (.string g.user)/\U.cell? ⟨n,5,none⟩=some (.string g.pass)/\U.cell? ⟨n,6,none⟩=some (.int .i64 g.a.scheme)/\U.cell? ⟨n,7,none⟩=some (.string g.a.ar)/\U.cell? ⟨n,8,none⟩=some (.string g.a.aE)/\U.cell? ⟨n,9,none⟩=some (.string g.a.aK)/\U.cell? ⟨n,10,none⟩=some (.bool g.a.aL)/\U.cell? ⟨n,11,none⟩=some (.string g.a.bU)/\U.cell? ⟨n,12,none⟩=some (.bool g.a.aX)/\U.cell? ⟨n,13,none⟩=some (.slice ad g.a.dom.length cd)/\U.cell? ⟨n,14,none⟩=some (.int .i64 g.count)/\U.cell? ⟨w.heap.size+2,4,none⟩=some (.bool o.ab.o.ae)/\U.cell? ⟨w.heap.size+2,5,none⟩=some (.string o.ab.o.host)/\U.cell? ⟨w.heap.size+2,6,none⟩=some (.int .i64 o.ab.o.port)/\U.cell? ⟨w.heap.size+2,7,none⟩=some (.string o.ab.path)/\U.cell? ⟨w.heap.size+2,8,none⟩=some (.string o.ab.query)/\U.cell? ⟨w.heap.size+2,9,none⟩=some (.string o.ab.method)/\U.cell? ⟨w.heap.size+2,12,none⟩=some (.string o.ab.body)/\U.cell? ⟨w.heap.size,18,none⟩=some (.string o.aB))from fun U hU=>by
     have j2:=hU.keep Xy.out (fun h=>h);have j3:=hU.keep Q1.out (fun h=>h);obtain⟨a0,a1,a2,a3,a4,a5,a6,a7,a8,a9,eK,eL,a12,eH,eM,eC,eW,eX,eY,fc,a20,a21⟩:=bJ (hU.keep O1.out (fun h=>h)) fX.out;refine⟨?_,?_,?_,?_,?_,?_,?_,?_,?_,?_,?_,?_,?_,?_,?_,?_,?_,?_,eY⟩<;>simp[World.cell?,j2,j3])
    have HME:=O (show∀U,Calls Tryz.prog 109 #[.string o.ab.method] U _ from fun U=>rP o.ab.method U (Nat.lt_of_le_of_lt HF.out.method (by decide)))
    have HTG:=O (show∀U,Calls Tryz.prog 110 #[.agg #[.bool o.ab.o.ae,.string o.ab.o.host,.int .i64 o.ab.o.port,.string o.ab.path,.string o.ab.query]] U _ from fun U=>GC o.ab.o o.ab.path o.ab.query U (Nat.lt_of_le_of_lt HF.out.path (by decide)) (Nat.lt_of_le_of_lt HF.out.query (by decide)))
    have uG:=O (show∀U,Fr ay W U->Calls Tryz.prog 44 #[.agg #[.int .i64 g.a.scheme,.string g.a.ar,.string g.a.aE,.string g.a.aK,.bool g.a.aL,.string g.a.bU,.bool g.a.aX,.slice ad g.a.dom.length cd],.agg #[.string g.user,.string g.pass],.string (eD o.ab.method),.string (iZ o.ab.path o.ab.query),.string o.ab.body,.string o.aB,.int .i64 g.count] U (jX g.a.scheme g.a.aK ((o.bF hs).UP g) g.count U)from fun U hU=>PV (o:=o.bF hs) rfl XA.out (L7 _ HF.out.method) (L_ _ _ HF.out.path HF.out.query) HF.out.body HF.out.aB (HTW.out.fr hU))
    cases sN:jT g (o.bF hs)with
    |none =>
     have HR:=O (show ft p (o.bF hs)=({p with aH:=oX us.1 g.o g.proxy g.a.ar},rep 2)by rw[P2.out,sN]);have KJ:=O sN;have Tf:=O hsc;clear sN P2 Mb hqn hon M9 hsc;go_wp2_with fail
     go_region_held3 (fun U=>Fr ay W U/\U.cell? ⟨n,4,none⟩=some (.string g.user)/\U.cell? ⟨n,5,none⟩=some (.string g.pass)/\U.cell? ⟨n,6,none⟩=some (.int .i64 g.a.scheme)/\U.cell? ⟨n,7,none⟩=some (.string g.a.ar)/\U.cell? ⟨n,8,none⟩=some (.string g.a.aE)/\U.cell? ⟨n,9,none⟩=some (.string g.a.aK)/\U.cell? ⟨n,10,none⟩=some (.bool g.a.aL)/\U.cell? ⟨n,11,none⟩=some (.string g.a.bU)/\U.cell? ⟨n,12,none⟩=some (.bool g.a.aX)/\U.cell? ⟨n,13,none⟩=some (.slice ad g.a.dom.length cd)/\U.cell? ⟨n,14,none⟩=some (.int .i64 g.count)/\U.cell? ⟨w.heap.size+2,4,none⟩=some (.bool o.ab.o.ae)/\U.cell? ⟨w.heap.size+2,5,none⟩=some (.string o.ab.o.host)/\U.cell? ⟨w.heap.size+2,6,none⟩=some (.int .i64 o.ab.o.port)/\U.cell? ⟨w.heap.size+2,7,none⟩=some (.string o.ab.path)/\U.cell? ⟨w.heap.size+2,8,none⟩=some (.string o.ab.query)/\U.cell? ⟨w.heap.size+2,9,none⟩=some (.string o.ab.method)/\U.cell? ⟨w.heap.size+2,12,none⟩=some (.string o.ab.body)/\U.cell? ⟨w.heap.size,18,none⟩=some (.string o.aB)) ((refine(fun hU=>⟨hU,HC8.out _ hU⟩) ?_;first|exact Fr.drew (Fr.refl _ _)|assumption))
      ((first
       |(go_at_call 109;refine(HME.out _).mono ?_;rintro e u5 ⟨rfl,gH⟩;have nQ:Fr ay W u5:=(by first|exact P5.trans gH|exact(Fr.drew (Fr.refl ay W)).trans gH))
       |(go_at_call 110;refine(HTG.out _).mono ?_;rintro e u6 ⟨rfl,jz⟩;have P5:Fr ay W u6:=(by first|exact nQ.trans jz|exact(Fr.drew (Fr.refl ay W)).trans jz))
       |(go_at_call 44;refine(uG.out _ (by assumption)).mono ?_;rintro e u7 KL;obtain⟨⟨et,evv,rfl⟩,jC⟩:=PW Tf.out KJ.out KL;have E5:Fr ay W u7:=(by first|exact P5.trans jC|exact nQ.trans jC))))
     all_goals as_aux_lemma =>
      have HU:=O (E5);have N0:=O (show∀U,Fr (aY v1.b v1.gv v1.wv) u7 U->(U.cell? ⟨B,off,none⟩=some (.pointer (some ⟨v1.b,0,none⟩))/\U.cell? ⟨n,0,none⟩=some (.bool g.o.ae)/\U.cell? ⟨n,1,none⟩=some (.string g.o.host)/\U.cell? ⟨n,2,none⟩=some (.int .i64 g.o.port)/\U.cell? ⟨n,3,none⟩=some (.bool g.proxy)/\U.cell? ⟨n,7,none⟩=some (.string g.a.ar))from fun U hU=>by
       have j1:=(E0.out.bd HU.out).fr hU (fun hb=>I1.out.bX E0.out.cR (by decide) (Or.inl hb));have j2:=hU.keep (HU.out.keep Xy.out (fun h=>h)) (fun hb=>HNF.out (Or.inl hb));refine⟨j1.cell0,?_,?_,?_,?_,?_⟩<;>simp[World.cell?,j2])
      have MZ:=O (show∀U,Fr ay u7 U->Calls Tryz.prog 111 #[.pointer (some ⟨v1.b,0,none⟩),.agg #[.bool g.o.ae,.string g.o.host,.int .i64 g.o.port],.bool g.proxy,.string g.a.ar] U (qe base U v1.b v1.gv v1.wv us.1 p.waits (iv g.o g.proxy g.a.ar))from fun U hU=>tX base U v1.b v1.gv v1.wv us.1 p.waits g.o g.proxy g.a.ar ((I1.out.bd HU.out).bd hU).gK);go_wp2_with fail
      go_region_held3 (fun U=>Fr (aY v1.b v1.gv v1.wv) u7 U/\U.cell? ⟨B,off,none⟩=some (.pointer (some ⟨v1.b,0,none⟩))/\U.cell? ⟨n,0,none⟩=some (.bool g.o.ae)/\U.cell? ⟨n,1,none⟩=some (.string g.o.host)/\U.cell? ⟨n,2,none⟩=some (.int .i64 g.o.port)/\U.cell? ⟨n,3,none⟩=some (.bool g.proxy)/\U.cell? ⟨n,7,none⟩=some (.string g.a.ar)) ((refine(fun hU=>⟨hU,N0.out _ hU⟩) ?_;first|exact Fr.drew (Fr.refl _ _)|assumption))
       ((first
        |(go_at_call 111;refine(MZ.out _ (Fr.drew (Fr.refl _ _))).mono ?_;rintro e u9 ⟨rfl,hb9⟩;have P3:Fr (aY v1.b v1.gv v1.wv) u7 u9:=(Fr.drew (Fr.refl _ _)).trans (by obtain⟨_,_,_,h,_⟩:=hb9;exact h))))
      have P4:=aA.gK ((I1.out.bd HU.out).bd (Fr.drew (Fr.refl ay u7))) ((E0.out.bd HU.out).bd (Fr.drew (Fr.refl ay u7))) (I1.out.bX E0.out.cR (by decide)) hb9;have HP:=O (show aA base w B cs off v {p with aH:=oX us.1 g.o g.proxy g.a.ar} u9 from aA.after dV.out (aA.seq F1.out Xx.out (aA.after HU.out (aA.after (Fr.drew (Fr.refl ay u7)) P4))))
      have r9:=O (bM (B:=B) (I1.out.bd HU.out) (P3.mono (fun k _ hk=>Or.inr (Or.inl hk))) (HU.out.keep R1.out (fun h=>h)) aD (by omega));clear P4 hb9 P3 N0 MZ
      go_wp2_with (first|((with_reducible refine ag ⟨none,.store 39 _ _,_,_,_,_⟩ ?_);go_must(refine wpList_store_row rfl 39 (.tmp 4) (.tmp 74) rfl (w.heap.size+1) #[.int .i64 2,.string ⟨#[]⟩,.int .i64 0] rfl rfl _ aM r9.out (az _ rfl) rfl (by simp[Value.oneCell']) ?_))|fail)
      refine bodyPost_ret (results_cell_row (by rfl) _ _ (w.heap.size+1) 39 #[.int .i64 2,.string ⟨#[]⟩,.int .i64 0] (0,0) _ rfl (setRow_heap _ (w.heap.size+1) _ _ _ _ r9.out) Tryz.underlying39 rfl (az _ rfl)) rfl ?_;unfold bL;rw[HR.out];exact⟨rfl,aA.row HP.out j6.out j8.out (Nat.le_succ _) r9.out bN (by decide) _⟩
    |some s =>
     have HR:=O (show ft p (o.bF hs)=({p with aH:=us.1},⟨1,s,0⟩)by rw[P2.out,sN]);have KJ:=O sN;have Tf:=O hsc;clear sN P2 Mb hqn hon M9 hsc;go_wp2_with fail
     go_region_held3 (fun U=>Fr ay W U/\U.cell? ⟨n,4,none⟩=some (.string g.user)/\U.cell? ⟨n,5,none⟩=some (.string g.pass)/\U.cell? ⟨n,6,none⟩=some (.int .i64 g.a.scheme)/\U.cell? ⟨n,7,none⟩=some (.string g.a.ar)/\U.cell? ⟨n,8,none⟩=some (.string g.a.aE)/\U.cell? ⟨n,9,none⟩=some (.string g.a.aK)/\U.cell? ⟨n,10,none⟩=some (.bool g.a.aL)/\U.cell? ⟨n,11,none⟩=some (.string g.a.bU)/\U.cell? ⟨n,12,none⟩=some (.bool g.a.aX)/\U.cell? ⟨n,13,none⟩=some (.slice ad g.a.dom.length cd)/\U.cell? ⟨n,14,none⟩=some (.int .i64 g.count)/\U.cell? ⟨w.heap.size+2,4,none⟩=some (.bool o.ab.o.ae)/\U.cell? ⟨w.heap.size+2,5,none⟩=some (.string o.ab.o.host)/\U.cell? ⟨w.heap.size+2,6,none⟩=some (.int .i64 o.ab.o.port)/\U.cell? ⟨w.heap.size+2,7,none⟩=some (.string o.ab.path)/\U.cell? ⟨w.heap.size+2,8,none⟩=some (.string o.ab.query)/\U.cell? ⟨w.heap.size+2,9,none⟩=some (.string o.ab.method)/\U.cell? ⟨w.heap.size+2,12,none⟩=some (.string o.ab.body)/\U.cell? ⟨w.heap.size,18,none⟩=some (.string o.aB)) ((refine(fun hU=>⟨hU,HC8.out _ hU⟩) ?_;first|exact Fr.drew (Fr.refl _ _)|assumption))
      ((first
       |(go_at_call 109;refine(HME.out _).mono ?_;rintro e u5 ⟨rfl,gH⟩;have nQ:Fr ay W u5:=(by first|exact P5.trans gH|exact(Fr.drew (Fr.refl ay W)).trans gH))
       |(go_at_call 110;refine(HTG.out _).mono ?_;rintro e u6 ⟨rfl,jz⟩;have P5:Fr ay W u6:=(by first|exact nQ.trans jz|exact(Fr.drew (Fr.refl ay W)).trans jz))
       |(go_at_call 44;refine(uG.out _ (by assumption)).mono ?_;rintro e u7 KL;obtain⟨rfl,jC⟩:=PX Tf.out KJ.out KL;have E5:Fr ay W u7:=(by first|exact P5.trans jC|exact nQ.trans jC))))
     all_goals as_aux_lemma =>
      have HU:=O (E5);have HP:=O (show aA base w B cs off v {p with aH:=us.1} u7 from aA.after dV.out (aA.then ⟨v1,I1.out,F1.out,Xx.out,E0.out.cR⟩ HU.out));have r9:=O (HU.out.keep R1.out (fun h=>h))
      go_wp2_with (first|((with_reducible refine ag ⟨none,.store 39 _ _,_,_,_,_⟩ ?_);go_must(refine wpList_store_row rfl 39 (.tmp 4) (.tmp 76) rfl (w.heap.size+1) #[.int .i64 1,.string s,.int .i64 0] rfl rfl _ aM r9.out (az _ rfl) rfl (by simp[Value.oneCell']) ?_))|fail)
      refine bodyPost_ret (results_cell_row (by rfl) _ _ (w.heap.size+1) 39 #[.int .i64 1,.string s,.int .i64 0] (0,0) _ rfl (setRow_heap _ (w.heap.size+1) _ _ _ _ r9.out) Tryz.underlying39 rfl (az _ rfl)) rfl ?_;unfold bL;rw[HR.out];exact⟨rfl,aA.row HP.out j6.out j8.out (Nat.le_succ _) r9.out bN (by decide) _⟩
end Go.Proofs.YtjdmjbdkdmbaiaaGreatDoor
