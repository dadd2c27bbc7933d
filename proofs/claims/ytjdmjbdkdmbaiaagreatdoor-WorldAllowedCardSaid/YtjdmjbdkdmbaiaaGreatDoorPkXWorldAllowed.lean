/- ListPlain, PassPure, CorsPure, UnbP, ClonePa, Book4, WorldLaw, WorldLaw3, WGet, TwoW, Allow1, Granted, AllowP, WAllowed, LiftWorldAllowed. -/
import Derived.Test.YtjdmjbdkdmbaiaaGreatDoorPk47
import Derived.Deep.Onto
import Derived.Test.YtjdmjbdkdmbaiaaGreatDoorTie
import Derived.Test.YtjdmjbdkdmbaiaaGreatDoorCards
import Derived.LaidMore
import Derived.Lay
set_option maxRecDepth 100000
set_option maxHeartbeats 16000000
set_option linter.unusedSimpArgs false
namespace Go.Proofs.YtjdmjbdkdmbaiaaGreatDoor
open Go.RowKit
theorem aeu:∀(f:Nat) (r:List UInt8) (ws:List (List UInt8)),gy f r=.ok ws->∀w∈ws,uN w=true
 |0,r,ws,h,w,hw=>by rw[gy]at h;cases h;cases hw
 |f+1,r,ws,h,w,hw=>by
  rw[gy]at h
  try simp only at h
  have one:∀x∈(if((r.dropWhile bh).takeWhile cP).isEmpty then []else [(r.dropWhile bh).takeWhile cP]),uN x=true:=by
   intro x hx;by_cases he:((r.dropWhile bh).takeWhile cP).isEmpty=true
   ·rw[if_pos he]at hx;cases hx
   ·rw[if_neg he]at hx;simp at hx;subst hx;unfold uN;rw[List.all_takeWhile];simpa using he
  cases e:((r.dropWhile bh).dropWhile cP).dropWhile bh with
  |nil=>rw[e]at h;simp only at h;cases h;exact one w hw
  |cons c r4 =>
   rw[e]at h;simp only at h;by_cases hc:(c==44)=true
   ·rw[if_pos hc]at h;cases hr:gy f r4 with
    |error m=>rw[hr]at h;cases h
    |ok ws2 =>
     rw[hr]at h;simp only[Except.map]at h;cases h;rcases List.mem_append.1 hw with g|g
     ·exact one w g
     ·exact aeu f r4 ws2 hr w g
   ·rw[if_neg hc]at h;cases h
theorem bI.vz{p q:bI}(h:p.cells=q.cells):p=q:=by
 obtain⟨⟨a,b,c⟩,⟨d,e,f⟩,g,i,j,k,l,m⟩:=p;obtain⟨⟨a',b',c'⟩,⟨d',e',f'⟩,g',i',j',k',l',m'⟩:=q;simp only[bI.cells,List.cons.injEq,Value.bool.injEq,Value.string.injEq,Value.int.injEq,true_and,and_true]at h;obtain⟨rfl,rfl,rfl,rfl,rfl,rfl,rfl,rfl,rfl,rfl,rfl,rfl⟩:=h;rfl
theorem aeK{m:ByteArray}{bP:Bool}{hs gs:List ByteArray}{ps qs:List bI}(h:TL m bP hs ps=true)(hp:∀p∈ps,p∈qs)(hh:∀x∈gs,x∈hs):TL m bP gs qs=true:=by
 unfold TL at h ⊢;simp only[Bool.and_eq_true,Bool.or_eq_true,List.all_eq_true,List.any_eq_true]at h ⊢;refine⟨?_,fun x hx=>?_⟩
 ·rcases h.1 with h|⟨p,hq,h⟩
  ·exact Or.inl h
  ·exact Or.inr ⟨p,hp p hq,h⟩
 ·obtain⟨p,hq,e⟩:=h.2 x (hh x hx);exact⟨p,hp p hq,e⟩
theorem aeD{ps:List ew}{n:Bs}{l:List Bs}(h:fL ps n=some l):∀w∈l,uN w=true:=by
 unfold fL at h;cases hl:dz (fQ ps n)with
 |error e=>rw[hl]at h;cases h
 |ok m =>
  rw[hl]at h;simp only at h;split at h
  ·cases h
  ·cases h;exact aeu _ _ _ hl
theorem agw{ps:List bI}{p x:bI}(h:x∈kJ ps p):x∈ps\/x=p:=by
 unfold kJ at h;split at h
 ·exact Or.inl h
 ·rcases List.mem_append.1 h with g|g
  ·exact Or.inl g
  ·exact Or.inr (by simpa using g)
theorem abp:∀(l:List bI) (ps:List bI) (x:bI),x∈l.foldl kJ ps->x∈ps\/x∈l
 |[],ps,x,h=>Or.inl h
 |p :: l,ps,x,h=>by
  rcases abp l (kJ ps p) x h with g|g
  ·rcases agw g with g|g
   ·exact Or.inl g
   ·exact Or.inr (by rw[g];exact List.mem_cons_self ..)
  ·exact Or.inr (List.mem_cons_of_mem _ g)
theorem ae5{r:lu}{kB:Int}{ms hs:List Bs}{x:bI}(h:x∈r.aH kB ms hs):(∃m∈r.methods ms,x=r.xF kB m (bA []))\/(∃g∈hs,x=r.xF kB (bA []) (bA (iK g))):=by
 unfold lu.aH at h;rcases abp _ _ _ h with g|g
 ·rcases abp _ _ _ g with g|g
  ·cases g
  ·obtain⟨m,hm,rfl⟩:=List.mem_map.1 g;exact Or.inl ⟨m,hm,rfl⟩
 ·obtain⟨m,hm,rfl⟩:=List.mem_map.1 g;exact Or.inr ⟨m,hm,rfl⟩
theorem aeL:∀m∈dP,0<m.size:=by decide
theorem aeY{s:ByteArray}(h:0<s.size):0<(eD s).size:=by
 unfold eD;rcases tj dP s with ⟨hm,_⟩|he
 ·exact aeL _ hm
 ·rw[he];exact h
theorem ae2(l:Bs):(bA l).size=l.length:=by unfold bA;simp[ByteArray.size]
theorem aeA{l:Bs}(h:uN l=true):0<l.length:=by
 unfold uN at h;cases l with
 |nil=>simp at h
 |cons a l=>simp
theorem agb{r:lu}{t:Bs}{ps:List ew}{now:Int}{out:List bI}(h:oc r t ps now=.ok out)(hm:0<r.method.size) :
  (∀x∈out,(x.aI=r.aI/\x.o=r.o/\x.path=r.path/\x.query=r.query/\x.bP=r.bP/\x.kB=now+iB ps)/\((x.method.size=0/\0<x.head.size)\/(0<x.method.size/\x.head.size=0)))/\Gc t r.bP ps=true/\r.iA out=true:=by
 unfold oc at h;cases e1:fL ps DI with
 |none=>rw[e1]at h;cases h
 |some ms =>
  cases e2:fL ps rT with
  |none=>rw[e1,e2]at h;cases h
  |some hs =>
   rw[e1,e2]at h;simp only at h;split at h
   ·cases h
   rename_i h1;split at h
   ·cases h
   rename_i h2;cases h;refine⟨?_,by simpa using h1,by simpa using h2⟩;intro x hx;rcases ae5 hx with ⟨m,hmm,rfl⟩|⟨g,hg,rfl⟩
   ·refine⟨⟨rfl,rfl,rfl,rfl,rfl,rfl⟩,Or.inr ⟨?_,rfl⟩⟩;show 0<m.size;unfold lu.methods at hmm;split at hmm
    ·rw[List.mem_singleton]at hmm;rw[hmm];exact aeY hm
    ·obtain⟨l,hl,rfl⟩:=List.mem_map.1 hmm;rw[ae2];exact aeA (aeD e1 l hl)
   ·refine⟨⟨rfl,rfl,rfl,rfl,rfl,rfl⟩,Or.inl ⟨rfl,?_⟩⟩;show 0<(bA (iK g)).size;rw[ae2,show(iK g).length=g.length from by unfold iK;simp];exact aeA (aeD e2 g hg)
def amb(c:UInt8):Option Nat:=if 65<=c/\c<=90 then some (c.toNat-65)else if 97<=c/\c<=122 then some (c.toNat-71)else if 48<=c/\c<=57 then some (c.toNat+4)else if c=43 then some 62 else if c=47 then some 63 else none
def aac(l:List UInt8):Nat->Nat
 |0=>0
 |j+1=>aac l j*64+(match l[j]? with|some c=>(amb c).getD 0|none=>0)
theorem ai3:(Tryz.prog.info? 65).map (fun i=>(i.zero,i.size,i.bytes))=some (some (.agg #[.bool false,.string ⟨#[]⟩,.int .i64 0,.bool false,.string ⟨#[]⟩,.int .i64 0,.string ⟨#[]⟩,.string ⟨#[]⟩,.bool false,.string ⟨#[]⟩,.string ⟨#[]⟩,.int .i64 0]),12,144):=by kernel_rfl
theorem ai7(v:Value)(xs:List (List Value))(w:World)(h:aN 12 w v xs)(hl:xs.length<=1000000000) :
  Calls Tryz.prog 144 #[v] w fun e w'=>∃v',e=.returned v'/\OwnRows w.heap.size 65 12 w' v' xs/\Fr ay w w':=by
 obtain⟨a,c,hv⟩:=h.form;subst hv;have q22:∀(w:World) (a:Option Addr) (n c n' c':Nat),(binOp .eql 60 (.slice a n c) (.slice none n' c')).run Tryz.prog w=.ok (.bool a.isNone) w:=fun w a n c n' c'=>Lib.run_eql_slice_nil w _ _ a n c n' c' Tryz.underlying60;cases a with
 |none =>
  obtain⟨rfl,rfl⟩:xs=[]/\c=0:=by
   rcases h.2 with ⟨a',c',hv,hs,hc⟩|⟨bk,o',c',hf,_⟩
   ·injection hv with e1 e2 e3
    exact⟨hs,e3.trans (hc e1.symm)⟩
   ·injection hf with e1;cases e1
  go_enter Tryz.func144,Tryz.ntmps144;go_wp2;go_ret;exact⟨_,rfl,OwnRows.nil _ _ _ _,Fr.refl _ _⟩
 |some ad =>
  have HX:=h.1;have HC:=O (show∀j u,xs.flatten[j]?=some u->w.cell? (ad.add j)=some u from fun j u hj=>by
   rcases h.2 with ⟨_,_,_,e,_⟩|⟨bk,o',c',hf,g1,g2,g3,g4⟩
   ·subst e;simp at hj
   ·cases hf;have yr:xs.flatten.length=xs.length*12:=eU (fun x hx=>(HX x hx).1);have hjl:=(List.getElem?_eq_some_iff.1 hj).1;have hd:j/12<xs.length:=by omega
    have hm:j%12<12:=by omega
    have hx:(xs[j/12]).length=12:=(HX _ (List.getElem_mem hd)).1;have e1:=xB (k:=12) (xs:=xs) (fun x hx=>(HX x hx).1) (j:=j/12) (List.getElem?_eq_getElem hd) (i:=j%12) (List.getElem?_eq_getElem (by rw[hx];exact hm));rw[Nat.div_add_mod']at e1;rw[e1]at hj;cases hj;have:=g4 (j/12) _ (List.getElem?_eq_getElem hd) (j%12) _ (List.getElem?_eq_getElem (by rw[hx];exact hm))
    have ea:(Addr.add ⟨bk,o',none⟩ j)=⟨bk,o'+j,none⟩:=by unfold Addr.add;split<;>simp_all
    rw[ea, <-this]
    congr 2
    omega)
  have HF:=O (show xs.flatten.length=xs.length*12 from eU (fun x hx=>(HX x hx).1));have HXX:=O HX;obtain⟨i0,hi,oZ,iy,gU⟩:=info_parts ai3;clear HX h;go_enter Tryz.func144,Tryz.ntmps144
  go_wp2_with (at_builtin;refine wpList_append_own _ rfl _ _ 60 rfl w.heap.size 65 i0 (.agg #[.bool false,.string ⟨#[]⟩,.int .i64 0,.bool false,.string ⟨#[]⟩,.int .i64 0,.string ⟨#[]⟩,.string ⟨#[]⟩,.bool false,.string ⟨#[]⟩,.string ⟨#[]⟩,.int .i64 0]) 12 144 Tryz.underlying60 hi oZ iy gU rfl (by decide) _ _ _ rfl (World.ownsRow_made w #[] 0 (Nat.le_refl _) (Nat.zero_le _) rfl) ad xs.length c xs.flatten rfl HF.out ?qc2 ?qc3 ?qc4 ?qc5 ?qc6 ?_)
  case qc2 =>
   intro j u hj;exact Lib.cell?_alloc_some _ (HC.out j u hj)
  case qc3 =>
   intro u hu;obtain⟨x,hx,FR⟩:=List.mem_flatten.1 hu;exact(HXX.out x hx).2 u FR
  case qc4=>unfold maxLen;omega
  case qc5=>omega
  case qc6=>simp
  intro v' w1 a_ gQ Ku;go_wp2;go_ret;refine⟨v',rfl,⟨HXX.out,by simpa using a_⟩,Fr.gW (((Below.refl _ w).alloc (Nat.le_refl _) _).grown gQ (by simp) (by intro k hk;simp[Value.ownBlock]at hk;omega))⟩
theorem aeM(base:Nat)(w:World)(b:Nat)(v:Value)(ps:List bI)(h:cy base w b v ps)(hlen:ps.length<1000000) :
  Calls Tryz.prog 74 #[.pointer (some ⟨b,0,none⟩)] w fun e w'=>∃v',e=.returned v'/\OwnRows w.heap.size 65 12 w' v' (ps.map bI.cells)/\Fr ay w w':=by
 obtain⟨av,cv,hv⟩:=h.form;subst hv;have c0:=h.c0;have hc:=O (ai7 _ _ w h.rows.at (by rw[List.length_map];omega));clear h;go_enter Tryz.func74,Tryz.ntmps74;go_wp2_with fail
 refine hc.out.mono ?_;rintro e u⟨v',rfl,ho,hf⟩;obtain⟨a',c',nu⟩:=ho.form;subst nu;rw[List.length_map]at ho;have HO:=O ho;clear ho;go_wp2;go_ret;exact⟨_,rfl,HO.out,hf⟩
theorem aeZ(p:bH)(o:ib):(ft p o).2.what≠7:=by
 unfold ft;split
 ·simp[rep]
 ·split<;>simp[rep]
theorem agx(p:bH)(now:Int)(o:ib)(h:(lF p now o).2.what=7\/o.what=4\/o.what=6):(lF p now o).1=p:=by
 unfold lF at h ⊢;by_cases h1:o.what=1
 ·rw[if_pos h1]at h;rcases h with h|h|h
  ·exact absurd h (aeZ _ _)
  ·omega
  ·omega
 rw[if_neg h1]at h ⊢;by_cases h2:o.what=2
 ·rw[if_pos h2]at h ⊢;rcases h with h|h|h
  ·unfold ee at h ⊢;split at h
   ·rfl
   ·split at h
    ·split at h
     ·simp[rep]at h
     ·simp[rep]at h
    ·simp[rep]at h
  ·omega
  ·omega
 rw[if_neg h2]at h ⊢;by_cases h3:o.what=3
 ·rw[if_pos h3]at h ⊢;rcases h with h|h|h
  ·unfold ef at h ⊢;split at h
   ·simp[rep]at h
   ·simp[rep]at h
  ·omega
  ·omega
 rw[if_neg h3]at h ⊢;by_cases h4:o.what=4
 ·rw[if_pos h4]
 rw[if_neg h4]at h ⊢;by_cases h5:o.what=5
 ·rw[if_pos h5]at h ⊢;rcases h with h|h|h
  ·unfold fS at h ⊢;split at h
   ·rfl
   ·split at h
    ·simp[rep]at h
    ·simp[rep]at h
  ·omega
  ·omega
 rw[if_neg h5]at h ⊢;by_cases h6:o.what=6
 ·rw[if_pos h6]
 rw[if_neg h6]at h ⊢;by_cases h7:o.what=7
 ·rw[if_pos h7]at h ⊢;rcases h with h|h|h
  ·unfold jU at h ⊢;split at h
   ·first|rfl|(rename_i hc;rw[if_pos hc])
   ·simp[rep]at h
  ·omega
  ·omega
 rw[if_neg h7]at h ⊢;rcases h with h|h|h
 ·unfold kN at h;split at h
  ·simp[rep]at h
  ·split at h<;>simp[rep]at h
 ·omega
 ·omega
theorem aev(w:bW)(o:ib)(h:(cV w o).2.what=7\/o.what=4\/o.what=6):(cV w o).1=w:=by
 cases hr:o.right
 ·rw[gR hr]
 ·by_cases hw:o.what=10
  ·rw[uh hr hw]at h ⊢;split
   ·rfl
   ·rename_i hn;rw[if_neg hn]at h;rcases h with h|h|h
    ·simp[rep]at h
    ·omega
    ·omega
  ·rw[fI hr hw]at h ⊢;rw[agx _ _ _ h,bW.ug]
theorem ai_{p q:bI}(h:p.like q=true)(ht:p.kB=q.kB):p=q:=by
 unfold bI.like at h;rw[bI.sW, <-ht]at h;exact h
theorem aeO:∀ {m b:List bI} {x:bI},x∈b->(∀y∈m,y.like x=true->y=x)->x∈m.foldl zt b
 |[],_,_,hx,_=>hx
 |y :: m,b,x,hx,h=>by
  refine aeO (m:=m) (b:=zt b y) ?_ (fun z hz=>h z (List.mem_cons_of_mem _ hz));unfold zt;cases hl:y.like x
  ·exact List.mem_append_left _ (List.mem_filter.2 ⟨hx,by rw[hl];rfl⟩)
  ·rw[h y (List.mem_cons_self ..) hl];exact List.mem_append_right _ (List.mem_singleton.2 rfl)
theorem ae3:∀ {m b:List bI} {n:Int},(∀y∈m,y.kB=n)->∀x∈m,x∈m.foldl zt b
 |[],_,_,_,x,hx=>by cases hx
 |y :: m,b,n,h,x,hx=>by
  rcases List.mem_cons.1 hx with rfl|hx
  ·refine aeO (m:=m) (b:=zt b x) ?_ (fun z hz hl=>ai_ hl ((h z (List.mem_cons_of_mem _ hz)).trans (h x (List.mem_cons_self ..)).symm));unfold zt;exact List.mem_append_right _ (List.mem_singleton.2 rfl)
  ·exact ae3 (m:=m) (b:=zt b y) (fun z hz=>h z (List.mem_cons_of_mem _ hz)) x hx
theorem ajQ{b m:List bI}{now n:Int}(h:∀y∈m,y.kB=n)(hn:now<n)(hl:(ob b m now).length<32):∀x∈m,x∈ob b m now:=by
 intro x hx;unfold ob at hl ⊢;simp only[List.length_drop]at hl;show x∈List.drop (((m.foldl zt b).filter (bI.alive now)).length-32) ((m.foldl zt b).filter (bI.alive now));rw[show((m.foldl zt b).filter (bI.alive now)).length-32=0 from by omega,List.drop_zero];refine List.mem_filter.2 ⟨ae3 h x hx,?_⟩;unfold bI.alive;rw[h x hx,decide_eq_true hn]
theorem ae6{b:List bI}{r:lu}{now:Int}(hn:r.needs=true)(hc:hZ b r now=true):b.any (r.NP now)=true:=by
 unfold hZ at hc;rw[hn]at hc;simp only[Bool.not_true,Bool.false_or]at hc;cases hb:dY b r now with
 |nil =>
  rw[hb]at hc;unfold lu.needs at hn;rw[hc]at hn;simp at hn
 |cons p l =>
  have:p∈dY b r now:=by rw[hb];exact List.mem_cons_self ..
  obtain⟨h1,h2⟩:=List.mem_filter.1 this;exact List.any_eq_true.2 ⟨p,h1,h2⟩
theorem aeN{o:ib}(h:o.right=true):0<o.method.size:=by
 unfold ib.right ib.O8 at h;simp only[Bool.and_eq_true]at h;have:=aeA h.2.2.1.2.2.1;simpa using this
theorem aeE{w:bW}{o:ib}(hr:o.right=true):(cV w {o with what:=4}).2.what=if hZ (w.part o.part.toNat).book o.ab w.now then 5 else 4:=by
 rw[fI (mf hr (by decide) (by decide)) (by show(4:Int)≠10;decide)];show(lF (w.part o.part.toNat) w.now {o with what:=4}).2.what=_;unfold lF;rw[if_neg (by show¬(4:Int)=1;decide),if_neg (by show¬(4:Int)=2;decide),if_neg (by show¬(4:Int)=3;decide),if_pos rfl];rfl
theorem ae0{w:bW}{o:ib}(h5:o.what=5)(h:(cV w o).2.what=1) :
  o.right=true/\∃f,ik o.text.data.toList=.ok f/\(0<iB f->((cV w o).1.part o.part.toNat).book.length<32->(cV (cV w o).1 {o with what:=4}).2.what=5):=by
 cases hr:o.right
 ·rw[gR hr]at h;simp[rep]at h
 refine⟨rfl,?_⟩;have e:=fI (w:=w) hr (by omega);rw[e]at h;have h':(lF (w.part o.part.toNat) w.now o).2.what=1:=h;have hp:(cV w o).1.part o.part.toNat=(lF (w.part o.part.toNat) w.now o).1:=by rw[e];exact bW.qj _ _ _
 have aiN:(cV w o).1.now=w.now:=by rw[e];rfl
 rw[aeE hr,hp,aiN];have key:lF (w.part o.part.toNat) w.now o=fS (w.part o.part.toNat) w.now o:=by
  unfold lF;rw[if_neg (by omega),if_neg (by omega),if_neg (by omega),if_neg (by omega),if_pos h5]
 rw[key]at h' ⊢;cases hf:ik o.text.data.toList with
 |error e=>unfold fS at h';rw[hf]at h';simp[rep]at h'
 |ok f =>
  cases em:oc o.ab (zZ o.aI.bF) f w.now with
  |error e=>unfold fS at h';rw[hf]at h';simp only at h';rw[em]at h';simp[rep]at h'
  |ok m =>
   have hE:(fS (w.part o.part.toNat) w.now o).1.book=ob (w.part o.part.toNat).book m w.now:=by
    unfold fS;rw[hf];simp only;rw[em]
   refine⟨f,rfl,fun ha hl=>?_⟩;rw[hE]at hl ⊢;obtain⟨g1,_,g3⟩:=agb em (aeN hr);have rk:=ajQ (b:=(w.part o.part.toNat).book) (now:=w.now) (n:=w.now+iB f) (fun y hy=>(g1 y hy).1.2.2.2.2.2) (by omega) hl;have aiv:hZ (ob (w.part o.part.toNat).book m w.now) o.ab w.now=true:=by
    unfold hZ;cases hne:o.ab.needs
    ·rfl
    ·simp only[Bool.not_true,Bool.false_or];unfold lu.iA at g3 ⊢;refine aeK g3 (fun p hp=>?_) (fun x hx=>hx);refine List.mem_filter.2 ⟨rk p hp,?_⟩;obtain⟨q1,q2,q3,q4,q5,q6⟩:=(g1 p hp).1;unfold lu.NP bI.alive;rw[q1,q2,q3,q4,q5,q6];simp only[Bool.and_eq_true,decide_eq_true_eq,beq_self_eq_true,and_true];refine⟨by omega,(cO.sW _ _).2 rfl,(cO.sW _ _).2 rfl,?_⟩;cases o.ab.bP<;>rfl
   rw[aiv];rfl
theorem abq{w:bW}{o:ib}(hr:o.right=true):(cV w {o with what:=4}).2.what=4\/o.ab.needs=false\/(w.part o.part.toNat).book.any (o.ab.NP w.now)=true:=by
 rw[aeE hr];cases hc:hZ (w.part o.part.toNat).book o.ab w.now
 ·exact Or.inl rfl
 ·cases hn:o.ab.needs
  ·exact Or.inr (Or.inl rfl)
  ·exact Or.inr (Or.inr (ae6 hn hc))
theorem aaH(base:Nat)(w:World)(B:Nat)(pv:Nat->bB)(x:bW)(h:aR base w B pv x)(i:Nat)(hi:i<4)(hl:(x.part i).book.length<1000000) :
  Calls Tryz.prog 27 #[.pointer (some ⟨B,0,none⟩),.int .i64 i] w (fun e w'=>∃v',e=.returned v'/\OwnRows w.heap.size 65 12 w' v' ((x.part i).book.map bI.cells)/\Fr ay w w'):=by
 have c:=(h.partAt hi).dM;have HR:=O (aeM base w (pv i).k (pv i).kv (x.part i).book (h.part i hi).book hl);have Nr:(i:Int)<4:=by omega
 have qD:¬(i:Int)<0:=by omega
 have Oh:¬(4:Int)<=(i:Int):=by omega
 have Lb:(0:Int)<=(i:Int):=by omega
 clear h hl;go_enter Tryz.func27,Tryz.ntmps27;go_wp2_with fail
 refine HR.out.mono ?_;rintro e u⟨v',rfl,hg⟩;go_wp2;go_ret;exact⟨v',rfl,hg⟩
section
variable {a U U' : World} {B C : Nat} {pv aac : Nat → bB} {x x' y : bW}
end
theorem fW.xc{x:bW}(h:fW x):∀i,i<4->(x.part i).aH.length<68719476736/\(x.part i).waits.length<68719476736/\(x.part i).book.length<1000000/\(x.part i).dh.length<=1000000:=fun i _=>by
 obtain⟨l1,l2,l3,l4⟩:=(h.ok.part i).xc;exact⟨by omega,by omega,by omega,by omega⟩
theorem aaw:fJ 36:=by unfold fJ;decide
def bI.live(now:Int)(f o:cO)(pa qu:ByteArray)(p:bI):Bool:=decide (now<p.kB)&&(p.aI.eN f&&(p.o.eN o&&(p.path.toList==pa.toList&&p.query.toList==qu.toList)))
theorem abr{r:lu}{now:Int}{p:bI}(h:r.NP now p=true):p.live now r.aI r.o r.path r.query=true:=by
 unfold lu.NP bI.alive at h;unfold bI.live;simp only[Bool.and_eq_true]at h ⊢;exact⟨h.1,h.2.1,h.2.2.1⟩
theorem ae7{base:Nat}{w:World}{B:Nat}{pv:Nat->bB}{x:bW}(h:aR base w B pv x)(p:bI)(o:ei)(bp bo:Nat)(hp:w.heap[bp]?=some (.cells #[.pointer (some ⟨B,0,none⟩)] 36 (0,0)))(hr:w.heap[bo]?=some (.cells o.cells.toArray 33 (0,0))) :
  Calls Tryz.prog 30 #[.agg p.cells.toArray,.pointer (some ⟨bp,0,none⟩),.pointer (some ⟨bo,0,none⟩)] w fun e w'=>e=.returned (.bool (p.live x.now o.ab.aI o.ab.o o.ab.path o.ab.query))/\Fr ay w w':=by
 have heq:=ey p.aI o.ab.aI;have heu:=uf p.o p.path p.query o.ab.o o.ab.path o.ab.query;obtain⟨w1,jt⟩:∃w1,w1=w.alloc (.cells p.cells.toArray 65):=⟨_,rfl⟩;have dF:Fr ay w w1:=by rw[jt];exact(Fr.refl ay w).alloc _
 have g0:=dF.keep hr (fun h=>h);have g2:=dF.keep hp (fun h=>h);have hc:∀i u,o.cells[i]?=some u->w1.cell? ⟨bo,i,none⟩=some u:=fun i u hu=>by simp only[World.cell?,g0];simpa using hu
 have c2:=hc 2 _ rfl;have c3:=hc 3 _ rfl;have c4:=hc 4 _ rfl;have c5:=hc 5 _ rfl;have c6:=hc 6 _ rfl;have c7:=hc 7 _ rfl;have c8:=hc 8 _ rfl;have c9:=hc 9 _ rfl;have p0:w1.cell? ⟨bp,0,none⟩=some (.pointer (some ⟨B,0,none⟩)):=by simp only[World.cell?,g2];rfl
 have Qx:=O (fun n=>Fz base (w1.drewN n) B pv x ((h.bd dF).bd ((Fr.refl ay w1).drewN n)));have HF:=O (show∀n,Fr ay w (w1.drewN n)from fun n=>Fr.drewN n dF);rw[jt]at c2 c3 c4 c5 c6 c7 c8 c9 p0 Qx HF;clear hr g0 g2 hc dF hp jt h;unfold bI.cells at *
 by_cases ht:x.now<p.kB
 case neg =>
  have hd:decide (x.now<p.kB)=false:=decide_eq_false ht;have HR:=O (show p.live x.now o.ab.aI o.ab.o o.ab.path o.ab.query=false by unfold bI.live;rw[hd];rfl);clear ht;go_enter Tryz.func30,Tryz.ntmps30;go_wp2_with fail
  go_quiet ((go_at_call 23;exact Calls.quiet_of_same (Qx.out _)));go_wp2_with fail
  go_ret;exact⟨by rw[HR.out];rfl,HF.out _⟩
 have hd:decide (x.now<p.kB)=true:=decide_eq_true ht;clear ht;cases e1:p.aI.eN o.ab.aI
 ·have HR:=O (show p.live x.now o.ab.aI o.ab.o o.ab.path o.ab.query=false by unfold bI.live;rw[hd,e1];rfl);rw[e1]at heq;clear e1;go_enter Tryz.func30,Tryz.ntmps30;go_wp2_with fail
  go_quiet ((go_at_call 23;exact Calls.quiet_of_same (Qx.out _)));go_wp2_with fail
  go_ret;exact⟨by rw[HR.out];rfl,HF.out _⟩
 ·have HR:=O (show p.live x.now o.ab.aI o.ab.o o.ab.path o.ab.query=(p.o.eN o.ab.o&&(p.path.toList==o.ab.path.toList&&p.query.toList==o.ab.query.toList))by unfold bI.live;rw[hd,e1];rfl);rw[e1]at heq;generalize (p.o.eN o.ab.o&&(p.path.toList==o.ab.path.toList&&p.query.toList==o.ab.query.toList))=res at *
  clear e1;go_enter Tryz.func30,Tryz.ntmps30;go_wp2_with fail
  go_quiet ((go_at_call 23;exact Calls.quiet_of_same (Qx.out _)));go_wp2_with fail
  go_ret;exact⟨by rw[HR.out];rfl,HF.out _⟩
theorem aaG{base:Nat}{w:World}{B:Nat}{pv:Nat->bB}{x:bW}(h:aR base w B pv x)(ps:List bI)(o:ei)(bp bo:Nat)(hp:w.heap[bp]?=some (.cells #[.pointer (some ⟨B,0,none⟩)] 36 (0,0)))(hr:w.heap[bo]?=some (.cells o.cells.toArray 33 (0,0)))(ha:ps.any (fun p=>p.live x.now o.ab.aI o.ab.o o.ab.path o.ab.query)=true) :
  ∃p:List Value->Bool,dn ay w 30 #[.pointer (some ⟨bp,0,none⟩),.pointer (some ⟨bo,0,none⟩)] p (ps.map bI.cells)/\(ps.map bI.cells).any p=true:=by
 classical
 refine⟨fun c=>if hc:∃q:bI,q.cells=c then hc.choose.live x.now o.ab.aI o.ab.o o.ab.path o.ab.query else false,fun y hy u hu=>?_,?_⟩
 ·obtain⟨q,hq,rfl⟩:=List.mem_map.1 hy;have hex:∃q':bI,q'.cells=q.cells:=⟨q,rfl⟩;have e:hex.choose=q:=bI.vz hex.choose_spec;have h1:=ae7 (h.bd hu) q o bp bo (hu.keep hp (fun h=>h)) (hu.keep hr (fun h=>h));simp only[hex,dif_pos];rw[e];simpa using h1
 ·rw[List.any_map];obtain⟨q,hq,hl⟩:=List.any_eq_true.1 ha;refine List.any_eq_true.2 ⟨q,hq,?_⟩;have hex:∃q':bI,q'.cells=q.cells:=⟨q,rfl⟩;have e:hex.choose=q:=bI.vz hex.choose_spec;simp only[Function.comp,hex,dif_pos];rw[e];exact hl
def gaO:cO:=⟨true,⟨#[97,46,116,101,115,116]⟩,443⟩
def gbO:cO:=⟨true,⟨#[98,46,116,101,115,116]⟩,443⟩
def aax:ByteArray:=⟨#[80,85,84]⟩
def aah:dp Value:=⟨0,gaO,gbO,⟨#[47]⟩,⟨#[]⟩,aax,.slice none 0 0,false,⟨#[]⟩⟩
def afa:Bs:=[65,99,99,101,115,115,45,67,111,110,116,114,111,108,45,65,108,108,111,119,45,79,114,105,103,105,110,58,32,104,116,116,112,115,58,47,47,97,46]++[116,101,115,116,10,65,99,99,101,115,115,45,67,111,110,116,114,111,108,45,65,108,108,111,119,45,77,101,116,104,111,100,115,58,32,80,85,84,44,88]
def gPs:List ew:=[(lz,[104,116,116,112,115,58,47,47,97,46,116,101,115,116]),(DI,[80,85,84,44,88])]
def aaj:lu:=⟨gaO,gbO,⟨#[47]⟩,⟨#[]⟩,aax,[],false⟩
def aak:List bI:=[aaj.xF 15 aax ⟨#[]⟩,aaj.xF 15 ⟨#[88]⟩ ⟨#[]⟩]
theorem akd:ik afa=.ok gPs:=by kernel_rfl
theorem agy:eD aax=aax:=by decide +kernel
theorem aln:rQ []=[]:=by
 unfold rQ Y3 BG pK CS;simp[oa,Lib.compact,Lib.compactUpTo]
theorem akf:lp aax=false:=by unfold lp aax;simp[ByteArray.toList_eq]
theorem alq(ps:List bI):aaj.iA ps=ps.any (bI.lets aax false):=by
 unfold lu.iA TL;show((lp (eD aax)||ps.any (bI.lets (eD aax) false))&&(rQ []).all _)=_;rw[agy,akf,aln];simp
theorem alo:aaj.needs=true:=by
 unfold lu.needs;rw[alq];have h1:gaO.eN gbO=false:=by
  unfold cO.eN gaO gbO;simp[ByteArray.toList_eq]
 show(!gaO.eN gbO&&!_)=true;rw[h1];rfl
theorem amc:(ra gaO).data.toList=[104,116,116,112,115,58,47,47,97,46,116,101,115,116]:=by decide +kernel
theorem alr:Gc (ra gaO).data.toList false gPs=true:=by rw[amc];decide +kernel
theorem alj:fL gPs DI=some [[80,85,84],[88]]:=by decide +kernel
theorem alk:fL gPs rT=some []:=by decide +kernel
theorem amd:iB gPs=5:=by decide +kernel
theorem alm:aaj.aH 15 [[80,85,84],[88]] []=aak:=by
 unfold lu.aH lu.methods aak;show List.foldl kJ (List.foldl kJ [] [aaj.xF 15 aax ⟨#[]⟩,aaj.xF 15 ⟨#[88]⟩ ⟨#[]⟩]) []=_;have h:(aaj.xF 15 aax ⟨#[]⟩).eN (aaj.xF 15 ⟨#[88]⟩ ⟨#[]⟩)=false:=by
  rw[Bool.eq_false_iff];intro e;have:=congrArg (fun p:bI=>p.method.size) ((bI.sW _ _).1 e);exact absurd this (by decide)
 simp[kJ,h]
theorem alp:oc aaj (ra gaO).data.toList gPs 10=.ok aak:=by
 have e:oc aaj (ra gaO).data.toList gPs 10=(if !Gc (ra gaO).data.toList false gPs then .error 6 else if !aaj.iA (aaj.aH (10+iB gPs) [[80,85,84],[88]] [])then .error 6 else .ok (aaj.aH (10+iB gPs) [[80,85,84],[88]] [])):=by
  unfold oc;rw[alj,alk];rfl
 have h:aak.any (bI.lets aax false)=true:=by
  unfold aak;rw[List.any_cons];have:(aaj.xF 15 aax ⟨#[]⟩).lets aax false=true:=by unfold bI.lets lu.xF;simp
  rw[this];rfl
 rw[e,alr,amd,if_neg (by decide),show(10:Int)+5=15 from rfl,alm,alq,h];rfl
theorem gOk:AQ aah []:=⟨by decide,by decide,fun _ h=>by cases h⟩
theorem ae1(w:World)(ht:nI w):Calls Tryz.prog 24 #[] w fun e w'=>e=.returned (.bool true)/\Fr ay w w':=by
 obtain⟨w1,jt⟩:∃w1,w1=w.alloc (.cells aah.cells.toArray 29):=⟨_,rfl⟩;have bt:Fr ay w w1:=by rw[jt];exact(Fr.refl _ _).alloc _
 have gZ:w1.heap[w.heap.size]?=some (.cells aah.cells.toArray 29 (0,0)):=by rw[jt];exact af _ _
 have HX:=O (show∀U,Fr ay w1 U->vp U w.heap.size aah from fun U hU=>vp.cR (hU.keep gZ (fun h=>h)));have HFI:=O (show∀U,Calls Tryz.prog 25 #[.string ⟨afa.toArray⟩] U fun e w'=>Fr ay U w'/\∃v,e=.returned (.tuple #[v,.nilIface])/\OwnRows U.heap.size 126 2 w' v (gPs.map jB)from fun U=>(Hq ⟨afa.toArray⟩ U (by decide)).mono (fun e w' h=>by
  obtain⟨hf,h⟩:=h;have e2:ik (ByteArray.mk afa.toArray).data.toList=.ok gPs:=akd;rw[e2]at h;exact⟨hf,h⟩))
 have hps:fT gPs:=⟨by decide,by decide⟩
 have Fa:=O (show∀U lv,Fr ay w1 U->gu U lv gPs->Calls Tryz.prog 65 #[.agg aah.cells.toArray,lv,.int .i64 10] U fun e w'=>Fr ay U w'/\∃v,e=.returned (.tuple #[v,.nilIface])/\OwnRows U.heap.size 65 12 w' v (aak.map bI.cells)from fun U lv hU hl=>(Mh aah [] lv gPs 10 U (aN.nil _ _) hl hps gOk (ht.fr (bt.trans hU)) (by decide) (by decide) (by decide) (by decide) (by decide)).mono (fun e w' h=>by
  have e2:oc (aah.bF []) (ra aah.aI).data.toList gPs 10=.ok aak:=alp;rw[e2]at h;exact h))
 have HND:=O (show∀U,Calls Tryz.prog 28 #[.agg aah.cells.toArray] U fun e w'=>e=.returned (.bool true)/\Fr ay U w' from fun U=>(Lu aah [] U (aN.nil _ _) gOk).mono (fun e w' h=>⟨by rw[h.1];exact congrArg (fun b=>Ending.returned (.bool b)) alo,h.2⟩))
 have HMY:=O (show∀U lv,Fr ay w1 U->gu U lv gPs->Calls Tryz.prog 66 #[.agg aah.cells.toArray,lv] U fun e w'=>e=.returned (.bool true)/\Fr ay U w' from fun U lv hU hl=>(Vv aah lv gPs U hl hps (ht.fr (bt.trans hU)) (by decide) (by decide) (by decide)).mono (fun e w' h=>⟨by rw[h.1];exact congrArg (fun b=>Ending.returned (.bool b)) alr,h.2⟩))
 have fR:=fun W=>run_storeCells_new (P:=Tryz.prog) W 29 #[.int .i64 0,.bool false,.string ⟨#[]⟩,.int .i64 0,.bool false,.string ⟨#[]⟩,.int .i64 0,.string ⟨#[]⟩,.string ⟨#[]⟩,.string ⟨#[]⟩,.slice none 0 0,.bool false,.string ⟨#[]⟩] aah.cells rfl (by unfold dp.cells;simp[Value.oneCell',aah]);have gV:=O bt;clear bt gZ hps ht;unfold dp.cells aah gaO gbO aax at fR jt Fa HND HMY;have hx:=HX
 unfold vp aah gaO gbO aax at hx;dsimp only at fR jt Fa HND HMY hx;clear HX;go_enter Tryz.func24,Tryz.ntmps24;go_wp2_with fail
 rw[<-jt];clear jt fR;refine(HFI.out w1).mono ?_;rintro e u1⟨rF,lv,rfl,hl1⟩;obtain⟨al,cl,hlv⟩:=hl1.form;rw[List.length_map]at hlv;subst hlv;have HL:=O (show∀U,Fr ay u1 U->gu U (.slice al gPs.length cl) gPs from fun U hU=>aN.bu hl1.at hU);have S':=O rF;obtain⟨e0,e1,e2,e3,e4,e5,e6,e7,e8,e9,e10,e11,e12⟩:=hx.out u1 rF;clear hl1 rF;go_wp2_with fail
 refine(Fa.out u1 _ S'.out (HL.out u1 (Fr.refl _ _))).mono ?_;rintro e u2⟨jZ,pv,rfl,vR⟩;have ql:=O (S'.out.trans jZ);have ao0:=O jZ;obtain⟨ap,cp,Gi⟩:=vR.form;replace Gi:pv=.slice ap 2 cp:=Gi;subst Gi;obtain⟨gp,of,Y5,CV,nW,nX,Xz,agD⟩:=oV.lie vR.at (by decide);subst Y5;clear CV Xz;have l0:=(agD 0 _ rfl).2.2.2.2.2.2.2.2.2.1;have l1:=(agD 1 _ rfl).2.2.2.2.2.2.2.2.2.2.2
 obtain⟨e0,e1,e2,e3,e4,e5,e6,e7,e8,e9,e10,e11,e12⟩:=hx.out u2 ql.out;unfold lu.xF aax at l0;dsimp only at l0;have l1':u2.cell? ⟨gp,of+12+11,none⟩=some (.int .i64 15):=l1;rw[Nat.zero_mul,Nat.add_zero]at l0;clear agD vR l1;go_wp2_with fail
 refine(HND.out u2).mono ?_;rintro e u3⟨rfl,pz⟩;have HU3:=O (ql.out.trans pz);have J1:=O (HL.out u3 (ao0.out.trans pz));clear e0 e1 e2 e3 e4 e5 e6 e7 e8 e9 e10 e11 e12 pz;obtain⟨e0,e1,e2,e3,e4,e5,e6,e7,e8,e9,e10,e11,e12⟩:=hx.out u3 HU3.out;go_wp2_with fail
 refine(HMY.out u3 _ HU3.out J1.out).mono ?_;rintro e u4⟨rfl,hu4⟩;go_wp2;go_ret;exact⟨rfl,gV.out.trans (HU3.out.trans hu4)⟩
theorem aaB{P:Program}{ops:Array Oper}{rest:List Oper}{op:Oper}{a:Act}{w:World}{Q:Exit->Act->World->Prop}(hw:Region.wanted op (yielded ops a.tmps)=true)(ty:TypeId)(x:Operand)(ho:op.op=.load ty x)
  (b o:Nat)(hx:a.eval x=.pointer (some ⟨b,o,none⟩))(cs:List Value)(d:TypeDesc)(hc:w.rangeAt b o cs)(hu:P.underlying ty=some d)(hd:d.isRow=true)(hi:(P.info? ty).map (·.size)=some cs.length)
  (h:wpList P ops Q rest (a.put op.dst (.agg cs.toArray)) w):wpList P ops Q (op :: rest) a w :=
 Go.BigFrame.wpList_want hw fun _ hK=>wp_load_mid ty x ho b o hx cs d hc hu hd hi (hK _ _ h)
theorem abe(f:List ew): -9223372036854775808<=iB f/\iB f<=9223372036854775807:=by
 have:=Gd f;omega
theorem bg.abl{w:World}{o:ei}{hs:List dW}(h:bg w o hs){n:Int}(hn: -9223372036854775808<=n/\n<=9223372036854775807):bg w {o with what:=10,n:=n} hs:={h with what:=⟨by show(-9223372036854775808:Int)<=10;decide,by show(10:Int)<=9223372036854775807;decide⟩,n:=hn}
theorem aet(v:Value)(os:List (ei×List dW))(o:ei)(hs:List dW)(n:Int)(w:World)(sO:gM w v os)(vD:jw w o hs)(pw:nI w)(md:kX w)(sh:kZ w)(db:iu w 9 .u8 Gr) :
  Calls Tryz.prog 7 #[v,.agg o.cells.toArray,.int .i64 n] w fun e w'=>e=.returned (.bool true)/\Below w.heap.size w w':=by
 have ht:fN w:=⟨⟨db,md,sh⟩,pw⟩;obtain⟨av,cv,cA⟩:=sO.1.form;rw[List.length_map]at cA;subst cA;obtain⟨ah,ch,df⟩:=aN.form vD.ab.cU;rw[List.length_map]at df;obtain⟨w0,pB⟩:∃w0,w0=w.alloc (.cells o.cells.toArray 33):=⟨_,rfl⟩;have iJ:Fr ay w w0:=by rw[pB];exact(Fr.refl ay w).alloc _
 have k0:w0.heap[w.heap.size]?=some (.cells o.cells.toArray 33 (0,0)):=by rw[pB];exact af _ _
 have qw:w0.heap.size=w.heap.size+1:=by rw[pB];simp
 have HT:=O ht;have fX:=O df;have oK:=O iJ;have HK0:=O k0;have Qf:=O vD;have HA0:=O sO
 have Qu:=O (show∀U,Fr ay w0 U->U.heap[w.heap.size]?=some (.cells #[.int .i64 o.what,.int .i64 o.ab.part,.bool o.ab.aI.ae,.string o.ab.aI.host,.int .i64 o.ab.aI.port,.bool o.ab.o.ae,.string o.ab.o.host,.int .i64 o.ab.o.port,.string o.ab.path,.string o.ab.query,.string o.ab.method,.slice ah hs.length ch,.bool o.ab.bP,.string o.ab.body,.bool o.proxy,.string o.text,.string o.user,.string o.pass,.string o.aB,.int .i64 o.cert,.bool o.all,.int .i64 o.n] 33 (0,0))from fun U hU=>by rw[<-aZ df];exact hU.keep k0 (fun h=>h))
 have Qv:=O (show∀U,Fr ay w U->Calls Tryz.prog 14 #[] U _ from fun U hU=>qU U (ht.fr hU));have LU:=O (show∀U,Fr ay w U->Calls Tryz.prog 15 #[.slice av os.length cv] U _ from fun U hU=>kQ _ os U (sO.fr hU))
 have BD:=O (show∀U n t,Fr ay w U->U.heap[n]?=some (.cells #[.int .i64 o.what,.int .i64 o.ab.part,.bool o.ab.aI.ae,.string o.ab.aI.host,.int .i64 o.ab.aI.port,.bool o.ab.o.ae,.string o.ab.o.host,.int .i64 o.ab.o.port,.string o.ab.path,.string o.ab.query,.string o.ab.method,.slice ah hs.length ch,.bool o.ab.bP,.string o.ab.body,.bool o.proxy,.string o.text,.string o.user,.string o.pass,.string o.aB,.int .i64 o.cert,.bool o.all,.int .i64 o.n] t (0,0))->Calls Tryz.prog 15 #[.slice (some ⟨n,0,none⟩) 1 1] U fun e w'=>e=.returned (.bool (!fU (o,hs)))/\Fr ay U w' from fun U n t hU hb=>by
  have h:=kQ _ [(o,hs)] U (gM.one (vD.fr hU) df (by rw[aZ df];exact hb));rw[vA]at h;exact h)
 have Qw:=O (show jy os=true->∀U,Fr ay w U->Calls Tryz.prog 16 #[.slice av os.length cv] U _ from fun rO U hU=>oM w.heap.size _ os U (sO.fr hU) rO w ht (Nat.le_refl _) hU hU.size);rw[pB]at k0;rw[aZ df]at pB k0 ⊢;have HW0:=O pB;clear pB df iJ k0 qw sO vD ht pw md sh db;go_enter Tryz.func7,Tryz.ntmps7;go_wp2_with fail
 rw[<-HW0.out];refine(Qv.out _ oK.out).mono ?_;rintro e u1⟨rfl,h1⟩;have H1a:=O h1;clear h1;go_wp2_with fail
 refine(ae1 u1 (HT.out.pw.fr (oK.out.trans H1a.out))).mono ?_;rintro e u1b⟨rfl,h1b⟩;have H1:=O (H1a.out.trans h1b);clear h1b H1a;go_wp2_with fail
 refine(LU.out _ (oK.out.trans H1.out)).mono ?_;rintro e u2⟨rfl,h2⟩;have H2:=O (H1.out.trans h2);have Ja:=O (Qu.out _ H2.out);clear h2 Qv LU;cases zg:jy os
 ·clear zg;go_wp2;go_ret;exact⟨rfl,(oK.out.trans H2.out).bQ⟩
 have LS:=O zg;clear zg
 go_wp2_with (first|((with_reducible refine ag ⟨some 21,_,_,_,_,_⟩ ?_);go_must(refine fV (by rfl) 33 (.tmp 4) rfl w.heap.size rfl _ #[.int .i64 o.what,.int .i64 o.ab.part,.bool o.ab.aI.ae,.string o.ab.aI.host,.int .i64 o.ab.aI.port,.bool o.ab.o.ae,.string o.ab.o.host,.int .i64 o.ab.o.port,.string o.ab.path,.string o.ab.query,.string o.ab.method,.slice ah hs.length ch,.bool o.ab.bP,.string o.ab.body,.bool o.proxy,.string o.text,.string o.user,.string o.pass,.string o.aB,.int .i64 o.cert,.bool o.all,.int .i64 o.n] (0,0) _ Ja.out Tryz.underlying33 rfl (by kernel_rfl) ?_))|fail)
 obtain⟨u3,pz⟩:∃u3,u3=u2.alloc (.cells #[.int .i64 o.what,.int .i64 o.ab.part,.bool o.ab.aI.ae,.string o.ab.aI.host,.int .i64 o.ab.aI.port,.bool o.ab.o.ae,.string o.ab.o.host,.int .i64 o.ab.o.port,.string o.ab.path,.string o.ab.query,.string o.ab.method,.slice ah hs.length ch,.bool o.ab.bP,.string o.ab.body,.bool o.proxy,.string o.text,.string o.user,.string o.pass,.string o.aB,.int .i64 o.cert,.bool o.all,.int .i64 o.n] 33):=⟨_,rfl⟩
 have dv:Fr ay u2 u3:=by rw[pz];exact(Fr.refl _ _).alloc _
 have H3:=O (H2.out.trans dv)
 have jQ:=af u2 (.cells #[.int .i64 o.what,.int .i64 o.ab.part,.bool o.ab.aI.ae,.string o.ab.aI.host,.int .i64 o.ab.aI.port,.bool o.ab.o.ae,.string o.ab.o.host,.int .i64 o.ab.o.port,.string o.ab.path,.string o.ab.query,.string o.ab.method,.slice ah hs.length ch,.bool o.ab.bP,.string o.ab.body,.bool o.proxy,.string o.text,.string o.user,.string o.pass,.string o.aB,.int .i64 o.cert,.bool o.all,.int .i64 o.n] 33)
 rw[<-pz]at jQ ⊢;clear pz dv;refine(BD.out _ _ _ (oK.out.trans H3.out) jQ).mono ?_;rintro e u4⟨rfl,h4⟩;have H4:=O (H3.out.trans h4);clear h4 jQ BD;cases FI:fU (o,hs)
 case true =>
  clear FI;go_wp2;go_ret;exact⟨rfl,(oK.out.trans H4.out).bQ⟩
 have Nf:=O FI;clear FI;go_wp2_with fail
 refine(Qw.out LS.out _ (oK.out.trans H4.out)).mono ?_;rintro e u5⟨B,pv,rfl,wQ,rk,h5,AF⟩;obtain⟨x,hx⟩:∃x,x=nM (opsL os):=⟨_,rfl⟩;rw[<-hx]at wQ rk;have Nd:=O wQ;have C4:=O rk;have H5:=O (H4.out.trans h5);have HLW:=O AF;have uI:=O (show∀U,Fr ay w U->bg U o hs from fun U hU=>bg.Mt (Qf.out.fr hU) Nf.out);clear wQ rk h5 AF hx Qw LS Nf;have jF:=O (oK.out.trans H5.out);have rA:=O (Qu.out _ H5.out)
 obtain⟨W1,pZ⟩:∃W1,W1=u5.setCell ⟨w.heap.size,0,none⟩ (.int .i64 5):=⟨_,rfl⟩;obtain⟨q2a,q2b,q2c,q2d⟩:=dU Nd.out jF.out (Nat.le_refl _) (Nat.le_refl _) rA.out aO (by decide) (by decide) 0 (.int .i64 5);have q2e:u5.cell? ⟨w.heap.size,0,none⟩=some (.int .i64 o.what):=by have h:=rA.out;simp only[World.cell?,h];rfl
 have q2f:u5.frozen? ⟨w.heap.size,0,none⟩=false:=by have h:=rA.out;simp[World.frozen?,h]
 have q2l:w.heap.size<u5.heap.size:=aj rA.out;rw[<-pZ]at q2a q2b q2c q2d;have JV:=O q2a;have fu:=O q2b
 have rA:=O (show W1.heap[w.heap.size]?=some (.cells #[.int .i64 5,.int .i64 o.ab.part,.bool o.ab.aI.ae,.string o.ab.aI.host,.int .i64 o.ab.aI.port,.bool o.ab.o.ae,.string o.ab.o.host,.int .i64 o.ab.o.port,.string o.ab.path,.string o.ab.query,.string o.ab.method,.slice ah hs.length ch,.bool o.ab.bP,.string o.ab.body,.bool o.proxy,.string o.text,.string o.user,.string o.pass,.string o.aB,.int .i64 o.cert,.bool o.all,.int .i64 o.n] 33 (0,0))from q2c)
 clear q2a q2b q2c q2d;have ai':=O (show W1.heap.size=u5.heap.size by rw[pZ];simp[World.setCell]);have aja:=O (show w.heap.size<u5.heap.size from q2l);have Mz:=O pZ;clear pZ;have ah4:=O (show∃W,W=W1.alloc (.cells #[.pointer (some ⟨B,0,none⟩)] 36)from⟨_,rfl⟩);obtain⟨W6,hh⟩:=ah4.out;clear ah4;have f8:Fr ay W1 W6:=by rw[hh];exact(Fr.refl _ _).alloc _
 have HW9:=O (JV.out.bd f8);have Cj:=O (fu.out.trans f8);have ajb:=O (show W6.heap[u5.heap.size]?=some (.cells #[.pointer (some ⟨B,0,none⟩)] 36 (0,0))by rw[hh, <-ai'.out];exact af _ _);have aqD:=O (f8.keep rA.out (fun h=>h));have ajc:=O hh;clear hh f8;have yr:=rH;have p0:W6.cell? ⟨u5.heap.size,0,none⟩=some (.pointer (some ⟨B,0,none⟩)):=by have h:=ajb.out;simp only[World.cell?,h];rfl
 rw[ajc.out,Mz.out]at p0;have aqE:=O (by have h:=aqD.out;rw[ajc.out,Mz.out]at h;exact h);obtain⟨Mm,VL⟩:∃Mm,Mm=cV x (({o with what:=5}).bF hs):=⟨_,rfl⟩
 have ajd:=O (show Calls Tryz.prog 17 #[.pointer (some ⟨B,0,none⟩),.agg #[.int .i64 5,.int .i64 o.ab.part,.bool o.ab.aI.ae,.string o.ab.aI.host,.int .i64 o.ab.aI.port,.bool o.ab.o.ae,.string o.ab.o.host,.int .i64 o.ab.o.port,.string o.ab.path,.string o.ab.query,.string o.ab.method,.slice ah hs.length ch,.bool o.ab.bP,.string o.ab.body,.bool o.proxy,.string o.text,.string o.user,.string o.pass,.string o.aB,.int .i64 o.cert,.bool o.all,.int .i64 o.n]] W6 (fun e w'=>e=.returned (.agg #[.int .i64 Mm.2.what,.string Mm.2.head,.int .i64 Mm.2.cert])/\aC w.heap.size W6 B pv Mm.1 w')from by
  have h:=ja (o:={o with what:=5}) (hs:=hs) HW9.out Cj.out C4.out HT.out (bg.qv (uI.out _ Cj.out) 5 (by decide) (by decide));rw[aZ (o:={o with what:=5}) (hs:=hs) fX.out]at h;rw[VL];exact h)
 have VM:=O (show fW Mm.1 by rw[VL];exact bg.small (bg.qv (uI.out _ Cj.out) 5 (by decide) (by decide)) C4.out);have VN:=O VL;clear VL
 go_wp2_with (first|((with_reducible refine ag ⟨some 30,_,_,_,_,_⟩ ?_);go_must(refine wpList_load_row rfl 33 (.tmp 4) rfl (w.heap.size) rfl _ #[.int .i64 5,.int .i64 o.ab.part,.bool o.ab.aI.ae,.string o.ab.aI.host,.int .i64 o.ab.aI.port,.bool o.ab.o.ae,.string o.ab.o.host,.int .i64 o.ab.o.port,.string o.ab.path,.string o.ab.query,.string o.ab.method,.slice ah hs.length ch,.bool o.ab.bP,.string o.ab.body,.bool o.proxy,.string o.text,.string o.user,.string o.pass,.string o.aB,.int .i64 o.cert,.bool o.all,.int .i64 o.n] (0,0) _ aqE.out Tryz.underlying33 rfl (by kernel_rfl) ?_))|fail)
 rw[<-Mz.out, <-ajc.out];clear q2e q2f q2l p0;refine ajd.out.mono ?_;rintro e u18⟨rfl,hp⟩;obtain⟨aje,gA,gB,dH⟩:=cb HW9.out Cj.out (Nat.le_refl _) hp;have aqF:=O gA;have ajf:=O gB;have ajg:=O (dH _ _ _ aqD.out aO (by decide));have VO:=O (dH _ _ _ ajb.out aaw (by decide));clear hp gA gB dH ajd;by_cases hq:Mm.2.what=1
 case neg =>
  have hd:decide (Mm.2.what=1)=false:=decide_eq_false hq;have qE:(Mm.2.what==1)=false:=beq_eq_false_iff_ne.2 hq;go_wp2_with fail
  go_ret;exact⟨rfl,ajf.out.bQ⟩
 have CD:=ae0 (w:=x) (o:=({o with what:=5}:ei).bF hs) rfl (by rw[<-VN.out];exact hq);rw[<-VN.out]at CD;obtain⟨sg,f,M3,hck⟩:=CD;have M9:=O (show ik o.text.data.toList=.ok f from M3);have HCK:=O hck;obtain⟨m,hm4,hom⟩:∃m:Nat,m<4/\o.ab.part=(m:Int):=by
  obtain⟨p0',p1'⟩:=fl sg;have p0:0<=o.ab.part:=p0';have p1:o.ab.part<4:=p1';exact⟨o.ab.part.toNat,by omega,by omega⟩
 have HRI:=O sg;have HM4:=O hm4;have HOM:=O hom;rw[hq];clear hq M3 hck sg hm4 hom;have c15:u18.cell? ⟨w.heap.size,15,none⟩=some (.string o.text):=by have h:=ajg.out;simp only[World.cell?,h];rfl
 have HFL:=O (show Calls Tryz.prog 25 #[.string o.text] u18 (fun e w'=>Fr ay u18 w'/\∃v,e=.returned (.tuple #[v,.nilIface])/\OwnRows u18.heap.size 126 2 w' v (f.map jB))from by
  have h:=Hq o.text u18 (uI.out _ ajf.out).text;unfold Hp at h;rw[M9.out]at h;exact h)
 go_wp2_with fail
 clear c15;refine HFL.out.mono ?_;rintro e u9⟨Wi,fv,rfl,Al⟩;obtain⟨aan,aaq,hff⟩:=Al.form;rw[List.length_map]at hff;subst hff;obtain⟨fv,hfe⟩:∃v,v=Value.slice aan f.length aaq:=⟨_,rfl⟩;have HFE:=O hfe;have HFV:=O (show OwnRows u18.heap.size 126 2 u9 fv (f.map jB)by rw[hfe];exact Al);have HU9:=O Wi
 have HNF:=O (show∀k,fv.ownBlock=some k->¬jV B aje k/\k≠w.heap.size from fun k hk=>⟨fun e=>by have h1:=HFV.out.block k hk;have h2:=aqF.out.fO e;omega,fun e=>by have h1:=HFV.out.block k hk;have h2:=aj ajg.out;omega⟩);clear Al Wi HFL hfe;have ame:=O (aqF.out.bd HU9.out);have amf:=O (ajf.out.trans HU9.out);have afb:=O (HU9.out.keep ajg.out (fun h=>h));have amg:=O (HU9.out.keep VO.out (fun h=>h))
 obtain⟨W28,afc⟩:∃W28,W28=u9.setCell ⟨w.heap.size,0,none⟩ (.int .i64 4):=⟨_,rfl⟩;obtain⟨agF,agG,agH,agI⟩:=dU ame.out amf.out (Nat.le_refl _) (Nat.le_refl _) afb.out aO (by decide) (by decide) 0 (.int .i64 4);have amh:u9.cell? ⟨w.heap.size,0,none⟩=some (.int .i64 5):=by have h:=afb.out;simp only[World.cell?,h];rfl
 have ami:u9.frozen? ⟨w.heap.size,0,none⟩=false:=by have h:=afb.out;simp[World.frozen?,h]
 have als:w.heap.size<u9.heap.size:=aj afb.out;rw[<-afc]at agF agG agH agI;have amj:=O agF;have amk:=O agG
 have aml:=O (show W28.heap[w.heap.size]?=some (.cells #[.int .i64 4,.int .i64 o.ab.part,.bool o.ab.aI.ae,.string o.ab.aI.host,.int .i64 o.ab.aI.port,.bool o.ab.o.ae,.string o.ab.o.host,.int .i64 o.ab.o.port,.string o.ab.path,.string o.ab.query,.string o.ab.method,.slice ah hs.length ch,.bool o.ab.bP,.string o.ab.body,.bool o.proxy,.string o.text,.string o.user,.string o.pass,.string o.aB,.int .i64 o.cert,.bool o.all,.int .i64 o.n] 33 (0,0))from agH)
 have amm:=O (agI _ _ (by have h1:=aja.out;have h2:=True.intro;omega) amg.out);clear agF agG agH agI;have anj:=O (show W28.heap.size=u9.heap.size by rw[afc];simp[World.setCell]);have ank:=O (show w.heap.size<u9.heap.size from als);have ah5:=O afc;clear afc
 have agL:=O (HFV.out.fr (S:=one w.heap.size) (w':=W28) (by rw[ah5.out];exact(Fr.refl (one w.heap.size) u9).setCell (p:=⟨w.heap.size,0,none⟩) (fun _=>rfl) _) (fun k hk e=>(HNF.out k hk).2 e));have HAG:=O (U7 fv f W28 agL.out.at (Cu M9.out));rw[HFE.out]at HAG;have Ku:True:=trivial;clear Ku;go_wp2_with fail
 rw[<-ah5.out];clear amh ami als;refine HAG.out.mono ?_;rintro e u10⟨rfl,agU⟩;have afd:=O agU;have alu:=O (agL.out.fr agU (fun _ _ h=>h));clear agU HAG HFV agL;have agV:=O (amj.out.bd afd.out);have aeB:=O (amk.out.trans afd.out);have aeP:=O (afd.out.keep aml.out (fun h=>h));have afe:=O (afd.out.keep amm.out (fun h=>h));by_cases ha:0<iB f
 case neg =>
  have hda:decide (0<iB f)=false:=decide_eq_false ha;have anS:¬0<iB f:=ha;have ah_:=O (show w.heap.size<u10.heap.size from aj aeP.out);have aie:=O (show u5.heap.size<u10.heap.size from aj afe.out)
  have agc:=O (show∃W,W=u10.alloc (.cells #[.int .i64 4,.int .i64 o.ab.part,.bool o.ab.aI.ae,.string o.ab.aI.host,.int .i64 o.ab.aI.port,.bool o.ab.o.ae,.string o.ab.o.host,.int .i64 o.ab.o.port,.string o.ab.path,.string o.ab.query,.string o.ab.method,.slice ah hs.length ch,.bool o.ab.bP,.string o.ab.body,.bool o.proxy,.string o.text,.string o.user,.string o.pass,.string o.aB,.int .i64 o.cert,.bool o.all,.int .i64 o.n] 33)from⟨_,rfl⟩)
  obtain⟨W41,hh⟩:=agc.out;clear agc;have f43:Fr ay u10 W41:=by rw[hh];exact(Fr.refl _ _).alloc _
  have amn:=O (agV.out.bd f43);have lA:=O (aeB.out.trans f43)
  have amo:=O (show W41.heap[u10.heap.size]?=some (.cells #[.int .i64 4,.int .i64 o.ab.part,.bool o.ab.aI.ae,.string o.ab.aI.host,.int .i64 o.ab.aI.port,.bool o.ab.o.ae,.string o.ab.o.host,.int .i64 o.ab.o.port,.string o.ab.path,.string o.ab.query,.string o.ab.method,.slice ah hs.length ch,.bool o.ab.bP,.string o.ab.body,.bool o.proxy,.string o.text,.string o.user,.string o.pass,.string o.aB,.int .i64 o.cert,.bool o.all,.int .i64 o.n] 33 (0,0))by rw[hh];exact af _ _)
  have VV:=O (f43.keep aeP.out (fun h=>h));have aqZ:=O (f43.keep afe.out (fun h=>h));have aif:=O hh;clear hh f43;have HAG:=O (U7 fv f W41 (alu.out.fr (w':=W41) (by rw[aif.out];exact(Fr.refl ay _).alloc _) (fun _ _ h=>h)).at (Cu M9.out));rw[HFE.out]at HAG
  go_wp2_with (first|((with_reducible refine ag ⟨some 62,_,_,_,_,_⟩ ?_);go_must(refine wpList_load_row rfl 33 (.tmp 4) rfl (w.heap.size) rfl _ #[.int .i64 4,.int .i64 o.ab.part,.bool o.ab.aI.ae,.string o.ab.aI.host,.int .i64 o.ab.aI.port,.bool o.ab.o.ae,.string o.ab.o.host,.int .i64 o.ab.o.port,.string o.ab.path,.string o.ab.query,.string o.ab.method,.slice ah hs.length ch,.bool o.ab.bP,.string o.ab.body,.bool o.proxy,.string o.text,.string o.user,.string o.pass,.string o.aB,.int .i64 o.cert,.bool o.all,.int .i64 o.n] (0,0) _ aeP.out Tryz.underlying33 rfl (by kernel_rfl) ?_))|((with_reducible refine ag ⟨none,.store 33 (.tmp 10) (.tmp 62),_,_,_,_⟩ ?_);go_must(refine ks rfl 33 (.tmp 10) (.tmp 62) rfl zOp #[.int .i64 4,.int .i64 o.ab.part,.bool o.ab.aI.ae,.string o.ab.aI.host,.int .i64 o.ab.aI.port,.bool o.ab.o.ae,.string o.ab.o.host,.int .i64 o.ab.o.port,.string o.ab.path,.string o.ab.query,.string o.ab.method,.slice ah hs.length ch,.bool o.ab.bP,.string o.ab.body,.bool o.proxy,.string o.text,.string o.user,.string o.pass,.string o.aB,.int .i64 o.cert,.bool o.all,.int .i64 o.n] rfl rfl (by kernel_rfl) rfl (by simp[Value.oneCell']) ?_))|fail)
  rw[<-aif.out];refine HAG.out.mono ?_;rintro e u12⟨rfl,Vn⟩;have ao0:=O Vn;clear Vn HAG;have agW:=O (amn.out.bd ao0.out);have aew:=O (lA.out.trans ao0.out);have aex:=O (ao0.out.keep VV.out (fun h=>h));have arB:=O (ao0.out.keep aqZ.out (fun h=>h));have CC:=O (ao0.out.keep amo.out (fun h=>h));obtain⟨W54,Wa⟩:∃W54,W54=u12.setCell ⟨u10.heap.size,0,none⟩ (.int .i64 10):=⟨_,rfl⟩
  obtain⟨ab7,ab8,ab9,ab_⟩:=dU agW.out aew.out (aeB.out).size (aeB.out).size CC.out aO (by decide) (by decide) 0 (.int .i64 10);have arC:u12.cell? ⟨u10.heap.size,0,none⟩=some (.int .i64 4):=by have h:=CC.out;simp only[World.cell?,h];rfl
  have arD:u12.frozen? ⟨u10.heap.size,0,none⟩=false:=by have h:=CC.out;simp[World.frozen?,h]
  have ajT:u10.heap.size<u12.heap.size:=aj CC.out;rw[<-Wa]at ab7 ab8 ab9 ab_;have arE:=O ab7;have arF:=O ab8
  have arG:=O (show W54.heap[u10.heap.size]?=some (.cells #[.int .i64 10,.int .i64 o.ab.part,.bool o.ab.aI.ae,.string o.ab.aI.host,.int .i64 o.ab.aI.port,.bool o.ab.o.ae,.string o.ab.o.host,.int .i64 o.ab.o.port,.string o.ab.path,.string o.ab.query,.string o.ab.method,.slice ah hs.length ch,.bool o.ab.bP,.string o.ab.body,.bool o.proxy,.string o.text,.string o.user,.string o.pass,.string o.aB,.int .i64 o.cert,.bool o.all,.int .i64 o.n] 33 (0,0))from ab9)
  have VZ:=O (ab_ _ _ (by have h1:=ah_.out;omega) aex.out);have aq8:=O (ab_ _ _ (by have h1:=aie.out;omega) arB.out);clear ab7 ab8 ab9 ab_;have ab':=O (show W54.heap.size=u12.heap.size by rw[Wa];simp[World.setCell]);have aca:=O (show u10.heap.size<u12.heap.size from ajT);have X3:=O Wa;clear Wa;obtain⟨W61,aff⟩:∃W61,W61=W54.setCell ⟨u10.heap.size,21,none⟩ (.int .i64 (iB f)):=⟨_,rfl⟩
  obtain⟨agX,agZ,ag0,afg⟩:=dU arE.out arF.out (aeB.out).size (aeB.out).size arG.out aO (by decide) (by decide) 21 (.int .i64 (iB f));have alv:W54.cell? ⟨u10.heap.size,21,none⟩=some (.int .i64 o.n):=by have h:=arG.out;simp only[World.cell?,h];rfl
  have alw:W54.frozen? ⟨u10.heap.size,21,none⟩=false:=by have h:=arG.out;simp[World.frozen?,h]
  have amp:u10.heap.size<W54.heap.size:=aj arG.out;rw[X3.out]at alv alw;rw[<-aff]at agX agZ ag0 afg;have ajU:=O agX;have MF:=O agZ
  have arH:=O (show W61.heap[u10.heap.size]?=some (.cells #[.int .i64 10,.int .i64 o.ab.part,.bool o.ab.aI.ae,.string o.ab.aI.host,.int .i64 o.ab.aI.port,.bool o.ab.o.ae,.string o.ab.o.host,.int .i64 o.ab.o.port,.string o.ab.path,.string o.ab.query,.string o.ab.method,.slice ah hs.length ch,.bool o.ab.bP,.string o.ab.body,.bool o.proxy,.string o.text,.string o.user,.string o.pass,.string o.aB,.int .i64 o.cert,.bool o.all,.int .i64 (iB f)] 33 (0,0))from ag0)
  have arI:=O (afg _ _ (by have h1:=ah_.out;omega) VZ.out);have ajV:=O (afg _ _ (by have h1:=aie.out;omega) aq8.out);clear agX agZ ag0 afg;have anl:=O (show W61.heap.size=W54.heap.size by rw[aff];simp[World.setCell]);have X4:=O aff;clear aff;have p0:W61.cell? ⟨u5.heap.size,0,none⟩=some (.pointer (some ⟨B,0,none⟩)):=by have h:=ajV.out;simp only[World.cell?,h];rfl
  rw[X4.out,X3.out]at p0;have arJ:=O (by have h:=arH.out;rw[X4.out,X3.out]at h;exact h);obtain⟨Ii,Wb⟩:∃Ii,Ii=cV Mm.1 (({o with what:=10,n:=iB f}).bF hs):=⟨_,rfl⟩
  have ajW:=O (show Calls Tryz.prog 17 #[.pointer (some ⟨B,0,none⟩),.agg #[.int .i64 10,.int .i64 o.ab.part,.bool o.ab.aI.ae,.string o.ab.aI.host,.int .i64 o.ab.aI.port,.bool o.ab.o.ae,.string o.ab.o.host,.int .i64 o.ab.o.port,.string o.ab.path,.string o.ab.query,.string o.ab.method,.slice ah hs.length ch,.bool o.ab.bP,.string o.ab.body,.bool o.proxy,.string o.text,.string o.user,.string o.pass,.string o.aB,.int .i64 o.cert,.bool o.all,.int .i64 (iB f)]] W61 (fun e w'=>e=.returned (.agg #[.int .i64 Ii.2.what,.string Ii.2.head,.int .i64 Ii.2.cert])/\aC w.heap.size W61 B aje Ii.1 w')from by
   have h:=ja (o:={o with what:=10,n:=iB f}) (hs:=hs) ajU.out MF.out VM.out HT.out (bg.abl (uI.out _ MF.out) (abe f));rw[aZ (o:={o with what:=10,n:=iB f}) (hs:=hs) fX.out]at h;rw[Wb];exact h)
  have ajX:=O (show fW Ii.1 by rw[Wb];exact bg.small (bg.abl (uI.out _ MF.out) (abe f)) VM.out);have arK:=O Wb;clear Wb
  go_wp2_with (first|((with_reducible refine ag ⟨some 68,_,_,_,_,_⟩ ?_);go_must(refine wpList_load_row rfl 33 (.tmp 10) rfl (u10.heap.size) rfl _ #[.int .i64 10,.int .i64 o.ab.part,.bool o.ab.aI.ae,.string o.ab.aI.host,.int .i64 o.ab.aI.port,.bool o.ab.o.ae,.string o.ab.o.host,.int .i64 o.ab.o.port,.string o.ab.path,.string o.ab.query,.string o.ab.method,.slice ah hs.length ch,.bool o.ab.bP,.string o.ab.body,.bool o.proxy,.string o.text,.string o.user,.string o.pass,.string o.aB,.int .i64 o.cert,.bool o.all,.int .i64 (iB f)] (0,0) _ arJ.out Tryz.underlying33 rfl (by kernel_rfl) ?_))|fail)
  rw[<-X3.out, <-X4.out];clear arC arD ajT alv alw amp p0;refine ajW.out.mono ?_;rintro e X5⟨rfl,hp⟩;obtain⟨arL,gA,gB,dH⟩:=cb ajU.out MF.out (Nat.le_refl _) hp;have arM:=O gA;have arN:=O gB;have abV:=O (dH _ _ _ arI.out aO (by decide));have Wc:=O (dH _ _ _ ajV.out aaw (by decide));have arO:=O (dH _ _ _ arH.out aO (by decide));clear hp gA gB dH ajW;by_cases hq:Ii.2.what=1
  case neg =>
   have hd:decide (Ii.2.what=1)=false:=decide_eq_false hq;have qE:(Ii.2.what==1)=false:=beq_eq_false_iff_ne.2 hq;go_wp2_with fail
   go_ret;exact⟨rfl,arN.out.bQ⟩
  rw[hq];clear hq;have p0:X5.cell? ⟨u5.heap.size,0,none⟩=some (.pointer (some ⟨B,0,none⟩)):=by have h:=Wc.out;simp only[World.cell?,h];rfl
  have uF:=abq (w:=Ii.1) (o:=({o with what:=5}:ei).bF hs) HRI.out;have hpk:=aev Ii.1 (({o with what:=4}:ei).bF hs) (Or.inr (Or.inl rfl));obtain⟨y80,afh⟩:∃y80,y80=cV Ii.1 (({o with what:=4}).bF hs):=⟨_,rfl⟩
  have alx:=O (show Calls Tryz.prog 17 #[.pointer (some ⟨B,0,none⟩),.agg #[.int .i64 4,.int .i64 o.ab.part,.bool o.ab.aI.ae,.string o.ab.aI.host,.int .i64 o.ab.aI.port,.bool o.ab.o.ae,.string o.ab.o.host,.int .i64 o.ab.o.port,.string o.ab.path,.string o.ab.query,.string o.ab.method,.slice ah hs.length ch,.bool o.ab.bP,.string o.ab.body,.bool o.proxy,.string o.text,.string o.user,.string o.pass,.string o.aB,.int .i64 o.cert,.bool o.all,.int .i64 o.n]] X5 (fun e w'=>e=.returned (.agg #[.int .i64 y80.2.what,.string y80.2.head,.int .i64 y80.2.cert])/\aC w.heap.size X5 B arL y80.1 w')from by
   have h:=ja (o:={o with what:=4}) (hs:=hs) arM.out arN.out ajX.out HT.out (bg.qv (uI.out _ arN.out) 4 (by decide) (by decide));rw[aZ (o:={o with what:=4}) (hs:=hs) fX.out]at h;rw[afh];exact h)
  have amq:=O (show fW y80.1 by rw[afh];exact bg.small (bg.qv (uI.out _ arN.out) 4 (by decide) (by decide)) ajX.out);have amr:=O afh;clear afh
  go_wp2_with (first|((with_reducible refine ag ⟨some 73,_,_,_,_,_⟩ ?_);go_must(refine wpList_load_row rfl 33 (.tmp 4) rfl (w.heap.size) rfl _ #[.int .i64 4,.int .i64 o.ab.part,.bool o.ab.aI.ae,.string o.ab.aI.host,.int .i64 o.ab.aI.port,.bool o.ab.o.ae,.string o.ab.o.host,.int .i64 o.ab.o.port,.string o.ab.path,.string o.ab.query,.string o.ab.method,.slice ah hs.length ch,.bool o.ab.bP,.string o.ab.body,.bool o.proxy,.string o.text,.string o.user,.string o.pass,.string o.aB,.int .i64 o.cert,.bool o.all,.int .i64 o.n] (0,0) _ abV.out Tryz.underlying33 rfl (by kernel_rfl) ?_))|fail)
  clear p0;refine alx.out.mono ?_;rintro e u85⟨rfl,hp⟩;obtain⟨anT,gA,gB,dH⟩:=cb arM.out arN.out (Nat.le_refl _) hp;have ams:=O gA;have ag5:=O gB;have ag9:=O (dH _ _ _ abV.out aO (by decide));have amt:=O (dH _ _ _ Wc.out aaw (by decide));have amu:=O (dH _ _ _ arO.out aO (by decide));clear hp gA gB dH alx
  change (cV Ii.1 (({o with what:=4}:ei).bF hs)).2.what=4\/(o.ab.bF hs).needs=false\/(Ii.1.part o.ab.part.toNat).book.any ((o.ab.bF hs).NP Ii.1.now)=true at uF;rw[<-amr.out]at uF hpk;have JC:=O uF;have HPK:=O hpk;clear uF hpk;by_cases hq:y80.2.what=4
  case pos =>
   have hd:decide (y80.2.what=4)=true:=decide_eq_true hq;have qE:(y80.2.what==4)=true:=beq_iff_eq.2 hq;go_wp2_with fail
   go_ret;exact⟨rfl,ag5.out.bQ⟩
  have hd:decide (y80.2.what=4)=false:=decide_eq_false hq;have qE:(y80.2.what==4)=false:=beq_eq_false_iff_ne.2 hq;have HQ4:=O hq;clear hq;have c1:u85.cell? ⟨w.heap.size,1,none⟩=some (.int .i64 o.ab.part):=by have h:=ag9.out;simp only[World.cell?,h];rfl
  rw[HOM.out]at c1
  have HND:=O (show∀U,Fr ay w U->Calls Tryz.prog 28 #[.agg #[.int .i64 o.ab.part,.bool o.ab.aI.ae,.string o.ab.aI.host,.int .i64 o.ab.aI.port,.bool o.ab.o.ae,.string o.ab.o.host,.int .i64 o.ab.o.port,.string o.ab.path,.string o.ab.query,.string o.ab.method,.slice ah hs.length ch,.bool o.ab.bP,.string o.ab.body]] U (fun e w'=>e=.returned (.bool (o.ab.bF hs).needs)/\Fr ay U w')from fun U hU=>by
   have h:=Lu o.ab hs U (uI.out _ hU).cU (uI.out _ hU).ab;have hc:=fX.out;unfold dp.cells at h;rw[hc]at h;exact h)
  have HRG:=O (show u85.rangeAt w.heap.size 1 [.int .i64 o.ab.part,.bool o.ab.aI.ae,.string o.ab.aI.host,.int .i64 o.ab.aI.port,.bool o.ab.o.ae,.string o.ab.o.host,.int .i64 o.ab.o.port,.string o.ab.path,.string o.ab.query,.string o.ab.method,.slice ah hs.length ch,.bool o.ab.bP,.string o.ab.body]from fun i v hi=>by
   have h:=ag9.out;simp only[World.cell?,h];have pD:i<13:=(List.getElem?_eq_some_iff.1 hi).1;rw[show(1:Nat)+i=i+1 from Nat.add_comm _ _];rw[<-hi];rcases(show i=0\/i=1\/i=2\/i=3\/i=4\/i=5\/i=6\/i=7\/i=8\/i=9\/i=10\/i=11\/i=12 by omega)with rfl|rfl|rfl|rfl|rfl|rfl|rfl|rfl|rfl|rfl|rfl|rfl|rfl<;>rfl)
  go_wp2_with (first|((with_reducible refine ag ⟨some 79,_,_,_,_,_⟩ ?_);go_must(refine aaB (by rfl) 29 (.tmp 78) rfl w.heap.size 1 rfl [.int .i64 o.ab.part,.bool o.ab.aI.ae,.string o.ab.aI.host,.int .i64 o.ab.aI.port,.bool o.ab.o.ae,.string o.ab.o.host,.int .i64 o.ab.o.port,.string o.ab.path,.string o.ab.query,.string o.ab.method,.slice ah hs.length ch,.bool o.ab.bP,.string o.ab.body] _ HRG.out Tryz.underlying29 rfl (by kernel_rfl) ?_))|fail)
  clear c1 HRG;refine(HND.out _ ag5.out).mono ?_;rintro e X'⟨rfl,abt⟩;have aay:=O abt;clear abt HND;have aly:=O (ams.out.bd aay.out);have alz:=O (ag5.out.trans aay.out);have aj0:=O (aay.out.keep ag9.out (fun h=>h));have abZ:=O (aay.out.keep amt.out (fun h=>h));have V6:=O (aay.out.keep amu.out (fun h=>h));cases hne:(o.ab.bF hs).needs
  case false =>
   go_wp2_with fail
   go_ret;exact⟨rfl,alz.out.bQ⟩
  obtain⟨ps,hps⟩:∃ps,ps=(y80.1.part m).book:=⟨_,rfl⟩;have UZ:=O (show ps.any (fun p=>p.live y80.1.now o.ab.aI o.ab.o o.ab.path o.ab.query)=true by
   have h:=(JC.out.resolve_left HQ4.out).resolve_left (by rw[hne];decide);rw[show o.ab.part.toNat=m by have:=HOM.out;omega, <-HPK.out, <-hps]at h;obtain⟨p,hp,hl⟩:=List.any_eq_true.1 h;exact List.any_eq_true.2 ⟨p,hp,abr hl⟩)
  have HWP:=O (aaH _ X' B _ _ aly.out m HM4.out (amq.out.xc m HM4.out).2.2.1);rw[<-hps]at HWP;clear hne hps;have p0:X'.cell? ⟨u5.heap.size,0,none⟩=some (.pointer (some ⟨B,0,none⟩)):=by have h:=abZ.out;simp only[World.cell?,h];rfl
  have c1:X'.cell? ⟨w.heap.size,1,none⟩=some (.int .i64 o.ab.part):=by have h:=aj0.out;simp only[World.cell?,h];rfl
  rw[HOM.out]at c1;go_wp2_with fail
  clear p0 c1;refine HWP.out.mono ?_;rintro e u15⟨v2,rfl,kR,abu⟩;have aaA:=O abu;have TK:=O kR.at;obtain⟨a2,k2,bq⟩:=kR.form;rw[List.length_map]at bq;clear abu kR HWP;have amv:=O (aly.out.bd aaA.out);have amw:=O (alz.out.trans aaA.out);have afi:=O (aaA.out.keep aj0.out (fun h=>h));have ae8:=O (aaA.out.keep abZ.out (fun h=>h));have anH:=O (aaA.out.keep V6.out (fun h=>h))
  obtain⟨aar,hpa,dL⟩:=aaG amv.out ps {o with what:=4} (u5.heap.size) w.heap.size (by exact ae8.out) (by rw[aZ (o:={o with what:=4}) (hs:=hs) fX.out];exact afi.out) UZ.out;have Yb:=O (wR _ _ aar v2 _ u15 Tryz.call30 hpa TK.out);rw[dL]at Yb;rw[bq]at Yb ⊢;clear hpa dL bq TK;go_wp2_with fail
  refine Yb.out.mono ?_;rintro e u16⟨rfl,aeQ⟩;go_wp2_with fail
  go_ret;exact⟨rfl,(amw.out.trans aeQ).bQ⟩
 have hda:decide (0<iB f)=true:=decide_eq_true ha;have HA:=O ha;obtain⟨ps0,ahg⟩:∃ps,ps=(Mm.1.part m).book:=⟨_,rfl⟩;have HWP:=O (aaH _ u10 B _ _ agV.out m HM4.out (VM.out.xc m HM4.out).2.2.1);rw[<-ahg]at HWP;have hck:=HCK.out HA.out;change ((Mm.1.part o.ab.part.toNat).book.length<32->(cV Mm.1 (({o with what:=4}:ei).bF hs)).2.what=5)at hck
 rw[show o.ab.part.toNat=m by have:=HOM.out;omega, <-ahg]at hck;have amx:=O hck;clear hck ahg;have p0:u10.cell? ⟨u5.heap.size,0,none⟩=some (.pointer (some ⟨B,0,none⟩)):=by have h:=afe.out;simp only[World.cell?,h];rfl
 have c1:u10.cell? ⟨w.heap.size,1,none⟩=some (.int .i64 o.ab.part):=by have h:=aeP.out;simp only[World.cell?,h];rfl
 rw[HOM.out]at c1;go_wp2_with fail
 clear p0 c1;refine HWP.out.mono ?_;rintro e CZ⟨v1,rfl,sL,ahu⟩;have afj:=O ahu;obtain⟨a1,k1,bt⟩:=sL.form;rw[List.length_map]at bt;subst bt;have alA:=O (alu.out.fr ahu (fun _ _ h=>h));clear ahu sL HWP;have ahv:=O (agV.out.bd afj.out);have abm:=O (aeB.out.trans afj.out);have aeR:=O (afj.out.keep aeP.out (fun h=>h));have QB:=O (afj.out.keep afe.out (fun h=>h));by_cases hl:ps0.length<32
 case neg =>
  have hdl:decide ((ps0.length:Int)<32)=false:=decide_eq_false (by omega);have amy:¬(ps0.length:Int)<32:=by omega
  clear hl;have aim:=O (show w.heap.size<CZ.heap.size from aj aeR.out);have ain:=O (show u5.heap.size<CZ.heap.size from aj QB.out)
  have agh:=O (show∃W,W=CZ.alloc (.cells #[.int .i64 4,.int .i64 o.ab.part,.bool o.ab.aI.ae,.string o.ab.aI.host,.int .i64 o.ab.aI.port,.bool o.ab.o.ae,.string o.ab.o.host,.int .i64 o.ab.o.port,.string o.ab.path,.string o.ab.query,.string o.ab.method,.slice ah hs.length ch,.bool o.ab.bP,.string o.ab.body,.bool o.proxy,.string o.text,.string o.user,.string o.pass,.string o.aB,.int .i64 o.cert,.bool o.all,.int .i64 o.n] 33)from⟨_,rfl⟩)
  obtain⟨W45,hh⟩:=agh.out;clear agh;have f47:Fr ay CZ W45:=by rw[hh];exact(Fr.refl _ _).alloc _
  have amz:=O (ahv.out.bd f47);have amA:=O (abm.out.trans f47)
  have amB:=O (show W45.heap[CZ.heap.size]?=some (.cells #[.int .i64 4,.int .i64 o.ab.part,.bool o.ab.aI.ae,.string o.ab.aI.host,.int .i64 o.ab.aI.port,.bool o.ab.o.ae,.string o.ab.o.host,.int .i64 o.ab.o.port,.string o.ab.path,.string o.ab.query,.string o.ab.method,.slice ah hs.length ch,.bool o.ab.bP,.string o.ab.body,.bool o.proxy,.string o.text,.string o.user,.string o.pass,.string o.aB,.int .i64 o.cert,.bool o.all,.int .i64 o.n] 33 (0,0))by rw[hh];exact af _ _)
  have aex:=O (f47.keep aeR.out (fun h=>h));have arB:=O (f47.keep QB.out (fun h=>h));have aio:=O hh;clear hh f47;have HAG:=O (U7 fv f W45 (alA.out.fr (w':=W45) (by rw[aio.out];exact(Fr.refl ay _).alloc _) (fun _ _ h=>h)).at (Cu M9.out));rw[HFE.out]at HAG
  go_wp2_with (first|((with_reducible refine ag ⟨some 62,_,_,_,_,_⟩ ?_);go_must(refine wpList_load_row rfl 33 (.tmp 4) rfl (w.heap.size) rfl _ #[.int .i64 4,.int .i64 o.ab.part,.bool o.ab.aI.ae,.string o.ab.aI.host,.int .i64 o.ab.aI.port,.bool o.ab.o.ae,.string o.ab.o.host,.int .i64 o.ab.o.port,.string o.ab.path,.string o.ab.query,.string o.ab.method,.slice ah hs.length ch,.bool o.ab.bP,.string o.ab.body,.bool o.proxy,.string o.text,.string o.user,.string o.pass,.string o.aB,.int .i64 o.cert,.bool o.all,.int .i64 o.n] (0,0) _ aeR.out Tryz.underlying33 rfl (by kernel_rfl) ?_))|((with_reducible refine ag ⟨none,.store 33 (.tmp 10) (.tmp 62),_,_,_,_⟩ ?_);go_must(refine ks rfl 33 (.tmp 10) (.tmp 62) rfl zOp #[.int .i64 4,.int .i64 o.ab.part,.bool o.ab.aI.ae,.string o.ab.aI.host,.int .i64 o.ab.aI.port,.bool o.ab.o.ae,.string o.ab.o.host,.int .i64 o.ab.o.port,.string o.ab.path,.string o.ab.query,.string o.ab.method,.slice ah hs.length ch,.bool o.ab.bP,.string o.ab.body,.bool o.proxy,.string o.text,.string o.user,.string o.pass,.string o.aB,.int .i64 o.cert,.bool o.all,.int .i64 o.n] rfl rfl (by kernel_rfl) rfl (by simp[Value.oneCell']) ?_))|fail)
  rw[<-aio.out];refine HAG.out.mono ?_;rintro e u12⟨rfl,Vn⟩;have ao0:=O Vn;clear Vn HAG;have amC:=O (amz.out.bd ao0.out);have amD:=O (amA.out.trans ao0.out);have amE:=O (ao0.out.keep aex.out (fun h=>h));have amF:=O (ao0.out.keep arB.out (fun h=>h));have afk:=O (ao0.out.keep amB.out (fun h=>h));obtain⟨W58,afl⟩:∃W58,W58=u12.setCell ⟨CZ.heap.size,0,none⟩ (.int .i64 10):=⟨_,rfl⟩
  obtain⟨ahw,ahx,ahy,afm⟩:=dU amC.out amD.out (abm.out).size (abm.out).size afk.out aO (by decide) (by decide) 0 (.int .i64 10);have amG:u12.cell? ⟨CZ.heap.size,0,none⟩=some (.int .i64 4):=by have h:=afk.out;simp only[World.cell?,h];rfl
  have amH:u12.frozen? ⟨CZ.heap.size,0,none⟩=false:=by have h:=afk.out;simp[World.frozen?,h]
  have alB:CZ.heap.size<u12.heap.size:=aj afk.out;rw[<-afl]at ahw ahx ahy afm;have amI:=O ahw;have amJ:=O ahx
  have aeC:=O (show W58.heap[CZ.heap.size]?=some (.cells #[.int .i64 10,.int .i64 o.ab.part,.bool o.ab.aI.ae,.string o.ab.aI.host,.int .i64 o.ab.aI.port,.bool o.ab.o.ae,.string o.ab.o.host,.int .i64 o.ab.o.port,.string o.ab.path,.string o.ab.query,.string o.ab.method,.slice ah hs.length ch,.bool o.ab.bP,.string o.ab.body,.bool o.proxy,.string o.text,.string o.user,.string o.pass,.string o.aB,.int .i64 o.cert,.bool o.all,.int .i64 o.n] 33 (0,0))from ahy)
  have ahF:=O (afm _ _ (by have h1:=aim.out;omega) amE.out);have anP:=O (afm _ _ (by have h1:=ain.out;omega) amF.out);clear ahw ahx ahy afm;have ann:=O (show W58.heap.size=u12.heap.size by rw[afl];simp[World.setCell]);have ano:=O (show CZ.heap.size<u12.heap.size from alB);have aeI:=O afl;clear afl;obtain⟨W65,afn⟩:∃W65,W65=W58.setCell ⟨CZ.heap.size,21,none⟩ (.int .i64 (iB f)):=⟨_,rfl⟩
  obtain⟨ahH,ahI,ahM,afo⟩:=dU amI.out amJ.out (abm.out).size (abm.out).size aeC.out aO (by decide) (by decide) 21 (.int .i64 (iB f));have alC:W58.cell? ⟨CZ.heap.size,21,none⟩=some (.int .i64 o.n):=by have h:=aeC.out;simp only[World.cell?,h];rfl
  have alD:W58.frozen? ⟨CZ.heap.size,21,none⟩=false:=by have h:=aeC.out;simp[World.frozen?,h]
  have amK:CZ.heap.size<W58.heap.size:=aj aeC.out;rw[aeI.out]at alC alD;rw[<-afn]at ahH ahI ahM afo;have alE:=O ahH;have afB:=O ahI
  have alF:=O (show W65.heap[CZ.heap.size]?=some (.cells #[.int .i64 10,.int .i64 o.ab.part,.bool o.ab.aI.ae,.string o.ab.aI.host,.int .i64 o.ab.aI.port,.bool o.ab.o.ae,.string o.ab.o.host,.int .i64 o.ab.o.port,.string o.ab.path,.string o.ab.query,.string o.ab.method,.slice ah hs.length ch,.bool o.ab.bP,.string o.ab.body,.bool o.proxy,.string o.text,.string o.user,.string o.pass,.string o.aB,.int .i64 o.cert,.bool o.all,.int .i64 (iB f)] 33 (0,0))from ahM)
  have ard:=O (afo _ _ (by have h1:=aim.out;omega) ahF.out);have V2:=O (afo _ _ (by have h1:=ain.out;omega) anP.out);clear ahH ahI ahM afo;have anp:=O (show W65.heap.size=W58.heap.size by rw[afn];simp[World.setCell]);have ae9:=O afn;clear afn;have p0:W65.cell? ⟨u5.heap.size,0,none⟩=some (.pointer (some ⟨B,0,none⟩)):=by have h:=V2.out;simp only[World.cell?,h];rfl
  rw[ae9.out,aeI.out]at p0;have amL:=O (by have h:=alF.out;rw[ae9.out,aeI.out]at h;exact h);obtain⟨y72,afC⟩:∃y72,y72=cV Mm.1 (({o with what:=10,n:=iB f}).bF hs):=⟨_,rfl⟩
  have alG:=O (show Calls Tryz.prog 17 #[.pointer (some ⟨B,0,none⟩),.agg #[.int .i64 10,.int .i64 o.ab.part,.bool o.ab.aI.ae,.string o.ab.aI.host,.int .i64 o.ab.aI.port,.bool o.ab.o.ae,.string o.ab.o.host,.int .i64 o.ab.o.port,.string o.ab.path,.string o.ab.query,.string o.ab.method,.slice ah hs.length ch,.bool o.ab.bP,.string o.ab.body,.bool o.proxy,.string o.text,.string o.user,.string o.pass,.string o.aB,.int .i64 o.cert,.bool o.all,.int .i64 (iB f)]] W65 (fun e w'=>e=.returned (.agg #[.int .i64 y72.2.what,.string y72.2.head,.int .i64 y72.2.cert])/\aC w.heap.size W65 B aje y72.1 w')from by
   have h:=ja (o:={o with what:=10,n:=iB f}) (hs:=hs) alE.out afB.out VM.out HT.out (bg.abl (uI.out _ afB.out) (abe f));rw[aZ (o:={o with what:=10,n:=iB f}) (hs:=hs) fX.out]at h;rw[afC];exact h)
  have alH:=O (show fW y72.1 by rw[afC];exact bg.small (bg.abl (uI.out _ afB.out) (abe f)) VM.out);have anU:=O afC;clear afC
  go_wp2_with (first|((with_reducible refine ag ⟨some 68,_,_,_,_,_⟩ ?_);go_must(refine wpList_load_row rfl 33 (.tmp 10) rfl (CZ.heap.size) rfl _ #[.int .i64 10,.int .i64 o.ab.part,.bool o.ab.aI.ae,.string o.ab.aI.host,.int .i64 o.ab.aI.port,.bool o.ab.o.ae,.string o.ab.o.host,.int .i64 o.ab.o.port,.string o.ab.path,.string o.ab.query,.string o.ab.method,.slice ah hs.length ch,.bool o.ab.bP,.string o.ab.body,.bool o.proxy,.string o.text,.string o.user,.string o.pass,.string o.aB,.int .i64 o.cert,.bool o.all,.int .i64 (iB f)] (0,0) _ amL.out Tryz.underlying33 rfl (by kernel_rfl) ?_))|fail)
  rw[<-aeI.out, <-ae9.out];clear amG amH alB alC alD amK p0;refine alG.out.mono ?_;rintro e u77⟨rfl,hp⟩;obtain⟨amM,gA,gB,dH⟩:=cb alE.out afB.out (Nat.le_refl _) hp;have alI:=O gA;have aeS:=O gB;have afE:=O (dH _ _ _ ard.out aO (by decide));have aeT:=O (dH _ _ _ V2.out aaw (by decide));have arl:=O (dH _ _ _ alF.out aO (by decide));clear hp gA gB dH alG;by_cases hq:y72.2.what=1
  case neg =>
   have hd:decide (y72.2.what=1)=false:=decide_eq_false hq;have qE:(y72.2.what==1)=false:=beq_eq_false_iff_ne.2 hq;go_wp2_with fail
   go_ret;exact⟨rfl,aeS.out.bQ⟩
  rw[hq];clear hq;have p0:u77.cell? ⟨u5.heap.size,0,none⟩=some (.pointer (some ⟨B,0,none⟩)):=by have h:=aeT.out;simp only[World.cell?,h];rfl
  have uF:=abq (w:=y72.1) (o:=({o with what:=5}:ei).bF hs) HRI.out;have hpk:=aev y72.1 (({o with what:=4}:ei).bF hs) (Or.inr (Or.inl rfl));obtain⟨y84,afG⟩:∃y84,y84=cV y72.1 (({o with what:=4}).bF hs):=⟨_,rfl⟩
  have alJ:=O (show Calls Tryz.prog 17 #[.pointer (some ⟨B,0,none⟩),.agg #[.int .i64 4,.int .i64 o.ab.part,.bool o.ab.aI.ae,.string o.ab.aI.host,.int .i64 o.ab.aI.port,.bool o.ab.o.ae,.string o.ab.o.host,.int .i64 o.ab.o.port,.string o.ab.path,.string o.ab.query,.string o.ab.method,.slice ah hs.length ch,.bool o.ab.bP,.string o.ab.body,.bool o.proxy,.string o.text,.string o.user,.string o.pass,.string o.aB,.int .i64 o.cert,.bool o.all,.int .i64 o.n]] u77 (fun e w'=>e=.returned (.agg #[.int .i64 y84.2.what,.string y84.2.head,.int .i64 y84.2.cert])/\aC w.heap.size u77 B amM y84.1 w')from by
   have h:=ja (o:={o with what:=4}) (hs:=hs) alI.out aeS.out alH.out HT.out (bg.qv (uI.out _ aeS.out) 4 (by decide) (by decide));rw[aZ (o:={o with what:=4}) (hs:=hs) fX.out]at h;rw[afG];exact h)
  have amN:=O (show fW y84.1 by rw[afG];exact bg.small (bg.qv (uI.out _ aeS.out) 4 (by decide) (by decide)) alH.out);have amO:=O afG;clear afG
  go_wp2_with (first|((with_reducible refine ag ⟨some 73,_,_,_,_,_⟩ ?_);go_must(refine wpList_load_row rfl 33 (.tmp 4) rfl (w.heap.size) rfl _ #[.int .i64 4,.int .i64 o.ab.part,.bool o.ab.aI.ae,.string o.ab.aI.host,.int .i64 o.ab.aI.port,.bool o.ab.o.ae,.string o.ab.o.host,.int .i64 o.ab.o.port,.string o.ab.path,.string o.ab.query,.string o.ab.method,.slice ah hs.length ch,.bool o.ab.bP,.string o.ab.body,.bool o.proxy,.string o.text,.string o.user,.string o.pass,.string o.aB,.int .i64 o.cert,.bool o.all,.int .i64 o.n] (0,0) _ afE.out Tryz.underlying33 rfl (by kernel_rfl) ?_))|fail)
  clear p0;refine alJ.out.mono ?_;rintro e u89⟨rfl,hp⟩;obtain⟨anV,gA,gB,dH⟩:=cb alI.out aeS.out (Nat.le_refl _) hp;have amP:=O gA;have ahN:=O gB;have arW:=O (dH _ _ _ afE.out aO (by decide));have aj0:=O (dH _ _ _ aeT.out aaw (by decide));have abZ:=O (dH _ _ _ arl.out aO (by decide));clear hp gA gB dH alJ
  change (cV y72.1 (({o with what:=4}:ei).bF hs)).2.what=4\/(o.ab.bF hs).needs=false\/(y72.1.part o.ab.part.toNat).book.any ((o.ab.bF hs).NP y72.1.now)=true at uF;rw[<-amO.out]at uF hpk;have JC:=O uF;have HPK:=O hpk;clear uF hpk;by_cases hq:y84.2.what=4
  case pos =>
   have hd:decide (y84.2.what=4)=true:=decide_eq_true hq;have qE:(y84.2.what==4)=true:=beq_iff_eq.2 hq;go_wp2_with fail
   go_ret;exact⟨rfl,ahN.out.bQ⟩
  have hd:decide (y84.2.what=4)=false:=decide_eq_false hq;have qE:(y84.2.what==4)=false:=beq_eq_false_iff_ne.2 hq;have HQ4:=O hq;clear hq;have c1:u89.cell? ⟨w.heap.size,1,none⟩=some (.int .i64 o.ab.part):=by have h:=arW.out;simp only[World.cell?,h];rfl
  rw[HOM.out]at c1
  have HND:=O (show∀U,Fr ay w U->Calls Tryz.prog 28 #[.agg #[.int .i64 o.ab.part,.bool o.ab.aI.ae,.string o.ab.aI.host,.int .i64 o.ab.aI.port,.bool o.ab.o.ae,.string o.ab.o.host,.int .i64 o.ab.o.port,.string o.ab.path,.string o.ab.query,.string o.ab.method,.slice ah hs.length ch,.bool o.ab.bP,.string o.ab.body]] U (fun e w'=>e=.returned (.bool (o.ab.bF hs).needs)/\Fr ay U w')from fun U hU=>by
   have h:=Lu o.ab hs U (uI.out _ hU).cU (uI.out _ hU).ab;have hc:=fX.out;unfold dp.cells at h;rw[hc]at h;exact h)
  have HRG:=O (show u89.rangeAt w.heap.size 1 [.int .i64 o.ab.part,.bool o.ab.aI.ae,.string o.ab.aI.host,.int .i64 o.ab.aI.port,.bool o.ab.o.ae,.string o.ab.o.host,.int .i64 o.ab.o.port,.string o.ab.path,.string o.ab.query,.string o.ab.method,.slice ah hs.length ch,.bool o.ab.bP,.string o.ab.body]from fun i v hi=>by
   have h:=arW.out;simp only[World.cell?,h];have pD:i<13:=(List.getElem?_eq_some_iff.1 hi).1;rw[show(1:Nat)+i=i+1 from Nat.add_comm _ _];rw[<-hi];rcases(show i=0\/i=1\/i=2\/i=3\/i=4\/i=5\/i=6\/i=7\/i=8\/i=9\/i=10\/i=11\/i=12 by omega)with rfl|rfl|rfl|rfl|rfl|rfl|rfl|rfl|rfl|rfl|rfl|rfl|rfl<;>rfl)
  go_wp2_with (first|((with_reducible refine ag ⟨some 79,_,_,_,_,_⟩ ?_);go_must(refine aaB (by rfl) 29 (.tmp 78) rfl w.heap.size 1 rfl [.int .i64 o.ab.part,.bool o.ab.aI.ae,.string o.ab.aI.host,.int .i64 o.ab.aI.port,.bool o.ab.o.ae,.string o.ab.o.host,.int .i64 o.ab.o.port,.string o.ab.path,.string o.ab.query,.string o.ab.method,.slice ah hs.length ch,.bool o.ab.bP,.string o.ab.body] _ HRG.out Tryz.underlying29 rfl (by kernel_rfl) ?_))|fail)
  clear c1 HRG;refine(HND.out _ ahN.out).mono ?_;rintro e X'⟨rfl,abt⟩;have aay:=O abt;clear abt HND;have alK:=O (amP.out.bd aay.out);have alL:=O (ahN.out.trans aay.out);have alM:=O (aay.out.keep arW.out (fun h=>h));have afi:=O (aay.out.keep aj0.out (fun h=>h));have ae8:=O (aay.out.keep abZ.out (fun h=>h));cases hne:(o.ab.bF hs).needs
  case false =>
   go_wp2_with fail
   go_ret;exact⟨rfl,alL.out.bQ⟩
  obtain⟨ps,hps⟩:∃ps,ps=(y84.1.part m).book:=⟨_,rfl⟩;have UZ:=O (show ps.any (fun p=>p.live y84.1.now o.ab.aI o.ab.o o.ab.path o.ab.query)=true by
   have h:=(JC.out.resolve_left HQ4.out).resolve_left (by rw[hne];decide);rw[show o.ab.part.toNat=m by have:=HOM.out;omega, <-HPK.out, <-hps]at h;obtain⟨p,hp,hl⟩:=List.any_eq_true.1 h;exact List.any_eq_true.2 ⟨p,hp,abr hl⟩)
  have HWP:=O (aaH _ X' B _ _ alK.out m HM4.out (amN.out.xc m HM4.out).2.2.1);rw[<-hps]at HWP;clear hne hps;have p0:X'.cell? ⟨u5.heap.size,0,none⟩=some (.pointer (some ⟨B,0,none⟩)):=by have h:=afi.out;simp only[World.cell?,h];rfl
  have c1:X'.cell? ⟨w.heap.size,1,none⟩=some (.int .i64 o.ab.part):=by have h:=alM.out;simp only[World.cell?,h];rfl
  rw[HOM.out]at c1;go_wp2_with fail
  clear p0 c1;refine HWP.out.mono ?_;rintro e u15⟨v2,rfl,kR,abu⟩;have aaA:=O abu;have TK:=O kR.at;obtain⟨a2,k2,bq⟩:=kR.form;rw[List.length_map]at bq;clear abu kR HWP;have al3:=O (alK.out.bd aaA.out);have al4:=O (alL.out.trans aaA.out);have ajB:=O (aaA.out.keep alM.out (fun h=>h));have ajC:=O (aaA.out.keep afi.out (fun h=>h));have aj5:=O (aaA.out.keep ae8.out (fun h=>h))
  obtain⟨aar,hpa,dL⟩:=aaG al3.out ps {o with what:=4} (u5.heap.size) w.heap.size (by exact ajC.out) (by rw[aZ (o:={o with what:=4}) (hs:=hs) fX.out];exact ajB.out) UZ.out;have Yb:=O (wR _ _ aar v2 _ u15 Tryz.call30 hpa TK.out);rw[dL]at Yb;rw[bq]at Yb ⊢;clear hpa dL bq TK;go_wp2_with fail
  refine Yb.out.mono ?_;rintro e u16⟨rfl,aeQ⟩;go_wp2_with fail
  go_ret;exact⟨rfl,(al4.out.trans aeQ).bQ⟩
 have hdl:decide ((ps0.length:Int)<32)=true:=decide_eq_true (by omega);have amy:(ps0.length:Int)<32:=by omega
 have amQ:=O (amx.out hl);clear hl;have p0:CZ.cell? ⟨u5.heap.size,0,none⟩=some (.pointer (some ⟨B,0,none⟩)):=by have h:=QB.out;simp only[World.cell?,h];rfl
 obtain⟨y42,afJ⟩:∃y42,y42=cV Mm.1 (({o with what:=4}).bF hs):=⟨_,rfl⟩
 have alN:=O (show Calls Tryz.prog 17 #[.pointer (some ⟨B,0,none⟩),.agg #[.int .i64 4,.int .i64 o.ab.part,.bool o.ab.aI.ae,.string o.ab.aI.host,.int .i64 o.ab.aI.port,.bool o.ab.o.ae,.string o.ab.o.host,.int .i64 o.ab.o.port,.string o.ab.path,.string o.ab.query,.string o.ab.method,.slice ah hs.length ch,.bool o.ab.bP,.string o.ab.body,.bool o.proxy,.string o.text,.string o.user,.string o.pass,.string o.aB,.int .i64 o.cert,.bool o.all,.int .i64 o.n]] CZ (fun e w'=>e=.returned (.agg #[.int .i64 y42.2.what,.string y42.2.head,.int .i64 y42.2.cert])/\aC w.heap.size CZ B aje y42.1 w')from by
  have h:=ja (o:={o with what:=4}) (hs:=hs) ahv.out abm.out VM.out HT.out (bg.qv (uI.out _ abm.out) 4 (by decide) (by decide));rw[aZ (o:={o with what:=4}) (hs:=hs) fX.out]at h;rw[afJ];exact h)
 have alO:=O (show fW y42.1 by rw[afJ];exact bg.small (bg.qv (uI.out _ abm.out) 4 (by decide) (by decide)) VM.out);have amR:=O afJ;clear afJ
 go_wp2_with (first|((with_reducible refine ag ⟨some 57,_,_,_,_,_⟩ ?_);go_must(refine fV (by rfl) 33 (.tmp 4) rfl (w.heap.size) rfl _ #[.int .i64 4,.int .i64 o.ab.part,.bool o.ab.aI.ae,.string o.ab.aI.host,.int .i64 o.ab.aI.port,.bool o.ab.o.ae,.string o.ab.o.host,.int .i64 o.ab.o.port,.string o.ab.path,.string o.ab.query,.string o.ab.method,.slice ah hs.length ch,.bool o.ab.bP,.string o.ab.body,.bool o.proxy,.string o.text,.string o.user,.string o.pass,.string o.aB,.int .i64 o.cert,.bool o.all,.int .i64 o.n] (0,0) _ aeR.out Tryz.underlying33 rfl (by kernel_rfl) ?_))|fail)
 clear p0;refine alN.out.mono ?_;rintro e u47⟨rfl,hp⟩;obtain⟨amS,gA,gB,dH⟩:=cb ahv.out abm.out (Nat.le_refl _) hp;have agW:=O gA;have aew:=O gB;have aex:=O (dH _ _ _ aeR.out aO (by decide));have arB:=O (dH _ _ _ QB.out aaw (by decide));have amT:=O (alA.out.fr (by obtain⟨_,_,B4,_⟩:=hp;exact B4) (fun k hk e=>(HNF.out k hk).1 e));clear hp gA gB dH alN;have h5:=amQ.out;rw[<-amR.out]at h5;rw[h5]
 clear h5;have air:=O (show w.heap.size<u47.heap.size from aj aex.out);have aiu:=O (show u5.heap.size<u47.heap.size from aj arB.out)
 have agn:=O (show∃W,W=u47.alloc (.cells #[.int .i64 4,.int .i64 o.ab.part,.bool o.ab.aI.ae,.string o.ab.aI.host,.int .i64 o.ab.aI.port,.bool o.ab.o.ae,.string o.ab.o.host,.int .i64 o.ab.o.port,.string o.ab.path,.string o.ab.query,.string o.ab.method,.slice ah hs.length ch,.bool o.ab.bP,.string o.ab.body,.bool o.proxy,.string o.text,.string o.user,.string o.pass,.string o.aB,.int .i64 o.cert,.bool o.all,.int .i64 o.n] 33)from⟨_,rfl⟩)
 obtain⟨W56,hh⟩:=agn.out;clear agn;have f58:Fr ay u47 W56:=by rw[hh];exact(Fr.refl _ _).alloc _
 have amU:=O (agW.out.bd f58);have amV:=O (aew.out.trans f58)
 have amY:=O (show W56.heap[u47.heap.size]?=some (.cells #[.int .i64 4,.int .i64 o.ab.part,.bool o.ab.aI.ae,.string o.ab.aI.host,.int .i64 o.ab.aI.port,.bool o.ab.o.ae,.string o.ab.o.host,.int .i64 o.ab.o.port,.string o.ab.path,.string o.ab.query,.string o.ab.method,.slice ah hs.length ch,.bool o.ab.bP,.string o.ab.body,.bool o.proxy,.string o.text,.string o.user,.string o.pass,.string o.aB,.int .i64 o.cert,.bool o.all,.int .i64 o.n] 33 (0,0))by rw[hh];exact af _ _)
 have aeC:=O (f58.keep aex.out (fun h=>h));have ahF:=O (f58.keep arB.out (fun h=>h));have aix:=O hh;clear hh f58;have HAG:=O (U7 fv f W56 (amT.out.fr (w':=W56) (by rw[aix.out];exact(Fr.refl ay _).alloc _) (fun _ _ h=>h)).at (Cu M9.out));rw[HFE.out]at HAG
 go_wp2_with (first|((with_reducible refine ag ⟨some 62,_,_,_,_,_⟩ ?_);go_must(refine wpList_load_row rfl 33 (.tmp 4) rfl (w.heap.size) rfl _ #[.int .i64 4,.int .i64 o.ab.part,.bool o.ab.aI.ae,.string o.ab.aI.host,.int .i64 o.ab.aI.port,.bool o.ab.o.ae,.string o.ab.o.host,.int .i64 o.ab.o.port,.string o.ab.path,.string o.ab.query,.string o.ab.method,.slice ah hs.length ch,.bool o.ab.bP,.string o.ab.body,.bool o.proxy,.string o.text,.string o.user,.string o.pass,.string o.aB,.int .i64 o.cert,.bool o.all,.int .i64 o.n] (0,0) _ aex.out Tryz.underlying33 rfl (by kernel_rfl) ?_))|((with_reducible refine ag ⟨none,.store 33 (.tmp 10) (.tmp 62),_,_,_,_⟩ ?_);go_must(refine ks rfl 33 (.tmp 10) (.tmp 62) rfl zOp #[.int .i64 4,.int .i64 o.ab.part,.bool o.ab.aI.ae,.string o.ab.aI.host,.int .i64 o.ab.aI.port,.bool o.ab.o.ae,.string o.ab.o.host,.int .i64 o.ab.o.port,.string o.ab.path,.string o.ab.query,.string o.ab.method,.slice ah hs.length ch,.bool o.ab.bP,.string o.ab.body,.bool o.proxy,.string o.text,.string o.user,.string o.pass,.string o.aB,.int .i64 o.cert,.bool o.all,.int .i64 o.n] rfl rfl (by kernel_rfl) rfl (by simp[Value.oneCell']) ?_))|fail)
 rw[<-aix.out];refine HAG.out.mono ?_;rintro e u12⟨rfl,Vn⟩;have ao0:=O Vn;clear Vn HAG;have amZ:=O (amU.out.bd ao0.out);have am1:=O (amV.out.trans ao0.out);have arI:=O (ao0.out.keep aeC.out (fun h=>h));have ajV:=O (ao0.out.keep ahF.out (fun h=>h));have afK:=O (ao0.out.keep amY.out (fun h=>h));obtain⟨W69,afL⟩:∃W69,W69=u12.setCell ⟨u47.heap.size,0,none⟩ (.int .i64 10):=⟨_,rfl⟩
 obtain⟨ahO,ahP,ahR,afO⟩:=dU amZ.out am1.out (aew.out).size (aew.out).size afK.out aO (by decide) (by decide) 0 (.int .i64 10);have am3:u12.cell? ⟨u47.heap.size,0,none⟩=some (.int .i64 4):=by have h:=afK.out;simp only[World.cell?,h];rfl
 have am4:u12.frozen? ⟨u47.heap.size,0,none⟩=false:=by have h:=afK.out;simp[World.frozen?,h]
 have alP:u47.heap.size<u12.heap.size:=aj afK.out;rw[<-afL]at ahO ahP ahR afO;have am9:=O ahO;have ana:=O ahP
 have afV:=O (show W69.heap[u47.heap.size]?=some (.cells #[.int .i64 10,.int .i64 o.ab.part,.bool o.ab.aI.ae,.string o.ab.aI.host,.int .i64 o.ab.aI.port,.bool o.ab.o.ae,.string o.ab.o.host,.int .i64 o.ab.o.port,.string o.ab.path,.string o.ab.query,.string o.ab.method,.slice ah hs.length ch,.bool o.ab.bP,.string o.ab.body,.bool o.proxy,.string o.text,.string o.user,.string o.pass,.string o.aB,.int .i64 o.cert,.bool o.all,.int .i64 o.n] 33 (0,0))from ahR)
 have anb:=O (afO _ _ (by have h1:=air.out;omega) arI.out);have anc:=O (afO _ _ (by have h1:=aiu.out;omega) ajV.out);clear ahO ahP ahR afO;have anr:=O (show W69.heap.size=u12.heap.size by rw[afL];simp[World.setCell]);have anx:=O (show u47.heap.size<u12.heap.size from alP);have aeJ:=O afL;clear afL;obtain⟨W76,afW⟩:∃W76,W76=W69.setCell ⟨u47.heap.size,21,none⟩ (.int .i64 (iB f)):=⟨_,rfl⟩
 obtain⟨ahS,ahT,ah1,afY⟩:=dU am9.out ana.out (aew.out).size (aew.out).size afV.out aO (by decide) (by decide) 21 (.int .i64 (iB f));have alQ:W69.cell? ⟨u47.heap.size,21,none⟩=some (.int .i64 o.n):=by have h:=afV.out;simp only[World.cell?,h];rfl
 have alR:W69.frozen? ⟨u47.heap.size,21,none⟩=false:=by have h:=afV.out;simp[World.frozen?,h]
 have ane:u47.heap.size<W69.heap.size:=aj afV.out;rw[aeJ.out]at alQ alR;rw[<-afW]at ahS ahT ah1 afY;have alS:=O ahS;have afZ:=O ahT
 have alT:=O (show W76.heap[u47.heap.size]?=some (.cells #[.int .i64 10,.int .i64 o.ab.part,.bool o.ab.aI.ae,.string o.ab.aI.host,.int .i64 o.ab.aI.port,.bool o.ab.o.ae,.string o.ab.o.host,.int .i64 o.ab.o.port,.string o.ab.path,.string o.ab.query,.string o.ab.method,.slice ah hs.length ch,.bool o.ab.bP,.string o.ab.body,.bool o.proxy,.string o.text,.string o.user,.string o.pass,.string o.aB,.int .i64 o.cert,.bool o.all,.int .i64 (iB f)] 33 (0,0))from ah1)
 have afE:=O (afY _ _ (by have h1:=air.out;omega) anb.out);have aeT:=O (afY _ _ (by have h1:=aiu.out;omega) anc.out);clear ahS ahT ah1 afY;have anz:=O (show W76.heap.size=W69.heap.size by rw[afW];simp[World.setCell]);have ae_:=O afW;clear afW;have p0:W76.cell? ⟨u5.heap.size,0,none⟩=some (.pointer (some ⟨B,0,none⟩)):=by have h:=aeT.out;simp only[World.cell?,h];rfl
 rw[ae_.out,aeJ.out]at p0;have anf:=O (by have h:=alT.out;rw[ae_.out,aeJ.out]at h;exact h);obtain⟨y83,af1⟩:∃y83,y83=cV y42.1 (({o with what:=10,n:=iB f}).bF hs):=⟨_,rfl⟩
 have alU:=O (show Calls Tryz.prog 17 #[.pointer (some ⟨B,0,none⟩),.agg #[.int .i64 10,.int .i64 o.ab.part,.bool o.ab.aI.ae,.string o.ab.aI.host,.int .i64 o.ab.aI.port,.bool o.ab.o.ae,.string o.ab.o.host,.int .i64 o.ab.o.port,.string o.ab.path,.string o.ab.query,.string o.ab.method,.slice ah hs.length ch,.bool o.ab.bP,.string o.ab.body,.bool o.proxy,.string o.text,.string o.user,.string o.pass,.string o.aB,.int .i64 o.cert,.bool o.all,.int .i64 (iB f)]] W76 (fun e w'=>e=.returned (.agg #[.int .i64 y83.2.what,.string y83.2.head,.int .i64 y83.2.cert])/\aC w.heap.size W76 B amS y83.1 w')from by
  have h:=ja (o:={o with what:=10,n:=iB f}) (hs:=hs) alS.out afZ.out alO.out HT.out (bg.abl (uI.out _ afZ.out) (abe f));rw[aZ (o:={o with what:=10,n:=iB f}) (hs:=hs) fX.out]at h;rw[af1];exact h)
 have alV:=O (show fW y83.1 by rw[af1];exact bg.small (bg.abl (uI.out _ afZ.out) (abe f)) alO.out);have anW:=O af1;clear af1
 go_wp2_with (first|((with_reducible refine ag ⟨some 68,_,_,_,_,_⟩ ?_);go_must(refine wpList_load_row rfl 33 (.tmp 10) rfl (u47.heap.size) rfl _ #[.int .i64 10,.int .i64 o.ab.part,.bool o.ab.aI.ae,.string o.ab.aI.host,.int .i64 o.ab.aI.port,.bool o.ab.o.ae,.string o.ab.o.host,.int .i64 o.ab.o.port,.string o.ab.path,.string o.ab.query,.string o.ab.method,.slice ah hs.length ch,.bool o.ab.bP,.string o.ab.body,.bool o.proxy,.string o.text,.string o.user,.string o.pass,.string o.aB,.int .i64 o.cert,.bool o.all,.int .i64 (iB f)] (0,0) _ anf.out Tryz.underlying33 rfl (by kernel_rfl) ?_))|fail)
 rw[<-aeJ.out, <-ae_.out];clear am3 am4 alP alQ alR ane p0;refine alU.out.mono ?_;rintro e u88⟨rfl,hp⟩;obtain⟨ang,gA,gB,dH⟩:=cb alS.out afZ.out (Nat.le_refl _) hp;have ajZ:=O gA;have MG:=O gB;have arV:=O (dH _ _ _ afE.out aO (by decide));have arW:=O (dH _ _ _ aeT.out aaw (by decide));have aj0:=O (dH _ _ _ alT.out aO (by decide));clear hp gA gB dH alU;by_cases hq:y83.2.what=1
 case neg =>
  have hd:decide (y83.2.what=1)=false:=decide_eq_false hq;have qE:(y83.2.what==1)=false:=beq_eq_false_iff_ne.2 hq;go_wp2_with fail
  go_ret;exact⟨rfl,MG.out.bQ⟩
 rw[hq];clear hq;have p0:u88.cell? ⟨u5.heap.size,0,none⟩=some (.pointer (some ⟨B,0,none⟩)):=by have h:=arW.out;simp only[World.cell?,h];rfl
 have uF:=abq (w:=y83.1) (o:=({o with what:=5}:ei).bF hs) HRI.out;have hpk:=aev y83.1 (({o with what:=4}:ei).bF hs) (Or.inr (Or.inl rfl));obtain⟨y95,af9⟩:∃y95,y95=cV y83.1 (({o with what:=4}).bF hs):=⟨_,rfl⟩
 have alW:=O (show Calls Tryz.prog 17 #[.pointer (some ⟨B,0,none⟩),.agg #[.int .i64 4,.int .i64 o.ab.part,.bool o.ab.aI.ae,.string o.ab.aI.host,.int .i64 o.ab.aI.port,.bool o.ab.o.ae,.string o.ab.o.host,.int .i64 o.ab.o.port,.string o.ab.path,.string o.ab.query,.string o.ab.method,.slice ah hs.length ch,.bool o.ab.bP,.string o.ab.body,.bool o.proxy,.string o.text,.string o.user,.string o.pass,.string o.aB,.int .i64 o.cert,.bool o.all,.int .i64 o.n]] u88 (fun e w'=>e=.returned (.agg #[.int .i64 y95.2.what,.string y95.2.head,.int .i64 y95.2.cert])/\aC w.heap.size u88 B ang y95.1 w')from by
  have h:=ja (o:={o with what:=4}) (hs:=hs) ajZ.out MG.out alV.out HT.out (bg.qv (uI.out _ MG.out) 4 (by decide) (by decide));rw[aZ (o:={o with what:=4}) (hs:=hs) fX.out]at h;rw[af9];exact h)
 have anh:=O (show fW y95.1 by rw[af9];exact bg.small (bg.qv (uI.out _ MG.out) 4 (by decide) (by decide)) alV.out);have ani:=O af9;clear af9
 go_wp2_with (first|((with_reducible refine ag ⟨some 73,_,_,_,_,_⟩ ?_);go_must(refine wpList_load_row rfl 33 (.tmp 4) rfl (w.heap.size) rfl _ #[.int .i64 4,.int .i64 o.ab.part,.bool o.ab.aI.ae,.string o.ab.aI.host,.int .i64 o.ab.aI.port,.bool o.ab.o.ae,.string o.ab.o.host,.int .i64 o.ab.o.port,.string o.ab.path,.string o.ab.query,.string o.ab.method,.slice ah hs.length ch,.bool o.ab.bP,.string o.ab.body,.bool o.proxy,.string o.text,.string o.user,.string o.pass,.string o.aB,.int .i64 o.cert,.bool o.all,.int .i64 o.n] (0,0) _ arV.out Tryz.underlying33 rfl (by kernel_rfl) ?_))|fail)
 clear p0;refine alW.out.mono ?_;rintro e alX⟨rfl,hp⟩;obtain⟨anR,gA,gB,dH⟩:=cb ajZ.out MG.out (Nat.le_refl _) hp;have al5:=O gA;have ae':=O gB;have ajC:=O (dH _ _ _ arV.out aO (by decide));have aj5:=O (dH _ _ _ arW.out aaw (by decide));have aj6:=O (dH _ _ _ aj0.out aO (by decide));clear hp gA gB dH alW
 change (cV y83.1 (({o with what:=4}:ei).bF hs)).2.what=4\/(o.ab.bF hs).needs=false\/(y83.1.part o.ab.part.toNat).book.any ((o.ab.bF hs).NP y83.1.now)=true at uF;rw[<-ani.out]at uF hpk;have JC:=O uF;have HPK:=O hpk;clear uF hpk;by_cases hq:y95.2.what=4
 case pos =>
  have hd:decide (y95.2.what=4)=true:=decide_eq_true hq;have qE:(y95.2.what==4)=true:=beq_iff_eq.2 hq;go_wp2_with fail
  go_ret;exact⟨rfl,ae'.out.bQ⟩
 have hd:decide (y95.2.what=4)=false:=decide_eq_false hq;have qE:(y95.2.what==4)=false:=beq_eq_false_iff_ne.2 hq;have HQ4:=O hq;clear hq;have c1:alX.cell? ⟨w.heap.size,1,none⟩=some (.int .i64 o.ab.part):=by have h:=ajC.out;simp only[World.cell?,h];rfl
 rw[HOM.out]at c1
 have HND:=O (show∀U,Fr ay w U->Calls Tryz.prog 28 #[.agg #[.int .i64 o.ab.part,.bool o.ab.aI.ae,.string o.ab.aI.host,.int .i64 o.ab.aI.port,.bool o.ab.o.ae,.string o.ab.o.host,.int .i64 o.ab.o.port,.string o.ab.path,.string o.ab.query,.string o.ab.method,.slice ah hs.length ch,.bool o.ab.bP,.string o.ab.body]] U (fun e w'=>e=.returned (.bool (o.ab.bF hs).needs)/\Fr ay U w')from fun U hU=>by
  have h:=Lu o.ab hs U (uI.out _ hU).cU (uI.out _ hU).ab;have hc:=fX.out;unfold dp.cells at h;rw[hc]at h;exact h)
 have HRG:=O (show alX.rangeAt w.heap.size 1 [.int .i64 o.ab.part,.bool o.ab.aI.ae,.string o.ab.aI.host,.int .i64 o.ab.aI.port,.bool o.ab.o.ae,.string o.ab.o.host,.int .i64 o.ab.o.port,.string o.ab.path,.string o.ab.query,.string o.ab.method,.slice ah hs.length ch,.bool o.ab.bP,.string o.ab.body]from fun i v hi=>by
  have h:=ajC.out;simp only[World.cell?,h];have pD:i<13:=(List.getElem?_eq_some_iff.1 hi).1;rw[show(1:Nat)+i=i+1 from Nat.add_comm _ _];rw[<-hi];rcases(show i=0\/i=1\/i=2\/i=3\/i=4\/i=5\/i=6\/i=7\/i=8\/i=9\/i=10\/i=11\/i=12 by omega)with rfl|rfl|rfl|rfl|rfl|rfl|rfl|rfl|rfl|rfl|rfl|rfl|rfl<;>rfl)
 go_wp2_with (first|((with_reducible refine ag ⟨some 79,_,_,_,_,_⟩ ?_);go_must(refine aaB (by rfl) 29 (.tmp 78) rfl w.heap.size 1 rfl [.int .i64 o.ab.part,.bool o.ab.aI.ae,.string o.ab.aI.host,.int .i64 o.ab.aI.port,.bool o.ab.o.ae,.string o.ab.o.host,.int .i64 o.ab.o.port,.string o.ab.path,.string o.ab.query,.string o.ab.method,.slice ah hs.length ch,.bool o.ab.bP,.string o.ab.body] _ HRG.out Tryz.underlying29 rfl (by kernel_rfl) ?_))|fail)
 clear c1 HRG;refine(HND.out _ ae'.out).mono ?_;rintro e X'⟨rfl,abt⟩;have aay:=O abt;clear abt HND;have aiz:=O (al5.out.bd aay.out);have aiB:=O (ae'.out.trans aay.out);have aiF:=O (aay.out.keep ajC.out (fun h=>h));have ajD:=O (aay.out.keep aj5.out (fun h=>h));have ajE:=O (aay.out.keep aj6.out (fun h=>h));cases hne:(o.ab.bF hs).needs
 case false =>
  go_wp2_with fail
  go_ret;exact⟨rfl,aiB.out.bQ⟩
 obtain⟨ps,hps⟩:∃ps,ps=(y95.1.part m).book:=⟨_,rfl⟩;have UZ:=O (show ps.any (fun p=>p.live y95.1.now o.ab.aI o.ab.o o.ab.path o.ab.query)=true by
  have h:=(JC.out.resolve_left HQ4.out).resolve_left (by rw[hne];decide);rw[show o.ab.part.toNat=m by have:=HOM.out;omega, <-HPK.out, <-hps]at h;obtain⟨p,hp,hl⟩:=List.any_eq_true.1 h;exact List.any_eq_true.2 ⟨p,hp,abr hl⟩)
 have HWP:=O (aaH _ X' B _ _ aiz.out m HM4.out (anh.out.xc m HM4.out).2.2.1);rw[<-hps]at HWP;clear hne hps;have p0:X'.cell? ⟨u5.heap.size,0,none⟩=some (.pointer (some ⟨B,0,none⟩)):=by have h:=ajD.out;simp only[World.cell?,h];rfl
 have c1:X'.cell? ⟨w.heap.size,1,none⟩=some (.int .i64 o.ab.part):=by have h:=aiF.out;simp only[World.cell?,h];rfl
 rw[HOM.out]at c1;go_wp2_with fail
 clear p0 c1;refine HWP.out.mono ?_;rintro e u15⟨v2,rfl,kR,abu⟩;have aaA:=O abu;have TK:=O kR.at;obtain⟨a2,k2,bq⟩:=kR.form;rw[List.length_map]at bq;clear abu kR HWP;have avc:=O (aiz.out.bd aaA.out);have aj9:=O (aiB.out.trans aaA.out);have avd:=O (aaA.out.keep aiF.out (fun h=>h));have ave:=O (aaA.out.keep ajD.out (fun h=>h));have avf:=O (aaA.out.keep ajE.out (fun h=>h))
 obtain⟨aar,hpa,dL⟩:=aaG avc.out ps {o with what:=4} (u5.heap.size) w.heap.size (by exact ave.out) (by rw[aZ (o:={o with what:=4}) (hs:=hs) fX.out];exact avd.out) UZ.out;have Yb:=O (wR _ _ aar v2 _ u15 Tryz.call30 hpa TK.out);rw[dL]at Yb;rw[bq]at Yb ⊢;clear hpa dL bq TK;go_wp2_with fail
 refine Yb.out.mono ?_;rintro e u16⟨rfl,aeQ⟩;go_wp2_with fail
 go_ret;exact⟨rfl,(aj9.out.trans aeQ).bQ⟩
end Go.Proofs.YtjdmjbdkdmbaiaaGreatDoor
namespace Go.Proofs.YtjdmjbdkdmbaiaaGreatDoor.worldAllowed
open Go.ChangeShapes Go.WideShapes Go.ChangeAt Go.RowKit
open Go.ChangeMaps (open_string shut_string)
theorem own:ownKnob Tryz.prog.godebug=none:=by kernel_rfl
theorem laidOut:laidOutB Tryz.prog=true:=by kernel_rfl
theorem lifted(os:Os)(started:os.Started)(H:Type)(enc:TypeId×Value->H) :
  ReturnsInHanded {} Tryz.checked os 7 .any (fun w args=>(Rows.worldAllowedSpec.pre enc Tryz.prog Tryz.f7 Rows.worldAllowedRow.domain false w args/\laidMetH Tryz.prog Rows.worldAllowedRow.laid w)/\sizedMet enc Tryz.prog Tryz.f7 (OpenSpec.ofChange Rows.worldAllowedSpec) false w args)
   (Rows.worldAllowedSpec.post enc Tryz.prog Tryz.f7 false true false false):=by
 refine returnsInHanded_of_change_and (C:=Tryz.checked) (X:=fun w _=>laidMetH Tryz.prog Rows.worldAllowedRow.laid w) (fun _ _ _ hh h=>h.of_heap hh) own started (by kernel_rfl) Tryz.func7
  (ChangeSpec.witness_shaped (enc:=enc) (C:=Tryz.checked) (os:=os) (X:=fun w _=>laidMetH Tryz.prog Rows.worldAllowedRow.laid w) false (World.laidAll Tryz.prog os Rows.worldAllowedRow.laid) #[.slice none 0 0,.agg #[.int .i64 0,.int .i64 0,.bool false,.string ByteArray.empty,.int .i64 0,.bool false,.string ByteArray.empty,.int .i64 0,.string ByteArray.empty,.string ByteArray.empty,.string ByteArray.empty,.slice none 0 0,.bool false,.string ByteArray.empty,.bool false,.string ByteArray.empty,.string ByteArray.empty,.string ByteArray.empty,.string ByteArray.empty,.int .i64 0,.bool false,.int .i64 0],.int .i64 0] 8 (World.laidAll_os _ _ _)
   (World.shaped_of_ZipB (by kernel_rfl) (by kernel_rfl)) (by kernel_rfl) (by kernel_rfl) (by kernel_rfl)
   (by rw[MakeChecks.laidMetH_plain _ _ _ (by kernel_rfl)];exact laidMet_laidAll _ (by kernel_rfl) (by kernel_rfl))) ?_
 intro W base args ds gs before qx hW _ qw hL _;have mz:(DataW.weightsEach Tryz.prog (Tryz.f7.params.toList++Rows.worldAllowedSpec.plain.varTypes Tryz.prog) (ds++gs)).all (· <=reachBytes)=true:=qw;clear qw;have hval:∀(j:Nat) t v,Tryz.f7.params[j]?=some t->args[j]?=some v->Value.okWide Tryz.prog W .any base t v:=qx;have hW':=hW;obtain⟨p,q,Qz,hV,rfl,_,_⟩:=hW
 have hA:DataW.TrodAll enc Tryz.prog W 0 (fun _=>true) true Tryz.f7.params.toList args.toList ds p:=Qz;rw[Tryz.params7]at hA hval mz;obtain⟨v0,vs0,d0,ds0,p0,q0,QA,rfl,rfl,h0,r0⟩:=trodAll_cons hA;obtain⟨v1,vs1,d1,ds1,p1,q1,rfl,rfl,rfl,h1,r1⟩:=trodAll_cons r0;obtain⟨v2,vs2,d2,ds2,p2,q2,rfl,rfl,rfl,h2,r2⟩:=trodAll_cons r1;obtain⟨rfl,rfl,rfl⟩:=trodAll_nil r2
 obtain rfl:args= #[v0,v1,v2]:=by cases args;simp_all
 obtain⟨rfl,rfl⟩:=trodVars_none hV;have k0:=h0;have lt0:∀x∈p0,x.block<W.heap.size:=by obtain⟨m,hm⟩:=k0;exact DataW.trod_lt m _ _ _ hm
 obtain⟨ss0,sO⟩:=mY (hval 0 22 v0 rfl rfl) h0 (jY mz (j:=0) (t:=22) rfl rfl);have k1:=h1;have lt1:∀x∈p1,x.block<W.heap.size:=by obtain⟨m,hm⟩:=k1;exact DataW.trod_lt m _ _ _ hm
 obtain⟨o1,ss1,rfl,vD⟩:=mh (hval 1 33 v1 rfl rfl) h1 (jY mz (j:=1) (t:=33) rfl rfl);obtain⟨a2,rfl,rfl,rfl,w2⟩:=open_int Tryz.underlying3 (hval 2 3 v2 rfl rfl) h2;clear Qz qx;rw[MakeChecks.laidMetH_plain _ _ _ (by kernel_rfl)]at hL;have tb0:=ot hL (by refine⟨?_,?_⟩<;>repeat(first|exact True.intro|exact List.Mem.head _|refine List.Mem.tail _ ?_))
 have tb1:=mR hL (by refine⟨?_,?_⟩<;>repeat(first|exact True.intro|exact List.Mem.head _|refine List.Mem.tail _ ?_));have tb2:=mS hL (by refine⟨?_,?_⟩<;>repeat(first|exact True.intro|exact List.Mem.head _|refine List.Mem.tail _ ?_));have tb3:=om hL (by refine⟨?_,?_⟩<;>repeat(first|exact True.intro|exact List.Mem.head _|refine List.Mem.tail _ ?_))
 refine(aet _ ss0 o1 ss1 a2  W sO vD tb0 tb1 tb2 tb3).mono fun e W' ⟨he,jE⟩=>?_;subst he
 exact⟨_,rfl,_,_,_,[],_,[],hW',trodAll_mk1 (shut_bool Tryz.underlying4 _),(trodAll_cons_mk (Below.trod laidOut (by kernel_rfl) (of_decide_eq_true (by kernel_rfl)) k0 jE lt0) (trodAll_cons_mk (Below.trod laidOut (by kernel_rfl) (of_decide_eq_true (by kernel_rfl)) k1 jE lt1) (trodAll_cons_mk (shut_int Tryz.underlying3 w2) trodAll_mk0))),rfl,jE.frame _,fun h=>by cases h⟩
end Go.Proofs.YtjdmjbdkdmbaiaaGreatDoor.worldAllowed
