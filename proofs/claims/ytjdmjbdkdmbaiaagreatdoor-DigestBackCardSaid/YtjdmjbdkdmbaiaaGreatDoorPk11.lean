/- Bank2, RowGr. -/
import Derived.Test.YtjdmjbdkdmbaiaaGreatDoorPk8
set_option maxRecDepth 100000
set_option maxHeartbeats 16000000
set_option linter.unusedSimpArgs false
namespace Go.Proofs.YtjdmjbdkdmbaiaaGreatDoor
open Go.RowKit
def dx(base:Nat)(w:World)(v:Value)(gs:List (ai aF)):Prop :=
 ∃rs:List (ai Value),OwnRows base 49 16 w v (rs.map ai.cells)/\fF (ai.Reads (aS base w)) rs gs
theorem dx.fr{base:Nat}{w w':World}{v:Value}{gs:List (ai aF)}{S:Nat->Prop}(h:dx base w v gs)(hf:Fr S w w')(ho:lT base w S)(hn:∀k,v.ownBlock=some k->¬S k):dx base w' v gs:=by
 obtain⟨rs,h1,h2⟩:=h;exact⟨rs,h1.fr hf hn,h2.mono (fun _ _ h=>h.mono (fun _ _ h=>h.fr hf ho))⟩
theorem dx.form{base:Nat}{w:World}{v:Value}{gs:List (ai aF)}(h:dx base w v gs):∃a c,v=.slice a gs.length c:=by
 obtain⟨rs,h1,h2⟩:=h;obtain⟨a,c,hv⟩:=h1.form;exact⟨a,c,by rw[hv,List.length_map,h2.len]⟩
def Uw(base:Nat)(w:World)(b:Nat)(o:Nat)(g:ai aF):Prop :=
 ∃r:ai Value,(∀u∈r.cells,u.oneCell'=true)/\r.Reads (aS base w) g/\∀(i:Nat) u,r.cells[i]?=some u->w.cell? ⟨b,o+i,none⟩=some u
theorem dx.at{base:Nat}{w:World}{v:Value}{gs:List (ai aF)}(h:dx base w v gs){k:Nat}(hk:k<gs.length) :
  ∃b c,v=.slice (some ⟨b,0,none⟩) gs.length c/\gs.length<=maxLen/\Uw base w b (k*16) gs[k]:=by
 obtain⟨rs,h1,h2⟩:=h;have hl:=h2.len;obtain⟨x,hx⟩:∃x,rs[k]?=some x:=⟨_,List.getElem?_eq_getElem (by omega)⟩;obtain⟨g,hg,hr⟩:=h2.get hx;rw[List.getElem?_eq_getElem hk]at hg;obtain rfl:=Option.some.inj hg;have bC:=h1.at;rcases h1.2.2 with ⟨_,hn⟩|⟨bk,cap,cur,hv,_⟩
 ·rw[List.length_map]at hn;omega
 rcases bC.2 with ⟨_,_,e1,e,_⟩|⟨ZE,o,c,nu,q1,q2,q3,q4⟩
 ·simp at e;rw[e]at hl;simp at hl;omega
 ·rw[hv]at nu;cases nu;rw[List.length_map]at q1;refine⟨bk,cap,by rw[hv,List.length_map,hl],by omega,x,(h1.1 x.cells (List.mem_map.2 ⟨x,List.mem_of_getElem? hx,rfl⟩)).2,hr,?_⟩;intro i u hu;have:=q4 k x.cells (by rw[List.getElem?_map,hx];rfl) i u hu;rw[Nat.zero_add]at this;exact this
structure aG (D:Type) where
 o:cO
 proxy:Bool
 path:ByteArray
 a:cQ D
def aG.cells(g:aG Value):List Value :=
 [.bool g.o.ae,.string g.o.host,.int .i64 g.o.port,.bool g.proxy,.string g.path,
  .int .i64 g.a.scheme,.string g.a.ar,.string g.a.aE,.string g.a.aK,.bool g.a.aL,.string g.a.bU,.bool g.a.aX,g.a.dom]
def aG.Reads(R:Value->List ByteArray->Prop)(r:aG Value)(g:aG (List ByteArray)):Prop :=
 r.o=g.o/\r.proxy=g.proxy/\r.path=g.path/\r.a.Reads R g.a
theorem aG.Reads.mono{R S:Value->List ByteArray->Prop}{r:aG Value}{g:aG (List ByteArray)}(h:r.Reads R g)(hs:∀v l,R v l->S v l):r.Reads S g :=
 ⟨h.1,h.2.1,h.2.2.1,h.2.2.2.mono hs⟩
def fq(base:Nat)(w:World)(v:Value)(gs:List (aG aF)):Prop :=
 ∃rs:List (aG Value),OwnRows base 144 13 w v (rs.map aG.cells)/\fF (aG.Reads (aS base w)) rs gs
theorem fq.fr{base:Nat}{w w':World}{v:Value}{gs:List (aG aF)}{S:Nat->Prop}(h:fq base w v gs)(hf:Fr S w w')(ho:lT base w S)(hn:∀k,v.ownBlock=some k->¬S k):fq base w' v gs:=by
 obtain⟨rs,h1,h2⟩:=h;exact⟨rs,h1.fr hf hn,h2.mono (fun _ _ h=>h.mono (fun _ _ h=>h.fr hf ho))⟩
theorem fq.form{base:Nat}{w:World}{v:Value}{gs:List (aG aF)}(h:fq base w v gs):∃a c,v=.slice a gs.length c:=by
 obtain⟨rs,h1,h2⟩:=h;obtain⟨a,c,hv⟩:=h1.form;exact⟨a,c,by rw[hv,List.length_map,h2.len]⟩
structure ba (base:Nat) (w:World) (b:Nat) (gv wv:Value) (gs:List (ai aF)) (ws:List (aG aF)):Prop where
 low:base<=b
 cR:w.heap[b]?=some (.cells #[gv,wv] 139 (0,0))
 aH:dx base w gv gs
 waits:fq base w wv ws
section
variable {base : Nat} {w w' : World} {b : Nat} {gv wv : Value} {gs : List (ai aF)} {ws : List (aG aF)}
theorem ba.lt(h:ba base w b gv wv gs ws):b<w.heap.size:=aj h.cR
theorem ba.c0(h:ba base w b gv wv gs ws):w.cell? ⟨b,0,none⟩=some gv:=by simp[World.cell?,h.cR]
theorem ba.c1(h:ba base w b gv wv gs ws):w.cell? ⟨b,1,none⟩=some wv:=by simp[World.cell?,h.cR]
theorem ba.free(h:ba base w b gv wv gs ws)(k:Nat):w.frozen? ⟨b,k,none⟩=false:=by simp[World.frozen?,h.cR]
theorem ba.fr{S:Nat->Prop}(h:ba base w b gv wv gs ws)(hf:Fr S w w')(ho:lT base w S)(hb:¬S b)(h1:∀k,gv.ownBlock=some k->¬S k)(h2:∀k,wv.ownBlock=some k->¬S k):ba base w' b gv wv gs ws :=
 ⟨h.low,hf.keep h.cR hb,h.aH.fr hf ho h1,h.waits.fr hf ho h2⟩
theorem ba.bd(h:ba base w b gv wv gs ws)(hf:Fr ay w w'):ba base w' b gv wv gs ws:=h.fr hf (lT.none _ _) (fun h=>h) (fun _ _ h=>h) (fun _ _ h=>h)
end
abbrev bZ:Array Value:= #[.bool false,.string ⟨#[]⟩,.int .i64 0,.bool false,.string ⟨#[]⟩,.string ⟨#[]⟩,.int .i64 0,.string ⟨#[]⟩,.string ⟨#[]⟩,.string ⟨#[]⟩,.bool false,.string ⟨#[]⟩,.bool false,.slice none 0 0,.int .i64 0,.slice none 0 0]
def iR{α:Type}(f:α->Int):List α->Nat->Int×Int->Int×Int
 |[],_,acc=>acc
 |g :: l,i,acc=>iR f l (i+1) (if 0<=f g/\acc.1<=f g then(f g,(i:Int))else acc)
theorem sq{α:Type}(f:α->Int):∀(l:List α) (i:Nat) (acc:Int×Int) (x:α),
  iR f (l++[x]) i acc=(if 0<=f x/\(iR f l i acc).1<=f x then(f x,((i+l.length:Nat):Int))else iR f l i acc)
 |[],i,acc,x=>by simp only[List.nil_append,iR,List.length_nil,Nat.add_zero];rfl
 |g :: l,i,acc,x=>by
  rw[List.cons_append,iR,sq f l (i+1) _ x,iR];simp only[List.length_cons,show i+1+l.length=i+(l.length+1)from by omega]
def eE(o:cO)(proxy:Bool)(path:ByteArray)(g:ai aF):Int:=jS g.o g.proxy g.paths o proxy path
def lj(gs:List (ai aF))(o:cO)(proxy:Bool)(path:ByteArray):Int:=(iR (eE o proxy path) gs 0 (-1, -1)).2
def Ux(w:World)(gs:List (ai aF))(o:cO)(proxy:Bool)(path:ByteArray)(an5 at_ i:Value)(wr:World):Prop :=
 ∃k:Nat,k<=gs.length/\i=.int .i64 k/\an5=.int .i64 (iR (eE o proxy path) (gs.take k) 0 (-1, -1)).1/\at_=.int .i64 (iR (eE o proxy path) (gs.take k) 0 (-1, -1)).2/\Fr ay w wr
theorem OB(base:Nat)(w:World)(b:Nat)(gv wv:Value)(gs:List (ai aF))(ws:List (aG aF))(o:cO)(proxy:Bool)(path:ByteArray)(h:ba base w b gv wv gs ws) :
  Calls Tryz.prog 171 #[.pointer (some ⟨b,0,none⟩),.agg o.cells.toArray,.bool proxy,.string path] w fun e w'=>e=.returned (.int .i64 (lj gs o proxy path))/\Fr ay w w':=by
 unfold cO.cells;have h0:=h.c0;obtain⟨av,cv,hv⟩:=h.aH.form;subst hv;have pD:=h.lt;go_enter Tryz.func171,Tryz.ntmps171;go_wp2;clear h0;have iJ:Fr ay w (w.alloc (.cells #[.bool o.ae,.string o.host,.int .i64 o.port] 24)):=(Fr.refl ay w).alloc _
 have hO:(w.alloc (.cells #[.bool o.ae,.string o.host,.int .i64 o.port] 24)).heap[w.heap.size]?=some (.cells #[.bool o.ae,.string o.host,.int .i64 o.port] 24 (0,0)):=af w _;have h1:=h.bd iJ;generalize w.alloc (.cells #[.bool o.ae,.string o.host,.int .i64 o.port] 24)=W at iJ hO h1;go_loopw[9,10,19] (Ux W gs o proxy path) (fun _ _ i _=>gs.length-(intOf i).toNat)
 case atStart=>exact⟨0,Nat.zero_le _,rfl,rfl,rfl,Fr.refl _ _⟩
 case round =>
  obtain⟨k,hk,rfl,rfl,rfl,aW⟩:=hrel;by_cases cG:k<gs.length
  ·obtain⟨bk,c,bt,nv,r,bG,hr,hcell⟩:=(h1.bd aW).aH.at cG;cases bt;unfold maxLen at nv;have hO2:=aW.keep hO (fun h=>h);obtain⟨x,hx⟩:∃x,x=r.cells:=⟨_,rfl⟩;have gD:x.length=16:=by rw[hx];rfl
   have fR:=fun W=>run_storeCells_new (P:=Tryz.prog) W 49 #[.bool false,.string ⟨#[]⟩,.int .i64 0,.bool false,.string ⟨#[]⟩,.string ⟨#[]⟩,.int .i64 0,.string ⟨#[]⟩,.string ⟨#[]⟩,.string ⟨#[]⟩,.bool false,.string ⟨#[]⟩,.bool false,.slice none 0 0,.int .i64 0,.slice none 0 0] x (by rw[gD];rfl) (by rw[hx];exact bG);rw[<-hx]at hcell;have HX:=O hx
   have AD:(Tryz.prog.info? 49).map (·.size)=some x.toArray.size:=by rw[List.size_toArray,gD];kernel_rfl
   have JF:=O AD;clear hx AD;have ZF:(wr.alloc (.cells x.toArray 49)).heap[w.heap.size]?=some (.cells #[.bool o.ae,.string o.host,.int .i64 o.port] 24 (0,0)):=by rw[Below.heap_alloc _ _ _ (aj hO2)];exact hO2
   have HO3:=O ZF;clear ZF hO2
   go_wp2_with (first|((with_reducible refine ag ⟨some 23,_,_,_,_,_⟩ ?_);refine wpList_load_mid rfl 49 (.tmp 22) rfl bk (k*16) rfl x _ hcell Tryz.underlying49 rfl (by have h:=JF.out;rw[List.size_toArray]at h;exact h) ?_)|((with_reducible refine ag ⟨some 24,_,_,_,_,_⟩ ?_);refine wpList_load_row rfl 49 (.tmp 12) rfl wr.heap.size rfl _ x.toArray (0,0) _ (af wr _) Tryz.underlying49 rfl JF.out ?_)|((with_reducible refine ag ⟨some 25,_,_,_,_,_⟩ ?_);refine wpList_load_row rfl 24 (.tmp 5) rfl w.heap.size rfl _ _ (0,0) _ HO3.out Tryz.underlying24 rfl (by kernel_rfl) ?_)|fail)
   have dF:Fr ay wr (wr.alloc (.cells x.toArray 49)):=(Fr.refl ay wr).alloc _;have hps:=(hr.2.2.2.2.2.2.bd dF).rd;have Uy:=O (show jS r.o r.proxy gs[k].paths o proxy path=eE o proxy path gs[k]by unfold eE;rw[hr.1,hr.2.1]);have bC:=List.getElem?_eq_getElem cG;have rO:=O (show iR (eE o proxy path) (gs.take (k+1)) 0 (-1, -1)=_ by rw[bz bC,sq,List.length_take,Nat.min_eq_left hk,Nat.zero_add])
   have py:=(aW.trans dF);have cF:=O (Ll r o proxy path gs[k].paths _ hps);rw[<-HX.out]at cF;clear hr dF bC bG fR;generalize wr.alloc (.cells x.toArray 49)=W2 at *
   refine cF.out.mono ?_;rintro e w3⟨rfl,dv⟩;have dV:=py.trans dv;rw[Uy.out];clear Uy cF hps hcell;generalize iR (eE o proxy path) (gs.take k) 0 (-1, -1)=acc at *
   generalize eE o proxy path gs[k]=n at *
   by_cases h0:0<=n
   ·by_cases JG:acc.1<=n
    ·have hs:=O (show iR (eE o proxy path) (gs.take (k+1)) 0 (-1, -1)=(n,(k:Int))by rw[rO.out,if_pos ⟨h0,JG⟩]);go_wp2;go_roundw
     case rel=>exact⟨k+1,by omega,by go_num,by rw[hs.out],by rw[hs.out],dV⟩
     case measure=>simp[intOf];omega
    ·have hs:=O (show iR (eE o proxy path) (gs.take (k+1)) 0 (-1, -1)=acc by rw[rO.out,if_neg (fun h=>JG h.2)]);go_wp2;go_roundw
     case rel=>exact⟨k+1,by omega,by go_num,by rw[hs.out],by rw[hs.out],dV⟩
     case measure=>simp[intOf];omega
   ·have hs:=O (show iR (eE o proxy path) (gs.take (k+1)) 0 (-1, -1)=acc by rw[rO.out,if_neg (fun h=>h0 h.1)]);go_wp2;go_roundw
    case rel=>exact⟨k+1,by omega,by go_num,by rw[hs.out],by rw[hs.out],dV⟩
    case measure=>simp[intOf];omega
  ·have hs:=O (show(iR (eE o proxy path) (gs.take k) 0 (-1, -1)).2=lj gs o proxy path by rw[List.take_of_length_le (by omega)];rfl);go_wp2;go_ret;exact⟨by rw[<-hs.out];rfl,iJ.trans aW⟩
abbrev Uz:Array Value:= #[.bool false,.string ⟨#[]⟩,.int .i64 0,.bool false,.string ⟨#[]⟩,.string ⟨#[]⟩,.int .i64 0,.string ⟨#[]⟩,.string ⟨#[]⟩,.string ⟨#[]⟩,.bool false,.string ⟨#[]⟩,.bool false,.slice none 0 0,.int .i64 0,.slice none 0 0]
theorem JH:∀v∈Uz.toList,v.oneCell'=true:=by decide +kernel
theorem B8{x:List Value}(h:x.length=16):(Tryz.prog.info? 49).map (·.size)=some x.length:=by rw[h];kernel_rfl
def ZJ(w:World)(p:List Value->Bool)(xs:List (List Value))(i:Value)(wr:World):Prop :=
 ∃k:Nat,k<=xs.length/\i=.int .i64 k/\(xs.take k).any p=false/\Fr ay w wr
theorem ox(g:Nat)(cap:Array Value)(p:List Value->Bool)(v:Value)(xs:List (List Value))(w:World)(eg:∀args w,(callFunc g args).run Tryz.prog w=.ok (.enter g args) w)(hp:dn ay w g cap p xs)(hv:aN 16 w v xs) :
  Calls Tryz.prog 62 #[v,.func (.func g) #[] cap] w fun e w'=>e=.returned (.int .i64 (gT p xs 0))/\Fr ay w w':=by
 obtain⟨av,cv,cA⟩:=hv.form;subst cA;have bG:=O hv.1;go_enter Tryz.func62,Tryz.ntmps62;go_wp2;go_loopw[8] (ZJ w p xs) (fun i _=>xs.length-(intOf i).toNat)
 case atStart=>exact⟨0,Nat.zero_le _,rfl,rfl,Fr.refl _ _⟩
 case round =>
  obtain⟨k,hk,rfl,hn,aW⟩:=hrel;have HN:=O hn;clear hn;by_cases cG:k<xs.length
  ·rcases(hv.bu aW).2 with ⟨_,_,_,e,_⟩|⟨bk,of,c,hf,h1,h2,h3,h4⟩
   ·rw[e]at cG;exact absurd cG (Nat.not_lt_zero _)
   ·cases hf;unfold maxLen at h2;have bC:=O (List.getElem?_eq_getElem cG);have hcell:=h4 k _ bC.out;have ed:=O (List.getElem_mem cG);generalize xs[k]=x at bC hcell ed;have cF:=O (hp x ed.out wr aW);have gD:=(bG.out x ed.out).1;clear h4;cases ml:p x
    ·have kT:=O (any_take_succ bC.out HN.out ml);go_wp2_with (first|((with_reducible refine ag ⟨some 15,_,_,_,_,_⟩ ?_);go_must(refine wpList_load_mid rfl 49 (.tmp 14) rfl bk (of+k*16) rfl x _ hcell Tryz.underlying49 rfl (B8 gD) ?_))|fail)
     refine cF.out.mono ?_;rintro e w1⟨rfl,bt⟩;rw[ml];go_wp2;go_roundw
     case rel=>exact⟨k+1,by omega,by go_num,kT.out,aW.trans bt⟩
     case measure=>simp[intOf];omega
    ·have bR:=O (kL (i:=0) bC.out ml HN.out);go_wp2_with (first|((with_reducible refine ag ⟨some 15,_,_,_,_,_⟩ ?_);go_must(refine wpList_load_mid rfl 49 (.tmp 14) rfl bk (of+k*16) rfl x _ hcell Tryz.underlying49 rfl (B8 gD) ?_))|fail)
     refine cF.out.mono ?_;rintro e w1⟨rfl,bt⟩;rw[ml];go_wp2;go_ret;rw[bR.out,Nat.zero_add];exact⟨rfl,aW.trans bt⟩
  ·have bR:=O (show gT p xs 0= -1 from fD (by have h:=HN.out;rw[List.take_of_length_le (by omega)]at h;exact h));go_wp2;go_ret;rw[bR.out];exact⟨rfl,aW⟩
theorem oU(g:Nat)(cap:Array Value)(p:List Value->Bool)(v:Value)(xs:List (List Value))(w:World)(eg:∀args w,(callFunc g args).run Tryz.prog w=.ok (.enter g args) w)(hp:dn ay w g cap p xs)(hv:aN 16 w v xs) :
  Calls Tryz.prog 19 #[v,.func (.func g) #[] cap] w fun e w'=>e=.returned (.bool (xs.any p))/\Fr ay w w':=by
 have hb:=O (lX p xs 0);go_enter Tryz.func19,Tryz.ntmps19;go_wp2_with fail
 refine(ox g cap p v xs w eg hp hv).mono ?_;rintro e w1⟨rfl,bt⟩;go_wp2;go_ret;exact⟨cJ hb.out,bt⟩
def ZK(b:Nat)(w:World)(bk cap:Nat)(p:List Value->Bool)(xs:List (List Value))(i j:Value)(wr:World):Prop :=
 ∃(m n:Nat) (ys:List (List Value)),i=.int .i64 m/\j=.int .i64 n/\m<n/\n<=xs.length/\ys.length=xs.length/\OwnRows b 49 16 wr (.slice (some ⟨bk,0,none⟩) xs.length cap) ys /\
  ys.take m=(xs.take n).filter (fun x=>!p x)/\ys.drop n=xs.drop n/\Fr (one bk) w wr
theorem tU{p:List Value->Bool}:∀ {l:List (List Value)} (i:Nat),l.any p=true->∃k x,l[k]?=some x/\p x=true/\(l.take k).any p=false/\gT p l i=((i+k:Nat):Int)
 |[],_,h=>by simp at h
 |a :: l,i,h=>by
  cases ha:p a
  ·rw[List.any_cons,ha,Bool.false_or]at h;obtain⟨k,x,h1,h2,h3,h4⟩:=tU (i+1) h;refine⟨k+1,x,by simpa using h1,h2,by simp[ha,h3],?_⟩;rw[gT,ha];simp only[Bool.false_eq_true,if_false];rw[h4];congr 1;omega
  ·exact⟨0,a,rfl,ha,rfl,by rw[gT,ha];simp⟩
theorem tV{p:List Value->Bool}{l:List (List Value)}(h:l.any p=false):l.filter (fun x=>!p x)=l:=by
 rw[List.filter_eq_self];intro a ha;have:=List.any_eq_false.1 h a ha;simpa using this
theorem rz(b:Nat)(g:Nat)(cap:Array Value)(p:List Value->Bool)(v:Value)(xs:List (List Value))(w:World)(eg:∀args w,(callFunc g args).run Tryz.prog w=.ok (.enter g args) w)(hp:dn (own v) w g cap p xs)(hv:OwnRows b 49 16 w v xs) :
  Calls Tryz.prog 173 #[v,.func (.func g) #[] cap] w fun e w'=>∃a c,e=.returned (.slice a (xs.filter (fun x=>!p x)).length c)/\OwnRows b 49 16 w' (.slice a (xs.filter (fun x=>!p x)).length c) (xs.filter (fun x=>!p x))/\Fr (own v) w w'/\own (.slice a (xs.filter (fun x=>!p x)).length c)=own v:=by
 cases dL:xs.any p
 ·have l_:=O (fD (i:=0) dL);rw[tV dL];obtain⟨av,cv,cA⟩:=hv.form;subst cA;go_enter Tryz.func173,Tryz.ntmps173;go_wp2_with fail
  refine(ox g cap p _ xs w eg hp.none hv.at).mono ?_;rintro e w1⟨rfl,bt⟩;rw[l_.out];go_wp2;go_ret;exact⟨_,_,rfl,hv.fr bt (fun _ _ h=>h),bt.mono (fun _ _ h=>absurd h (fun h=>h)),rfl⟩
 ·obtain⟨k0,x0,B7,yp,pn,l_⟩:=tU 0 dL;rw[Nat.zero_add]at l_;have SL:=(List.getElem?_eq_some_iff.1 B7).1;obtain⟨bk,cp,D9⟩:∃bk cp,v=.slice (some ⟨bk,0,none⟩) xs.length cp:=by
   rcases hv.2.2 with ⟨_,hn⟩|⟨bk,cp,cur,hv,_⟩
   ·omega
   ·exact⟨bk,cp,hv⟩
  subst D9;obtain⟨wK,cur,nu,q1,q2,q3,q4,q5,q6⟩:=hv.open (g:=bk) rfl;cases nu;unfold maxLen at q4;have bG:=O hv.1;have yq:=O (show xs.take k0=(xs.take (k0+1)).filter (fun x=>!p x)by
   rw[bz B7,List.filter_append,tV pn];simp[yp])
  have HP:=O hp;have ZL:=O l_;clear dL pn B7 yp l_ q2 q5 q6 hp;go_enter Tryz.func173,Tryz.ntmps173;go_wp2_with fail
  refine(ox g cap p _ xs w eg HP.out.none hv.at).mono ?_;rintro e w1⟨rfl,bt⟩;rw[ZL.out];have FG:=hv.fr bt (fun _ _ h=>h);have UA:((k0:Int)== -1)=false:=by rw[beq_eq_false_iff_ne];omega
  go_wp2;go_loopw[5,6] (ZK b w bk cp p xs) (fun _ j _=>xs.length-(intOf j).toNat)
  case atStart=>exact⟨k0,k0+1,xs,rfl,by go_num,by omega,by omega,rfl,FG,yq.out,rfl,bt.mono (fun _ _ h=>absurd h (fun h=>h))⟩
  case round =>
   obtain⟨m,n,ys,rfl,rfl,hmn,hn,hlen,a_,lS,mU,aW⟩:=hrel;have HT:=O lS;have HD:=O mU;have eF:=O hlen;clear lS mU hlen;rw[<-eF.out]at a_;have ma:=a_.at;by_cases cG:n<xs.length
   ·rcases ma.2 with ⟨_,_,_,e,_⟩|⟨ZE,of,c,hf,h1,h2,h3,h4⟩
    ·have hl:=eF.out;rw[e]at hl;simp at hl;omega
    ·cases hf;have bC:=O (List.getElem?_eq_getElem cG);have sw:ys[n]?=some xs[n]:=by
      have e:=congrArg (fun l:List (List Value)=>l[0]?) HD.out;simp only[List.getElem?_drop,Nat.add_zero]at e;rw[e,bC.out]
     have hcell:=h4 n _ sw;simp only[Nat.zero_add]at hcell;have ed:=O (List.getElem_mem cG);generalize xs[n]=x at bC hcell ed sw;have gD:=(bG.out x ed.out).1;have sM:=O (bG.out x ed.out).2
     have fR:=fun W=>run_storeCells_new (P:=Tryz.prog) W 49 #[.bool false,.string ⟨#[]⟩,.int .i64 0,.bool false,.string ⟨#[]⟩,.string ⟨#[]⟩,.int .i64 0,.string ⟨#[]⟩,.string ⟨#[]⟩,.string ⟨#[]⟩,.bool false,.string ⟨#[]⟩,.bool false,.slice none 0 0,.int .i64 0,.slice none 0 0] x (by rw[gD];rfl) sM.out;have dF:Fr ay wr (wr.alloc (.cells x.toArray 49)):=(Fr.refl ay wr).alloc _
     have cF:=O (HP.out x ed.out (wr.alloc (.cells x.toArray 49)) ((aW.alloc _).mono (fun k _ h=>by have e:k=bk:=h;rw[e];rfl)));have B9:=O (B8 gD);have fe:=aW.alloc (.cells x.toArray 49);have bV:=a_.fr dF (fun _ _ h=>h);have mB:(wr.alloc (.cells x.toArray 49)).heap[wr.heap.size]?=some (.cells x.toArray 49 (0,0)):=af _ _;have nE:=O mB;clear h4 sw mB dF
     go_wp2_with (first|((with_reducible refine ag ⟨some 25,_,_,_,_,_⟩ ?_);go_must(refine wpList_load_mid rfl 49 (.tmp 24) rfl bk (n*16) rfl x _ hcell Tryz.underlying49 rfl B9.out ?_))|((with_reducible refine ag ⟨some 27,_,_,_,_,_⟩ ?_);go_must(refine wpList_load_row rfl 49 (.tmp 7) rfl wr.heap.size rfl _ x.toArray (0,0) _ nE.out Tryz.underlying49 rfl (by rw[List.size_toArray];exact B9.out) ?_))|fail)
     have AF:wr.heap.size<(wr.alloc (.cells x.toArray 49)).heap.size:=by simp
     clear fR hcell;generalize wr.alloc (.cells x.toArray 49)=W2 at *
     refine cF.out.mono ?_;rintro e w3⟨rfl,dv⟩;have kY:=fe.trans (dv.mono (fun _ _ h=>absurd h (fun h=>h)));have cz:=bV.fr dv (fun _ _ h=>h);have jQ:=O (dv.keep nE.out (fun h=>h));have GH:=O eF.out;cases ml:p x
     ·have ZM:=O (cz.there (g:=bk) (cap:=cp) (by rw[eF.out]) (o:=m*16) (n:=x.toArray.size) (by
       have hmc:(m+1)*16<=cp*16:=Nat.mul_le_mul_right _ (by omega);rw[List.size_toArray,gD];omega))
      have cZ:=cz.store (i:=m) (y:=x) (by rw[eF.out];omega) gD sM.out (g:=bk) rfl;rw[eF.out]at cZ;have jD:=kY.step (Fr.setCells (Fr.refl (one bk) w3) (fun _=>rfl) x (m*16)) (fun _ _ h=>h)
      go_wp2_with (first|((with_reducible refine ag ⟨some 32,_,_,_,_,_⟩ ?_);go_must(refine wpList_load_row rfl 49 (.tmp 7) rfl wr.heap.size rfl _ x.toArray (0,0) _ jQ.out Tryz.underlying49 rfl (by rw[List.size_toArray];exact B9.out) ?_))|((with_reducible refine ag ⟨none,.store 49 _ _,_,_,_,_⟩ ?_);go_must(refine wpList_store_mid rfl 49 (.tmp 33) (.tmp 32) rfl bk (m*16) x.toArray rfl rfl ZM.out (by rw[List.size_toArray];exact B9.out) (all_oneCell_toArray sM.out) ?_))|fail)
      go_roundw
      case rel =>
       refine⟨m+1,n+1,ys.set m x,by go_num,by go_num,by omega,by omega,by rw[List.length_set];exact GH.out,cZ,?_,?_,jD⟩
       ·rw[bz (l:=ys.set m x) (List.getElem?_set_self (by rw[GH.out];omega)),List.take_set_of_le (Nat.le_refl m),bz bC.out,List.filter_append,HT.out];simp[ml]
       ·rw[List.drop_set_of_lt (by omega)];have e:=congrArg (List.drop 1) HD.out;simpa[List.drop_drop]using e
      case measure=>simp[intOf];omega
     ·rw[eF.out]at cz;go_wp2_with fail
      go_roundw
      case rel =>
       refine⟨m,n+1,ys,rfl,by go_num,by omega,by omega,GH.out,cz,?_,?_,kY⟩
       ·rw[bz bC.out,List.filter_append,HT.out];simp[ml]
       ·have e:=congrArg (List.drop 1) HD.out;simpa[List.drop_drop]using e
      case measure=>simp[intOf];omega
   ·have mn:n=xs.length:=by omega
    subst mn;have bR:=O (show ys.take m=xs.filter (fun x=>!p x)by have h:=HT.out;rw[List.take_of_length_le (Nat.le_refl _)]at h;exact h);have nv:(ys.take m).length=m:=by rw[List.length_take,eF.out];omega
    have yr:=O (show(xs.filter (fun x=>!p x)).length=m by rw[<-bR.out];exact nv);have hcut:=a_.cut (i:=m) (by rw[eF.out];omega) (g:=bk) (cap:=cp) (by rw[eF.out]);have hle:(xs.length-m)*16+m*16<=cp*16:=by rw[<-Nat.add_mul];exact Nat.mul_le_mul_right _ (by omega)
    have wO:(Builtin.zeroCells Uz (xs.length-m)).toList.length=(xs.length-m)*16:=by simp[Builtin.zeroCells]
    have uF:=fun ty=>eB (P:=Tryz.prog) wr 42 49 ty Uz Tryz.underlying42 (fun w=>by kernel_rfl) (by decide) JH bk (m*16) (xs.length-m) (cp-m) (by omega) (by
     have:=a_.there (g:=bk) (cap:=cp) (by rw[eF.out]) (o:=m*16) (n:=(xs.length-m)*16) (by omega);exact this)
    have sx:=hcut.behind (o:=m*16) (vs:=(Builtin.zeroCells Uz (xs.length-m)).toList) (by rw[nv];exact Nat.le_refl _) (g:=bk) (cap:=cp) (by rw[nv]) (by rw[wO];omega);have jD:=aW.step (Fr.setCells (Fr.refl (one bk) wr) (fun _=>rfl) (Builtin.zeroCells Uz (xs.length-m)).toList (m*16)) (fun _ _ h=>h);clear a_ ma hcut wO nv hle eF;go_wp2_with fail
    go_ret;rw[yr.out, <-bR.out];exact⟨_,_,rfl,sx,jD.mono (fun k _ h=>by have e:k=bk:=h;rw[e];rfl),rfl⟩
theorem ZN:∃i0:TypeInfo,Tryz.prog.info? 49=some i0/\i0.size=16:=by
 have h:(Tryz.prog.info? 49).map (·.size)=some 16:=by kernel_rfl
 cases hq:Tryz.prog.info? 49 with
 |none=>rw[hq]at h;cases h
 |some i=>rw[hq]at h;exact⟨i,rfl,by simpa using h⟩
theorem AG(b:Nat)(bk cp i j:Nat)(xs:List (List Value))(w:World)(hv:OwnRows b 49 16 w (.slice (some ⟨bk,0,none⟩) xs.length cp) xs)(hij:i<j)(hj:j<=xs.length) :
  Calls Tryz.prog 172 #[.slice (some ⟨bk,0,none⟩) xs.length cp,.int .i64 i,.int .i64 j] w fun e w'=>e=.returned (.slice (some ⟨bk,0,none⟩) (i+(xs.length-j)) cp)/\OwnRows b 49 16 w' (.slice (some ⟨bk,0,none⟩) (i+(xs.length-j)) cp) (xs.take i++xs.drop j)/\Fr (one bk) w w':=by
 obtain⟨i0,qD,iy⟩:=ZN;obtain⟨wK,cur,nu,q1,q2,q3,q4,q5,q6⟩:=hv.open (g:=bk) rfl;cases nu;unfold maxLen at q4;have bC:=hv.at;have bG:=hv.1;obtain⟨news,fx⟩:∃news,news=(xs.drop j).flatten:=⟨_,rfl⟩;have hdr:∀x∈xs.drop j,x.length=16/\∀u∈x,u.oneCell'=true:=fun x hx=>bG x (List.mem_of_mem_drop hx);have hlen:news.length=(xs.length-j)*16:=by rw[fx,eU (fun x hx=>(hdr x hx).1),List.length_drop]
 obtain⟨A,hA,GI⟩:∃A:Addr,(if cp=j then some (⟨bk,0,none⟩:Addr)else some ⟨bk,j*16,none⟩)=some A/\Hid (∀t u,news[t]?=some u->w.drew.cell? (A.add t)=some u):=by
  by_cases h:cp=j
  ·refine⟨⟨bk,0,none⟩,by simp[h],fun t u hu=>?_⟩
   have h0:news.length=0:=by rw[hlen];have:xs.length-j=0:=by omega
                             rw[this,Nat.zero_mul]
   rw[List.length_eq_zero_iff.1 h0]at hu;simp at hu
  ·refine⟨⟨bk,j*16,none⟩,by simp[h],fun t u hu=>?_⟩;have ht:t<(xs.length-j)*16:=by
    have:=(List.getElem?_eq_some_iff.1 hu).1;omega
   have jZ:xs.flatten[j*16+t]?=some u:=by
    have e:xs.flatten=(xs.take j).flatten++(xs.drop j).flatten:=by rw[<-List.flatten_append,List.take_append_drop]
    have hl:(xs.take j).flatten.length=j*16:=by rw[eU (fun x hx=>(bG x (List.mem_of_mem_take hx)).1),List.length_take,Nat.min_eq_left hj]
    rw[e,List.getElem?_append_right (by omega),hl,show j*16+t-j*16=t from by omega, <-fx];exact hu
   have ZO:j*16+t<xs.length*16:=by
    have:(xs.length-j)*16+j*16=xs.length*16:=by rw[<-Nat.add_mul];congr 1;omega
    omega
   rw[<-q6,List.getElem?_take_of_lt ZO]at jZ;have pz:cur[j*16+t]?=some u:=by simpa using jZ
   have ea:(Addr.add ⟨bk,j*16,none⟩ t)=⟨bk,j*16+t,none⟩:=by unfold Addr.add;split<;>simp_all
   rw[ea];show w.cell? _=some u;simp[World.cell?,q2,pz]
 have s1:=O hlen;have s2:=O (show∀u∈news,u.oneCell'=true by
  intro u hu;rw[fx]at hu;obtain⟨x,hx,FR⟩:=List.mem_flatten.1 hu;exact(hdr x hx).2 u FR)
 have s3:=O (show∀t,t<news.length->(w.drew.cell? ⟨bk,0+i*16+t,none⟩).isSome=true/\w.drew.frozen? ⟨bk,0+i*16+t,none⟩=false by
  intro t ht;rw[Nat.zero_add];have hle:i*16+(xs.length-j)*16<=cp*16:=by rw[<-Nat.add_mul];exact Nat.mul_le_mul_right _ (by omega)
  have:=hv.there (g:=bk) (cap:=cp) rfl (o:=i*16) (n:=(xs.length-j)*16) hle t (by omega);exact this)
 have OI:OwnRows b 49 16 w.drew (.slice (some ⟨bk,0,none⟩) xs.length cp) xs:=hv;have mH:=OI.xJ (i:=i) (ys:=xs.drop j) (by omega) hdr (g:=bk) (cap:=cp) rfl (by rw[List.length_drop];omega);rw[List.length_drop, <-fx]at mH;have sy:Fr (one bk) w (w.drew.setCells bk (i*16) news):=((Fr.refl (one bk) w).drew).setCells (fun _=>rfl) _ _;obtain⟨W1,pZ⟩:∃W1,W1=w.drew.setCells bk (0+i*16) news:=⟨_,rfl⟩
 have HW:=O pZ;rw[Nat.zero_add]at pZ;rw[<-pZ]at mH sy;have mn:(xs.take i++xs.drop j).length=i+(xs.length-j):=by rw[List.length_append,List.length_take,List.length_drop];omega
 have hm:i+(xs.length-j)<xs.length:=by omega
 have wO:(Builtin.zeroCells Uz (xs.length-(i+(xs.length-j)))).toList.length=(xs.length-(i+(xs.length-j)))*16:=by simp[Builtin.zeroCells]
 have hle:(i+(xs.length-j))*16+(xs.length-(i+(xs.length-j)))*16<=cp*16:=by rw[<-Nat.add_mul];exact Nat.mul_le_mul_right _ (by omega)
 have uF:=fun ty=>eB (P:=Tryz.prog) W1 42 49 ty Uz Tryz.underlying42 (fun w=>by kernel_rfl) (by decide) JH bk ((i+(xs.length-j))*16) (xs.length-(i+(xs.length-j))) (cp-(i+(xs.length-j))) (by omega) (by
  have:=mH.there (g:=bk) (cap:=cp) (by rw[mn]) (o:=(i+(xs.length-j))*16) (n:=(xs.length-(i+(xs.length-j)))*16) hle;exact this)
 have sx:=mH.behind (o:=(i+(xs.length-j))*16) (vs:=(Builtin.zeroCells Uz (xs.length-(i+(xs.length-j)))).toList) (by rw[mn];exact Nat.le_refl _) (g:=bk) (cap:=cp) (by rw[mn]) (by rw[wO];omega);have jD:=sy.step (Fr.setCells (Fr.refl (one bk) W1) (fun _=>rfl) (Builtin.zeroCells Uz (xs.length-(i+(xs.length-j)))).toList ((i+(xs.length-j))*16)) (fun _ _ h=>h)
 have hne:((i:Int)==(j:Int))=false:=by rw[beq_eq_false_iff_ne];omega
 have ZQ:i<=cp:=by omega
 have ZR:j<=cp:=by omega
 have HA:=O hA;clear pZ mH OI sy fx hlen hdr bG bC mn wO hle q2 q5 q6 hv;go_enter Tryz.func172,Tryz.ntmps172;go_wp2_with fail
 have hA:=HA.out;go_region_law (refine step_append_room rfl (.tmp 22) (.tmp 25) 42 rfl 49 i0 16 Tryz.underlying42 qD iy bk 0 i cp (by simp[Act.eval,Act.put]) A (xs.length-j) (cp-j) news (by simp[Act.eval,Act.put]) s1.out GI.out s2.out (by omega) s3.out ?_;rw[<-HW.out])
 all_goals
  go_wp2_with fail
  go_ret;exact⟨rfl,sx,jD⟩
end Go.Proofs.YtjdmjbdkdmbaiaaGreatDoor
