/- Digest, Known2. -/
import Derived.Test.YtjdmjbdkdmbaiaaGreatDoorPk31
import Derived.Test.YtjdmjbdkdmbaiaaGreatDoorPk32
set_option maxRecDepth 100000
set_option maxHeartbeats 16000000
set_option linter.unusedSimpArgs false
namespace Go.Proofs.YtjdmjbdkdmbaiaaGreatDoor
open Go.RowKit
def xj(cH:Int)(aK:ByteArray)(x:je)(n:Int):Prop:=((cH=2\/cH=3)/\(x.bU.data.toList=[]\/x.bU.data.toList=gO\/x.bU.data.toList=kI))/\(1<=n/\n<=4294967295)/\(tP cH aK x).fair=true
def jX(cH:Int)(aK:ByteArray)(x:je)(n:Int)(w:World)(e:Ending)(w':World):Prop :=
 Fr ay w w'/\((¬xj cH aK x n/\∃t v,e=.returned (.tuple #[.string ⟨#[]⟩,.iface t v]))\/(xj cH aK x n/\e=.returned (.tuple #[.string (bA (tP cH aK x).text),.nilIface])))
theorem LR(cH:Int)(ar aE aK bU user pass method target body aB:ByteArray)(aL aX:Bool)(dom:Value)(n:Int)(w:World)(bG:dom.oneCell'=true)
  (x1:ar.size<=5000)(x2:aE.size<=5000)(x3:aK.size<=5000)(x4:user.size<=5000)(x5:pass.size<=5000)(x6:method.size<=5000)(x7:target.size<=5000)(x8:body.size<=5000)(x9:aB.size<=5000)
  (Gs:iu w 9 .u8 Gr)(hh:ni cH w) :
  Calls Tryz.prog 44 #[.agg #[.int .i64 cH,.string ar,.string aE,.string aK,.bool aL,.string bU,.bool aX,dom],.agg #[.string user,.string pass],.string method,.string target,.string body,.string aB,.int .i64 n] w (jX cH aK ⟨decide (cH=3),aL,ar,aE,bU,user,pass,method,target,body,aB,n.toNat⟩ n w):=by
 have sJ:∀l:Bs,bU.toList=l->bU=⟨l.toArray⟩:=fun l h=>Go.WideShapes.bytes_inj (by rw[<-ByteArray.toList_eq,h]);by_cases hsq:(cH=2\/cH=3)/\(bU.toList=[]\/bU.toList=[97,117,116,104]\/bU.toList=[97,117,116,104,45,105,110,116])
 ·obtain⟨hs,hq⟩:=hsq;by_cases hn:1<=n/\n<=4294967295
  ·obtain⟨UA,Jp⟩:=hn;obtain⟨k,rfl⟩:∃k:Nat,n=(k:Int):=⟨n.toNat,by omega⟩;have key:Calls Tryz.prog 44 #[.agg #[.int .i64 cH,.string ar,.string aE,.string aK,.bool aL,.string bU,.bool aX,dom],.agg #[.string user,.string pass],.string method,.string target,.string body,.string aB,.int .i64 (k:Int)] w (BX cH aK ⟨decide (cH=3),aL,ar,aE,bU,user,pass,method,target,body,aB,k⟩ k w):=by
    rcases hq with hq|hq|hq
    ·exact PG cH ar aE aK bU user pass method target body aB aL aX dom k w bG (sJ _ hq) hs (by omega) (by omega) x1 x2 x3 x4 x5 x6 x7 x8 x9 Gs hh
    ·exact EO cH ar aE aK bU user pass method target body aB aL aX dom k w bG (Or.inl (sJ _ hq)) hs (by omega) (by omega) x1 x2 x3 x4 x5 x6 x7 x8 x9 Gs hh
    ·exact EO cH ar aE aK bU user pass method target body aB aL aX dom k w bG (Or.inr (sJ _ hq)) hs (by omega) (by omega) x1 x2 x3 x4 x5 x6 x7 x8 x9 Gs hh
   refine key.mono ?_;rintro e w'⟨hf,hm⟩;refine⟨hf,?_⟩;rcases hm with ⟨hm,hr⟩|⟨h1,h2,h3,h4,h5,h6⟩
   ·exact Or.inl ⟨fun hg=>(by have hg:=hg.2.2;rw[Int.toNat_natCast,hm]at hg;cases hg),hr⟩
   ·refine Or.inr ⟨⟨⟨h1,?_⟩,⟨by omega,by omega⟩,h5⟩,h6⟩;show bU.data.toList=[]\/bU.data.toList=gO\/bU.data.toList=kI;rw[<-ByteArray.toList_eq];exact hq
  ·have CV:n<1\/4294967295<n:=by omega
   have hng:∀x,¬xj cH aK x n:=fun x h=>hn h.2.1;clear hn;have HG:∀t v (w':World),Fr ay w w'->jX cH aK ⟨decide (cH=3),aL,ar,aE,bU,user,pass,method,target,body,aB,n.toNat⟩ n w (.returned (.tuple #[.string ⟨#[]⟩,.iface t v])) w':=fun t v w' hf=>⟨hf,Or.inl ⟨hng _,t,v,rfl⟩⟩;have Xo:=O HG;clear HG hng;generalize jX cH aK ⟨decide (cH=3),aL,ar,aE,bU,user,pass,method,target,body,aB,n.toNat⟩ n w=Q at *
   have bq:Fr ay w ((w.alloc (.cells #[.int .i64 cH,.string ar,.string aE,.string aK,.bool aL,.string bU,.bool aX,dom] 47)).alloc (.cells #[.string user,.string pass] 31)):=((Fr.refl ay w).alloc _).alloc _;have dk:=O bq;clear bq;rcases CV with hn|hn
   ·rcases hs with rfl|rfl<;>rcases hq with hq|hq|hq<;>obtain rfl:=sJ _ hq<;>clear hq <;>
     (go_enter Tryz.func44,Tryz.ntmps44
      go_wp2
      (first|go_ret2|skip)
      exact Xo.out _ _ _ dk.out)
   ·have Jd:¬n<1:=by omega
    rcases hs with rfl|rfl<;>rcases hq with hq|hq|hq<;>obtain rfl:=sJ _ hq<;>clear hq <;>
     (go_enter Tryz.func44,Tryz.ntmps44
      go_wp2
      (first|go_ret2|skip)
      exact Xo.out _ _ _ dk.out)
 ·have hng:∀x:je,x.bU=bU->¬xj cH aK x n:=fun x hx h=>hsq ⟨h.1.1,by rw[<-hx,ByteArray.toList_eq];exact h.1.2⟩;have HG:∀t v (w':World),Fr ay w w'->jX cH aK ⟨decide (cH=3),aL,ar,aE,bU,user,pass,method,target,body,aB,n.toNat⟩ n w (.returned (.tuple #[.string ⟨#[]⟩,.iface t v])) w':=fun t v w' hf=>⟨hf,Or.inl ⟨hng _ rfl,t,v,rfl⟩⟩;have Xo:=O HG;clear HG hng
  generalize jX cH aK ⟨decide (cH=3),aL,ar,aE,bU,user,pass,method,target,body,aB,n.toNat⟩ n w=Q at *
  have bq:Fr ay w ((w.alloc (.cells #[.int .i64 cH,.string ar,.string aE,.string aK,.bool aL,.string bU,.bool aX,dom] 47)).alloc (.cells #[.string user,.string pass] 31)):=((Fr.refl ay w).alloc _).alloc _;have dk:=O bq;clear bq;by_cases hs:cH=2\/cH=3
  ·have hq:¬(bU.toList=[]\/bU.toList=[97,117,116,104]\/bU.toList=[97,117,116,104,45,105,110,116]):=fun h=>hsq ⟨hs,h⟩;have q1:¬bU.toList=[]:=fun h=>hq (Or.inl h);have q2:¬bU.toList=[97,117,116,104]:=fun h=>hq (Or.inr (Or.inl h));have q3:¬bU.toList=[97,117,116,104,45,105,110,116]:=fun h=>hq (Or.inr (Or.inr h));have q4:(bU.toList== [])=false:=beq_eq_false_iff_ne.2 q1
   have q5:(bU.toList== [97,117,116,104])=false:=beq_eq_false_iff_ne.2 q2;have q6:(bU.toList== [97,117,116,104,45,105,110,116])=false:=beq_eq_false_iff_ne.2 q3;have q7:bU.toList.isEmpty=false:=by cases hz:bU.toList with|nil=>exact absurd hz q1|cons _ _=>rfl
   clear hsq hq sJ;rcases hs with rfl|rfl
   ·go_enter Tryz.func44,Tryz.ntmps44;go_wp2
    (first|go_ret2|skip)
    exact Xo.out _ _ _ dk.out
   ·go_enter Tryz.func44,Tryz.ntmps44;go_wp2
    (first|go_ret2|skip)
    exact Xo.out _ _ _ dk.out
  ·have s2:¬cH=2:=fun h=>hs (Or.inl h);have s3:¬cH=3:=fun h=>hs (Or.inr h);clear hs hsq sJ;go_enter Tryz.func44,Tryz.ntmps44;go_wp2
   (first|go_ret2|skip)
   exact Xo.out _ _ _ dk.out
def en:cQ Value:=⟨0,⟨#[]⟩,⟨#[]⟩,⟨#[]⟩,false,⟨#[]⟩,false,.slice none 0 0⟩
abbrev dr:Array Value:= #[.int .i64 0,.string ⟨#[]⟩,.string ⟨#[]⟩,.string ⟨#[]⟩,.bool false,.string ⟨#[]⟩,.bool false,.slice none 0 0]
theorem LV:∀v∈dr.toList,v.oneCell'=true:=by decide +kernel
theorem lN:dr.all (·.oneCell')=true:=by decide +kernel
theorem Vj(r:cQ Value)(h:r.dom.oneCell'=true):∀u∈r.cells,u.oneCell'=true:=by
 intro u hu;simp only[cQ.cells,List.mem_cons,List.not_mem_nil,or_false]at hu;rcases hu with rfl|rfl|rfl|rfl|rfl|rfl|rfl|rfl<;>first|rfl|exact h
theorem Cp(r:cQ Value)(h:r.dom.oneCell'=true):r.cells.toArray.all (·.oneCell')=true:=all_oneCell_toArray (Vj r h)
def cM(w:World)(b:Nat)(r:cQ Value):Prop:=w.heap[b]?=some (.cells r.cells.toArray 47 (0,0))
theorem cM.cell{w:World}{b:Nat}{r:cQ Value}(h:cM w b r){i:Nat}{u:Value}(hu:r.cells[i]?=some u):w.cell? ⟨b,i,none⟩=some u:=by
 simp only[World.cell?,show w.heap[b]?=_ from h];simpa using hu
theorem cM.free{w:World}{b:Nat}{r:cQ Value}(h:cM w b r)(i:Nat):w.frozen? ⟨b,i,none⟩=false:=by simp[World.frozen?,show w.heap[b]?=_ from h]
theorem cM.set{w:World}{b:Nat}{r r':cQ Value}(h:cM w b r)(i:Nat)(u:Value)(hr:r.cells.toArray.setIfInBounds i u=r'.cells.toArray):cM (w.setCell ⟨b,i,none⟩ u) b r':=by
 unfold cM;rw[aP h i u,hr]
def fb(x:iI)(w:World)(e:Ending)(w':World):Prop :=
 Fr ay w w'/\match iz x with
  |none=>e=.returned (.tuple #[.agg dr,.bool false])
  |some a=>∃r:cQ Value,r.Reads (Strs w.heap.size w') a/\e=.returned (.tuple #[.agg r.cells.toArray,.bool true])
theorem fb.no{x:iI}{w w':World}(h:iz x=none)(hf:Fr ay w w'):fb x w (.returned (.tuple #[.agg dr,.bool false])) w':=by
 refine⟨hf,?_⟩;rw[h]
theorem fb.yes{x:iI}{w w':World}{r:cQ Value}{a:cQ aF}(h:iz x=some a)(hf:Fr ay w w')(hr:r.Reads (Strs w.heap.size w') a):fb x w (.returned (.tuple #[.agg r.cells.toArray,.bool true])) w':=by
 refine⟨hf,?_⟩;rw[h];exact⟨r,hr,rfl⟩
structure LW (w:World) (x:iI) (pv:Value) (U:World):Prop where
 vq:fy U w.heap.size (bA x.scheme) (bA x.token) pv
 res:U.heap[w.heap.size+1]?=some (.cells dr 47 (0,0))
 fr:Fr ay w U
theorem LW.next{w U V:World}{x:iI}{pv:Value}(h:LW w x pv U)(hf:Fr ay U V):LW w x pv V:=⟨h.vq.fr hf (fun h=>h),hf.keep h.res (fun h=>h),h.fr.trans hf⟩
theorem LW.set{w U:World}{x:iI}{pv u:Value}{b i:Nat}(h:LW w x pv U)(hb:w.heap.size+1<b):LW w x pv (U.setCell ⟨b,i,none⟩ u):=by
 have hf:Fr (one b) U (U.setCell ⟨b,i,none⟩ u):=(Fr.refl (one b) U).setCell (p:=⟨b,i,none⟩) (fun _=>rfl) u;exact⟨h.vq.fr hf (fun e=>by have e':w.heap.size=b:=e;omega),hf.keep h.res (fun e=>by have e':w.heap.size+1=b:=e;omega),h.fr.step hf (fun k hk e=>by have e':k=b:=e;omega)⟩
theorem Strs.kind{base:Nat}{w:World}{v:Value}{ss:List ByteArray}{g:Nat}(h:Strs base w v ss)(hg:v.ownBlock=some g):∃cur,w.heap[g]?=some (.cells cur 9 (0,0)):=by
 rcases h.2 with ⟨hv,_⟩|⟨g',cap,cur,hv,_,hh,_⟩
 ·rw[hv]at hg;simp[Value.ownBlock]at hg
 ·rw[hv]at hg;simp[Value.ownBlock]at hg;subst hg;exact⟨cur,hh⟩
theorem Strs.off{base:Nat}{w w':World}{v:Value}{ss:List ByteArray}{S:Nat->Prop}(h:Strs base w v ss)(hf:Fr S w w')(hS:∀k,v.ownBlock=some k->¬S k):Strs base w' v ss:=by
 obtain⟨h1,h2⟩:=h;refine⟨h1,?_⟩;rcases h2 with h2|⟨g,cap,cur,hv,hg,hh,r⟩
 ·exact Or.inl h2
 ·exact Or.inr ⟨g,cap,cur,hv,hg,hf.keep hh (hS g (by rw[hv];rfl)),r⟩
theorem Strs.Vk{base b:Nat}{w w':World}{v:Value}{ss:List ByteArray}{cs:Array Value}{t:TypeId}{f:Nat×Nat}(h:Strs base w v ss)(hf:Fr (one b) w w')(hb:w.heap[b]?=some (.cells cs t f))(ht:t≠9):Strs base w' v ss :=
 h.off hf (fun k hk e=>by
  obtain rfl:k=b:=e;obtain⟨cur,hc⟩:=h.kind hk;rw[hc]at hb;cases hb;exact ht rfl)
theorem LW.own{w U V:World}{x:iI}{pv v:Value}{ss:List ByteArray}(h:LW w x pv U)(hv:Strs w.heap.size U v ss)(hf:Fr (fun k=>v.ownBlock=some k) U V):LW w x pv V:=by
 have hn:∀ {b:Nat} {cs:Array Value} {t:TypeId} {f:Nat×Nat},U.heap[b]?=some (.cells cs t f)->t≠9->¬v.ownBlock=some b:=by
  intro b cs t f hb ht e;obtain⟨cur,hc⟩:=hv.kind e;rw[hc]at hb;cases hb;exact ht rfl
 exact⟨h.vq.fr hf (hn h.vq (by decide)),hf.keep h.res (hn h.res (by decide)),h.fr.step hf (fun k hk e=>by have:=hv.block k e;omega)⟩
theorem PO{ps:List ew}{n v:Bs}(h:eZ ps n=some v):∃p∈ps,v=p.2:=by
 unfold eZ at h;obtain⟨p,hp,rfl⟩:=Option.map_eq_some_iff.1 h;exact⟨p,List.mem_of_find?_eq_some hp,rfl⟩
theorem Vl(l:List UInt8):(∃ws,dz l=.ok ws/\ws.length<=40/\NC l=IV ws)\/((∀ws,dz l=.ok ws->40<ws.length)/\NC l=none):=by
 unfold NC;cases h:dz l with
 |ok ws =>
  by_cases hn:ws.length<=40
  ·exact Or.inl ⟨ws,rfl,hn,if_neg (by omega)⟩
  ·refine Or.inr ⟨fun ws' h'=>?_,if_pos (by omega)⟩;cases h';omega
 |error m=>exact Or.inr ⟨fun ws' h'=>(by cases h'),rfl⟩
theorem ep.aat{s:ByteArray}{w w':World}{e:Ending}(h:ep s w e w')(hl:∀ws,dz s.data.toList=.ok ws->40<ws.length) :
  ∃v t x,e=.returned (.tuple #[v,.iface t x])/\Fr ay w w':=by
 obtain⟨v,er,he,hf,hm⟩:=h;cases hr:dz s.data.toList with
 |ok ws =>
  rw[hr]at hm;have NF:if 40<ws.length then v=.slice none 0 0/\zQ w' er (some (4,none))else Strs w.heap.size w' v (bw ws)/\er=.nilIface:=hm
  rw[if_pos (hl ws hr)]at NF;obtain⟨_,hv⟩:=NF;exact⟨v,_,_,by rw[he,show er=_ from hv],hf⟩
 |error m =>
  rw[hr]at hm;obtain⟨_,g,hv,_⟩:=hm;exact⟨v,_,_,by rw[he,hv],hf⟩
theorem Bb:∀(f:Nat) (r:Bs) (ws:List Bs),gy f r=.ok ws->∀w∈ws,w.length<=r.length
 |0,r,ws,h,w,hw=>by rw[gy]at h;cases h;cases hw
 |f+1,r,ws,h,w,hw=>by
  rw[gy]at h;have h1:=kG bh r;have h2:=kG cP (r.dropWhile bh);have h3:=kG bh ((r.dropWhile bh).dropWhile cP);have h4:=kp cP (r.dropWhile bh);have bG:∀u∈(if((r.dropWhile bh).takeWhile cP).isEmpty then []else [(r.dropWhile bh).takeWhile cP]),u.length<=r.length:=by
   intro u hu;split at hu
   ·cases hu
   ·simp at hu;subst hu;omega
  cases e:((r.dropWhile bh).dropWhile cP).dropWhile bh with
  |nil =>
   rw[e]at h;simp only at h;cases h;exact bG w hw
  |cons c r4 =>
   rw[e]at h h3;simp only at h;split at h
   ·cases hr:gy f r4 with
    |error m=>rw[hr]at h;cases h
    |ok w2 =>
     rw[hr]at h;cases h;rcases List.mem_append.1 hw with g|g
     ·exact bG w g
     ·have:=Bb f r4 w2 hr w g;simp at h3;omega
   ·cases h
def qK(ws:List Bs):Nat->Bs
 |0=>[]
 |1=>if ws.any (fun w=>bf w kI)then kI else []
 |_=>if ws.any (fun w=>bf w gO)then gO else if ws.any (fun w=>bf w kI)then kI else []
theorem aau(ws:List Bs):IV ws=if(qK ws 2).isEmpty then none else some (qK ws 2):=by
 unfold IV qK;cases ws.any (fun w=>bf w gO)<;>cases ws.any (fun w=>bf w kI)<;>rfl
theorem LX(ws:List Bs)(n:Bs):((bw ws).any fun x=>bf x.data.toList (bA n).data.toList)=ws.any fun w=>bf w n:=by
 unfold bw;rw[List.any_map,cN];rfl
def dS(d:Bs)(k:Nat):List Bs:=(((bD 32 d).take k).filter fun p=>FZ 47 p).map jK
theorem ahJ(l:Bs):Lib.hasPrefix l [47]=FZ 47 l:=by
 cases l with
 |nil=>rfl
 |cons c l =>
  rw[Bool.eq_iff_iff];simp[Lib.hasPrefix,FZ];exact eq_comm
def ahK(w:World)(x:iI)(pv:Value)(A Pb:Nat)(a:cQ Value)(d:Bs)(t:Value)(wr:World):Prop :=
 ∃(k:Nat) (v:Value),k<=(bD 32 d).length/\t=.int .i64 k/\LW w x pv wr/\cM wr A {a with dom:=v}/\Strs w.heap.size wr v ((dS d k).map bA)/\wr.heap[Pb]?=some (.cells (((bD 32 d).map bA).map Value.string).toArray 9 (0,0))/\∀j,v.ownBlock=some j->Pb<j
theorem Hd{d:Bs}{k:Nat}{p:Bs}(h:(bD 32 d)[k]?=some p):dS d (k+1)=dS d k++(if FZ 47 p then [jK p]else []):=by
 unfold dS;rw[List.take_add_one,h];simp only[Option.toList_some,List.filter_append,List.map_append]
 congr 1
 rw[List.filter_cons];split<;>rfl
theorem LY{d:Bs}{k:Nat}(h:(bD 32 d).length<=k):dS d k=BC d:=by unfold dS BC;rw[List.take_of_length_le h]
theorem LZ(d:Bs)(k:Nat):(dS d k).length<=k:=by
 unfold dS;rw[List.length_map];have h:=List.length_filter_le (fun p=>FZ 47 p) ((bD 32 d).take k);rw[List.length_take]at h;omega
theorem Bc(c:UInt8):∀d:Bs,(bD c d).length<=d.length+1/\∀p∈bD c d,p.length<=d.length
 |[]=>⟨by simp[bD],by simp[bD]⟩
 |x :: d=>by
  obtain⟨h1,h2⟩:=Bc c d;unfold bD;split
  ·refine⟨by simp;omega,fun p hp=>?_⟩;rcases List.mem_cons.1 hp with rfl|g
   ·simp
   ·have:=h2 p g;simp;omega
  ·cases e:bD c d with
   |nil=>exact⟨by simp,fun p hp=>by simp at hp;subst hp;simp⟩
   |cons q qs =>
    rw[e]at h1 h2;refine⟨by simp at h1 ⊢; omega,fun p hp=>?_⟩;rcases List.mem_cons.1 hp with rfl|g
    ·have:=h2 q (List.mem_cons_self ..);simp;omega
    ·have:=h2 p (List.mem_cons_of_mem _ g);simp;omega
theorem L0(c:UInt8)(d:Bs):dX c (bA d)=(bD c d).map bA:=by
 unfold dX;rw[cN];rfl
def ahL(w:World)(x:iI)(pv:Value)(A:Nat)(a:cQ Value)(ws:List Bs)(W:World)(t:Value)(wr:World):Prop :=
 ∃k:Nat,k<=2/\t=.int .i64 k/\LW w x pv wr/\cM wr A {a with bU:=bA (qK ws k)}/\Fr (one A) W wr
def aav(w:World)(x:iI)(pv:Value)(A:Nat)(a:cQ Value)(wz:World):Prop:=∃q,ND x.params=some q/\LW w x pv wz/\cM wz A {a with bU:=bA q}
theorem L5(x:iI)(pv:Value)(w:World)(hp:gu w pv x.params)(hz:x.Fit) :
  Calls Tryz.prog 152 #[.agg #[.string (bA x.scheme),.string (bA x.token),pv]] w (fb x w):=by
 have Gb:JP x.params:=⟨by have:=hz.xc;omega,fun p hq=>by have:=hz.tB p hq;omega⟩;have aw3:(bA x.scheme).size<=100000:=hz.scheme;have HZ:=O hz
 have GET:=O (show∀(n:Bs) U,n.length<1000->Fr ay w U->Calls Tryz.prog 48 #[.agg #[.string (bA x.scheme),.string (bA x.token),pv],.string (bA n)] U fun e w'=>e=.returned (.tuple #[.string (bA ((eZ x.params n).getD [])),.bool (eZ x.params n).isSome])/\Fr ay U w' from fun n U hn hU=>by
  have:=U2 (bA x.scheme) (bA x.token) pv x.params (bA n) U (aN.bu hp hU) Gb (by show n.length<_;omega);rw[cN]at this;exact this)
 have Vm:=O (show∀n,((eZ x.params n).getD []).length<=99999 from fun n=>by
  cases h:eZ x.params n with
  |none=>simp
  |some v =>
   obtain⟨p,hpm,rfl⟩:=PO h;exact(hz.tB p hpm).2)
 have SMB:=O (show∀(n:Bs) U,n.length<1000->Calls Tryz.prog 92 #[.string (bA x.scheme),.string (bA n)] U fun e w'=>e=.returned (.bool (bf x.scheme n))/\Fr ay U w' from fun n U hn=>by
  have:=gX (bA x.scheme) (bA n) U (by omega) (by show n.length<_;omega);rw[cN,cN]at this;exact this)
 have HK:=O (show iz x=match eZ x.params pH with
  |none=>none
  |some ar =>
   if bf x.scheme BA then some ⟨1,bA ar,bA [],bA [],false,bA [],false,[]⟩else
   match NB ((eZ x.params sY).getD rM)with
   |none=>none
   |some (k,aL) =>
    if !bf x.scheme xa then none else
    match eZ x.params pI with
    |none=>none
    |some aE =>
     match ND x.params with
     |none=>none
     |some q=>some ⟨k,bA ar,bA aE,bA ((eZ x.params gP).getD []),aL,bA q,bf ((eZ x.params uQ).getD []) gz,(BC ((eZ x.params lo).getD [])).map bA⟩from rfl)
 obtain⟨av,cv,hv⟩:=hp.form;subst hv;obtain⟨w2,bK⟩:∃w2,w2=(w.alloc (.cells #[.string (bA x.scheme),.string (bA x.token),.slice av x.params.length cv] 88)).alloc (.cells dr 47):=⟨_,rfl⟩;have Kp:w2.heap.size=w.heap.size+2:=by rw[bK];simp
 have K0:LW w x (.slice av x.params.length cv) w2:=by
  have f1:Fr ay (w.alloc (.cells #[.string (bA x.scheme),.string (bA x.token),.slice av x.params.length cv] 88)) w2:=by rw[bK];exact(Fr.refl _ _).alloc _
  refine⟨f1.keep (af w _) (fun h=>h),?_,((Fr.refl ay w).alloc _).trans f1⟩;rw[bK];have:=af (w.alloc (.cells #[.string (bA x.scheme),.string (bA x.token),.slice av x.params.length cv] 88)) (.cells dr 47);simpa using this
 have ka:=O bK;clear hp hz Gb bK;generalize Gi:Value.slice av x.params.length cv=pv at *
 clear Gi;go_enter Tryz.func152,Tryz.ntmps152;go_wp2_with fail
 rw[<-ka.out];refine(GET.out pH w2 (by decide) K0.fr).mono ?_;rintro e u1⟨rfl,hf⟩;have K1:=K0.next hf;have rF:w.heap.size+1<u1.heap.size:=by have:=hf.size;omega
 clear hf;cases Uy:eZ x.params pH with
 |none =>
  go_wp2_with (first|((with_reducible refine ag ⟨none,.store 47 _ _,_,_,_,_⟩ ?_);go_must(refine wpList_store_row rfl 47 (.tmp 2) (.tmp 27) rfl (w.heap.size+1) dr rfl rfl _ dr K1.res (by kernel_rfl) rfl lN ?_))|fail)
  refine bodyPost_ret (results_cell_tmp (by rfl) _ _ (w.heap.size+1) 47 dr (0,0) _ rfl (setRow_heap u1 (w.heap.size+1) _ _ _ _ K1.res) Tryz.underlying47 rfl (by kernel_rfl)) rfl ?_;exact fb.no (by rw[HK.out,Uy]) ((K1.fr).setRow (fun h=>absurd h (by omega)) _)
 |some ar =>
  have iw:=O (show iz x=_ by rw[HK.out,Uy]);simp only at iw;clear HK Uy;have x0:=K1.vq.cell0;have x1:=K1.vq.dM;have x2:=K1.vq.ir;have fR:=fun W=>run_storeCells_new (P:=Tryz.prog) W 47 dr [.int .i64 1,.string (bA ar),.string ⟨#[]⟩,.string ⟨#[]⟩,.bool false,.string ⟨#[]⟩,.bool false,.slice none 0 0] rfl (by intro u hu;simp at hu;rcases hu with rfl|rfl|rfl|rfl|rfl|rfl|rfl|rfl<;>rfl)
  obtain⟨u2,jZ⟩:∃u2,u2=u1.alloc (.cells #[.int .i64 1,.string (bA ar),.string ⟨#[]⟩,.string ⟨#[]⟩,.bool false,.string ⟨#[]⟩,.bool false,.slice none 0 0] 47):=⟨_,rfl⟩;have hf:Fr ay u1 u2:=by rw[jZ];exact(Fr.refl _ _).alloc _
  have K2:=K1.next hf;have A2:cM u2 u1.heap.size {en with scheme:=1,ar:=bA ar}:=by rw[jZ];exact af _ _
  have x0a:∀o:Obj,(u1.alloc o).cell? ⟨w.heap.size,0,none⟩=some (.string (bA x.scheme)):=fun o=>(K1.vq.fr ((Fr.refl ay u1).alloc o) (fun h=>h)).cell0;have ql:=O jZ;generalize hA:u1.heap.size=A at *
  clear jZ;go_wp2_with fail
  rw[<-ql.out];refine(SMB.out BA u2 (by decide)).mono ?_;rintro e u3⟨rfl,dv⟩;have K3:=K2.next dv;have A3:cM u3 A {en with scheme:=1,ar:=bA ar}:=dv.keep A2 (fun h=>h);have hA3:A<u3.heap.size:=aj A3;clear x0 x1 x2 x0a fR A2 K2 dv;cases hbs:bf x.scheme BA with
  |true =>
   have sg:(Tryz.prog.info? 47).map (·.size)=some ({en with scheme:=1,ar:=bA ar}).cells.toArray.size:=by kernel_rfl
   have vr:u3.heap[A]?=some (.cells ({en with scheme:=1,ar:=bA ar}).cells.toArray 47 (0,0)):=A3;have Ut:=Cp ({en with scheme:=1,ar:=bA ar}) rfl
   go_wp2_with (first|((with_reducible refine ag ⟨some 33,_,_,_,_,_⟩ ?_);go_must(refine wpList_load_row rfl 47 (.tmp 6) rfl A rfl _ ({en with scheme:=1,ar:=bA ar}).cells.toArray (0,0) _ vr Tryz.underlying47 rfl sg ?_))|((with_reducible refine ag ⟨none,.store 47 _ _,_,_,_,_⟩ ?_);go_must(refine wpList_store_row rfl 47 (.tmp 2) (.tmp 33) rfl (w.heap.size+1) ({en with scheme:=1,ar:=bA ar}).cells.toArray rfl rfl _ dr K3.res sg rfl Ut ?_))|fail)
   refine bodyPost_ret (results_cell_tmp (by rfl) _ _ (w.heap.size+1) 47 ({en with scheme:=1,ar:=bA ar}).cells.toArray (0,0) _ rfl (setRow_heap u3 (w.heap.size+1) _ _ _ _ K3.res) Tryz.underlying47 rfl sg) rfl ?_;exact fb.yes (by rw[iw.out,if_pos hbs]) ((K3.fr).setRow (fun h=>absurd h (by omega)) _) ⟨rfl,rfl,rfl,rfl,rfl,rfl,rfl,Strs.nil _ _⟩
  |false =>
   rw[hbs]at iw;clear hbs;have x0:=K3.vq.cell0;have x1:=K3.vq.dM;have x2:=K3.vq.ir;go_wp2_with fail
   refine(GET.out sY u3 (by decide) K3.fr).mono ?_;rintro e u4⟨rfl,hf⟩;have K4:=K3.next hf;have A4:cM u4 A {en with scheme:=1,ar:=bA ar}:=hf.keep A3 (fun h=>h);clear x0 x1 x2 A3 K3 hf
   go_upto_if 40 with fail
   go_cut [5,7] (fun _ s7 wz=>s7=.string (bA ((eZ x.params sY).getD rM))/\u4=wz)
   case first =>
    cases wI:eZ x.params sY with
    |none =>
     go_wp2_with fail
     go_meet
     rw[wI];exact⟨rfl,rfl⟩
    |some v =>
     go_wp2_with fail
     go_meet
     rw[wI];exact⟨rfl,rfl⟩
   case rest =>
   obtain⟨rfl,rfl⟩:=hcut;have HNL:=O (Vm.out sY);have mn:(bA ((eZ x.params sY).getD rM)).size<17592186044416:=by
    show((eZ x.params sY).getD rM).length<_;cases hg:eZ x.params sY with
    |none=>decide
    |some v =>
     have h:=HNL.out;rw[hg]at h;have:v.length<=99999:=h;show v.length<_;omega
   generalize (eZ x.params sY).getD rM=alg at *
   have a0:=A4.cell (i:=0) rfl;have f0:=A4.free 0;go_wp2_with fail
   refine(zJ (bA alg) u4 mn).mono ?_;rintro e u5⟨rfl,hf⟩;rw[cN];have K5:=K4.next hf;have A5:cM u5 A {en with scheme:=1,ar:=bA ar}:=hf.keep A4 (fun h=>h);have Cq:w.heap.size+1<A:=rF;clear A4 K4 hf HNL mn a0 f0;cases har:NB alg with
   |none =>
    have HE:=O (show iz x=none by rw[iw.out,har];rfl);have hv0:Hb alg=.tuple #[.int .i64 0,.bool false,.bool false]:=by unfold Hb;rw[har]
    rw[hv0];have K6:=(K5.set (i:=0) (u:=.int .i64 0) Cq).set (i:=4) (u:=.bool false) Cq;have a0:=A5.cell (i:=0) rfl;have f0:=A5.free 0;have A5b:=A5.set (r':={en with scheme:=0,ar:=bA ar}) 0 (.int .i64 0) rfl;have a4:=A5b.cell (i:=4) rfl;have f4:=A5b.free 4
    go_wp2_with (first|((with_reducible refine ag ⟨none,.store 47 _ _,_,_,_,_⟩ ?_);go_must(refine wpList_store_row rfl 47 (.tmp 2) (.tmp 57) rfl (w.heap.size+1) dr rfl rfl _ dr K6.res (by kernel_rfl) rfl lN ?_))|fail)
    refine bodyPost_ret (results_cell_tmp (by rfl) _ _ (w.heap.size+1) 47 dr (0,0) _ rfl (setRow_heap _ (w.heap.size+1) _ _ _ _ K6.res) Tryz.underlying47 rfl (by kernel_rfl)) rfl ?_;exact fb.no (by exact HE.out) ((K6.fr).setRow (fun h=>absurd h (by omega)) _)
   |some q =>
    obtain⟨k,aL⟩:=q;have hv0:Hb alg=.tuple #[.int .i64 k,.bool aL,.bool true]:=by unfold Hb;rw[har]
    rw[hv0];rw[har]at iw;simp only at iw;have K6:=(K5.set (i:=0) (u:=.int .i64 k) Cq).set (i:=4) (u:=.bool aL) Cq;have a0:=A5.cell (i:=0) rfl;have f0:=A5.free 0;have A5b:=A5.set (r':={en with scheme:=k,ar:=bA ar}) 0 (.int .i64 k) rfl;have a4:=A5b.cell (i:=4) rfl;have f4:=A5b.free 4;have A6:=A5b.set (r':={en with scheme:=k,ar:=bA ar,aL:=aL}) 4 (.bool aL) rfl;have x0:=K6.vq.cell0;clear hv0 har
    go_wp2_with fail
    clear a0 f0 a4 f4 A5b A5 K5;generalize (u5.setCell ⟨A,0,none⟩ (.int .i64 k)).setCell ⟨A,4,none⟩ (.bool aL)=u6 at *
    refine(SMB.out xa u6 (by decide)).mono ?_;rintro e u7⟨rfl,hf⟩;have K7:=K6.next hf;have A7:cM u7 A {en with scheme:=k,ar:=bA ar,aL:=aL}:=hf.keep A6 (fun h=>h);clear A6 K6 hf x0;cases hds:bf x.scheme xa with
    |false =>
     have HE:=O (show iz x=none by rw[iw.out,hds];rfl);go_wp2_with (first|((with_reducible refine ag ⟨none,.store 47 _ _,_,_,_,_⟩ ?_);go_must(refine wpList_store_row rfl 47 (.tmp 2) (.tmp 57) rfl (w.heap.size+1) dr rfl rfl _ dr K7.res (by kernel_rfl) rfl lN ?_))|fail)
     refine bodyPost_ret (results_cell_tmp (by rfl) _ _ (w.heap.size+1) 47 dr (0,0) _ rfl (setRow_heap u7 (w.heap.size+1) _ _ _ _ K7.res) Tryz.underlying47 rfl (by kernel_rfl)) rfl ?_;exact fb.no (by exact HE.out) ((K7.fr).setRow (fun h=>absurd h (by omega)) _)
    |true =>
     rw[hds]at iw;have x0:=K7.vq.cell0;have x1:=K7.vq.dM;have x2:=K7.vq.ir;go_wp2_with fail
     refine(GET.out pI u7 (by decide) K7.fr).mono ?_;rintro e u8⟨rfl,hf⟩;have K8:=K7.next hf;have A8:cM u8 A {en with scheme:=k,ar:=bA ar,aL:=aL}:=hf.keep A7 (fun h=>h);have a2:=A8.cell (i:=2) rfl;have f2:=A8.free 2;clear A7 K7 hf x0 x1 x2;cases Cc:eZ x.params pI with
     |none =>
      have HE:=O (show iz x=none by rw[iw.out,Cc];rfl);have K9:=K8.set (i:=2) (u:=.string (bA [])) Cq;go_wp2_with (first|((with_reducible refine ag ⟨none,.store 47 _ _,_,_,_,_⟩ ?_);go_must(refine wpList_store_row rfl 47 (.tmp 2) (.tmp 66) rfl (w.heap.size+1) dr rfl rfl _ dr K9.res (by kernel_rfl) rfl lN ?_))|fail)
      refine bodyPost_ret (results_cell_tmp (by rfl) _ _ (w.heap.size+1) 47 dr (0,0) _ rfl (setRow_heap _ (w.heap.size+1) _ _ _ _ K9.res) Tryz.underlying47 rfl (by kernel_rfl)) rfl ?_;exact fb.no (by exact HE.out) ((K9.fr).setRow (fun h=>absurd h (by omega)) _)
     |some aE =>
      rw[Cc]at iw;simp only[Bool.not_true,Bool.false_eq_true,if_false]at iw;have K9:=K8.set (i:=2) (u:=.string (bA aE)) Cq;have A9:=A8.set (r':={en with scheme:=k,ar:=bA ar,aE:=bA aE,aL:=aL}) 2 (.string (bA aE)) rfl;have x0:=K9.vq.cell0;have x1:=K9.vq.dM;have x2:=K9.vq.ir;go_wp2_with fail
      clear a2 f2 A8 K8 x0 x1 x2;generalize u8.setCell ⟨A,2,none⟩ (.string (bA aE))=u9 at *
      refine(GET.out Dt u9 (by decide) K9.fr).mono ?_;rintro e u10⟨rfl,hf⟩;have K10:=K9.next hf;have A10:cM u10 A {en with scheme:=k,ar:=bA ar,aE:=bA aE,aL:=aL}:=hf.keep A9 (fun h=>h);have aw5:A<u10.heap.size:=aj A10;have HQP:=O (show ND x.params=match eZ x.params Dt with|none=>some []|some q=>NC q from rfl);clear A9 K9 hf
      go_upto_if 72 with fail
      go_cut [8,9,10,11,12,13]from 67 to 96 (fun _ _ _ _ _ _ wz=>aav w x pv A {en with scheme:=k,ar:=bA ar,aE:=bA aE,aL:=aL} wz)
      case first =>
       have HQL:=O (Vm.out Dt);cases hq:eZ x.params Dt with
       |none =>
        go_wp2_with fail
        go_meet
        exact⟨[],by rw[HQP.out,hq],K10,A10⟩
       |some q =>
        rw[hq]at HQP HQL;simp only[Option.getD_some]at HQP HQL;have hql:(bA q).size<4398046511104:=by
         have h:q.length<=99999:=HQL.out;show q.length<_;omega
        have LI:=O (Ds (bA q) u10 hql);clear hql;go_wp2_with fail
        refine LI.out.mono ?_;intro e CZ hlp;rcases Vl q with ⟨ws,sF,zW,hqo⟩|⟨Cc,hqo⟩
        case inr =>
         obtain⟨lv,lt,lx,rfl,hf⟩:=hlp.aat (by rw[cN];exact Cc);have HE:=O (show iz x=none by rw[iw.out,HQP.out,hqo]);have K11:=K10.next hf;clear hlp Cc hqo;go_wp2_with (first|((with_reducible refine ag ⟨none,.store 47 _ _,_,_,_,_⟩ ?_);go_must(refine wpList_store_row rfl 47 (.tmp 2) (.tmp 80) rfl (w.heap.size+1) dr rfl rfl _ dr K11.res (by kernel_rfl) rfl lN ?_))|fail)
         refine bodyPost_ret (results_cell_tmp (by rfl) _ _ (w.heap.size+1) 47 dr (0,0) _ rfl (setRow_heap CZ (w.heap.size+1) _ _ _ _ K11.res) Tryz.underlying47 rfl (by kernel_rfl)) rfl ?_;exact fb.no (by exact HE.out) ((K11.fr).setRow (fun h=>absurd h (by omega)) _)
        case inl =>
         obtain⟨lv,rfl,hlv,hf⟩:=hlp.isOk (ws:=ws) (by rw[cN];exact sF) zW;have K11:=K10.next hf;have A11:cM CZ A {en with scheme:=k,ar:=bA ar,aE:=bA aE,aL:=aL}:=hf.keep A10 (fun h=>h);have atL:=hf.size;have HWZ:=O (show∀y∈bw ws,y.size<17592186044416 from fun y hy=>by
          obtain⟨w0,pB,rfl⟩:=List.mem_map.1 hy;have h1:=Bb _ _ _ sF w0 pB;have h2:q.length<=99999:=HQL.out;show w0.length<_;omega)
         have HQO:=O (show ND x.params=if(qK ws 2).isEmpty then none else some (qK ws 2)by rw[HQP.out,hqo,aau]);clear hlp sF hqo hf A10 K10;obtain⟨u12,Vn⟩:∃u12,u12=CZ.alloc (.cells #[.string (bA kI),.string (bA gO)] 9):=⟨_,rfl⟩;have hf:Fr ay CZ u12:=by rw[Vn];exact(Fr.refl _ _).alloc _
         have aoZ:u12.heap[CZ.heap.size]?=some (.cells #[.string (bA kI),.string (bA gO)] 9 (0,0)):=by rw[Vn];exact af _ _
         have K12:=K11.next hf;have A12:cM u12 A {en with scheme:=k,ar:=bA ar,aE:=bA aE,aL:=aL}:=hf.keep A11 (fun h=>h);have ahQ:=hlv.fr hf (fun _ h=>h.elim);have ao0:=O Vn;obtain⟨la,lc,hle⟩:=ahQ.form;have hAB:A<CZ.heap.size:=by omega
         clear Vn hf A11 K11 hlv;subst hle;go_wp2_with fail
         rw[show CZ.alloc (.cells #[.string ⟨#[97,117,116,104,45,105,110,116]⟩,.string ⟨#[97,117,116,104]⟩] 9)=u12 from ao0.out.symm];go_loopw[83] (ahL w x pv A {en with scheme:=k,ar:=bA ar,aE:=bA aE,aL:=aL} ws u12) (fun t _=>2-(intOf t).toNat)
         case atStart=>exact⟨0,by omega,rfl,K12,A12,Fr.refl _ _⟩
         case round =>
          obtain⟨m,hm,rfl,K13,A13,aW⟩:=hrel;have hAr:A<wr.heap.size:=aj A13;have hbr:=aW.keep aoZ (fun e=>by have e':CZ.heap.size=A:=e;omega);have hlr:=ahQ.fr aW (fun j e=>by have e':j=A:=e;omega);have c0:wr.cell? ⟨CZ.heap.size,0,none⟩=some (.string (bA kI)):=by simp[World.cell?,hbr]
          have c1:wr.cell? ⟨CZ.heap.size,1,none⟩=some (.string (bA gO)):=by simp[World.cell?,hbr]
          have ES:∀n:Bs,n.length<=8->∃wn,wn=wr.alloc (.cells #[.string (bA n)] 9)/\Co wn wr.heap.size (bA n)/\Fr ay wr wn/\Calls Tryz.prog 212 #[.slice la (bw ws).length lc,.func (.func 213) #[] #[.pointer (some ⟨wr.heap.size,0,none⟩)]] wn fun e w'=>e=.returned (.bool (ws.any fun y=>bf y n))/\Fr ay wn w':=by
           intro n hn;have vY:Fr ay wr (wr.alloc (.cells #[.string (bA n)] 9)):=(Fr.refl _ _).alloc _;have hb:=af wr (.cells #[.string (bA n)] 9);refine⟨_,rfl,hb,vY,?_⟩;have h:=Vi (bA n) wr.heap.size _ (bw ws) _ (hlr.fr vY (fun _ h=>h.elim)).at (by rw[kl];omega) hb (by show n.length<_;omega) HWZ.out;rw[LX]at h;exact h
          rcases(show m=0\/m=1\/m=2 by omega)with rfl|rfl|rfl
          case inl =>
           obtain⟨wn,M7,CV,vY,CF⟩:=ES kI (by decide);have HWN:=O M7;have Jd:wn.cell? ⟨wr.heap.size,0,none⟩=some (.string (bA kI)):=by simp[World.cell?,show wn.heap[wr.heap.size]?=_ from CV]
           clear ES M7;go_wp2_with fail
           rw[<-HWN.out];refine CF.mono ?_;rintro e w14⟨rfl,Cr⟩;have K14:=(K13.next vY).next Cr;have Vo:cM w14 A {en with scheme:=k,ar:=bA ar,aE:=bA aE,aL:=aL,bU:=bA (qK ws 0)}:=Cr.keep (vY.keep A13 (fun h=>h)) (fun h=>h);have ET:=O ((aW.trans vY.iC).trans Cr.iC);have ao2:w14.cell? ⟨wr.heap.size,0,none⟩=some (.string (bA kI)):=(Cr.cell (p:=⟨wr.heap.size,0,none⟩) (aj CV) (fun h=>h)).trans Jd
           have a5:=Vo.cell (i:=5) rfl;have f5:=Vo.free 5;cases dL:ws.any (fun y=>bf y kI)
           case false =>
            have He:=O (show qK ws 1=qK ws 0 by show(if ws.any (fun w=>bf w kI)then kI else [])=[];rw[dL];rfl);go_wp2;go_roundw
            case rel=>exact⟨1,by omega,by go_num,K14,by rw[He.out];exact Vo,ET.out⟩
            case measure=>simp[intOf]
           case true =>
            have He:=O (show qK ws 1=kI by show(if ws.any (fun w=>bf w kI)then kI else [])=_;rw[dL];rfl);have K15:=K14.set (i:=5) (u:=.string (bA kI)) Cq;have A15:=Vo.set (r':={en with scheme:=k,ar:=bA ar,aE:=bA aE,aL:=aL,bU:=bA kI}) 5 (.string (bA kI)) rfl;have PQ:=O (ET.out.setCell (p:=⟨A,5,none⟩) (fun _=>rfl) (.string (bA kI)));go_wp2;go_roundw
            case rel=>exact⟨1,by omega,by go_num,K15,by rw[He.out];exact A15,PQ.out⟩
            case measure=>simp[intOf]
          case inr.inl =>
           obtain⟨wn,M7,CV,vY,CF⟩:=ES gO (by decide);have HWN:=O M7;have Jd:wn.cell? ⟨wr.heap.size,0,none⟩=some (.string (bA gO)):=by simp[World.cell?,show wn.heap[wr.heap.size]?=_ from CV]
           clear ES M7;go_wp2_with fail
           rw[<-HWN.out];refine CF.mono ?_;rintro e w14⟨rfl,Cr⟩;have K14:=(K13.next vY).next Cr;have Vo:cM w14 A {en with scheme:=k,ar:=bA ar,aE:=bA aE,aL:=aL,bU:=bA (qK ws 1)}:=Cr.keep (vY.keep A13 (fun h=>h)) (fun h=>h);have ET:=O ((aW.trans vY.iC).trans Cr.iC);have ao2:w14.cell? ⟨wr.heap.size,0,none⟩=some (.string (bA gO)):=(Cr.cell (p:=⟨wr.heap.size,0,none⟩) (aj CV) (fun h=>h)).trans Jd
           have a5:=Vo.cell (i:=5) rfl;have f5:=Vo.free 5;cases dL:ws.any (fun y=>bf y gO)
           case false =>
            have He:=O (show qK ws 2=qK ws 1 by show(if ws.any (fun w=>bf w gO)then gO else qK ws 1)=_;rw[dL];rfl);go_wp2;go_roundw
            case rel=>exact⟨2,by omega,by go_num,K14,by rw[He.out];exact Vo,ET.out⟩
            case measure=>simp[intOf]
           case true =>
            have He:=O (show qK ws 2=gO by show(if ws.any (fun w=>bf w gO)then gO else qK ws 1)=_;rw[dL];rfl);have K15:=K14.set (i:=5) (u:=.string (bA gO)) Cq;have A15:=Vo.set (r':={en with scheme:=k,ar:=bA ar,aE:=bA aE,aL:=aL,bU:=bA gO}) 5 (.string (bA gO)) rfl;have PQ:=O (ET.out.setCell (p:=⟨A,5,none⟩) (fun _=>rfl) (.string (bA gO)));go_wp2;go_roundw
            case rel=>exact⟨2,by omega,by go_num,K15,by rw[He.out];exact A15,PQ.out⟩
            case measure=>simp[intOf]
          case inr.inr =>
           have a5:=A13.cell (i:=5) rfl;clear ES c0 c1;cases KV:(qK ws 2).isEmpty
           case true =>
            have HE:=O (show iz x=none by rw[iw.out,HQO.out,KV];rfl);have e1:(bA (qK ws 2)).toList=[]:=by rw[il];exact List.isEmpty_iff.1 KV
            have e2:((bA (qK ws 2)).toList== [])=true:=beq_iff_eq.2 e1;go_wp2_with (first|((with_reducible refine ag ⟨none,.store 47 _ _,_,_,_,_⟩ ?_);go_must(refine wpList_store_row rfl 47 (.tmp 2) (.tmp 96) rfl (w.heap.size+1) dr rfl rfl _ dr K13.res (by kernel_rfl) rfl lN ?_))|fail)
            refine bodyPost_ret (results_cell_tmp (by rfl) _ _ (w.heap.size+1) 47 dr (0,0) _ rfl (setRow_heap wr (w.heap.size+1) _ _ _ _ K13.res) Tryz.underlying47 rfl (by kernel_rfl)) rfl ?_;exact fb.no (by exact HE.out) ((K13.fr).setRow (fun h=>absurd h (by omega)) _)
           case false =>
            have e1:¬(bA (qK ws 2)).toList=[]:=by rw[il];intro e;rw[e]at KV;cases KV
            have e2:((bA (qK ws 2)).toList== [])=false:=beq_eq_false_iff_ne.2 e1;go_wp2_with fail
            go_meet
            exact⟨qK ws 2,by rw[HQO.out,KV];rfl,K13,A13⟩
      case rest =>
      obtain⟨q,hqp,K20,A20⟩:=hcut;have HE1:=O (show iz x=some ⟨k,bA ar,bA aE,bA ((eZ x.params gP).getD []),aL,bA q,bf ((eZ x.params uQ).getD []) gz,(BC ((eZ x.params lo).getD [])).map bA⟩by rw[iw.out,hqp]);clear iw hqp HQP K10 A10;have x0:=K20.vq.cell0;have x1:=K20.vq.dM;have x2:=K20.vq.ir;go_wp2_with fail
      refine(GET.out gP wc (by decide) K20.fr).mono ?_;rintro e u21⟨rfl,hf⟩;have K21:=K20.next hf;have A21:cM u21 A {en with scheme:=k,ar:=bA ar,aE:=bA aE,aL:=aL,bU:=bA q}:=hf.keep A20 (fun h=>h);clear x0 x1 x2 A20 K20 hf;generalize (eZ x.params gP).getD []=op at *
      have a3:=A21.cell (i:=3) rfl;have f3:=A21.free 3;have K22:=K21.set (i:=3) (u:=.string (bA op)) Cq;have A22:=A21.set (r':={en with scheme:=k,ar:=bA ar,aE:=bA aE,aK:=bA op,aL:=aL,bU:=bA q}) 3 (.string (bA op)) rfl;have x0:=K22.vq.cell0;have x1:=K22.vq.dM;have x2:=K22.vq.ir;go_wp2_with fail
      clear a3 f3 A21 K21 x0 x1 x2;generalize u21.setCell ⟨A,3,none⟩ (.string (bA op))=u22 at *
      refine(GET.out uQ u22 (by decide) K22.fr).mono ?_;rintro e u23⟨rfl,hf⟩;have K23:=K22.next hf;have A23:cM u23 A {en with scheme:=k,ar:=bA ar,aE:=bA aE,aK:=bA op,aL:=aL,bU:=bA q}:=hf.keep A22 (fun h=>h);have HSL:=O (Vm.out uQ);generalize (eZ x.params uQ).getD []=st at *
      have Gn:(bA st).size<17592186044416:=by have h:st.length<=99999:=HSL.out;show st.length<_;omega
      have SMT:=O (gX (bA st) (bA gz) u23 Gn (by decide));rw[cN,cN]at SMT;clear Gn HSL A22 K22 hf;go_wp2_with fail
      refine SMT.out.mono ?_;rintro e u24⟨rfl,hf⟩;have K24:=K23.next hf;have A24:cM u24 A {en with scheme:=k,ar:=bA ar,aE:=bA aE,aK:=bA op,aL:=aL,bU:=bA q}:=hf.keep A23 (fun h=>h);have a6:=A24.cell (i:=6) rfl;have f6:=A24.free 6;have K25:=K24.set (i:=6) (u:=.bool (bf st gz)) Cq;have A25:=A24.set (r':={en with scheme:=k,ar:=bA ar,aE:=bA aE,aK:=bA op,aL:=aL,bU:=bA q,aX:=bf st gz}) 6 (.bool (bf st gz)) rfl
      have x0:=K25.vq.cell0;have x1:=K25.vq.dM;have x2:=K25.vq.ir;clear SMT A23 K23 hf;go_wp2_with fail
      clear a6 f6 A24 K24 x0 x1 x2;generalize u24.setCell ⟨A,6,none⟩ (.bool (bf st gz))=u25 at *
      refine(GET.out lo u25 (by decide) K25.fr).mono ?_;rintro e Vp⟨rfl,hf⟩;have K26:=K25.next hf;have A26:cM Vp A {en with scheme:=k,ar:=bA ar,aE:=bA aE,aK:=bA op,aL:=aL,bU:=bA q,aX:=bf st gz}:=hf.keep A25 (fun h=>h);have HDL:=O (Vm.out lo);generalize (eZ x.params lo).getD []=d at *
      have axb:A<Vp.heap.size:=aj A26;have SP:=O (show Calls Tryz.prog 67 #[.string (bA d),.string ⟨#[32]⟩] Vp fun e w'=>e=.returned (.slice (some ⟨Vp.heap.size,0,none⟩) (bD 32 d).length (bD 32 d).length)/\w'=Vp.alloc (.cells (((bD 32 d).map bA).map Value.string).toArray 9)from by
       have h:=sk (bA d) 32 Vp (by have h:d.length<=99999:=HDL.out;show d.length<_;omega);rw[L0,List.length_map]at h;exact h)
      obtain⟨Tf,wX⟩:=Bc 32 d;clear hf A25 K25;go_wp2_with fail
      refine SP.out.mono ?_;rintro e u27⟨rfl,aaz⟩;have hf:Fr ay Vp u27:=by rw[aaz];exact(Fr.refl _ _).alloc _
      have SX:u27.heap[Vp.heap.size]?=some (.cells (((bD 32 d).map bA).map Value.string).toArray 9 (0,0)):=by rw[aaz];exact af _ _
      have K27:=K26.next hf;have A27:cM u27 A {en with scheme:=k,ar:=bA ar,aE:=bA aE,aK:=bA op,aL:=aL,bU:=bA q,aX:=bf st gz}:=hf.keep A26 (fun h=>h);generalize hPb:Vp.heap.size=Pb at *
      clear SP aaz hf A26 K26;go_wp2_with fail
      go_loopw[119] (ahK w x pv A Pb {en with scheme:=k,ar:=bA ar,aE:=bA aE,aK:=bA op,aL:=aL,bU:=bA q,aX:=bf st gz} d) (fun t _=>(bD 32 d).length-(intOf t).toNat)
      case atStart=>exact⟨0,.slice none 0 0,Nat.zero_le _,rfl,K27,A27,Strs.nil _ _,SX,fun j e=>by simp[Value.ownBlock]at e⟩
      case round =>
        obtain⟨m,v,hm,rfl,K30,A30,EU,JX,hvP⟩:=hrel;have hAr:A<wr.heap.size:=aj A30;have hd:d.length<=99999:=HDL.out;by_cases hms:m<(bD 32 d).length
        case pos =>
         have hmi:(m:Int)<((bD 32 d).length:Int):=by omega
         have bC:=O (List.getElem?_eq_getElem hms);have zd:=wX _ (List.getElem_mem hms);generalize (bD 32 d)[m]=p at bC zd;have c0:wr.cell? ⟨Pb,m,none⟩=some (.string (bA p)):=by
          simp only[World.cell?,JX];rw[List.getElem?_toArray,List.getElem?_map,List.getElem?_map,bC.out];rfl
         have HSU:=O (Hd bC.out);have HP:=O (show Calls Tryz.prog 63 #[.string (bA p),.string ⟨#[47]⟩] wr fun e w'=>e=.returned (.bool (FZ 47 p))/\wr=w' from by
          have h:=Tryz.strings_HasPrefix (bA p) ⟨#[47]⟩ wr;rw[cN,show(⟨#[47]⟩:ByteArray).data.toList=[47]from rfl,ahJ]at h;exact h.mono (fun e w' ⟨h1,h2⟩=>⟨h1,h2.symm⟩))
         go_wp2_with fail
         refine HP.out.mono ?_;rintro e w31⟨rfl,rfl⟩;clear HP c0;cases hpf:FZ 47 p
         case false =>
          have aaD:=O (show dS d (m+1)=dS d m by rw[HSU.out,hpf];simp);go_wp2;go_roundw
          case rel=>exact⟨m+1,v,by omega,by go_num,K30,A30,by rw[aaD.out];exact EU,JX,hvP⟩
          case measure=>simp[intOf];omega
         case true =>
          have aaD:=O (show(dS d (m+1)).map bA=(dS d m).map bA++[bA (jK p)]by rw[HSU.out,hpf];simp);have JC:=O (show∀U,Calls Tryz.prog 214 #[.string (bA p)] U fun e w'=>e=.returned (.string (bA (jK p)))/\Fr ay U w' from fun U=>by
           have h:=Li (bA p) U (by show p.length<_;omega);rw[cN]at h;exact h)
          obtain⟨va,vc,hve⟩:=EU.form;rw[List.length_map]at hve;have hdl:=LZ d m;subst hve;have a7:wr.cell? ⟨A,7,none⟩=some (.slice va (dS d m).length vc):=A30.cell rfl;have f7:=A30.free 7;have hoA:(Value.slice va (dS d m).length vc).ownBlock≠some A:=fun e=>by
           obtain⟨cur,hc⟩:=EU.kind e;rw[show wr.heap[A]?=_ from A30]at hc;simp at hc
          have yv:=O (show∀U,Fr ay wr U->U.cell? ⟨A,7,none⟩=some (.slice va (dS d m).length vc)/\U.frozen? ⟨A,7,none⟩=false from fun U hU=>⟨(hU.cell (p:=⟨A,7,none⟩) hAr (fun h=>h)).trans a7,(hU.frozen (p:=⟨A,7,none⟩) hAr (fun h=>h)).trans f7⟩);obtain⟨i0,qD,oZ,iy,gU⟩:=info_parts sQ;have hwr:w.heap.size<=wr.heap.size:=K30.fr.size;have ao':=O EU;clear EU hpf;go_wp2_with fail
          go_region_law (first
           |((with_reducible refine jM ⟨some 128,_,_,_,_,_⟩ ?_)
             refine uS rfl 214 _ (by go_simp) (JC.out _) ?_
             rintro e w3⟨rfl,dv⟩
             refine⟨_,rfl,?_⟩
             have dV:Fr ay wr w3:=Fr.trans (by repeat(first|exact Fr.refl _ _|apply Fr.drew)) dv
             obtain⟨k3,l3⟩:=yv.out w3 dV
             have k3a:∀o:Obj,(w3.alloc o).cell? ⟨A,7,none⟩=some (.slice va (dS d m).length vc):=fun o=>(yv.out _ (dV.alloc o)).1
             have cz:=ao'.out.fr dV (fun _ h=>h.elim)
             have jQ:w.heap.size<=w3.heap.size:=Nat.le_trans hwr dV.size
             have PR:w3.ownsRow w.heap.size 9 1 (.slice va (dS d m).length vc) (dS d m).length (((dS d m).map bA).map Value.string):=by
               have hh:w3.ownsRow w.heap.size 9 1 (.slice va (dS d m).length vc) ((dS d m).map bA).length (((dS d m).map bA).map Value.string):=cz
               rw[List.length_map]at hh
               exact hh
             clear dv)
           |((with_reducible refine jM ⟨some 130,_,_,_,_,_⟩ ?_)
             refine step_append_lies _ (by rfl) _ _ _ (by rfl) w.heap.size 9 i0 _ 1 16 Tryz.underlying45 qD oZ iy gU rfl (by omega) (.slice va (dS d m).length vc) (dS d m).length _ (by rfl) (by repeat(first|exact PR|apply World.ownsRow.alloc|apply World.ownsRow.drew)) ⟨w3.heap.size,0,none⟩ 1 1 [.string (bA (jK p))] (by rfl) (by rfl) (jo w3 [.string (bA (jK p))] _) (by simp[Value.oneCell']) (by omega) (by unfold maxLen;omega) (by omega) (by simp;omega) (w3.heap.size+1) (by simp) ?_
             intro gg cap w4 cZ gQ NZ UF
             have B':Fr (fun k=>(Value.slice va (dS d m).length vc).ownBlock=some k) w3 w4:=Fr.grown (by repeat(first|exact Fr.refl _ _|apply Fr.drew|apply Fr.alloc)) gQ (fun _ hk _=>hk)
             have hA3:A<w3.heap.size:=Nat.lt_of_lt_of_le hAr dV.size
             have k4:w4.cell? ⟨A,7,none⟩=some (.slice va (dS d m).length vc):=(B'.cell (p:=⟨A,7,none⟩) hA3 hoA).trans k3
             have e4:w4.frozen? ⟨A,7,none⟩=false:=(B'.frozen (p:=⟨A,7,none⟩) hA3 hoA).trans l3))
          all_goals
           have xr:Strs w.heap.size w3 (.slice va (dS d m).length vc) ((dS d m).map bA):=cz;have K31:=(K30.next dV).own xr B';have A31:cM w4 A {{en with scheme:=k,ar:=bA ar,aE:=bA aE,aK:=bA op,aL:=aL,bU:=bA q,aX:=bf st gz}with dom:=.slice va (dS d m).length vc}:=B'.keep (dV.keep A30 (fun h=>h)) hoA;have hPl:Pb<wr.heap.size:=aj JX
           have ahU:=B'.keep (dV.keep JX (fun h=>h)) (fun e=>absurd (hvP Pb e) (Nat.lt_irrefl _));have hvg:Strs w.heap.size w4 (.slice (some ⟨gg,0,none⟩) ((dS d m).length+1) cap) ((dS d (m+1)).map bA):=by
            rw[aaD.out];have e1:((dS d m).map bA++[bA (jK p)]).length=(dS d m).length+1:=by simp
            unfold Strs;rw[e1,List.map_append];exact cZ
           have hfA:Fr (one A) w4 (w4.setCell ⟨A,7,none⟩ (.slice (some ⟨gg,0,none⟩) ((dS d m).length+1) cap)):=(Fr.refl (one A) w4).setCell (p:=⟨A,7,none⟩) (fun _=>rfl) _;have apa:=hvg.Vk hfA A31 (by decide);have K32:=K31.set (i:=7) (u:=.slice (some ⟨gg,0,none⟩) ((dS d m).length+1) cap) Cq
           have A32:=A31.set (r':={{en with scheme:=k,ar:=bA ar,aE:=bA aE,aK:=bA op,aL:=aL,bU:=bA q,aX:=bf st gz}with dom:=.slice (some ⟨gg,0,none⟩) ((dS d m).length+1) cap}) 7 (.slice (some ⟨gg,0,none⟩) ((dS d m).length+1) cap) rfl;have ahV:=hfA.keep ahU (fun e=>by have e':Pb=A:=e;omega);have apb:∀j,(Value.slice (some ⟨gg,0,none⟩) ((dS d m).length+1) cap).ownBlock=some j->Pb<j:=by
            intro j hj;simp only[Value.ownBlock,Option.some.injEq]at hj;subst hj;rcases NZ with e|e
            ·exact hvP _ e
            ·have:=dV.size;omega
           clear k4 e4 gQ cZ cz PR B' k3 k3a l3 yv;go_wp2;go_roundw
           case rel=>exact⟨m+1,_,by omega,by go_num,K32,A32,apa,ahV,apb⟩
           case measure=>simp[intOf];omega
        case neg =>
         have hmi:¬(m:Int)<((bD 32 d).length:Int):=by omega
         have apc:=O EU;have MZ:=O (show dS d m=BC d from LY (by omega));have hvo:v.oneCell'=true:=by obtain⟨va,vc,hve⟩:=EU.form;rw[hve];rfl
         have HR0:=O K30.res;clear EU wX Tf;have sg:(Tryz.prog.info? 47).map (·.size)=some ({{en with scheme:=k,ar:=bA ar,aE:=bA aE,aK:=bA op,aL:=aL,bU:=bA q,aX:=bf st gz}with dom:=v}).cells.toArray.size:=by kernel_rfl
         have vr:wr.heap[A]?=some (.cells ({{en with scheme:=k,ar:=bA ar,aE:=bA aE,aK:=bA op,aL:=aL,bU:=bA q,aX:=bf st gz}with dom:=v}).cells.toArray 47 (0,0)):=A30;have Ut:=Cp ({{en with scheme:=k,ar:=bA ar,aE:=bA aE,aK:=bA op,aL:=aL,bU:=bA q,aX:=bf st gz}with dom:=v}) hvo
         go_wp2_with (first|((with_reducible refine ag ⟨some 133,_,_,_,_,_⟩ ?_);go_must(refine wpList_load_row rfl 47 (.tmp 6) rfl A rfl _ ({{en with scheme:=k,ar:=bA ar,aE:=bA aE,aK:=bA op,aL:=aL,bU:=bA q,aX:=bf st gz}with dom:=v}).cells.toArray (0,0) _ vr Tryz.underlying47 rfl sg ?_))|((with_reducible refine ag ⟨none,.store 47 _ _,_,_,_,_⟩ ?_);go_must(refine wpList_store_row rfl 47 (.tmp 2) (.tmp 133) rfl (w.heap.size+1) ({{en with scheme:=k,ar:=bA ar,aE:=bA aE,aK:=bA op,aL:=aL,bU:=bA q,aX:=bf st gz}with dom:=v}).cells.toArray rfl rfl _ dr K30.res sg rfl Ut ?_))|fail)
         refine bodyPost_ret (results_cell_tmp (by rfl) _ _ (w.heap.size+1) 47 ({{en with scheme:=k,ar:=bA ar,aE:=bA aE,aK:=bA op,aL:=aL,bU:=bA q,aX:=bf st gz}with dom:=v}).cells.toArray (0,0) _ rfl (setRow_heap wr (w.heap.size+1) _ _ _ _ K30.res) Tryz.underlying47 rfl sg) rfl ?_
         exact fb.yes (by rw[HE1.out]) ((K30.fr).setRow (fun h=>absurd h (by omega)) _) ⟨rfl,rfl,rfl,rfl,rfl,rfl,rfl,by rw[<-MZ.out];exact apc.out.Vk ((Fr.refl (one (w.heap.size+1)) wr).setRow (fun _=>rfl) _) HR0.out (by decide)⟩
end Go.Proofs.YtjdmjbdkdmbaiaaGreatDoor
