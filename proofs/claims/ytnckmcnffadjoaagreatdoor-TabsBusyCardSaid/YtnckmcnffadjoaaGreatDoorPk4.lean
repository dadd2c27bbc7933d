/- Lemmas for the law's walk. -/
import Derived.Test.YtnckmcnffadjoaaGreatDoorPk3
import Derived.Laws.AppendOwnNone
set_option maxRecDepth 100000
set_option maxHeartbeats 16000000
set_option linter.unusedSimpArgs false
namespace Go.Proofs.YtnckmcnffadjoaaGreatDoor
open Go.Proofs.Tryz
open Go.RowKit
variable {base k b:Nat} {w w':World} {S:Nat->Prop} {v:Value} {ss:List aj}
theorem Ii:∀(l:aG) (c:UInt8),¬0<=Lib.indexByte l c↔ ∀x∈l,x≠c
 |[],c=>by simp[Lib.indexByte]
 |x :: l,c=>by
  have ih:=Ii l c;have hge:=Lib.indexByte_ge l c;show¬0<=(if x==c then(0:Int)else if Lib.indexByte l c== -1 then -1 else Lib.indexByte l c+1)↔_;by_cases hx:x=c
  ·subst hx;simp
  ·rw[aq (by simpa using hx)];by_cases h1:Lib.indexByte l c= -1
   ·rw[az (by simpa using h1)];constructor
    ·intro _ y hy;rcases bB.1 hy with rfl|hy
     ·exact hx
     ·exact ih.1 (by rw[h1];decide) y hy
    ·intro _;decide
   ·rw[aq (by simpa using h1)];constructor
    ·intro h;omega
    ·intro h;have:=ih.2 (fun y hy=>h y (bN _ hy));omega
theorem Kv(s:aj)(c:UInt8)(i:Nat)(w:World)(hs:s.size<4398046511104)(hi:Lib.indexByte s.data.toList c=(i:Int))(hl:i<s.size) :
  Calls prog 127 #[.string s,.string ⟨#[c]⟩] w fun e w'=>e=.returned (.tuple #[.string (s.extract 0 i),.string (s.extract (i+1) s.size),.bool true])/\∃n,w'=w.drewN n:=by
 have X6:Calls prog 186 #[.string s,.string ⟨#[c]⟩] w fun e w'=>e=.returned (.tuple #[.string (s.extract 0 i),.string (s.extract (i+1) s.size),.bool true])/\∃n,w'=w.drewN n:=by
  have q0:(0:Int)<=(i:Int):=ab;have q1:(i:Int)<=(s.size:Int):=ab;have q2:(i:Int)+1<=(s.size:Int):=ab;have q3:(0:Int)<=(i:Int)+1:=ab;go_enter func186,ntmps186;go_wp2_with fail
  refine(stringslite_Index_one s c w).mono ?_;rintro e w1⟨rfl,rfl⟩;rw[hi];go_wp2;go_quiet (fail);go_wp2
  go_ret3
  exact⟨rfl,_,rfl⟩
 go_enter func127,ntmps127;go_wp2_with fail
 refine X6.mono ?_;rintro e w1⟨rfl,n,rfl⟩;go_wp2
 go_ret3
 exact⟨rfl,n,rfl⟩
theorem Gf(s:aj)(c:UInt8)(w:World)(hi:¬0<=Lib.indexByte s.data.toList c) :
  Calls prog 127 #[.string s,.string ⟨#[c]⟩] w fun e w'=>e=.returned (.tuple #[.string s,.string ⟨#[]⟩,.bool false])/\w'=w:=by
 have X6:Calls prog 186 #[.string s,.string ⟨#[c]⟩] w fun e w'=>e=.returned (.tuple #[.string s,.string ⟨#[]⟩,.bool false])/\w'=w:=by
  go_enter func186,ntmps186;go_wp2_with fail
  refine(stringslite_Index_one s c w).mono ?_;rintro e w1⟨rfl,rfl⟩;go_wp2
  go_ret3
  exact⟨rfl,rfl⟩
 go_enter func127,ntmps127;go_wp2_with fail
 refine X6.mono ?_;rintro e w1⟨rfl,rfl⟩;go_wp2
 go_ret3
 exact⟨rfl,rfl⟩
open Go.RowKit Go.Sort
def uG(ls:List (aG)):List (aG):=ls.mergeSort fun x y=>decide (x<=y)
theorem Uq(base:Nat)(v:Value)(ls:List (aG))(w:World)(h:w.ownsRow base 9 1 v ls.length (ls.map encStr))(hl:ls.length<1000000) :
  Calls prog 182 #[v] w fun e w'=>e=.returned (.tuple #[])/\w'.ownsRow base 9 1 v ls.length ((uG ls).map encStr)/\w.grownBy w' v.ownBlock:=by
 rcases h.2 with ⟨rfl,h0⟩|⟨g,cap,cur,rfl,iD,hb,h1,h2,h3,h4⟩
 ·obtain rfl:ls=[]:=dF.1 h0;refine(slices_Sort_string_none none 0 w).mono ?_;rintro e w'⟨rfl,rfl⟩;exact⟨rfl,by rw[show uG []=[]by simp[uG]];exact h,⟨rfl,rfl,rfl,ay _,fun _ _ _=>rfl⟩⟩
 ·refine(slices_Sort_string g 0 cap ls w (holds_of_block hb (by simpa using h4)) (bj hb) ab).mono ?_;rintro e w'⟨rfl,n,os,rfl⟩;exact⟨rfl,ownsRow_sorted aQ iD hb h1 h2 h3,grownBy_sorted _⟩
theorem Ky(base:Nat)(v:Value)(ls:List (aG))(w:World)(h:w.ownsRow base 9 1 v ls.length (ls.map encStr))(hl:ls.length<1000000) :
  Calls prog 183 #[v] w fun e w'=>∃u,e=.returned u/\w'.ownsRow base 9 1 u (Lib.compact ls).length ((Lib.compact ls).map encStr)/\w.grownBy w' v.ownBlock:=by
 rcases h.2 with ⟨rfl,h0⟩|⟨g,cap,cur,rfl,iD,hb,h1,h2,h3,h4⟩
 ·obtain rfl:ls=[]:=dF.1 h0;refine(slices_Compact_string_empty none 0 w).mono ?_;rintro e w'⟨rfl,rfl⟩;exact⟨_,rfl,h,⟨rfl,rfl,rfl,ay _,fun _ _ _=>rfl⟩⟩
 ·refine(slices_Compact_string g 0 cap ls w (holds_of_block hb (by simpa using h4)) ab h1).mono ?_;have hle:=Lib.compact_length_le ls;obtain⟨ts,hts⟩:∃ts:List (aG),ts=Lib.compact ls++List.replicate (ls.length-(Lib.compact ls).length) []:=⟨_,rfl⟩;have hlen:ts.length=ls.length:=by rw[hts,aM,fi];omega
  rw[<-hts];rintro e w'⟨rfl,q,rfl⟩;have hw:=heap_sorted (n:=q) (os:= #[]) ts.toArray hb;have hg:=grownBy_sorted (w:=w) (g:=g) (n:=q) (os:= #[]) ts.toArray;rw[grow_empty]at hw hg;have tk:=take_putCells cur ts ab;refine⟨_,rfl,⟨aQ,.inr ⟨g,cap,_,rfl,iD,hw,ab,h2,by simp[putCells,h3],?_⟩⟩,hg⟩
  have e1:(putCells encStr 0 ts.toArray cur).toList.take (Lib.compact ls).length=((putCells encStr 0 ts.toArray cur).toList.take ts.length).take (Lib.compact ls).length:=by
   rw[kA,dK ab]
  rw[Nat.mul_one,e1,tk,hts,bH,List.take_left' aQ]
def Sep(w:World)(v v':Value):Prop:=v'.ownBlock=v.ownBlock\/∀k,v'.ownBlock=some k->w.heap.size<=k
theorem Dn{P:Program}(w:World)(base:Nat)(t ty e:TypeId)(i:TypeInfo)(z:Value)(size bytes:Nat)(ht:P.underlying t=some (.slice e))(hi:P.info? e=some i)(hz:i.zero=some z)
  (Gk:i.size=size)(qZ:i.bytes=bytes)(hzs:z.cells.size=size)(xM:0<size)
  (v:Value)(n:Nat)(xs:List Value)(cP:w.ownsRow base e size v n xs)
  (a:Addr)(m c:Nat)(news:List Value)(hl:news.length=m*size)(kL:∀j u,news[j]?=some u->w.cell? (a.add j)=some u)(h1:∀u∈news,u.oneCell'=true)
  (h63:n+m<=maxLen)(Dp:(n+m)*bytes<=140737488355328)(iD:base<=w.heap.size) :
  ∃v' w',(Builtin.append_ #[t,t] ty #[v,.slice (some a) m c]).run P w=.ok v' w'/\w'.ownsRow base e size v' (n+m) (xs++news)/\w.grownBy w' v.ownBlock/\Sep w v v':=by
 obtain⟨v',w',hr,h2,h3,_⟩:=run_append_own (P:=P) w base t ty e i z size bytes ht hi hz Gk qZ hzs xM v n xs cP a m c news hl kL h1 h63 Dp iD;refine⟨v',w',hr,h2,h3,?_⟩;rcases cP.2 with ⟨rfl,rfl⟩|⟨g,cap,cur,rfl,hbg,hg,hnc,hcm,hcs,rI⟩
 ·have hx:xs=[]:=cg (by simpa using cP.1);subst hx;obtain⟨v2,w2,ox,h22,_,_⟩:=run_append_own (P:=P) w w.heap.size t ty e i z size bytes ht hi hz Gk qZ hzs xM (.slice none 0 0) 0 [] (World.ownsRow_nil _ _ _ _) a m c news hl kL h1 h63 Dp (ay _);rw[hr]at ox;injection ox with e1 e2
  subst e1;exact Or.inr fun k hk=>(h22.lt k hk).1
 ·by_cases abH:n+m<=cap
  ·subst Gk;have qB:n*i.size+news.length<=cur.size:=by rw[hl,hcs, <-dC];exact bO _ abH
   have ox:=run_append_room (P:=P) w t ty e i ht hi g n cap cur hg a m c news hl kL h1 abH qB;rw[hr]at ox;injection ox with e1 e2
   subst e1;exact Or.inl rfl
  ·subst Gk;subst qZ;have Ik:n+m<=9223372036854775807:=by simp only[maxLen]at h63;omega
   have holds:∀j u,xs[j]?=some u->w.cell? ((⟨g,0,none⟩:Addr).add j)=some u:=cP.cells (g:=g) rfl;have ox:=run_append_grow (P:=P) w t ty e i z ht hi hz ⟨g,0,none⟩ n cap xs cP.1 holds a m c news hl kL ab ab (growslice_fits ab Dp);rw[hr]at ox;injection ox with e1 e2
   subst e1;exact Or.inr fun k hk=>by simp[Value.ownBlock]at hk;omega
theorem zw{P:Program}{w:World}{ops:Array Oper}{rest:List Oper}{o:Oper}{a:Act}{Q:Exit->Act->World->Prop}(zd:o.guard=none)(s x:Operand)(t:TypeId)
  (ho:o.op=.call {callee:=.builtin .append,args:= #[s,x],argTypes:= #[t,t]})
  (base:Nat)(e:TypeId)(i:TypeInfo)(z:Value)(size bytes:Nat)(ht:P.underlying t=some (.slice e))(hi:P.info? e=some i)(hz:i.zero=some z)
  (Gk:i.size=size)(qZ:i.bytes=bytes)(hzs:z.cells.size=size)(xM:0<size)
  (v:Value)(n:Nat)(xs:List Value)(hs:a.eval s=v)(cP:w.ownsRow base e size v n xs)
  (ad:Addr)(m c:Nat)(news:List Value)(hx:a.eval x=.slice (some ad) m c)(hl:news.length=m*size)(kL:∀j u,news[j]?=some u->w.cell? (ad.add j)=some u)(h1:∀u∈news,u.oneCell'=true)
  (h63:n+m<=maxLen)(Dp:(n+m)*bytes<=140737488355328)(iD:base<=w.heap.size)
  (h:∀v' w',w'.ownsRow base e size v' (n+m) (xs++news)->w.grownBy w' v.ownBlock->Sep w v v'->wpList P ops Q rest (a.put o.dst v') w'):wpList P ops Q (o :: rest) a w :=
 wpList_plain zd fun _ hK=>by
  obtain⟨v',w',hr,h2,h3,h4⟩:=Dn (P:=P) w base t o.type e i z size bytes ht hi hz Gk qZ hzs xM v n xs cP ad m c news hl kL h1 h63 Dp iD;unfold Oper.wp execOp;simp only[ho,resolve,invoke,builtin,Sem.run_bind,Sem.run_pure,Result.andThen_ok,eC,cA,dn,hs,hx,hr];exact hK _ _ (h v' w' h2 h3 h4)
theorem BU{ops:Array Oper}{rest:List Oper}{o:Oper}{a:Act}{Q:Exit->Act->World->Prop}{w:World}(zd:o.guard=none)(s x:Operand)
  (ho:o.op=.call {callee:=.builtin .append,args:= #[s,x],argTypes:= #[110,110]})(base:Nat)(v:Value)(l:List aj)(hs:a.eval s=v)(cP:Strs base w v l)
  (ad:Addr)(c:Nat)(y:aj)(hx:a.eval x=.slice (some ad) 1 c)(hy:w.cell? ad=some (.string y))(hlen:l.length<4398046511104)(iD:base<=w.heap.size)
  (h:∀v' w',Strs base w' v' (l++[y])->w.grownBy w' v.ownBlock->Sep w v v'->wpList prog ops Q rest (a.put o.dst v') w'):wpList prog ops Q (o :: rest) a w:=by
 obtain⟨i0,hi,pq,kZ,lq⟩:=info_parts zg;refine zw zd s x 110 ho base 9 i0 (.string ⟨#[]⟩) 1 16 underlying110 hi pq kZ lq rfl ag v l.length (l.map Value.string) hs cP ad 1 c [.string y] hx rfl ?_ ?_ ?_ ?_ iD ?_
 ·intro j u hj
  match j,hj with
  |0,hj=>simp at hj;subst hj;simpa[Addr.add]using hy
 ·intro u hu;simp at hu;subst hu;rfl
 ·unfold maxLen;omega
 ·omega
 ·intro v' w' h1 h2 h3;exact h v' w' (by unfold Strs;simpa using h1) h2 h3
theorem Kz{ops:Array Oper}{rest:List Oper}{o:Oper}{a:Act}{Q:Exit->Act->World->Prop}{w:World}(zd:o.guard=none)(s x:Operand)
  (ho:o.op=.call {callee:=.builtin .append,args:= #[s,x],argTypes:= #[110,110]})(base:Nat)(v:Value)(l:List aj)(hs:a.eval s=v)(cP:Strs base w v l)
  (vx:Value)(m:List aj)(hx:a.eval x=vx)(hm:fN w vx m)(hlen:l.length+m.length<4398046511104)(iD:base<=w.heap.size)
  (h:∀v' w',Strs base w' v' (l++m)->w.grownBy w' v.ownBlock->wpList prog ops Q rest (a.put o.dst v') w'):wpList prog ops Q (o :: rest) a w:=by
 obtain⟨i0,hi,pq,kZ,lq⟩:=info_parts zg;obtain⟨ax,cx,fI⟩:=hm.form;cases ax with
 |none =>
  obtain⟨Y1,h2⟩:m=[]/\cx=0:=by
   rcases hm with ⟨a',c',hv,hs,hc⟩|⟨bk,o',c,hf,_⟩
   ·rw[fI]at hv;injection hv with e1 e2 e3
    exact⟨hs,e3.trans (hc e1.symm)⟩
   ·rw[fI]at hf;injection hf with e1;cases e1
  subst Y1;have Ur:a.eval x=.slice none 0 0:=by rw[hx,fI,h2];rfl
  refine wpList_append_own_none zd s x 110 ho base 9 i0 1 underlying110 hi v l.length (l.map Value.string) hs cP Ur ?_;exact h v w (by rw[dR];exact cP) ⟨rfl,rfl,rfl,ay _,fun _ _ _=>rfl⟩
 |some ad =>
  refine wpList_append_own w zd s x 110 ho base 9 i0 (.string ⟨#[]⟩) 1 16 underlying110 hi pq kZ lq rfl ag v l.length (l.map Value.string) hs cP ad m.length cx (m.map Value.string) (hx.trans fI) aQ ?_ ?_ ?_ ?_ iD ?_
  ·intro j u hj;rcases hm with ⟨_,_,_,e,_⟩|⟨bk,o',c,hf,g1,g2,g3,g4⟩
   ·subst e;simp at hj
   ·rw[hf]at fI;cases fI;obtain⟨y,hy,rfl⟩:∃y,m[j]?=some y/\Value.string y=u:=by
     rw[List.getElem?_map]at hj;cases hmj:m[j]? with
     |none=>rw[hmj]at hj;cases hj
     |some y=>rw[hmj]at hj;exact⟨y,rfl,by simpa using hj⟩
    have ea:(Addr.add ⟨bk,o',none⟩ j)=⟨bk,o'+j,none⟩:=by unfold Addr.add;split<;>simp_all
    rw[ea];exact g4 j y hy
  ·intro u hu;obtain⟨y,_,rfl⟩:=bV.1 hu;rfl
  ·unfold maxLen;omega
  ·omega
  ·intro v' w' h1 h2 _;exact h v' w' (by unfold Strs;simpa using h1) h2
def Still(base:Nat)(w:World)(k:Nat):Prop:=k<base\/∃c f,w.heap[k]?=some (.cells c 9 f)
def sr(base:Nat)(w:World)(S:Nat->Prop):Prop:=∀k,S k->k<w.heap.size->base<=k/\∀c f,w.heap[k]?≠some (.cells c 9 f)
theorem sr.none(base:Nat)(w:World):sr base w aR:=fun _ h=>absurd h (fun h=>h)
theorem Still.fr(h:Still base w k)(hf:Fr S w w')(ho:sr base w S):Still base w' k:=by
 rcases h with h|⟨c,f,h⟩
 ·exact Or.inl h
 ·exact Or.inr ⟨c,f,hf.keep h (fun hs=>(ho k hs (bj h)).2 c f h)⟩
structure dr (base:Nat) (w:World) (v:Value) (ss:List aj):Prop where
 rd:fN w v ss
 own:∀k,v.ownBlock=some k->ss≠ []->k<w.heap.size/\Still base w k
 tG:ss.length<4398046511104
theorem fN.empty(h:fN w v []):fN w' v []:=by
 rcases h with h|⟨bk,o,c,hv,_⟩
 ·exact Or.inl h
 ·exact Or.inl ⟨_,_,hv,rfl,fun e=>by cases e⟩
theorem dr.fr(h:dr base w v ss)(hf:Fr S w w')(ho:sr base w S):dr base w' v ss:=by
 refine⟨?_,fun k hk hs=>⟨cN (h.own k hk hs).1 hf.size,(h.own k hk hs).2.fr hf ho⟩,h.tG⟩;by_cases he:ss=[]
 ·subst he;exact h.rd.empty
 refine h.rd.fr hf (fun k hk hs=>?_);obtain⟨hl,jq⟩:=h.own k hk he;have su:=ho k hs hl;rcases jq with g|⟨c,f,g⟩
 ·omega
 ·exact su.2 c f g
theorem dr.dh(h:dr base w v ss)(hf:Fr aR w w'):dr base w' v ss:=h.fr hf (sr.none _ _)
theorem dr.nil(base:Nat)(w:World):dr base w (.slice none 0 0) []:=⟨fN.nil w,fun k hk=>by simp[Value.ownBlock]at hk,aQ⟩
theorem Strs.in(h:Strs b w v ss)(hl:ss.length<4398046511104):dr base w v ss:=by
 refine⟨h.at,fun k hk _=>?_,hl⟩;rcases h.2 with ⟨hv,_⟩|⟨g,cap,cur,hv,hg,hh,_⟩
 ·rw[hv]at hk;simp[Value.ownBlock]at hk
 ·rw[hv]at hk;simp[Value.ownBlock]at hk;subst hk;exact⟨bj hh,Or.inr ⟨_,_,hh⟩⟩
inductive lg {α β:Type} (R:α->β->Prop):List α->List β->Prop
 |nil:lg R [] []
 |cons {a b l m}:R a b->lg R l m->lg R (a :: l) (b :: m)
namespace lg
variable {α β : Type} {R T : α → β → Prop} {l l' : List α} {m m' : List β}
theorem len(h:lg R l m):l.length=m.length:=by induction h with
 |nil=>rfl
 |cons _ _ ih=>simp[ih]
theorem mono(h:lg R l m)(hs:∀a b,R a b->T a b):lg T l m:=by induction h with
 |nil=>exact .nil
 |cons h _ ih=>exact .cons (hs _ _ h) ih
theorem get(h:lg R l m){i:Nat}{a:α}(hi:l[i]?=some a):∃b,m[i]?=some b/\R a b:=by
 induction h generalizing i with
 |nil=>simp at hi
 |cons h _ ih =>
  cases i with
  |zero=>simp at hi;subst hi;exact⟨_,rfl,h⟩
  |succ i=>simpa using ih (by simpa using hi)
theorem app(h:lg R l m)(h':lg R l' m'):lg R (l++l') (m++m'):=by induction h with
 |nil=>exact h'
 |cons h _ ih=>exact .cons h ih
theorem take(h:lg R l m)(n:Nat):lg R (l.take n) (m.take n):=by
 induction h generalizing n with
 |nil=>simp;exact .nil
 |cons h _ ih=>cases n with
  |zero=>exact .nil
  |succ n=>exact .cons h (ih n)
theorem drop(h:lg R l m)(n:Nat):lg R (l.drop n) (m.drop n):=by
 induction h generalizing n with
 |nil=>simp;exact .nil
 |cons h t ih=>cases n with
  |zero=>exact .cons h t
  |succ n=>exact ih n
theorem filter(h:lg R l m){p:α->Bool}{q:β->Bool}(hpq:∀a b,R a b->p a=q b):lg R (l.filter p) (m.filter q):=by
 induction h with
 |nil=>exact .nil
 |cons h _ ih =>
  rw[List.filter_cons,List.filter_cons,hpq _ _ h];split
  ·exact .cons h ih
  ·exact ih
end lg
theorem Fr.setRow{a:World}(h:Fr S a w){g:Nat}(hg:g<a.heap.size->S g)(cs:Array Value):Fr S a (w.setRow g cs) :=
 ⟨h.os,h.tape,h.output,by simpa[World.setRow]using h.size,fun k hk hn=>by
  rw[<-h.block k hk hn];simp only[World.setRow,Array.getElem?_modify];by_cases e:g=k
  ·subst e;exact absurd (hg hk) hn
  ·simp[e]⟩
def own(v:Value):Nat->Prop:=fun k=>v.ownBlock=some k
theorem OwnRows.off{e:TypeId}{xs:List (List Value)}(h:OwnRows b e k w v xs)(hb:base<=b)(he:e≠9):sr base w (own v):=by
 intro g hg _;obtain⟨cap,cur,_,h1,h2,_⟩:=h.open hg;exact⟨aD hb h1,fun c f e2=>by rw[h2]at e2;cases e2;exact he rfl⟩
theorem Fr.PW(o:Obj)(h:(w.alloc o).grownBy w' v.ownBlock):Fr (own v) w w' :=
 ((ae (own v) w).alloc o).grown h (fun _ hk _=>hk)
abbrev fC := @sr.none
open Go.RowKit
def kO:Nat->Nat->aG
 |0,_=>[]
 |k+1,n=>kO k (n/16)++[DD (n%16).toUInt8]
theorem nS:∀k n,(kO k n).length=k
 |0,_=>rfl
 |k+1,n=>by rw[kO,aM,nS k];rfl
theorem B4:∀j n,DD (n/16^j%16).toUInt8 :: kO j n=kO (j+1) n
 |0,n=>by simp[kO]
 |j+1,n=>by
  have h:=B4 j (n/16);rw[Nat.div_div_eq_div_mul,show 16*16^j=16^(j+1)from by rw[Nat.pow_succ];omega]at h;show _ :: (kO j (n/16)++[_])=kO (j+1) (n/16)++[_];rw[<-h];rfl
theorem B6:∀d,kO d 0=List.replicate d 48
 |0=>rfl
 |d+1=>by
  rw[kO,show(0:Nat)/16=0 from rfl,B6 d,List.replicate_succ'];rfl
theorem DF:∀k d n,n<16^k->List.replicate d 48++kO k n=kO (k+d) n
 |0,d,n,h=>by
  obtain rfl:n=0:=by simpa using h
  rw[bw,B6 d];exact dR _
 |k+1,d,n,h=>by
  have h2:n/16<16^k:=by rw[Nat.pow_succ]at h;omega
  rw[show k+1+d=(k+d)+1 from ab,kO,kO, <-DF k d (n/16) h2,cH]
def jD(n:Nat):aG:=kO 8 n
def DL(dL:Bool)(x:Int)(i:Nat):UInt8:=if dL then(x/2^(8*i)%256).toNat.toUInt8 else(x/2^(24-8*i)%256).toNat.toUInt8
def qq(dL:Bool)(x:Int):aG:=(List.range 4).map (DL dL x)
def kV(dL:Bool)(ws:List Int):aG:=ws.flatMap (qq dL)
def oQ(dL:Bool)(ws:List Int):aG:=yv (kV dL ws)
theorem uf(dL:Bool)(x:Int):(qq dL x).length=4:=by simp[qq]
theorem DM(dL:Bool)(x:Int)(j:Nat)(hj:j<4):(qq dL x).take (j+1)=(qq dL x).take j++[DL dL x j]:=by
 have hg:(qq dL x)[j]?=some (DL dL x j):=by simp[qq,hj]
 rw[bZ,hg];rfl
theorem og(dL:Bool)(ws:List Int):(kV dL ws).length=4*ws.length:=by
 unfold kV
 induction ws with
 |nil=>rfl
 |cons a l ih=>rw[List.flatMap_cons,aM,uf,ih,List.length_cons];omega
theorem zH(dL:Bool){ws:List Int}{x:Int}(h:ws[k]?=some x):kV dL (ws.take (k+1))=kV dL (ws.take k)++qq dL x:=by
 rw[bZ,h];simp[kV]
theorem KU(x:Int)(e:Nat):(((x/2^e%256).toNat.toUInt8.toNat:Nat):Int)=x/2^e%256:=by
 have h1:=Int.emod_nonneg (x/2^e) (show(256:Int)≠0 from ag);have h2:=Int.emod_lt_of_pos (x/2^e) (show(0:Int)<256 from ag);generalize x/2^e%256=y at *
 rw[show y.toNat.toUInt8.toNat=y.toNat from by simp[Nat.toUInt8];omega];omega
def abZ(dL:Bool)(ws:List Int)(w:World)(v i:Value)(wr:World):Prop:=∃k:Nat,k<=ws.length/\i=.int .i64 k/\Bytes w.heap.size wr v (kV dL (ws.take k))/\Fr aR w wr
def ahC(dL:Bool)(pre:aG)(x:Int)(w:World)(v i:Value)(wr:World):Prop:=∃j:Nat,j<=4/\i=.int .i64 j/\Bytes w.heap.size wr v (pre++(qq dL x).take j)/\Fr aR w wr
theorem B7(g:Nat)(ws:List Int)(dL:Bool)(w:World)(hl:ws.length<=8)(hg:g<w.heap.size)(hc:∀(j:Nat) x,ws[j]?=some x->w.cell? ⟨g,j,none⟩=some (.int .u32 x))(hx:∀x∈ws,0<=x/\x<4294967296) :
  Calls prog 241 #[.slice (some ⟨g,0,none⟩) ws.length ws.length,.bool dL] w fun e w'=>e=.returned (.string ⟨(oQ dL ws).toArray⟩)/\Fr aR w w':=by
 have HC:=O hc;have HX:=O hx;clear hc hx;cases dL
 all_goals
  go_enter func241,ntmps241;go_wp2
 ·go_loopw[5,11] (abZ false ws w) (fun _ i _=>ws.length-(intOf i).toNat)
  case atStart=>exact⟨0,aI _,rfl,Bytes.nil _ _,ae _ _⟩
  case round =>
   obtain⟨k,hk,rfl,cP,cK⟩:=hrel;by_cases eX:k<ws.length
   ·have dN:=O (List.getElem?_eq_getElem eX);obtain⟨x0,x1⟩:=HX.o _ (bL eX);have hcell:wr.cell? ⟨g,k,none⟩=some (.int .u32 ws[k]):=(cK.cell (p:=⟨g,k,none⟩) hg (fun h=>h)).trans (HC.o k _ dN.o);generalize ws[k]=x at *
    have JL:=O (zH false dN.o);have Fg:=O (show(kV false (ws.take k)).length<=32 by rw[og,aJ];omega);generalize kV false (ws.take k)=pre at *
    obtain⟨av,cv,hv⟩:=cP.form;subst hv;go_wp2;clear hcell;go_loopw[5,15] (ahC false pre x w) (fun _ i _=>4-(intOf i).toNat)
    case atStart=>exact⟨0,ab,rfl,by simpa using cP,cK⟩
    case round =>
     obtain⟨j,hj,rfl,fy,js⟩:=hrel;have iD:w.heap.size<=wr.heap.size:=js.size;obtain⟨av,cv,hv⟩:=fy.form;subst hv;by_cases hj4:j<4
     ·have Gj:(j:Int)<4:=ab;have j_:=O (DM false x j hj4);have qZ:x/2^(24-8*j)%256=((DL false x j).toNat:Int):=(KU x (24-8*j)).symm;generalize DL false x j=c at *
      have UP:=O (show(pre++(qq false x).take j).length<100 by rw[aM,aJ,uf];have:=Fg.o;omega);go_wp2_with (at_builtin;refine km rfl _ _ rfl w.heap.size (.slice av _ cv) (pre++(qq false x).take j) rfl (by apply gF;exact fy) ⟨wr.heap.size,0,none⟩ 1 c rfl (jv _ _ _ _) (by have:=UP.o;omega) bG ?_;intro v' w2 fo xN)
      go_roundw
      case rel=>exact⟨j+1,ab,a_,by rw[j_.o, <-cH];exact fo,(js.alloc _).fQ xN fy.block⟩
      case measure=>simp[intOf];omega
     ·have hj5:j=4:=ab;subst hj5;have fo:Bytes w.heap.size wr (.slice av (pre++(qq false x).take 4).length cv) (pre++qq false x):=by
       have h:=fy;rw[aC (by rw[uf];omega)]at h ⊢; exact h
      have HO:=O fo;clear fo fy;go_wp2;go_roundw
      case rel=>exact⟨k+1,ab,a_,by rw[JL.o];exact HO.o,js⟩
      case measure=>simp[intOf];omega
   ·rw[aC ab]at cP;have Fh:(kV false ws).length<=32:=by rw[og];omega
    have jq:=O (show oQ false ws=yv (kV false ws)from rfl);generalize kV false ws=bs at *
    obtain⟨av,cv,hv⟩:=cP.form;subst hv;have BJ:=cP.text;go_wp2_with fail
    refine(P5 ⟨bs.toArray⟩ wr (by show bs.toArray.size<_;simp;omega)).mono ?_;rintro e w3⟨rfl,iv⟩;go_wp2;go_ret;rw[jq.o];exact⟨rfl,cK.trans iv⟩
 ·go_loopw[5,11] (abZ true ws w) (fun _ i _=>ws.length-(intOf i).toNat)
  case atStart=>exact⟨0,aI _,rfl,Bytes.nil _ _,ae _ _⟩
  case round =>
   obtain⟨k,hk,rfl,cP,cK⟩:=hrel;by_cases eX:k<ws.length
   ·have dN:=O (List.getElem?_eq_getElem eX);obtain⟨x0,x1⟩:=HX.o _ (bL eX);have hcell:wr.cell? ⟨g,k,none⟩=some (.int .u32 ws[k]):=(cK.cell (p:=⟨g,k,none⟩) hg (fun h=>h)).trans (HC.o k _ dN.o);generalize ws[k]=x at *
    have JL:=O (zH true dN.o);have Fg:=O (show(kV true (ws.take k)).length<=32 by rw[og,aJ];omega);generalize kV true (ws.take k)=pre at *
    obtain⟨av,cv,hv⟩:=cP.form;subst hv;go_wp2;clear hcell;go_loopw[5,15] (ahC true pre x w) (fun _ i _=>4-(intOf i).toNat)
    case atStart=>exact⟨0,ab,rfl,by simpa using cP,cK⟩
    case round =>
     obtain⟨j,hj,rfl,fy,js⟩:=hrel;have iD:w.heap.size<=wr.heap.size:=js.size;obtain⟨av,cv,hv⟩:=fy.form;subst hv;by_cases hj4:j<4
     ·have Gj:(j:Int)<4:=ab;have j_:=O (DM true x j hj4);have qZ:x/2^(8*j)%256=((DL true x j).toNat:Int):=(KU x (8*j)).symm;generalize DL true x j=c at *
      have UP:=O (show(pre++(qq true x).take j).length<100 by rw[aM,aJ,uf];have:=Fg.o;omega);go_wp2_with (at_builtin;refine km rfl _ _ rfl w.heap.size (.slice av _ cv) (pre++(qq true x).take j) rfl (by apply gF;exact fy) ⟨wr.heap.size,0,none⟩ 1 c rfl (jv _ _ _ _) (by have:=UP.o;omega) bG ?_;intro v' w2 fo xN)
      go_roundw
      case rel=>exact⟨j+1,ab,a_,by rw[j_.o, <-cH];exact fo,(js.alloc _).fQ xN fy.block⟩
      case measure=>simp[intOf];omega
     ·have hj5:j=4:=ab;subst hj5;have fo:Bytes w.heap.size wr (.slice av (pre++(qq true x).take 4).length cv) (pre++qq true x):=by
       have h:=fy;rw[aC (by rw[uf];omega)]at h ⊢; exact h
      have HO:=O fo;clear fo fy;go_wp2;go_roundw
      case rel=>exact⟨k+1,ab,a_,by rw[JL.o];exact HO.o,js⟩
      case measure=>simp[intOf];omega
   ·rw[aC ab]at cP;have Fh:(kV true ws).length<=32:=by rw[og];omega
    have jq:=O (show oQ true ws=yv (kV true ws)from rfl);generalize kV true ws=bs at *
    obtain⟨av,cv,hv⟩:=cP.form;subst hv;have BJ:=cP.text;go_wp2_with fail
    refine(P5 ⟨bs.toArray⟩ wr (by show bs.toArray.size<_;simp;omega)).mono ?_;rintro e w3⟨rfl,iv⟩;go_wp2;go_ret;rw[jq.o];exact⟨rfl,cK.trans iv⟩
def adJ(n:Nat):UInt8:=if n<26 then(n+65).toUInt8 else if n<52 then(n+71).toUInt8 else if n<62 then(n-4).toUInt8 else if n=62 then 43 else 47
def Cv(a b c:UInt8):Nat:=a.toNat*65536+b.toNat*256+c.toNat
def sI(v i:Nat):UInt8:=adJ (v/2^(18-6*i)%64)
def vN:aG->aG
 |[]=>[]
 |[a]=>[sI (Cv a 0 0) 0,sI (Cv a 0 0) 1,61,61]
 |[a,b]=>[sI (Cv a b 0) 0,sI (Cv a b 0) 1,sI (Cv a b 0) 2,61]
 |a :: b :: c :: r=>sI (Cv a b c) 0 :: sI (Cv a b c) 1 :: sI (Cv a b c) 2 :: sI (Cv a b c) 3 :: vN r
def rN(l:aG):Nat->Nat
 |0=>0
 |k+1=>rN l k*256+(l.getD k 0).toNat
theorem DW(l:aG):∀k,rN l k<256^k
 |0=>by simp[rN]
 |k+1=>by
  have h:=DW l k;have h2:=(l.getD k 0).toNat_lt;rw[rN,Nat.pow_succ];omega
theorem adK(v x:Nat)(hv:v<4294967296)(hx:x<256):bits .or .i64 ((v:Int)*256) (x:Int)=((v*256+x:Nat):Int):=by
 have hm:((v:Int)*256)=((v*256:Nat):Int):=ab;rw[hm];have h1:(BitVec.ofInt 64 ((v*256:Nat):Int)).toNat=v*256:=by
  rw[BitVec.ofInt_natCast,BitVec.toNat_ofNat];exact Nat.mod_eq_of_lt ab
 have h2:(BitVec.ofInt 64 (x:Int)).toNat=x:=by
  rw[BitVec.ofInt_natCast,BitVec.toNat_ofNat];exact Nat.mod_eq_of_lt ab
 show IntKind.i64.wrap ((BitVec.ofInt 64 ((v*256:Nat):Int) ||| BitVec.ofInt 64 (x:Int)).toNat:Int)=_;have h3:v*256 ||| x=v*256+x:=by
  have h:=Nat.shiftLeft_add_eq_or_of_lt (show x<2^8 from hx) v;rw[Nat.shiftLeft_eq]at h;exact h.symm
 rw[BitVec.toNat_or,h1,h2,h3,IntWalk.i64_left];exact IntWalk.wrap64_in _ ab
theorem U1(r:aj)(k:Nat)(h:k<r.size):rN r.data.toList (k+1)=rN r.data.toList k*256+r[k].toNat:=by
 rw[rN,List.getD_eq_getElem?_getD,byte_at r k h];rfl
theorem Rr(r:aj)(k:Nat)(h:¬k<r.size):rN r.data.toList (k+1)=rN r.data.toList k*256:=by
 rw[rN,List.getD_eq_getElem?_getD,tY r k h];simp only[Option.getD_none];exact Nat.add_zero _
theorem Rs(r:aj):rN r.data.toList 3=Cv (r.data.toList.getD 0 0) (r.data.toList.getD 1 0) (r.data.toList.getD 2 0):=by
 show((0*256+_)*256+_)*256+_=_*65536+_*256+_;rw[ik,bw,dC,Nat.mul_assoc]
def nA(v n:Nat):aG:=[sI v 0,sI v 1,if 2<=n then sI v 2 else 61,if 3<=n then sI v 3 else 61]
def ahX(w:World)(acc:aG)(v n:Nat)(i:Value)(wr:World):Prop :=
 ∃k:Nat,k<=4/\i=.int .i64 k/\Gn w.heap.size w.heap.size (acc++(nA v n).take k) wr/\Fr aR w wr/\w.heap.size<=wr.heap.size
theorem zN:∀n (h:n<64),(⟨#[65,66,67,68,69,70,71,72,73,74,75,76,77,78,79,80,81,82,83,84,85,86,87,88,89,90,97,98,99,100,101,102,103,104,105,106,107,108,109,110,111,112,113,114,115,116,117,118,119,120,121,122,48,49,50,51,52,53,54,55,56,57,43,47]⟩:aj)[n]'h=adJ n:=dp
theorem Qg(v i:Nat)(hv:v<16777216):∃m:Nat,m<64/\adJ m=sI v i/\bits .and .i64 ((v/2^(18-6*i):Nat):Int) 63=(m:Int):=by
 refine⟨v/2^(18-6*i)%64,Nat.mod_lt _ ag,rfl,?_⟩;have hx:v/2^(18-6*i)<16777216:=iK (Nat.div_le_self _ _) hv;generalize v/2^(18-6*i)=x at hx;have h1:(BitVec.ofInt 64 (x:Int)).toNat=x:=by
  rw[BitVec.ofInt_natCast,BitVec.toNat_ofNat];exact Nat.mod_eq_of_lt ab
 have h2:(BitVec.ofInt 64 63).toNat=63:=ag;show IntKind.i64.wrap ((BitVec.ofInt 64 (x:Int) &&& BitVec.ofInt 64 63).toNat:Int)=_;rw[BitVec.toNat_and,h1,h2,Nat.and_two_pow_sub_one_eq_mod x 6,IntWalk.i64_left];exact IntWalk.wrap64_in _ ab
theorem Ld(r:aj)(n:Nat):(r.extract n r.size).data.toList=r.data.toList.drop n:=by
 rw[ByteArray.data_extract,Array.toList_extract];show(r.data.toList.drop n).take (r.data.toList.length-n)=_;rw[aC aQ]
theorem Rt:∀(l:aG) (n:Nat),0<n->n<=3->n<=l.length->(n<3->n=l.length) ->
  vN l=nA (Cv (l.getD 0 0) (l.getD 1 0) (l.getD 2 0)) n++vN (l.drop n)
 |[],n,h0,_,hl,_=>by simp at hl;omega
 |[a],n,h0,_,hl,_=>by
  obtain rfl:n=1:=by simp at hl;omega
  rfl
 |[a,b],n,h0,_,hl,h=>by
  obtain rfl:n=2:=by simp at hl h;omega
  rfl
 |a :: b :: c :: t,n,h0,h3,hl,h=>by
  obtain rfl:n=3:=by simp at hl h;omega
  rfl
theorem Ru(r:aj)(v n:Nat)(PY:0<n)(hn3:n<=3)(hnr:n<=r.size)(hnk:n<3->n=r.size)(hv:v=Cv (r.data.toList.getD 0 0) (r.data.toList.getD 1 0) (r.data.toList.getD 2 0)) :
  vN r.data.toList=nA v n++vN (r.extract n r.size).data.toList:=by
 rw[Ld,hv];exact Rt _ n PY hn3 hnr hnk
theorem DX(r:aj)(n:Nat):(r.extract n r.size).size=r.size-n:=by
 have h:(r.extract n r.size).data.toList.length=(r.data.toList.drop n).length:=by rw[Ld]
 rw[bJ]at h;exact h
def ahY(r:aj)(w0:World)(v i:Value)(wr:World):Prop :=
 ∃k:Nat,k<=3/\i=.int .i64 k/\v=.int .i64 (rN r.data.toList k)/\wr=w0
def adL(w:World)(s:aj)(v:Value)(wr:World):Prop :=
 ∃(r:aj) (acc:aG),r.size<=s.size/\v=.string r/\acc.length<=4*(s.size-r.size)/\vN s.data.toList=acc++vN r.data.toList/\Gn w.heap.size w.heap.size acc wr/\Fr aR w wr/\w.heap.size<=wr.heap.size
def lenOf:Value->Nat
 | .string r=>r.size
 |_=>0
theorem NJ(s:aj)(w:World)(hs:s.size<4398046511104) :
  Calls prog 97 #[.string s] w fun e w'=>e=.returned (.string ⟨(vN s.data.toList).toArray⟩)/\Fr aR w w':=by
 go_enter func97,ntmps97;go_wp2;go_loopw[0] (adL w s) (fun v _=>lenOf v)
 case atStart=>exact⟨s,[],ay _,rfl,aQ,aQ,Gn.new w,(ae _ _).alloc _,aQ⟩
 case round =>
  obtain⟨r,acc,hr,rfl,Cs,hun,hb,hf,hz⟩:=hrel;have HUN:=O hun;clear hun;by_cases hr0:0<r.size
  ·have za:(0:Int)<(r.size:Int):=ab;obtain⟨n,PY,hn3,hnr,hni,hnk⟩:∃n:Nat,0<n/\n<=3/\n<=r.size/\min (3:Int) (r.size:Int)=(n:Int)/\(n<3->n=r.size):=⟨min 3 r.size,ab,ab,ab,ab,ab⟩;go_wp2_with fail
   go_loopw[5,14] (ahY r wr) (fun _ i _=>3-(intOf i).toNat)
   case atStart=>exact⟨0,ab,rfl,rfl,rfl⟩
   case round =>
    obtain⟨k,hk,rfl,rfl,rfl⟩:=hrel;by_cases IA:k<3
    ·have py:(k:Int)<3:=ab;have U2:=DW r.data.toList k;have anJ:rN r.data.toList k<65536:=cN U2 (aD (Nat.pow_le_pow_right ab (show k<=2 from ab)) ag);have auW:¬(9223372036854775807:Int)<(rN r.data.toList k:Int)*256:=ab;by_cases Rv:k<n
     ·have anK:(k:Int)<(n:Int):=ab;have anL:k<r.size:=ab;have hkr:(k:Int)<(r.size:Int):=ab;have jq:=O (U1 r k anL);have oz:=r[k].toNat_lt;go_wp2_with fail
      refine⟨⟨k+1,ab,a_,?_,rfl⟩,by simp[intOf];omega⟩;rw[adK _ _ (Nat.lt_trans anJ ag) oz,jq.o]
     ·have anK:¬(k:Int)<(n:Int):=ab;have jq:=O (Rr r k ab);go_wp2_with fail
      refine⟨⟨k+1,ab,a_,?_,rfl⟩,by simp[intOf];omega⟩;rw[jq.o];rfl
    ·have py:¬(k:Int)<3:=ab;have NK:k=3:=ab;subst NK;have U2:=DW r.data.toList 3;have hvv:=O (Rs r);generalize rN r.data.toList 3=v at U2 hvv;go_wp2_with fail
     go_loopw[29] (ahX w acc v n) (fun i _=>4-(intOf i).toNat)
     case atStart=>exact⟨0,ab,rfl,by simpa using hb,hf,hz⟩
     case round =>
      obtain⟨k,hk,rfl,qj,df,kZ⟩:=hrel;have oF:∀j,(acc++(nA v n).take j).length<=4*s.size+4:=by intro j;rw[aM,aJ];show _+min j 4<=_;omega
      match k,hk,qj with
      |0,_,qj =>
       obtain⟨m,hm,hl,DY⟩:=Qg v 0 U2;rw[show(((v/2^(18-6*0):Nat):Int))=(v:Int)/262144 from ab]at DY;have Rv:(0:Int)<=(n:Int):=ab;have hq:(0:Int)<=(m:Int)/\(m:Int)<64:=ab;go_wp2_with fail
       rw[zN m hm,hl];refine(kp _ _ _ (sI v 0) wr qj (by have:=oF 0;omega) kZ).mono ?_;rintro e w2⟨rfl,kC,dy⟩;have lq:w.heap.size<=w2.heap.size:=aD kZ dy.size;have pZ:Gn w.heap.size w.heap.size (acc++(nA v n).take (0+1)) w2:=by
        have e:(nA v n).take (0+1)=(nA v n).take 0++[(sI v 0)]:=by simp[nA, *]
        rw[e, <-cH];exact kC
       clear qj kC;go_wp2;go_roundw
       case rel=>exact⟨0+1,ab,a_,pZ,df.lY dy,lq⟩
       case measure=>simp[intOf]
      |1,_,qj =>
       obtain⟨m,hm,hl,DY⟩:=Qg v 1 U2;rw[show(((v/2^(18-6*1):Nat):Int))=(v:Int)/4096 from ab]at DY;have Rv:(1:Int)<=(n:Int):=ab;have hq:(0:Int)<=(m:Int)/\(m:Int)<64:=ab;go_wp2_with fail
       rw[zN m hm,hl];refine(kp _ _ _ (sI v 1) wr qj (by have:=oF 1;omega) kZ).mono ?_;rintro e w2⟨rfl,kC,dy⟩;have lq:w.heap.size<=w2.heap.size:=aD kZ dy.size;have pZ:Gn w.heap.size w.heap.size (acc++(nA v n).take (1+1)) w2:=by
        have e:(nA v n).take (1+1)=(nA v n).take 1++[(sI v 1)]:=by simp[nA, *]
        rw[e, <-cH];exact kC
       clear qj kC;go_wp2;go_roundw
       case rel=>exact⟨1+1,ab,a_,pZ,df.lY dy,lq⟩
       case measure=>simp[intOf]
      |2,_,qj =>
       obtain⟨m,hm,hl,DY⟩:=Qg v 2 U2;rw[show(((v/2^(18-6*2):Nat):Int))=(v:Int)/64 from ab]at DY;by_cases anM:2<=n
       ·have Rv:(2:Int)<=(n:Int):=ab;have hq:(0:Int)<=(m:Int)/\(m:Int)<64:=ab;go_wp2_with fail
        rw[zN m hm,hl];refine(kp _ _ _ (sI v 2) wr qj (by have:=oF 2;omega) kZ).mono ?_;rintro e w2⟨rfl,kC,dy⟩;have lq:w.heap.size<=w2.heap.size:=aD kZ dy.size;have pZ:Gn w.heap.size w.heap.size (acc++(nA v n).take (2+1)) w2:=by
         have e:(nA v n).take (2+1)=(nA v n).take 2++[(sI v 2)]:=by simp[nA, *]
         rw[e, <-cH];exact kC
        clear qj kC;go_wp2;go_roundw
        case rel=>exact⟨2+1,ab,a_,pZ,df.lY dy,lq⟩
        case measure=>simp[intOf]
       ·have Rv:¬(2:Int)<=(n:Int):=ab;go_wp2_with fail
        refine(kp _ _ _ 61 wr qj (by have:=oF 2;omega) kZ).mono ?_;rintro e w2⟨rfl,kC,dy⟩;have lq:w.heap.size<=w2.heap.size:=aD kZ dy.size;have pZ:Gn w.heap.size w.heap.size (acc++(nA v n).take (2+1)) w2:=by
         have e:(nA v n).take (2+1)=(nA v n).take 2++[61]:=by simp[nA, *]
         rw[e, <-cH];exact kC
        clear qj kC;go_wp2;go_roundw
        case rel=>exact⟨2+1,ab,a_,pZ,df.lY dy,lq⟩
        case measure=>simp[intOf]
      |3,_,qj =>
       obtain⟨m,hm,hl,DY⟩:=Qg v 3 U2;rw[show(((v/2^(18-6*3):Nat):Int))=(v:Int)from ab]at DY;by_cases anM:3<=n
       ·have Rv:(3:Int)<=(n:Int):=ab;have hq:(0:Int)<=(m:Int)/\(m:Int)<64:=ab;go_wp2_with fail
        rw[zN m hm,hl];refine(kp _ _ _ (sI v 3) wr qj (by have:=oF 3;omega) kZ).mono ?_;rintro e w2⟨rfl,kC,dy⟩;have lq:w.heap.size<=w2.heap.size:=aD kZ dy.size;have pZ:Gn w.heap.size w.heap.size (acc++(nA v n).take (3+1)) w2:=by
         have e:(nA v n).take (3+1)=(nA v n).take 3++[(sI v 3)]:=by simp[nA, *]
         rw[e, <-cH];exact kC
        clear qj kC;go_wp2;go_roundw
        case rel=>exact⟨3+1,ab,a_,pZ,df.lY dy,lq⟩
        case measure=>simp[intOf]
       ·have Rv:¬(3:Int)<=(n:Int):=ab;go_wp2_with fail
        refine(kp _ _ _ 61 wr qj (by have:=oF 3;omega) kZ).mono ?_;rintro e w2⟨rfl,kC,dy⟩;have lq:w.heap.size<=w2.heap.size:=aD kZ dy.size;have pZ:Gn w.heap.size w.heap.size (acc++(nA v n).take (3+1)) w2:=by
         have e:(nA v n).take (3+1)=(nA v n).take 3++[61]:=by simp[nA, *]
         rw[e, <-cH];exact kC
        clear qj kC;go_wp2;go_roundw
        case rel=>exact⟨3+1,ab,a_,pZ,df.lY dy,lq⟩
        case measure=>simp[intOf]
      |4,_,qj =>
       have auX:(nA v n).take 4=nA v n:=rfl;have Qh:=Ru r v n PY hn3 hnr hnk hvv.o;go_wp2_with fail
       refine⟨⟨r.extract n r.size,acc++nA v n,?_,rfl,?_,?_,qj,df,kZ⟩,?_⟩
       ·rw[DX];omega
       ·rw[DX,aM];have hn4:(nA v n).length=4:=rfl;omega
       ·rw[HUN.o,Qh,cH]
       ·show(r.extract n r.size).size<r.size;rw[DX];omega
  ·have za:¬(0:Int)<(r.size:Int):=ab;have fc:vN s.data.toList=acc:=by rw[HUN.o,show r.data.toList=[]from cg (show r.size=0 from ab)];simp[vN]
   go_wp2_with fail
   refine(BV _ _ _ wr hb hz).mono ?_;rintro e w1⟨rfl,df⟩;go_wp2;go_ret;rw[fc];exact⟨rfl,hf.lY df⟩
def Qy(I:World->Prop)(g:Nat)(cap:Array Value)(p:aj->Bool)(ss:List aj):Prop :=
 ∀x,x∈ss->∀u,I u->Calls prog g (#[.string x]++cap) u fun e u'=>e=.returned (.bool (p x))/\Fr aR u u'/\I u'
def ao0(w:World)(I:World->Prop)(p:aj->Bool)(ss:List aj)(i:Value)(wr:World):Prop :=
 ∃k:Nat,k<=ss.length/\i=.int .i64 k/\(ss.take k).any p=false/\Fr aR w wr/\I wr
theorem EC(I:World->Prop)(g:Nat)(cap:Array Value)(p:aj->Bool)(v:Value)(ss:List aj)(w:World)(eg:∀args w,(callFunc g args).run prog w=.ok (.enter g args) w)(hI:I w)(hp:Qy I g cap p ss)(hv:fN w v ss)(hl:ss.length<=maxLen) :
  Calls prog 216 #[v,.func (.func g) #[] cap] w fun e w'=>e=.returned (.int .i64 (lW p ss 0))/\Fr aR w w'/\I w':=by
 unfold maxLen at hl;obtain⟨av,cv,fI⟩:=hv.form;subst fI;go_enter func216,ntmps216;go_wp2;go_loopw[8] (ao0 w I p ss) (fun i _=>ss.length-(intOf i).toNat)
 case atStart=>exact⟨0,aI _,rfl,rfl,ae _ _,hI⟩
 case round =>
  obtain⟨k,hk,rfl,hn,cK,hIr⟩:=hrel;have HN:=O hn;clear hn;by_cases eX:k<ss.length
  ·have hvr:=hv.fH cK;rcases hvr with ⟨_,_,_,e,_⟩|⟨bk,o,c,hf,h1,h2,h3,h4⟩
   ·rw[e]at eX;exact absurd eX (bS _)
   ·cases hf;have dN:=O (List.getElem?_eq_getElem eX);have hc:=h4 k _ dN.o;have g_:=O (bL eX);generalize ss[k]=x at dN hc g_;have fA:=O (hp x g_.o wr hIr);clear h4;cases qI:p x
    ·have qi:=O (any_take_succ dN.o HN.o qI);go_wp2_with fail
     refine fA.o.mono ?_;rintro e w1⟨rfl,df,hI1⟩;rw[qI];go_wp2;go_roundw
     case rel=>exact⟨k+1,ab,a_,qi.o,cK.trans df,hI1⟩
     case measure=>simp[intOf];omega
    ·have fc:=O (oV (i:=0) dN.o qI HN.o);go_wp2_with fail
     refine fA.o.mono ?_;rintro e w1⟨rfl,df,hI1⟩;rw[qI];go_wp2;go_ret;rw[fc.o,bw];exact⟨rfl,cK.trans df,hI1⟩
  ·have fc:=O (show lW p ss 0= -1 from ku (by have h:=HN.o;rw[aC ab]at h;exact h));go_wp2;go_ret;rw[fc.o];exact⟨rfl,cK,hIr⟩
theorem Ao(I:World->Prop)(g:Nat)(cap:Array Value)(p:aj->Bool)(v:Value)(ss:List aj)(w:World)(eg:∀args w,(callFunc g args).run prog w=.ok (.enter g args) w)(hI:I w)(hp:Qy I g cap p ss)(hv:fN w v ss)(hl:ss.length<=maxLen) :
  Calls prog 175 #[v,.func (.func g) #[] cap] w fun e w'=>e=.returned (.bool (ss.any p))/\Fr aR w w'/\I w':=by
 have hb:=O (rP p ss 0);go_enter func175,ntmps175;go_wp2_with fail
 refine(EC I g cap p v ss w eg hI hp hv hl).mono ?_;rintro e w1⟨rfl,df,hI1⟩;go_wp2;go_ret;exact⟨fx hb.o,df,hI1⟩
