/- Sep, Still, CountPure, Sum2, Base64. -/
import Derived.Test.YtjdmjbdkdmbaiaaGreatDoorPk5
import Derived.Laws.AppendOwnNone
set_option maxRecDepth 100000
set_option maxHeartbeats 16000000
set_option linter.unusedSimpArgs false
namespace Go.Proofs.YtjdmjbdkdmbaiaaGreatDoor
open Go.RowKit
def Sep(w:World)(v v':Value):Prop:=v'.ownBlock=v.ownBlock\/∀k,v'.ownBlock=some k->w.heap.size<=k
theorem xC{P:Program}(w:World)(base:Nat)(t ty e:TypeId)(i:TypeInfo)(z:Value)(size bytes:Nat)(ht:P.underlying t=some (.slice e))(hi:P.info? e=some i)(hz:i.zero=some z)
  (Ad:i.size=size)(mi:i.bytes=bytes)(Y2:z.cells.size=size)(mz:0<size)
  (v:Value)(n:Nat)(xs:List Value)(a_:w.ownsRow base e size v n xs)
  (a:Addr)(m c:Nat)(news:List Value)(hl:news.length=m*size)(fx:∀j u,news[j]?=some u->w.cell? (a.add j)=some u)(h1:∀u∈news,u.oneCell'=true)
  (h63:n+m<=maxLen)(xD:(n+m)*bytes<=140737488355328)(eI:base<=w.heap.size) :
  ∃v' w',(Builtin.append_ #[t,t] ty #[v,.slice (some a) m c]).run P w=.ok v' w'/\w'.ownsRow base e size v' (n+m) (xs++news)/\w.grownBy w' v.ownBlock/\Sep w v v':=by
 obtain⟨v',w',hr,h2,h3,_⟩:=run_append_own (P:=P) w base t ty e i z size bytes ht hi hz Ad mi Y2 mz v n xs a_ a m c news hl fx h1 h63 xD eI;refine⟨v',w',hr,h2,h3,?_⟩;rcases a_.2 with ⟨rfl,rfl⟩|⟨g,cap,cur,rfl,FI,hg,hnc,hcm,hcs,lS⟩
 ·have hx:xs=[]:=List.eq_nil_of_length_eq_zero (by simpa using a_.1);subst hx;obtain⟨v2,w2,kR,h22,_,_⟩:=run_append_own (P:=P) w w.heap.size t ty e i z size bytes ht hi hz Ad mi Y2 mz (.slice none 0 0) 0 [] (World.ownsRow_nil _ _ _ _) a m c news hl fx h1 h63 xD (Nat.le_refl _);rw[hr]at kR;injection kR with e1 e2
  subst e1;exact Or.inr fun k hk=>(h22.lt k hk).1
 ·by_cases WA:n+m<=cap
  ·subst Ad;have Gb:n*i.size+news.length<=cur.size:=by rw[hl,hcs, <-Nat.add_mul];exact Nat.mul_le_mul_right _ WA
   have kR:=run_append_room (P:=P) w t ty e i ht hi g n cap cur hg a m c news hl fx h1 WA Gb;rw[hr]at kR;injection kR with e1 e2
   subst e1;exact Or.inl rfl
  ·subst Ad;subst mi;have am6:n+m<=9223372036854775807:=by simp only[maxLen]at h63;omega
   have holds:∀j u,xs[j]?=some u->w.cell? ((⟨g,0,none⟩:Addr).add j)=some u:=a_.cells (g:=g) rfl;have kR:=run_append_grow (P:=P) w t ty e i z ht hi hz ⟨g,0,none⟩ n cap xs a_.1 holds a m c news hl fx (by omega) (by omega) (growslice_fits (by omega) xD);rw[hr]at kR;injection kR with e1 e2
   subst e1;exact Or.inr fun k hk=>by simp[Value.ownBlock]at hk;omega
theorem tu{P:Program}{w:World}{ops:Array Oper}{rest:List Oper}{o:Oper}{a:Act}{Q:Exit->Act->World->Prop}(zM:o.guard=none)(s x:Operand)(t:TypeId)
  (ho:o.op=.call {callee:=.builtin .append,args:= #[s,x],argTypes:= #[t,t]})
  (base:Nat)(e:TypeId)(i:TypeInfo)(z:Value)(size bytes:Nat)(ht:P.underlying t=some (.slice e))(hi:P.info? e=some i)(hz:i.zero=some z)
  (Ad:i.size=size)(mi:i.bytes=bytes)(Y2:z.cells.size=size)(mz:0<size)
  (v:Value)(n:Nat)(xs:List Value)(hs:a.eval s=v)(a_:w.ownsRow base e size v n xs)
  (ad:Addr)(m c:Nat)(news:List Value)(hx:a.eval x=.slice (some ad) m c)(hl:news.length=m*size)(fx:∀j u,news[j]?=some u->w.cell? (ad.add j)=some u)(h1:∀u∈news,u.oneCell'=true)
  (h63:n+m<=maxLen)(xD:(n+m)*bytes<=140737488355328)(eI:base<=w.heap.size)
  (h:∀v' w',w'.ownsRow base e size v' (n+m) (xs++news)->w.grownBy w' v.ownBlock->Sep w v v'->wpList P ops Q rest (a.put o.dst v') w'):wpList P ops Q (o :: rest) a w :=
 wpList_plain zM fun _ hK=>by
  obtain⟨v',w',hr,h2,h3,h4⟩:=xC (P:=P) w base t o.type e i z size bytes ht hi hz Ad mi Y2 mz v n xs a_ ad m c news hl fx h1 h63 xD eI;unfold Oper.wp execOp;simp only[ho,resolve,invoke,builtin,Sem.run_bind,Sem.run_pure,Result.andThen_ok,List.map_toArray,List.map_cons,List.map_nil,hs,hx,hr];exact hK _ _ (h v' w' h2 h3 h4)
theorem vQ{ops:Array Oper}{rest:List Oper}{o:Oper}{a:Act}{Q:Exit->Act->World->Prop}{w:World}(zM:o.guard=none)(s x:Operand)
  (ho:o.op=.call {callee:=.builtin .append,args:= #[s,x],argTypes:= #[45,45]})(base:Nat)(v:Value)(l:List ByteArray)(hs:a.eval s=v)(a_:Strs base w v l)
  (ad:Addr)(c:Nat)(y:ByteArray)(hx:a.eval x=.slice (some ad) 1 c)(hy:w.cell? ad=some (.string y))(hlen:l.length<4398046511104)(eI:base<=w.heap.size)
  (h:∀v' w',Strs base w' v' (l++[y])->w.grownBy w' v.ownBlock->Sep w v v'->wpList Tryz.prog ops Q rest (a.put o.dst v') w'):wpList Tryz.prog ops Q (o :: rest) a w:=by
 obtain⟨i0,hi,oZ,iy,gU⟩:=info_parts sQ;refine tu zM s x 45 ho base 9 i0 (.string ⟨#[]⟩) 1 16 Tryz.underlying45 hi oZ iy gU rfl (by decide) v l.length (l.map Value.string) hs a_ ad 1 c [.string y] hx rfl ?_ ?_ ?_ ?_ eI ?_
 ·intro j u hj
  match j,hj with
  |0,hj=>simp at hj;subst hj;simpa[Addr.add]using hy
 ·intro u hu;simp at hu;subst hu;rfl
 ·unfold maxLen;omega
 ·omega
 ·intro v' w' h1 h2 h3;exact h v' w' (by unfold Strs;simpa using h1) h2 h3
theorem DD{ops:Array Oper}{rest:List Oper}{o:Oper}{a:Act}{Q:Exit->Act->World->Prop}{w:World}(zM:o.guard=none)(s x:Operand)
  (ho:o.op=.call {callee:=.builtin .append,args:= #[s,x],argTypes:= #[45,45]})(base:Nat)(v:Value)(l:List ByteArray)(hs:a.eval s=v)(a_:Strs base w v l)
  (vx:Value)(m:List ByteArray)(hx:a.eval x=vx)(hm:cX w vx m)(hlen:l.length+m.length<4398046511104)(eI:base<=w.heap.size)
  (h:∀v' w',Strs base w' v' (l++m)->w.grownBy w' v.ownBlock->wpList Tryz.prog ops Q rest (a.put o.dst v') w'):wpList Tryz.prog ops Q (o :: rest) a w:=by
 obtain⟨i0,hi,oZ,iy,gU⟩:=info_parts sQ;obtain⟨ax,cx,cA⟩:=hm.form;cases ax with
 |none =>
  obtain⟨NJ,h2⟩:m=[]/\cx=0:=by
   rcases hm with ⟨a',c',hv,hs,hc⟩|⟨bk,o',c,hf,_⟩
   ·rw[cA]at hv;injection hv with e1 e2 e3
    exact⟨hs,e3.trans (hc e1.symm)⟩
   ·rw[cA]at hf;injection hf with e1;cases e1
  subst NJ;have hx':a.eval x=.slice none 0 0:=by rw[hx,cA,h2];rfl
  refine wpList_append_own_none zM s x 45 ho base 9 i0 1 Tryz.underlying45 hi v l.length (l.map Value.string) hs a_ hx' ?_;exact h v w (by rw[List.append_nil];exact a_) ⟨rfl,rfl,rfl,Nat.le_refl _,fun _ _ _=>rfl⟩
 |some ad =>
  refine wpList_append_own w zM s x 45 ho base 9 i0 (.string ⟨#[]⟩) 1 16 Tryz.underlying45 hi oZ iy gU rfl (by decide) v l.length (l.map Value.string) hs a_ ad m.length cx (m.map Value.string) (hx.trans cA) (by simp) ?_ ?_ ?_ ?_ eI ?_
  ·intro j u hj;rcases hm with ⟨_,_,_,e,_⟩|⟨bk,o',c,hf,g1,g2,g3,g4⟩
   ·subst e;simp at hj
   ·rw[hf]at cA;cases cA;obtain⟨y,hy,rfl⟩:∃y,m[j]?=some y/\Value.string y=u:=by
     rw[List.getElem?_map]at hj;cases hmj:m[j]? with
     |none=>rw[hmj]at hj;cases hj
     |some y=>rw[hmj]at hj;exact⟨y,rfl,by simpa using hj⟩
    have ea:(Addr.add ⟨bk,o',none⟩ j)=⟨bk,o'+j,none⟩:=by unfold Addr.add;split<;>simp_all
    rw[ea];exact g4 j y hy
  ·intro u hu;obtain⟨y,_,rfl⟩:=List.mem_map.1 hu;rfl
  ·unfold maxLen;omega
  ·omega
  ·intro v' w' h1 h2 _;exact h v' w' (by unfold Strs;simpa using h1) h2
def Still(base:Nat)(w:World)(k:Nat):Prop:=k<base\/∃c f,w.heap[k]?=some (.cells c 9 f)
def lT(base:Nat)(w:World)(S:Nat->Prop):Prop:=∀k,S k->k<w.heap.size->base<=k/\∀c f,w.heap[k]?≠some (.cells c 9 f)
theorem lT.none(base:Nat)(w:World):lT base w ay:=fun _ h=>absurd h (fun h=>h)
theorem Still.fr{base:Nat}{w w':World}{k:Nat}{S:Nat->Prop}(h:Still base w k)(hf:Fr S w w')(ho:lT base w S):Still base w' k:=by
 rcases h with h|⟨c,f,h⟩
 ·exact Or.inl h
 ·exact Or.inr ⟨c,f,hf.keep h (fun hs=>(ho k hs (aj h)).2 c f h)⟩
structure aS (base:Nat) (w:World) (v:Value) (ss:List ByteArray):Prop where
 rd:cX w v ss
 own:∀k,v.ownBlock=some k->ss≠ []->k<w.heap.size/\Still base w k
 xc:ss.length<4398046511104
theorem cX.empty{w w':World}{v:Value}(h:cX w v []):cX w' v []:=by
 rcases h with h|⟨bk,o,c,hv,_⟩
 ·exact Or.inl h
 ·exact Or.inl ⟨_,_,hv,rfl,fun e=>by cases e⟩
theorem aS.fr{base:Nat}{w w':World}{v:Value}{ss:List ByteArray}{S:Nat->Prop}(h:aS base w v ss)(hf:Fr S w w')(ho:lT base w S):aS base w' v ss:=by
 refine⟨?_,fun k hk hs=>⟨Nat.lt_of_lt_of_le (h.own k hk hs).1 hf.size,(h.own k hk hs).2.fr hf ho⟩,h.xc⟩;by_cases he:ss=[]
 ·subst he;exact h.rd.empty
 refine h.rd.fr hf (fun k hk hs=>?_);obtain⟨hl,fR⟩:=h.own k hk he;have ng:=ho k hs hl;rcases fR with g|⟨c,f,g⟩
 ·omega
 ·exact ng.2 c f g
theorem aS.bd{base:Nat}{w w':World}{v:Value}{ss:List ByteArray}(h:aS base w v ss)(hf:Fr ay w w'):aS base w' v ss:=h.fr hf (lT.none _ _)
theorem aS.nil(base:Nat)(w:World):aS base w (.slice none 0 0) []:=⟨cX.nil w,fun k hk=>by simp[Value.ownBlock]at hk,by simp⟩
theorem Strs.in{base b:Nat}{w:World}{v:Value}{ss:List ByteArray}(h:Strs b w v ss)(hl:ss.length<4398046511104):aS base w v ss:=by
 refine⟨h.at,fun k hk _=>?_,hl⟩;rcases h.2 with ⟨hv,_⟩|⟨g,cap,cur,hv,hg,hh,_⟩
 ·rw[hv]at hk;simp[Value.ownBlock]at hk
 ·rw[hv]at hk;simp[Value.ownBlock]at hk;subst hk;exact⟨aj hh,Or.inr ⟨_,_,hh⟩⟩
inductive fF {α β:Type} (R:α->β->Prop):List α->List β->Prop
 |nil:fF R [] []
 |cons {a b l m}:R a b->fF R l m->fF R (a :: l) (b :: m)
namespace fF
variable {α β : Type} {R T : α → β → Prop} {l l' : List α} {m m' : List β}
theorem len(h:fF R l m):l.length=m.length:=by induction h with
 |nil=>rfl
 |cons _ _ ih=>simp[ih]
theorem mono(h:fF R l m)(hs:∀a b,R a b->T a b):fF T l m:=by induction h with
 |nil=>exact .nil
 |cons h _ ih=>exact .cons (hs _ _ h) ih
theorem get(h:fF R l m){i:Nat}{a:α}(hi:l[i]?=some a):∃b,m[i]?=some b/\R a b:=by
 induction h generalizing i with
 |nil=>simp at hi
 |cons h _ ih =>
  cases i with
  |zero=>simp at hi;subst hi;exact⟨_,rfl,h⟩
  |succ i=>simpa using ih (by simpa using hi)
theorem app(h:fF R l m)(h':fF R l' m'):fF R (l++l') (m++m'):=by induction h with
 |nil=>exact h'
 |cons h _ ih=>exact .cons h ih
theorem take(h:fF R l m)(n:Nat):fF R (l.take n) (m.take n):=by
 induction h generalizing n with
 |nil=>simp;exact .nil
 |cons h _ ih=>cases n with
  |zero=>exact .nil
  |succ n=>exact .cons h (ih n)
theorem drop(h:fF R l m)(n:Nat):fF R (l.drop n) (m.drop n):=by
 induction h generalizing n with
 |nil=>simp;exact .nil
 |cons h t ih=>cases n with
  |zero=>exact .cons h t
  |succ n=>exact ih n
theorem filter(h:fF R l m){p:α->Bool}{q:β->Bool}(WH:∀a b,R a b->p a=q b):fF R (l.filter p) (m.filter q):=by
 induction h with
 |nil=>exact .nil
 |cons h _ ih =>
  rw[List.filter_cons,List.filter_cons,WH _ _ h];split
  ·exact .cons h ih
  ·exact ih
theorem am_(h:fF R l m){a:α}(ha:a∈l):∃b,b∈m/\R a b:=by
 obtain⟨i,hi⟩:=List.getElem?_of_mem ha;obtain⟨b,hb,hr⟩:=h.get hi;exact⟨b,List.mem_of_getElem? hb,hr⟩
end fF
theorem Fr.setRow{S:Nat->Prop}{a w:World}(h:Fr S a w){g:Nat}(hg:g<a.heap.size->S g)(cs:Array Value):Fr S a (w.setRow g cs) :=
 ⟨h.os,h.tape,h.output,by simpa[World.setRow]using h.size,fun k hk hn=>by
  rw[<-h.block k hk hn];simp only[World.setRow,Array.getElem?_modify];by_cases e:g=k
  ·subst e;exact absurd (hg hk) hn
  ·simp[e]⟩
def own(v:Value):Nat->Prop:=fun k=>v.ownBlock=some k
theorem OwnRows.off{base b k:Nat}{e:TypeId}{w:World}{v:Value}{xs:List (List Value)}(h:OwnRows b e k w v xs)(hb:base<=b)(he:e≠9):lT base w (own v):=by
 intro g hg _;obtain⟨cap,cur,_,h1,h2,_⟩:=h.open hg;exact⟨Nat.le_trans hb h1,fun c f e2=>by rw[h2]at e2;cases e2;exact he rfl⟩
theorem Fr.TU{w w':World}{v:Value}(o:Obj)(h:(w.alloc o).grownBy w' v.ownBlock):Fr (own v) w w' :=
 ((Fr.refl (own v) w).alloc o).grown h (fun _ hk _=>hk)
open Go.RowKit
def fA:Nat->Nat->List UInt8
 |0,_=>[]
 |k+1,n=>fA k (n/16)++[xO (n%16).toUInt8]
theorem jd:∀k n,(fA k n).length=k
 |0,_=>rfl
 |k+1,n=>by rw[fA,List.length_append,jd k];rfl
theorem vV:∀j n,xO (n/16^j%16).toUInt8 :: fA j n=fA (j+1) n
 |0,n=>by simp[fA]
 |j+1,n=>by
  have h:=vV j (n/16);rw[Nat.div_div_eq_div_mul,show 16*16^j=16^(j+1)from by rw[Nat.pow_succ];omega]at h;show _ :: (fA j (n/16)++[_])=fA (j+1) (n/16)++[_];rw[<-h];rfl
theorem vW:∀d,fA d 0=List.replicate d 48
 |0=>rfl
 |d+1=>by
  rw[fA,show(0:Nat)/16=0 from rfl,vW d,List.replicate_succ'];rfl
theorem xQ:∀k d n,n<16^k->List.replicate d 48++fA k n=fA (k+d) n
 |0,d,n,h=>by
  obtain rfl:n=0:=by simpa using h
  rw[Nat.zero_add,vW d];exact List.append_nil _
 |k+1,d,n,h=>by
  have h2:n/16<16^k:=by rw[Nat.pow_succ]at h;omega
  rw[show k+1+d=(k+d)+1 from by omega,fA,fA, <-xQ k d (n/16) h2,List.append_assoc]
def ez(n:Nat):List UInt8:=fA 8 n
def xW(bj:Bool)(x:Int)(i:Nat):UInt8:=if bj then(x/2^(8*i)%256).toNat.toUInt8 else(x/2^(24-8*i)%256).toNat.toUInt8
def kK(bj:Bool)(x:Int):List UInt8:=(List.range 4).map (xW bj x)
def fG(bj:Bool)(ws:List Int):List UInt8:=ws.flatMap (kK bj)
def jO(bj:Bool)(ws:List Int):List UInt8:=rY (fG bj ws)
theorem nG(bj:Bool)(x:Int):(kK bj x).length=4:=by simp[kK]
theorem xX(bj:Bool)(x:Int)(j:Nat)(hj:j<4):(kK bj x).take (j+1)=(kK bj x).take j++[xW bj x j]:=by
 have hg:(kK bj x)[j]?=some (xW bj x j):=by simp[kK,hj]
 rw[List.take_add_one,hg];rfl
theorem jr(bj:Bool)(ws:List Int):(fG bj ws).length=4*ws.length:=by
 unfold fG
 induction ws with
 |nil=>rfl
 |cons a l ih=>rw[List.flatMap_cons,List.length_append,nG,ih,List.length_cons];omega
theorem tK(bj:Bool){ws:List Int}{k:Nat}{x:Int}(h:ws[k]?=some x):fG bj (ws.take (k+1))=fG bj (ws.take k)++kK bj x:=by
 rw[List.take_add_one,h];simp[fG]
theorem DW(x:Int)(e:Nat):(((x/2^e%256).toNat.toUInt8.toNat:Nat):Int)=x/2^e%256:=by
 have h1:=Int.emod_nonneg (x/2^e) (show(256:Int)≠0 by decide);have h2:=Int.emod_lt_of_pos (x/2^e) (show(0:Int)<256 by decide);generalize x/2^e%256=y at *
 rw[show y.toNat.toUInt8.toNat=y.toNat from by simp[Nat.toUInt8];omega];omega
def WR(bj:Bool)(ws:List Int)(w:World)(v i:Value)(wr:World):Prop:=∃k:Nat,k<=ws.length/\i=.int .i64 k/\Bytes w.heap.size wr v (fG bj (ws.take k))/\Fr ay w wr
def afU(bj:Bool)(pre:List UInt8)(x:Int)(w:World)(v i:Value)(wr:World):Prop:=∃j:Nat,j<=4/\i=.int .i64 j/\Bytes w.heap.size wr v (pre++(kK bj x).take j)/\Fr ay w wr
theorem vX(g:Nat)(ws:List Int)(bj:Bool)(w:World)(hl:ws.length<=8)(hg:g<w.heap.size)(hc:∀(j:Nat) x,ws[j]?=some x->w.cell? ⟨g,j,none⟩=some (.int .u32 x))(hx:∀x∈ws,0<=x/\x<4294967296) :
  Calls Tryz.prog 221 #[.slice (some ⟨g,0,none⟩) ws.length ws.length,.bool bj] w fun e w'=>e=.returned (.string ⟨(jO bj ws).toArray⟩)/\Fr ay w w':=by
 have HC:=O hc;have HX:=O hx;clear hc hx;cases bj
 all_goals
  go_enter Tryz.func221,Tryz.ntmps221;go_wp2
 ·go_loopw[5,11] (WR false ws w) (fun _ i _=>ws.length-(intOf i).toNat)
  case atStart=>exact⟨0,Nat.zero_le _,rfl,Bytes.nil _ _,Fr.refl _ _⟩
  case round =>
   obtain⟨k,hk,rfl,a_,aW⟩:=hrel;by_cases cG:k<ws.length
   ·have bC:=O (List.getElem?_eq_getElem cG);obtain⟨x0,x1⟩:=HX.out _ (List.getElem_mem cG);have hcell:wr.cell? ⟨g,k,none⟩=some (.int .u32 ws[k]):=(aW.cell (p:=⟨g,k,none⟩) hg (fun h=>h)).trans (HC.out k _ bC.out);generalize ws[k]=x at *
    have rO:=O (tK false bC.out);have zd:=O (show(fG false (ws.take k)).length<=32 by rw[jr,List.length_take];omega);generalize fG false (ws.take k)=pre at *
    obtain⟨av,cv,hv⟩:=a_.form;subst hv;go_wp2;clear hcell;go_loopw[5,15] (afU false pre x w) (fun _ i _=>4-(intOf i).toNat)
    case atStart=>exact⟨0,by omega,rfl,by simpa using a_,aW⟩
    case round =>
     obtain⟨j,hj,rfl,bV,fe⟩:=hrel;have eI:w.heap.size<=wr.heap.size:=fe.size;obtain⟨av,cv,hv⟩:=bV.form;subst hv;by_cases hj4:j<4
     ·have NI:(j:Int)<4:=by omega
      have eQ:=O (xX false x j hj4);have mi:x/2^(24-8*j)%256=((xW false x j).toNat:Int):=(DW x (24-8*j)).symm;generalize xW false x j=c at *
      have N6:=O (show(pre++(kK false x).take j).length<100 by rw[List.length_append,List.length_take,nG];have:=zd.out;omega);go_wp2_with (at_builtin;refine eS rfl _ _ rfl w.heap.size (.slice av _ cv) (pre++(kK false x).take j) rfl (by apply Bytes.alloc;exact bV) ⟨wr.heap.size,0,none⟩ 1 c rfl (eo _ _ _ _) (by have:=N6.out;omega) (by simp;omega) ?_;intro v' w2 cz wG)
      go_roundw
      case rel=>exact⟨j+1,by omega,by go_num,by rw[eQ.out, <-List.append_assoc];exact cz,(fe.alloc _).cK wG bV.block⟩
      case measure=>simp[intOf];omega
     ·have hj5:j=4:=by omega
      subst hj5;have cz:Bytes w.heap.size wr (.slice av (pre++(kK false x).take 4).length cv) (pre++kK false x):=by
       have h:=bV;rw[List.take_of_length_le (by rw[nG];omega)]at h ⊢; exact h
      have HO:=O cz;clear cz bV;go_wp2;go_roundw
      case rel=>exact⟨k+1,by omega,by go_num,by rw[rO.out];exact HO.out,fe⟩
      case measure=>simp[intOf];omega
   ·rw[List.take_of_length_le (by omega)]at a_;have zW:(fG false ws).length<=32:=by rw[jr];omega
    have fR:=O (show jO false ws=rY (fG false ws)from rfl);generalize fG false ws=bs at *
    obtain⟨av,cv,hv⟩:=a_.form;subst hv;have vH:=a_.text;go_wp2_with fail
    refine(Jj ⟨bs.toArray⟩ wr (by show bs.toArray.size<_;simp;omega)).mono ?_;rintro e w3⟨rfl,dv⟩;go_wp2;go_ret;rw[fR.out];exact⟨rfl,aW.trans dv⟩
 ·go_loopw[5,11] (WR true ws w) (fun _ i _=>ws.length-(intOf i).toNat)
  case atStart=>exact⟨0,Nat.zero_le _,rfl,Bytes.nil _ _,Fr.refl _ _⟩
  case round =>
   obtain⟨k,hk,rfl,a_,aW⟩:=hrel;by_cases cG:k<ws.length
   ·have bC:=O (List.getElem?_eq_getElem cG);obtain⟨x0,x1⟩:=HX.out _ (List.getElem_mem cG);have hcell:wr.cell? ⟨g,k,none⟩=some (.int .u32 ws[k]):=(aW.cell (p:=⟨g,k,none⟩) hg (fun h=>h)).trans (HC.out k _ bC.out);generalize ws[k]=x at *
    have rO:=O (tK true bC.out);have zd:=O (show(fG true (ws.take k)).length<=32 by rw[jr,List.length_take];omega);generalize fG true (ws.take k)=pre at *
    obtain⟨av,cv,hv⟩:=a_.form;subst hv;go_wp2;clear hcell;go_loopw[5,15] (afU true pre x w) (fun _ i _=>4-(intOf i).toNat)
    case atStart=>exact⟨0,by omega,rfl,by simpa using a_,aW⟩
    case round =>
     obtain⟨j,hj,rfl,bV,fe⟩:=hrel;have eI:w.heap.size<=wr.heap.size:=fe.size;obtain⟨av,cv,hv⟩:=bV.form;subst hv;by_cases hj4:j<4
     ·have NI:(j:Int)<4:=by omega
      have eQ:=O (xX true x j hj4);have mi:x/2^(8*j)%256=((xW true x j).toNat:Int):=(DW x (8*j)).symm;generalize xW true x j=c at *
      have N6:=O (show(pre++(kK true x).take j).length<100 by rw[List.length_append,List.length_take,nG];have:=zd.out;omega);go_wp2_with (at_builtin;refine eS rfl _ _ rfl w.heap.size (.slice av _ cv) (pre++(kK true x).take j) rfl (by apply Bytes.alloc;exact bV) ⟨wr.heap.size,0,none⟩ 1 c rfl (eo _ _ _ _) (by have:=N6.out;omega) (by simp;omega) ?_;intro v' w2 cz wG)
      go_roundw
      case rel=>exact⟨j+1,by omega,by go_num,by rw[eQ.out, <-List.append_assoc];exact cz,(fe.alloc _).cK wG bV.block⟩
      case measure=>simp[intOf];omega
     ·have hj5:j=4:=by omega
      subst hj5;have cz:Bytes w.heap.size wr (.slice av (pre++(kK true x).take 4).length cv) (pre++kK true x):=by
       have h:=bV;rw[List.take_of_length_le (by rw[nG];omega)]at h ⊢; exact h
      have HO:=O cz;clear cz bV;go_wp2;go_roundw
      case rel=>exact⟨k+1,by omega,by go_num,by rw[rO.out];exact HO.out,fe⟩
      case measure=>simp[intOf];omega
   ·rw[List.take_of_length_le (by omega)]at a_;have zW:(fG true ws).length<=32:=by rw[jr];omega
    have fR:=O (show jO true ws=rY (fG true ws)from rfl);generalize fG true ws=bs at *
    obtain⟨av,cv,hv⟩:=a_.form;subst hv;have vH:=a_.text;go_wp2_with fail
    refine(Jj ⟨bs.toArray⟩ wr (by show bs.toArray.size<_;simp;omega)).mono ?_;rintro e w3⟨rfl,dv⟩;go_wp2;go_ret;rw[fR.out];exact⟨rfl,aW.trans dv⟩
def Zt(n:Nat):UInt8:=if n<26 then(n+65).toUInt8 else if n<52 then(n+71).toUInt8 else if n<62 then(n-4).toUInt8 else if n=62 then 43 else 47
def wL(a b c:UInt8):Nat:=a.toNat*65536+b.toNat*256+c.toNat
def mC(v i:Nat):UInt8:=Zt (v/2^(18-6*i)%64)
def pk:List UInt8->List UInt8
 |[]=>[]
 |[a]=>[mC (wL a 0 0) 0,mC (wL a 0 0) 1,61,61]
 |[a,b]=>[mC (wL a b 0) 0,mC (wL a b 0) 1,mC (wL a b 0) 2,61]
 |a :: b :: c :: r=>mC (wL a b c) 0 :: mC (wL a b c) 1 :: mC (wL a b c) 2 :: mC (wL a b c) 3 :: pk r
def lW(l:List UInt8):Nat->Nat
 |0=>0
 |k+1=>lW l k*256+(l.getD k 0).toNat
theorem ye(l:List UInt8):∀k,lW l k<256^k
 |0=>by simp[lW]
 |k+1=>by
  have h:=ye l k;have h2:=(l.getD k 0).toNat_lt;rw[lW,Nat.pow_succ];omega
theorem Zu(v x:Nat)(hv:v<4294967296)(hx:x<256):bits .or .i64 ((v:Int)*256) (x:Int)=((v*256+x:Nat):Int):=by
 have hm:((v:Int)*256)=((v*256:Nat):Int):=by omega
 rw[hm];have h1:(BitVec.ofInt 64 ((v*256:Nat):Int)).toNat=v*256:=by
  rw[BitVec.ofInt_natCast,BitVec.toNat_ofNat];exact Nat.mod_eq_of_lt (by omega)
 have h2:(BitVec.ofInt 64 (x:Int)).toNat=x:=by
  rw[BitVec.ofInt_natCast,BitVec.toNat_ofNat];exact Nat.mod_eq_of_lt (by omega)
 show IntKind.i64.wrap ((BitVec.ofInt 64 ((v*256:Nat):Int) ||| BitVec.ofInt 64 (x:Int)).toNat:Int)=_;have h3:v*256 ||| x=v*256+x:=by
  have h:=Nat.shiftLeft_add_eq_or_of_lt (show x<2^8 from hx) v;rw[Nat.shiftLeft_eq]at h;exact h.symm
 rw[BitVec.toNat_or,h1,h2,h3,IntWalk.i64_left];exact IntWalk.wrap64_in _ (by omega)
theorem Oe(r:ByteArray)(k:Nat)(h:k<r.size):lW r.data.toList (k+1)=lW r.data.toList k*256+r[k].toNat:=by
 rw[lW,List.getD_eq_getElem?_getD,byte_at r k h];rfl
theorem KX(r:ByteArray)(k:Nat)(h:¬k<r.size):lW r.data.toList (k+1)=lW r.data.toList k*256:=by
 rw[lW,List.getD_eq_getElem?_getD,ny r k h];simp only[Option.getD_none];exact Nat.add_zero _
theorem KY(r:ByteArray):lW r.data.toList 3=wL (r.data.toList.getD 0 0) (r.data.toList.getD 1 0) (r.data.toList.getD 2 0):=by
 show((0*256+_)*256+_)*256+_=_*65536+_*256+_;rw[Nat.zero_mul,Nat.zero_add,Nat.add_mul,Nat.mul_assoc]
def iQ(v n:Nat):List UInt8:=[mC v 0,mC v 1,if 2<=n then mC v 2 else 61,if 3<=n then mC v 3 else 61]
def agd(w:World)(acc:List UInt8)(v n:Nat)(i:Value)(wr:World):Prop :=
 ∃k:Nat,k<=4/\i=.int .i64 k/\Ah w.heap.size w.heap.size (acc++(iQ v n).take k) wr/\Fr ay w wr/\w.heap.size<=wr.heap.size
theorem tQ:∀n (h:n<64),(⟨#[65,66,67,68,69,70,71,72,73,74,75,76,77,78,79,80,81,82,83,84,85,86,87,88,89,90,97,98,99,100,101,102,103,104,105,106,107,108,109,110,111,112,113,114,115,116,117,118,119,120,121,122,48,49,50,51,52,53,54,55,56,57,43,47]⟩:ByteArray)[n]'h=Zt n:=by decide +kernel
theorem Jz(v i:Nat)(hv:v<16777216):∃m:Nat,m<64/\Zt m=mC v i/\bits .and .i64 ((v/2^(18-6*i):Nat):Int) 63=(m:Int):=by
 refine⟨v/2^(18-6*i)%64,Nat.mod_lt _ (by decide),rfl,?_⟩;have hx:v/2^(18-6*i)<16777216:=Nat.lt_of_le_of_lt (Nat.div_le_self _ _) hv;generalize v/2^(18-6*i)=x at hx;have h1:(BitVec.ofInt 64 (x:Int)).toNat=x:=by
  rw[BitVec.ofInt_natCast,BitVec.toNat_ofNat];exact Nat.mod_eq_of_lt (by omega)
 have h2:(BitVec.ofInt 64 63).toNat=63:=by decide
 show IntKind.i64.wrap ((BitVec.ofInt 64 (x:Int) &&& BitVec.ofInt 64 63).toNat:Int)=_;rw[BitVec.toNat_and,h1,h2,Nat.and_two_pow_sub_one_eq_mod x 6,IntWalk.i64_left];exact IntWalk.wrap64_in _ (by omega)
theorem D7(r:ByteArray)(n:Nat):(r.extract n r.size).data.toList=r.data.toList.drop n:=by
 rw[ByteArray.data_extract,Array.toList_extract];show(r.data.toList.drop n).take (r.data.toList.length-n)=_;rw[List.take_of_length_le (by simp)]
theorem KZ:∀(l:List UInt8) (n:Nat),0<n->n<=3->n<=l.length->(n<3->n=l.length) ->
  pk l=iQ (wL (l.getD 0 0) (l.getD 1 0) (l.getD 2 0)) n++pk (l.drop n)
 |[],n,h0,_,hl,_=>by simp at hl;omega
 |[a],n,h0,_,hl,_=>by
  obtain rfl:n=1:=by simp at hl;omega
  rfl
 |[a,b],n,h0,_,hl,h=>by
  obtain rfl:n=2:=by simp at hl h;omega
  rfl
 |a :: b :: c :: t,n,h0,h3,hl,h=>by
  obtain rfl:n=3:=by simp at hl h;omega
  rfl
theorem K_(r:ByteArray)(v n:Nat)(Jd:0<n)(hn3:n<=3)(hnr:n<=r.size)(hnk:n<3->n=r.size)(hv:v=wL (r.data.toList.getD 0 0) (r.data.toList.getD 1 0) (r.data.toList.getD 2 0)) :
  pk r.data.toList=iQ v n++pk (r.extract n r.size).data.toList:=by
 rw[D7,hv];exact KZ _ n Jd hn3 hnr hnk
theorem yf(r:ByteArray)(n:Nat):(r.extract n r.size).size=r.size-n:=by
 have h:(r.extract n r.size).data.toList.length=(r.data.toList.drop n).length:=by rw[D7]
 rw[List.length_drop]at h;exact h
def age(r:ByteArray)(w0:World)(v i:Value)(wr:World):Prop :=
 ∃k:Nat,k<=3/\i=.int .i64 k/\v=.int .i64 (lW r.data.toList k)/\wr=w0
def Zv(w:World)(s:ByteArray)(v:Value)(wr:World):Prop :=
 ∃(r:ByteArray) (acc:List UInt8),r.size<=s.size/\v=.string r/\acc.length<=4*(s.size-r.size)/\pk s.data.toList=acc++pk r.data.toList/\Ah w.heap.size w.heap.size acc wr/\Fr ay w wr/\w.heap.size<=wr.heap.size
def lenOf:Value->Nat
 | .string r=>r.size
 |_=>0
theorem Gt(s:ByteArray)(w:World)(hs:s.size<4398046511104) :
  Calls Tryz.prog 151 #[.string s] w fun e w'=>e=.returned (.string ⟨(pk s.data.toList).toArray⟩)/\Fr ay w w':=by
 go_enter Tryz.func151,Tryz.ntmps151;go_wp2;go_loopw[0] (Zv w s) (fun v _=>lenOf v)
 case atStart=>exact⟨s,[],Nat.le_refl _,rfl,by simp,by simp,Ah.new w,(Fr.refl _ _).alloc _,by simp⟩
 case round =>
  obtain⟨r,acc,hr,rfl,wI,hun,hb,hf,hz⟩:=hrel;have HUN:=O hun;clear hun;by_cases hr0:0<r.size
  ·have sg:(0:Int)<(r.size:Int):=by omega
   obtain⟨n,Jd,hn3,hnr,hni,hnk⟩:∃n:Nat,0<n/\n<=3/\n<=r.size/\min (3:Int) (r.size:Int)=(n:Int)/\(n<3->n=r.size):=⟨min 3 r.size,by omega,by omega,by omega,by omega,by omega⟩;go_wp2_with fail
   go_loopw[5,14] (age r wr) (fun _ i _=>3-(intOf i).toNat)
   case atStart=>exact⟨0,by omega,rfl,rfl,rfl⟩
   case round =>
    obtain⟨k,hk,rfl,rfl,rfl⟩:=hrel;by_cases BR:k<3
    ·have lf:(k:Int)<3:=by omega
     have Of:=ye r.data.toList k;have anI:lW r.data.toList k<65536:=Nat.lt_of_lt_of_le Of (Nat.le_trans (Nat.pow_le_pow_right (by omega) (show k<=2 by omega)) (by decide));have avZ:¬(9223372036854775807:Int)<(lW r.data.toList k:Int)*256:=by omega
     by_cases K':k<n
     ·have anJ:(k:Int)<(n:Int):=by omega
      have anK:k<r.size:=by omega
      have hkr:(k:Int)<(r.size:Int):=by omega
      have fR:=O (Oe r k anK);have j_:=r[k].toNat_lt;go_wp2_with fail
      refine⟨⟨k+1,by omega,by go_num,?_,rfl⟩,by simp[intOf];omega⟩;rw[Zu _ _ (Nat.lt_trans anI (by decide)) j_,fR.out]
     ·have anJ:¬(k:Int)<(n:Int):=by omega
      have fR:=O (KX r k (by omega));go_wp2_with fail
      refine⟨⟨k+1,by omega,by go_num,?_,rfl⟩,by simp[intOf];omega⟩;rw[fR.out];rfl
    ·have lf:¬(k:Int)<3:=by omega
     have Zw:k=3:=by omega
     subst Zw;have Of:=ye r.data.toList 3;have WV:=O (KY r);generalize lW r.data.toList 3=v at Of WV;go_wp2_with fail
     go_loopw[29] (agd w acc v n) (fun i _=>4-(intOf i).toNat)
     case atStart=>exact⟨0,by omega,rfl,by simpa using hb,hf,hz⟩
     case round =>
      obtain⟨k,hk,rfl,o9,bt,iy⟩:=hrel;have ku:∀j,(acc++(iQ v n).take j).length<=4*s.size+4:=by intro j;rw[List.length_append,List.length_take];show _+min j 4<=_;omega
      match k,hk,o9 with
      |0,_,o9 =>
       obtain⟨m,hm,hl,yg⟩:=Jz v 0 Of;rw[show(((v/2^(18-6*0):Nat):Int))=(v:Int)/262144 from by omega]at yg;have K':(0:Int)<=(n:Int):=by omega
       have hq:(0:Int)<=(m:Int)/\(m:Int)<64:=by omega
       go_wp2_with fail
       rw[tQ m hm,hl];refine(eV _ _ _ (mC v 0) wr o9 (by have:=ku 0;omega) iy).mono ?_;rintro e w2⟨rfl,fC,bq⟩;have gU:w.heap.size<=w2.heap.size:=Nat.le_trans iy bq.size;have mj:Ah w.heap.size w.heap.size (acc++(iQ v n).take (0+1)) w2:=by
        have e:(iQ v n).take (0+1)=(iQ v n).take 0++[(mC v 0)]:=by simp[iQ, *]
        rw[e, <-List.append_assoc];exact fC
       clear o9 fC;go_wp2;go_roundw
       case rel=>exact⟨0+1,by omega,by go_num,mj,bt.gC bq,gU⟩
       case measure=>simp[intOf]
      |1,_,o9 =>
       obtain⟨m,hm,hl,yg⟩:=Jz v 1 Of;rw[show(((v/2^(18-6*1):Nat):Int))=(v:Int)/4096 from by omega]at yg;have K':(1:Int)<=(n:Int):=by omega
       have hq:(0:Int)<=(m:Int)/\(m:Int)<64:=by omega
       go_wp2_with fail
       rw[tQ m hm,hl];refine(eV _ _ _ (mC v 1) wr o9 (by have:=ku 1;omega) iy).mono ?_;rintro e w2⟨rfl,fC,bq⟩;have gU:w.heap.size<=w2.heap.size:=Nat.le_trans iy bq.size;have mj:Ah w.heap.size w.heap.size (acc++(iQ v n).take (1+1)) w2:=by
        have e:(iQ v n).take (1+1)=(iQ v n).take 1++[(mC v 1)]:=by simp[iQ, *]
        rw[e, <-List.append_assoc];exact fC
       clear o9 fC;go_wp2;go_roundw
       case rel=>exact⟨1+1,by omega,by go_num,mj,bt.gC bq,gU⟩
       case measure=>simp[intOf]
      |2,_,o9 =>
       obtain⟨m,hm,hl,yg⟩:=Jz v 2 Of;rw[show(((v/2^(18-6*2):Nat):Int))=(v:Int)/64 from by omega]at yg;by_cases anL:2<=n
       ·have K':(2:Int)<=(n:Int):=by omega
        have hq:(0:Int)<=(m:Int)/\(m:Int)<64:=by omega
        go_wp2_with fail
        rw[tQ m hm,hl];refine(eV _ _ _ (mC v 2) wr o9 (by have:=ku 2;omega) iy).mono ?_;rintro e w2⟨rfl,fC,bq⟩;have gU:w.heap.size<=w2.heap.size:=Nat.le_trans iy bq.size;have mj:Ah w.heap.size w.heap.size (acc++(iQ v n).take (2+1)) w2:=by
         have e:(iQ v n).take (2+1)=(iQ v n).take 2++[(mC v 2)]:=by simp[iQ, *]
         rw[e, <-List.append_assoc];exact fC
        clear o9 fC;go_wp2;go_roundw
        case rel=>exact⟨2+1,by omega,by go_num,mj,bt.gC bq,gU⟩
        case measure=>simp[intOf]
       ·have K':¬(2:Int)<=(n:Int):=by omega
        go_wp2_with fail
        refine(eV _ _ _ 61 wr o9 (by have:=ku 2;omega) iy).mono ?_;rintro e w2⟨rfl,fC,bq⟩;have gU:w.heap.size<=w2.heap.size:=Nat.le_trans iy bq.size;have mj:Ah w.heap.size w.heap.size (acc++(iQ v n).take (2+1)) w2:=by
         have e:(iQ v n).take (2+1)=(iQ v n).take 2++[61]:=by simp[iQ, *]
         rw[e, <-List.append_assoc];exact fC
        clear o9 fC;go_wp2;go_roundw
        case rel=>exact⟨2+1,by omega,by go_num,mj,bt.gC bq,gU⟩
        case measure=>simp[intOf]
      |3,_,o9 =>
       obtain⟨m,hm,hl,yg⟩:=Jz v 3 Of;rw[show(((v/2^(18-6*3):Nat):Int))=(v:Int)from by omega]at yg;by_cases anL:3<=n
       ·have K':(3:Int)<=(n:Int):=by omega
        have hq:(0:Int)<=(m:Int)/\(m:Int)<64:=by omega
        go_wp2_with fail
        rw[tQ m hm,hl];refine(eV _ _ _ (mC v 3) wr o9 (by have:=ku 3;omega) iy).mono ?_;rintro e w2⟨rfl,fC,bq⟩;have gU:w.heap.size<=w2.heap.size:=Nat.le_trans iy bq.size;have mj:Ah w.heap.size w.heap.size (acc++(iQ v n).take (3+1)) w2:=by
         have e:(iQ v n).take (3+1)=(iQ v n).take 3++[(mC v 3)]:=by simp[iQ, *]
         rw[e, <-List.append_assoc];exact fC
        clear o9 fC;go_wp2;go_roundw
        case rel=>exact⟨3+1,by omega,by go_num,mj,bt.gC bq,gU⟩
        case measure=>simp[intOf]
       ·have K':¬(3:Int)<=(n:Int):=by omega
        go_wp2_with fail
        refine(eV _ _ _ 61 wr o9 (by have:=ku 3;omega) iy).mono ?_;rintro e w2⟨rfl,fC,bq⟩;have gU:w.heap.size<=w2.heap.size:=Nat.le_trans iy bq.size;have mj:Ah w.heap.size w.heap.size (acc++(iQ v n).take (3+1)) w2:=by
         have e:(iQ v n).take (3+1)=(iQ v n).take 3++[61]:=by simp[iQ, *]
         rw[e, <-List.append_assoc];exact fC
        clear o9 fC;go_wp2;go_roundw
        case rel=>exact⟨3+1,by omega,by go_num,mj,bt.gC bq,gU⟩
        case measure=>simp[intOf]
      |4,_,o9 =>
       have av0:(iQ v n).take 4=iQ v n:=rfl;have JA:=K_ r v n Jd hn3 hnr hnk WV.out;go_wp2_with fail
       refine⟨⟨r.extract n r.size,acc++iQ v n,?_,rfl,?_,?_,o9,bt,iy⟩,?_⟩
       ·rw[yf];omega
       ·rw[yf,List.length_append];have hn4:(iQ v n).length=4:=rfl;omega
       ·rw[HUN.out,JA,List.append_assoc]
       ·show(r.extract n r.size).size<r.size;rw[yf];omega
  ·have sg:¬(0:Int)<(r.size:Int):=by omega
   have bR:pk s.data.toList=acc:=by rw[HUN.out,show r.data.toList=[]from List.eq_nil_of_length_eq_zero (show r.size=0 by omega)];simp[pk]
   go_wp2_with fail
   refine(vS _ _ _ wr hb hz).mono ?_;rintro e w1⟨rfl,bt⟩;go_wp2;go_ret;rw[bR];exact⟨rfl,hf.gC bt⟩
end Go.Proofs.YtjdmjbdkdmbaiaaGreatDoor
