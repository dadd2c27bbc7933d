/- Lemmas for the law's walk. -/
import Derived.Test.YtnckmcnffadjoaaGreatDoorPm12
set_option maxRecDepth 100000
set_option maxHeartbeats 16000000
set_option linter.unusedSimpArgs false
namespace Go.Proofs.YtnckmcnffadjoaaGreatDoor
open Go.Proofs.Tryz
open Go.RowKit
variable {w w' U V:World} {b i base k:Nat} {r:fK Value} {u pv v:Value} {x:nt} {ss:List aj} {d:Bs}
def Qi(I:World->Prop)(g:Nat)(cap:bS)(p:aj->Bool)(ss:List aj):Prop :=
 ∀x,x∈ss->∀u,I u->aB g (#[.string x]++cap) u fun e u'=>e=.returned (.bool (p x))/\Fr aS u u'/\I u'
def ao2(w:World)(I:World->Prop)(p:aj->Bool)(ss:List aj)(i:Value)(wr:World):Prop :=
 ∃k:Nat,k<=ss.length/\i=.int .i64 k/\(ss.take k).any p=false/\Fr aS w wr/\I wr
theorem Eg(I:World->Prop)(g:Nat)(cap:bS)(p:aj->Bool)(v:Value)(ss:List aj)(w:World)(eg:∀args w,(callFunc g args).run prog w=.ok (.enter g args) w)(hI:I w)(hp:Qi I g cap p ss)(hv:fP w v ss)(hl:ss.length<=maxLen) :
  aB 216 #[v,.func (.func g) #[] cap] w fun e w'=>e=.returned (.int .i64 (lU p ss 0))/\Fr aS w w'/\I w':=by
 unfold maxLen at hl;obtain⟨av,cv,fJ⟩:=hv.form;subst fJ;go_enter func216,ntmps216;go_wp2;go_loopw[8] (ao2 w I p ss) (fun i _=>ss.length-(intOf i).toNat)
 case atStart=>exact⟨0,aQ _,rfl,rfl,ae _ _,hI⟩
 case round =>
  obtain⟨k,hk,rfl,hn,cL,hIr⟩:=hrel;have HN:=O hn;clear hn;by_cases fo:k<ss.length
  ·have hvr:=hv.fI cL;rcases hvr with ⟨_,_,_,e,_⟩|⟨bk,o,c,hf,h1,h2,h3,h4⟩
   ·rw[e]at fo;exact absurd fo (ct _)
   ·cases hf;have dT:=O (List.getElem?_eq_getElem fo);have hc:=h4 k _ dT.o;have iD:=O (bN fo);generalize ss[k]=x at dT hc iD;have fD:=O (hp x iD.o wr hIr);clear h4;cases qF:p x
    ·have qe:=O (any_take_succ dT.o HN.o qF);go_wp2_with fail
     refine fD.o.mono ?_;rintro e w1⟨rfl,dr,hI1⟩;rw[qF];go_wp2;go_roundw
     case rel=>exact⟨k+1,ab,bg,qe.o,cL.trans dr,hI1⟩
     case measure=>simp[intOf];omega
    ·have fg:=O (oT (i:=0) dT.o qF HN.o);go_wp2_with fail
     refine fD.o.mono ?_;rintro e w1⟨rfl,dr,hI1⟩;rw[qF];go_wp2;go_ret;rw[fg.o,bw];exact⟨rfl,cL.trans dr,hI1⟩
  ·have fg:=O (show lU p ss 0= -1 from kt (by have h:=HN.o;rw[aD ab]at h;exact h));go_wp2;go_ret;rw[fg.o];exact⟨rfl,cL,hIr⟩
theorem zX(I:World->Prop)(g:Nat)(cap:bS)(p:aj->Bool)(v:Value)(ss:List aj)(w:World)(eg:∀args w,(callFunc g args).run prog w=.ok (.enter g args) w)(hI:I w)(hp:Qi I g cap p ss)(hv:fP w v ss)(hl:ss.length<=maxLen) :
  aB 175 #[v,.func (.func g) #[] cap] w fun e w'=>e=.returned (.bool (ss.any p))/\Fr aS w w'/\I w':=by
 have hb:=O (rL p ss 0);go_enter func175,ntmps175;go_wp2_with fail
 refine(Eg I g cap p v ss w eg hI hp hv hl).mono ?_;rintro e w1⟨rfl,dr,hI1⟩;go_wp2;go_ret;exact⟨fB hb.o,dr,hI1⟩
def Oc(s:Bs):Value:=match Ub s with
 |some (k,b)=>.tuple #[.int .i64 k,.bool b,.bool true]
 |none=>.tuple #[.int .i64 0,.bool false,.bool false]
theorem Ft(s:aj)(w:World)(hs:s.size<17592186044416) :
  aB 173 #[.string s] w fun e w'=>e=.returned (Oc s.data.toList)/\Fr aS w w':=by
 have S1:=O (show∀U,aB 106 #[.string s,.string ⟨#[77,68,53]⟩] U fun e w'=>e=.returned (.bool (dJ s.data.toList xR))/\Fr aS U w' from fun U=>mA s _ U hs ag);have S2:=O (show∀U,aB 106 #[.string s,.string ⟨#[77,68,53,45,115,101,115,115]⟩] U fun e w'=>e=.returned (.bool (dJ s.data.toList (xR++yY)))/\Fr aS U w' from fun U=>mA s _ U hs ag)
 have S3:=O (show∀U,aB 106 #[.string s,.string ⟨#[83,72,65,45,50,53,54]⟩] U fun e w'=>e=.returned (.bool (dJ s.data.toList Hn))/\Fr aS U w' from fun U=>mA s _ U hs ag);have S4:=O (show∀U,aB 106 #[.string s,.string ⟨#[83,72,65,45,50,53,54,45,115,101,115,115]⟩] U fun e w'=>e=.returned (.bool (dJ s.data.toList (Hn++yY)))/\Fr aS U w' from fun U=>mA s _ U hs ag)
 have HV:=O (show Oc s.data.toList=if dJ s.data.toList xR then .tuple #[.int .i64 2,.bool false,.bool true]else if dJ s.data.toList (xR++yY)then .tuple #[.int .i64 2,.bool true,.bool true]
   else if dJ s.data.toList Hn then .tuple #[.int .i64 3,.bool false,.bool true]else if dJ s.data.toList (Hn++yY)then .tuple #[.int .i64 3,.bool true,.bool true]else .tuple #[.int .i64 0,.bool false,.bool false]by
  unfold Oc Ub;split
  ·rename_i k b h;split at h
   ·rename_i h1;cases h;rw[az h1]
   rename_i h1;rw[aq h1];split at h
   ·rename_i h2;cases h;rw[az h2]
   rename_i h2;rw[aq h2];split at h
   ·rename_i h3;cases h;rw[az h3]
   rename_i h3;rw[aq h3];split at h
   ·rename_i h4;cases h;rw[az h4]
   ·cases h
  ·rename_i h;split at h
   ·cases h
   rename_i h1;rw[aq h1];split at h
   ·cases h
   rename_i h2;rw[aq h2];split at h
   ·cases h
   rename_i h3;rw[aq h3];split at h
   ·cases h
   rename_i h4;rw[aq h4])
 generalize dJ s.data.toList xR=b1 at *
 generalize dJ s.data.toList (xR++yY)=b2 at *
 generalize dJ s.data.toList Hn=b3 at *
 generalize dJ s.data.toList (Hn++yY)=b4 at *
 obtain⟨w1,oy⟩:∃w1,w1=w.alloc (.cells #[.string ⟨#[77,68,53]⟩,.string ⟨#[83,72,65,45,50,53,54]⟩] 9):=⟨_,rfl⟩;have dr:Fr aS w w1:=by rw[oy];exact(ae _ _).alloc _
 have qf:w1.heap[w.heap.size]?=some (.cells #[.string ⟨#[77,68,53]⟩,.string ⟨#[83,72,65,45,50,53,54]⟩] 9 (0,0)):=by rw[oy];exact aC _ _
 have HC:=O (show∀U,Fr aS w1 U->U.cell? ⟨w.heap.size,0,none⟩=some (.string ⟨#[77,68,53]⟩)/\U.cell? ⟨w.heap.size,1,none⟩=some (.string ⟨#[83,72,65,45,50,53,54]⟩)from fun U hU=>by
  have j1:=hU.keep qf id;simp[World.cell?,j1])
 have Ii:=O oy;clear oy qf;go_enter func173,ntmps173;go_wp2;rw[<-Ii.o];obtain⟨c0,c1⟩:=HC.o w1 (ae _ _);refine wp_loop_rounds 3 ?_;rw[rounds_succ];go_wp2_with fail
 refine(S1.o w1).mono ?_;rintro e u1⟨rfl,ui⟩;clear c0 c1;cases b1
 case true =>
  go_wp2
  go_ret3
  exact⟨by rw[HV.o];rfl,dr.trans ui⟩
 case false =>
  go_wp2_with fail
  refine(S2.o u1).mono ?_;rintro e u2⟨rfl,nu⟩;have f_:=O (ui.trans nu);cases b2
  case true =>
   go_wp2
   go_ret3
   exact⟨by rw[HV.o];rfl,dr.trans f_.o⟩
  case false =>
   obtain⟨c0,c1⟩:=HC.o u2 f_.o;go_wp2_with fail
   rw[rounds_succ];go_wp2_with fail
   refine(S3.o u2).mono ?_;rintro e u3⟨rfl,zD⟩;have iA:=O (f_.o.trans zD);clear c0 c1;cases b3
   case true =>
    go_wp2
    go_ret3
    exact⟨by rw[HV.o];rfl,dr.trans iA.o⟩
   case false =>
    go_wp2_with fail
    refine(S4.o u3).mono ?_;rintro e u4⟨rfl,CJ⟩;have jZ:=O (iA.o.trans CJ);cases b4
    case true =>
     go_wp2
     go_ret3
     exact⟨by rw[HV.o];rfl,dr.trans jZ.o⟩
    case false =>
     go_wp2_with fail
     rw[rounds_succ];go_wp2
     go_ret3
     exact⟨by rw[HV.o];rfl,dr.trans jZ.o⟩
def IK(w:World)(b:Nat)(n:aj):Prop:=w.heap[b]?=some (.cells #[.string n] 9 (0,0))
theorem Od(s n:aj)(b:Nat)(w:World)(h:IK w b n)(hs:s.size<17592186044416)(hn:n.size<17592186044416) :
  aB 176 #[.string s,.pointer (some ⟨b,0,none⟩)] w fun e w'=>e=.returned (.bool (dJ s.data.toList n.data.toList))/\Fr aS w w':=by
 have c0:w.cell? ⟨b,0,none⟩=some (.string n):=by simp[World.cell?,show w.heap[b]?=_ from h]
 go_enter func176,ntmps176;go_wp2_with fail
 refine(mA s n w hs hn).mono ?_;rintro e w1⟨rfl,hf⟩;go_wp2;go_ret;exact⟨rfl,hf⟩
theorem aah(n:aj)(b:Nat)(v:Value)(ss:List aj)(w:World)(hv:fP w v ss)(hl:ss.length<=1000)(hb:IK w b n)(hn:n.size<17592186044416)(hz:∀x∈ss,x.size<17592186044416) :
  aB 175 #[v,.func (.func 176) #[] #[.pointer (some ⟨b,0,none⟩)]] w fun e w'=>e=.returned (.bool (ss.any fun x=>dJ x.data.toList n.data.toList))/\Fr aS w w':=by
 refine(zX (fun u=>IK u b n) 176 #[.pointer (some ⟨b,0,none⟩)] (fun x=>dJ x.data.toList n.data.toList) v ss w call176 hb ?_ hv fx).mono ?_
 ·intro x hx u hu;refine(Od x n b u hu (hz x hx) hn).mono ?_;rintro e u'⟨he,hf⟩;exact⟨he,hf,hf.keep hu id⟩
 ·rintro e w'⟨he,hf,_⟩;exact⟨he,hf⟩
def js:fK Value:=⟨0,⟨#[]⟩,⟨#[]⟩,⟨#[]⟩,false,⟨#[]⟩,false,.slice none 0 0⟩
abbrev gQ:bS:= #[.int .i64 0,.string ⟨#[]⟩,.string ⟨#[]⟩,.string ⟨#[]⟩,.bool false,.string ⟨#[]⟩,.bool false,.slice none 0 0]
theorem RX:∀v∈gQ.toList,v.oneCell'=true:=du
theorem ry:gQ.all (·.oneCell')=true:=du
theorem aai(r:fK Value)(h:r.dom.oneCell'=true):∀u∈r.cells,u.oneCell'=true:=by
 intro u hu;simp only[fK.cells,bB,cz,dX]at hu;rcases hu with rfl|rfl|rfl|rfl|rfl|rfl|rfl|rfl<;>first|rfl|exact h
theorem IL(r:fK Value)(h:r.dom.oneCell'=true):r.cells.toArray.all (·.oneCell')=true:=bX (aai r h)
def fT(w:World)(b:Nat)(r:fK Value):Prop:=w.heap[b]?=some (.cells r.cells.toArray 112 (0,0))
theorem fT.cell(h:fT w b r)(hu:r.cells[i]?=some u):w.cell? ⟨b,i,none⟩=some u:=by
 simp only[World.cell?,show w.heap[b]?=_ from h];simpa using hu
theorem fT.free(h:fT w b r)(i:Nat):w.frozen? ⟨b,i,none⟩=false:=by simp[World.frozen?,show w.heap[b]?=_ from h]
theorem fT.set{r':fK Value}(h:fT w b r)(i:Nat)(u:Value)(hr:r.cells.toArray.setIfInBounds i u=r'.cells.toArray):fT (w.setCell ⟨b,i,none⟩ u) b r':=by
 unfold fT;rw[cg h i u,hr]
def ky(x:nt)(w:World)(e:Ending)(w':World):Prop :=
 Fr aS w w'/\match nd x with
  |none=>e=.returned (.tuple #[.agg gQ,.bool false])
  |some a=>∃r:fK Value,r.Reads (Strs w.heap.size w') a/\e=.returned (.tuple #[.agg r.cells.toArray,.bool true])
theorem ky.no(h:nd x=none)(hf:Fr aS w w'):ky x w (.returned (.tuple #[.agg gQ,.bool false])) w':=by
 refine⟨hf,?_⟩;rw[h]
theorem ky.yes{a:fK bE}(h:nd x=some a)(hf:Fr aS w w')(hr:r.Reads (Strs w.heap.size w') a):ky x w (.returned (.tuple #[.agg r.cells.toArray,.bool true])) w':=by
 refine⟨hf,?_⟩;rw[h];exact⟨r,hr,rfl⟩
structure RY (w:World) (x:nt) (pv:Value) (U:World):Prop where
 Bi:kK U w.heap.size (bA x.scheme) (bA x.token) pv
 res:U.heap[w.heap.size+1]?=some (.cells gQ 112 (0,0))
 fr:Fr aS w U
theorem RY.next(h:RY w x pv U)(hf:Fr aS U V):RY w x pv V:=⟨h.Bi.fr hf id,hf.keep h.res id,h.fr.trans hf⟩
theorem RY.set(h:RY w x pv U)(hb:w.heap.size+1<b):RY w x pv (U.setCell ⟨b,i,none⟩ u):=by
 have hf:Fr (one b) U (U.setCell ⟨b,i,none⟩ u):=(ae (one b) U).setCell (p:=⟨b,i,none⟩) (fun _=>rfl) u;exact⟨h.Bi.fr hf (fun e=>by have e':w.heap.size=b:=e;omega),hf.keep h.res (fun e=>by have e':w.heap.size+1=b:=e;omega),h.fr.step hf (fun k hk e=>by have e':k=b:=e;omega)⟩
theorem Strs.kind{g:Nat}(h:Strs base w v ss)(hg:v.ownBlock=some g):∃cur,w.heap[g]?=some (.cells cur 9 (0,0)):=by
 rcases h.2 with ⟨hv,_⟩|⟨g',cap,cur,hv,_,hh,_⟩
 ·rw[hv]at hg;simp[Value.ownBlock]at hg
 ·rw[hv]at hg;simp[Value.ownBlock]at hg;subst hg;exact⟨cur,hh⟩
theorem Strs.off{S:dC}(h:Strs base w v ss)(hf:Fr S w w')(hS:∀k,v.ownBlock=some k->¬S k):Strs base w' v ss:=by
 obtain⟨h1,h2⟩:=h;refine⟨h1,?_⟩;rcases h2 with h2|⟨g,cap,cur,hv,hg,hh,r⟩
 ·exact Or.inl h2
 ·exact Or.inr ⟨g,cap,cur,hv,hg,hf.keep hh (hS g (by rw[hv];rfl)),r⟩
theorem Strs.aaj{cs:bS}{t:TypeId}{f:Nat×Nat}(h:Strs base w v ss)(hf:Fr (one b) w w')(hb:w.heap[b]?=some (.cells cs t f))(ht:t≠9):Strs base w' v ss :=
 h.off hf (fun k hk e=>by
  obtain rfl:k=b:=e;obtain⟨cur,hc⟩:=h.kind hk;rw[hc]at hb;cases hb;exact ht rfl)
theorem RY.own(h:RY w x pv U)(hv:Strs w.heap.size U v ss)(hf:Fr (fun k=>v.ownBlock=some k) U V):RY w x pv V:=by
 have hn:∀ {b:Nat} {cs:bS} {t:TypeId} {f:Nat×Nat},U.heap[b]?=some (.cells cs t f)->t≠9->¬v.ownBlock=some b:=by
  intro b cs t f hb ht e;obtain⟨cur,hc⟩:=hv.kind e;rw[hc]at hb;cases hb;exact ht rfl
 exact⟨h.Bi.fr hf (hn h.Bi ag),hf.keep h.res (hn h.res ag),h.fr.step hf (fun k hk e=>by have:=hv.block k e;omega)⟩
theorem V6{ps:List jz}{n v:Bs}(h:kr ps n=some v):∃p∈ps,v=p.2:=by
 unfold kr at h;obtain⟨p,hp,rfl⟩:=Option.map_eq_some_iff.1 h;exact⟨p,List.mem_of_find?_eq_some hp,rfl⟩
theorem aak(l:aI):(∃ws,g_ l=.ok ws/\ws.length<=40/\Uc l=Pr ws)\/((∀ws,g_ l=.ok ws->40<ws.length)/\Uc l=none):=by
 unfold Uc;cases h:g_ l with
 |ok ws =>
  by_cases hn:ws.length<=40
  ·exact Or.inl ⟨ws,rfl,hn,aq ab⟩
  ·refine Or.inr ⟨fun ws' h'=>?_,az ab⟩;cases h';omega
 |error m=>exact Or.inr ⟨fun ws' h'=>(by cases h'),rfl⟩
theorem jy.aeE{s:aj}{e:Ending}(h:jy s w e w')(hl:∀ws,g_ s.data.toList=.ok ws->40<ws.length) :
  ∃v t x,e=.returned (.tuple #[v,.iface t x])/\Fr aS w w':=by
 obtain⟨v,er,he,hf,hm⟩:=h;cases hr:g_ s.data.toList with
 |ok ws =>
  rw[hr]at hm;have Hp:if 40<ws.length then v=.slice none 0 0/\FG w' er (some (4,none))else Strs w.heap.size w' v (dU ws)/\er=.nilIface:=hm
  rw[az (hl ws hr)]at Hp;obtain⟨_,hv⟩:=Hp;exact⟨v,_,_,by rw[he,show er=_ from hv],hf⟩
 |error m =>
  rw[hr]at hm;obtain⟨_,g,hv,_⟩:=hm;exact⟨v,_,_,by rw[he,hv],hf⟩
theorem GL:∀(f:Nat) (r:Bs) (ws:List Bs),lR f r=.ok ws->∀w∈ws,w.length<=r.length
 |0,r,ws,h,w,hw=>by rw[lR]at h;cases h;cases hw
 |f+1,r,ws,h,w,hw=>by
  rw[lR]at h;have h1:=qg dN r;have h2:=qg fW (r.dropWhile dN);have h3:=qg dN ((r.dropWhile dN).dropWhile fW);have h4:=pK fW (r.dropWhile dN);have eb:∀u∈(if((r.dropWhile dN).takeWhile fW).isEmpty then []else [(r.dropWhile dN).takeWhile fW]),u.length<=r.length:=by
   intro u hu;split at hu
   ·cases hu
   ·simp at hu;subst hu;omega
  cases e:((r.dropWhile dN).dropWhile fW).dropWhile dN with
  |nil =>
   rw[e]at h;simp only at h;cases h;exact eb w hw
  |cons c r4 =>
   rw[e]at h h3;simp only at h;split at h
   ·cases hr:lR f r4 with
    |error m=>rw[hr]at h;cases h
    |ok w2 =>
     rw[hr]at h;cases h;rcases bR.1 hw with g|g
     ·exact eb w g
     ·have:=GL f r4 w2 hr w g;simp at h3;omega
   ·cases h
def qK(ws:List Bs):Nat->Bs
 |0=>[]
 |1=>if ws.any (fun w=>dJ w qi)then qi else []
 |_=>if ws.any (fun w=>dJ w mh)then mh else if ws.any (fun w=>dJ w qi)then qi else []
theorem aeF(ws:List Bs):Pr ws=if(qK ws 2).isEmpty then none else some (qK ws 2):=by
 unfold Pr qK;cases ws.any (fun w=>dJ w mh)<;>cases ws.any (fun w=>dJ w qi)<;>rfl
theorem RZ(ws:List Bs)(n:Bs):((dU ws).any fun x=>dJ x.data.toList (bA n).data.toList)=ws.any fun w=>dJ w n:=by
 unfold dU;rw[List.any_map,fU];rfl
def iR(d:Bs)(k:Nat):List Bs:=(((ec 32 d).take k).filter fun p=>M5 47 p).map oJ
theorem ajf(l:Bs):Lib.hasPrefix l [47]=M5 47 l:=by
 cases l with
 |nil=>rfl
 |cons c l =>
  rw[fc];simp[Lib.hasPrefix,M5];exact eq_comm
def ajg(w:World)(x:nt)(pv:Value)(A Pb:Nat)(a:fK Value)(d:Bs)(t:Value)(wr:World):Prop :=
 ∃(k:Nat) (v:Value),k<=(ec 32 d).length/\t=.int .i64 k/\RY w x pv wr/\fT wr A {a with dom:=v}/\Strs w.heap.size wr v ((iR d k).map bA)/\wr.heap[Pb]?=some (.cells (((ec 32 d).map bA).map Value.string).toArray 9 (0,0))/\∀j,v.ownBlock=some j->Pb<j
theorem Oe{p:Bs}(h:(ec 32 d)[k]?=some p):iR d (k+1)=iR d k++(if M5 47 p then [oJ p]else []):=by
 unfold iR;rw[cC,h];simp only[Option.toList_some,cG,bG]
 congr 1
 rw[List.filter_cons];split<;>rfl
theorem R0(h:(ec 32 d).length<=k):iR d k=Ho d:=by unfold iR Ho;rw[aD h]
theorem R2(d:Bs)(k:Nat):(iR d k).length<=k:=by
 unfold iR;rw[ai];have h:=bU (fun p=>M5 47 p) ((ec 32 d).take k);rw[aM]at h;omega
theorem GM(c:UInt8):∀d:Bs,(ec c d).length<=d.length+1/\∀p∈ec c d,p.length<=d.length
 |[]=>⟨by simp[ec],by simp[ec]⟩
 |x :: d=>by
  obtain⟨h1,h2⟩:=GM c d;unfold ec;split
  ·refine⟨bI,fun p hp=>?_⟩;rcases bB.1 hp with rfl|g
   ·simp
   ·have:=h2 p g;simp;omega
  ·cases e:ec c d with
   |nil=>exact⟨aR,fun p hp=>by simp at hp;subst hp;simp⟩
   |cons q qs =>
    rw[e]at h1 h2;refine⟨by simp at h1 ⊢; omega,fun p hp=>?_⟩;rcases bB.1 hp with rfl|g
    ·have:=h2 q (cY ..);simp;omega
    ·have:=h2 p (bQ _ g);simp;omega
theorem R7(c:UInt8)(d:Bs):ja c (bA d)=(ec c d).map bA:=by
 unfold ja;rw[fU];rfl
def ajh(w:World)(x:nt)(pv:Value)(A:Nat)(a:fK Value)(ws:List Bs)(W:World)(t:Value)(wr:World):Prop :=
 ∃k:Nat,k<=2/\t=.int .i64 k/\RY w x pv wr/\fT wr A {a with eH:=bA (qK ws k)}/\Fr (one A) W wr
def aeG(w:World)(x:nt)(pv:Value)(A:Nat)(a:fK Value)(wz:World):Prop:=∃q,Ud x.params=some q/\RY w x pv wz/\fT wz A {a with eH:=bA q}
theorem R8(x:nt)(pv:Value)(w:World)(hp:lM w pv x.params)(hz:x.Fit) :
  aB 114 #[.agg #[.string (bA x.scheme),.string (bA x.token),pv]] w (ky x w):=by
 have td:Qb x.params:=⟨by have:=hz.tP;omega,fun p hq=>by have:=hz.zg p hq;omega⟩;have avP:(bA x.scheme).size<=100000:=hz.scheme;have HZ:=O hz
 have GET:=O (show∀(n:Bs) U,n.length<1000->Fr aS w U->aB 172 #[.agg #[.string (bA x.scheme),.string (bA x.token),pv],.string (bA n)] U fun e w'=>e=.returned (.tuple #[.string (bA ((kr x.params n).getD [])),.bool (kr x.params n).isSome])/\Fr aS U w' from fun n U hn hU=>by
  have:=Z3 (bA x.scheme) (bA x.token) pv x.params (bA n) U (bh hp hU) td (by show n.length<_;omega);rw[fU]at this;exact this)
 have aal:=O (show∀n,((kr x.params n).getD []).length<=99999 from fun n=>by
  cases h:kr x.params n with
  |none=>simp
  |some v =>
   obtain⟨p,hpm,rfl⟩:=V6 h;exact(hz.zg p hpm).2)
 have SMB:=O (show∀(n:Bs) U,n.length<1000->aB 106 #[.string (bA x.scheme),.string (bA n)] U fun e w'=>e=.returned (.bool (dJ x.scheme n))/\Fr aS U w' from fun n U hn=>by
  have:=mA (bA x.scheme) (bA n) U ab (by show n.length<_;omega);rw[fU,fU]at this;exact this)
 have HK:=O (show nd x=match kr x.params vF with
  |none=>none
  |some aK =>
   if dJ x.scheme Hm then some ⟨1,bA aK,bA [],bA [],false,bA [],false,[]⟩else
   match Ub ((kr x.params yX).getD xR)with
   |none=>none
   |some (k,cA) =>
    if !dJ x.scheme Cy then none else
    match kr x.params vG with
    |none=>none
    |some bq =>
     match Ud x.params with
     |none=>none
     |some q=>some ⟨k,bA aK,bA bq,bA ((kr x.params mi).getD []),cA,bA q,dJ ((kr x.params AK).getD []) lS,(Ho ((kr x.params qT).getD [])).map bA⟩from rfl)
 obtain⟨av,cv,hv⟩:=hp.form;subst hv;obtain⟨w2,eE⟩:∃w2,w2=(w.alloc (.cells #[.string (bA x.scheme),.string (bA x.token),.slice av x.params.length cv] 198)).alloc (.cells gQ 112):=⟨_,rfl⟩;have ML:w2.heap.size=w.heap.size+2:=by rw[eE];simp
 have K0:RY w x (.slice av x.params.length cv) w2:=by
  have f1:Fr aS (w.alloc (.cells #[.string (bA x.scheme),.string (bA x.token),.slice av x.params.length cv] 198)) w2:=by rw[eE];exact(ae _ _).alloc _
  refine⟨f1.keep (aC w _) id,?_,((ae aS w).alloc _).trans f1⟩;rw[eE];have:=aC (w.alloc (.cells #[.string (bA x.scheme),.string (bA x.token),.slice av x.params.length cv] 198)) (.cells gQ 112);simpa using this
 have nI:=O eE;clear hp hz td eE;generalize Nl:Value.slice av x.params.length cv=pv at *
 clear Nl;go_enter func114,ntmps114;go_wp2_with fail
 rw[<-nI.o];refine(GET.o vF w2 ag K0.fr).mono ?_;rintro e u1⟨rfl,hf⟩;have K1:=K0.next hf;have ui:w.heap.size+1<u1.heap.size:=by have:=hf.size;omega
 clear hf;cases hre:kr x.params vF with
 |none =>
  go_wp2_with (first|((with_reducible refine cW 112 ?_);refine aF rfl 112 (.tmp 2) (.tmp 27) rfl (w.heap.size+1) gQ rfl rfl _ gQ K1.res af rfl ry ?_)|fail)
  refine aU (results_cell_tmp bC _ _ (w.heap.size+1) 112 gQ (0,0) _ rfl (aY u1 (w.heap.size+1) _ _ _ _ K1.res) underlying112 rfl af) rfl ?_;exact ky.no (by rw[HK.o,hre]) ((K1.fr).setRow (fun h=>absurd h ab) _)
 |some aK =>
  have mN:=O (show nd x=_ by rw[HK.o,hre]);simp only at mN;clear HK hre;have x0:=K1.Bi.cell0;have x1:=K1.Bi.h_;have x2:=K1.Bi.lT;have ir:=fun W=>run_storeCells_new (P:=prog) W 112 gQ [.int .i64 1,.string (bA aK),.string ⟨#[]⟩,.string ⟨#[]⟩,.bool false,.string ⟨#[]⟩,.bool false,.slice none 0 0] rfl (by intro u hu;simp at hu;rcases hu with rfl|rfl|rfl|rfl|rfl|rfl|rfl|rfl<;>rfl)
  obtain⟨u2,nu⟩:∃u2,u2=u1.alloc (.cells #[.int .i64 1,.string (bA aK),.string ⟨#[]⟩,.string ⟨#[]⟩,.bool false,.string ⟨#[]⟩,.bool false,.slice none 0 0] 112):=⟨_,rfl⟩;have hf:Fr aS u1 u2:=by rw[nu];exact(ae _ _).alloc _
  have K2:=K1.next hf;have A2:fT u2 u1.heap.size {js with scheme:=1,aK:=bA aK}:=by rw[nu];exact aC _ _
  have x0a:∀o:Obj,(u1.alloc o).cell? ⟨w.heap.size,0,none⟩=some (.string (bA x.scheme)):=fun o=>(K1.Bi.fr ((ae aS u1).alloc o) id).cell0;have tI:=O nu;generalize hA:u1.heap.size=A at *
  clear nu;go_wp2_with fail
  rw[<-tI.o];refine(SMB.o Hm u2 ag).mono ?_;rintro e u3⟨rfl,iz⟩;have K3:=K2.next iz;have A3:fT u3 A {js with scheme:=1,aK:=bA aK}:=iz.keep A2 id;have hA3:A<u3.heap.size:=bj A3;clear x0 x1 x2 x0a ir A2 K2 iz;cases hbs:dJ x.scheme Hm with
  |true =>
   have yL:(prog.info? 112).map (·.size)=some ({js with scheme:=1,aK:=bA aK}).cells.toArray.size:=af;have Bj:u3.heap[A]?=some (.cells ({js with scheme:=1,aK:=bA aK}).cells.toArray 112 (0,0)):=A3;have Zs:=IL ({js with scheme:=1,aK:=bA aK}) rfl
   go_wp2_with (first|((with_reducible refine di 33 ?_);refine aH rfl 112 (.tmp 6) rfl A rfl _ ({js with scheme:=1,aK:=bA aK}).cells.toArray (0,0) _ Bj underlying112 rfl yL ?_)|((with_reducible refine cW 112 ?_);refine aF rfl 112 (.tmp 2) (.tmp 33) rfl (w.heap.size+1) ({js with scheme:=1,aK:=bA aK}).cells.toArray rfl rfl _ gQ K3.res yL rfl Zs ?_)|fail)
   refine aU (results_cell_tmp bC _ _ (w.heap.size+1) 112 ({js with scheme:=1,aK:=bA aK}).cells.toArray (0,0) _ rfl (aY u3 (w.heap.size+1) _ _ _ _ K3.res) underlying112 rfl yL) rfl ?_;exact ky.yes (by rw[mN.o,az hbs]) ((K3.fr).setRow (fun h=>absurd h ab) _) ⟨rfl,rfl,rfl,rfl,rfl,rfl,rfl,kU _ _⟩
  |false =>
   rw[hbs]at mN;clear hbs;have x0:=K3.Bi.cell0;have x1:=K3.Bi.h_;have x2:=K3.Bi.lT;go_wp2_with fail
   refine(GET.o yX u3 ag K3.fr).mono ?_;rintro e u4⟨rfl,hf⟩;have K4:=K3.next hf;have A4:fT u4 A {js with scheme:=1,aK:=bA aK}:=hf.keep A3 id;clear x0 x1 x2 A3 K3 hf
   go_upto_if 40 with fail
   go_cut [5,7] (fun _ s7 wz=>s7=.string (bA ((kr x.params yX).getD xR))/\u4=wz)
   case first =>
    cases Ch:kr x.params yX with
    |none =>
     go_wp2_with fail
     go_meet
     rw[Ch];exact⟨rfl,rfl⟩
    |some v =>
     go_wp2_with fail
     go_meet
     rw[Ch];exact⟨rfl,rfl⟩
   case rest =>
   obtain⟨rfl,rfl⟩:=hcut;have HNL:=O (aal.o yX);have rR:(bA ((kr x.params yX).getD xR)).size<17592186044416:=by
    show((kr x.params yX).getD xR).length<_;cases hg:kr x.params yX with
    |none=>decide
    |some v =>
     have h:=HNL.o;rw[hg]at h;have:v.length<=99999:=h;show v.length<_;omega
   generalize (kr x.params yX).getD xR=alg at *
   have a0:=A4.cell (i:=0) rfl;have f0:=A4.free 0;go_wp2_with fail
   refine(Ft (bA alg) u4 rR).mono ?_;rintro e u5⟨rfl,hf⟩;rw[fU];have K5:=K4.next hf;have A5:fT u5 A {js with scheme:=1,aK:=bA aK}:=hf.keep A4 id;have IM:w.heap.size+1<A:=ui;clear A4 K4 hf HNL rR a0 f0;cases har:Ub alg with
   |none =>
    have HE:=O (show nd x=none by rw[mN.o,har];rfl);have hv0:Oc alg=.tuple #[.int .i64 0,.bool false,.bool false]:=by unfold Oc;rw[har]
    rw[hv0];have K6:=(K5.set (i:=0) (u:=.int .i64 0) IM).set (i:=4) (u:=.bool false) IM;have a0:=A5.cell (i:=0) rfl;have f0:=A5.free 0;have A5b:=A5.set (r':={js with scheme:=0,aK:=bA aK}) 0 (.int .i64 0) rfl;have a4:=A5b.cell (i:=4) rfl;have f4:=A5b.free 4
    go_wp2_with (first|((with_reducible refine cW 112 ?_);refine aF rfl 112 (.tmp 2) (.tmp 57) rfl (w.heap.size+1) gQ rfl rfl _ gQ K6.res af rfl ry ?_)|fail)
    refine aU (results_cell_tmp bC _ _ (w.heap.size+1) 112 gQ (0,0) _ rfl (aY _ (w.heap.size+1) _ _ _ _ K6.res) underlying112 rfl af) rfl ?_;exact ky.no (by exact HE.o) ((K6.fr).setRow (fun h=>absurd h ab) _)
   |some q =>
    obtain⟨k,cA⟩:=q;have hv0:Oc alg=.tuple #[.int .i64 k,.bool cA,.bool true]:=by unfold Oc;rw[har]
    rw[hv0];rw[har]at mN;simp only at mN;have K6:=(K5.set (i:=0) (u:=.int .i64 k) IM).set (i:=4) (u:=.bool cA) IM;have a0:=A5.cell (i:=0) rfl;have f0:=A5.free 0;have A5b:=A5.set (r':={js with scheme:=k,aK:=bA aK}) 0 (.int .i64 k) rfl;have a4:=A5b.cell (i:=4) rfl;have f4:=A5b.free 4;have A6:=A5b.set (r':={js with scheme:=k,aK:=bA aK,cA:=cA}) 4 (.bool cA) rfl;have x0:=K6.Bi.cell0;clear hv0 har
    go_wp2_with fail
    clear a0 f0 a4 f4 A5b A5 K5;generalize (u5.setCell ⟨A,0,none⟩ (.int .i64 k)).setCell ⟨A,4,none⟩ (.bool cA)=u6 at *
    refine(SMB.o Cy u6 ag).mono ?_;rintro e u7⟨rfl,hf⟩;have K7:=K6.next hf;have A7:fT u7 A {js with scheme:=k,aK:=bA aK,cA:=cA}:=hf.keep A6 id;clear A6 K6 hf x0;cases hds:dJ x.scheme Cy with
    |false =>
     have HE:=O (show nd x=none by rw[mN.o,hds];rfl);go_wp2_with (first|((with_reducible refine cW 112 ?_);refine aF rfl 112 (.tmp 2) (.tmp 57) rfl (w.heap.size+1) gQ rfl rfl _ gQ K7.res af rfl ry ?_)|fail)
     refine aU (results_cell_tmp bC _ _ (w.heap.size+1) 112 gQ (0,0) _ rfl (aY u7 (w.heap.size+1) _ _ _ _ K7.res) underlying112 rfl af) rfl ?_;exact ky.no (by exact HE.o) ((K7.fr).setRow (fun h=>absurd h ab) _)
    |true =>
     rw[hds]at mN;have x0:=K7.Bi.cell0;have x1:=K7.Bi.h_;have x2:=K7.Bi.lT;go_wp2_with fail
     refine(GET.o vG u7 ag K7.fr).mono ?_;rintro e u8⟨rfl,hf⟩;have K8:=K7.next hf;have A8:fT u8 A {js with scheme:=k,aK:=bA aK,cA:=cA}:=hf.keep A7 id;have a2:=A8.cell (i:=2) rfl;have f2:=A8.free 2;clear A7 K7 hf x0 x1 x2;cases Li:kr x.params vG with
     |none =>
      have HE:=O (show nd x=none by rw[mN.o,Li];rfl);have K9:=K8.set (i:=2) (u:=.string (bA [])) IM;go_wp2_with (first|((with_reducible refine cW 112 ?_);refine aF rfl 112 (.tmp 2) (.tmp 66) rfl (w.heap.size+1) gQ rfl rfl _ gQ K9.res af rfl ry ?_)|fail)
      refine aU (results_cell_tmp bC _ _ (w.heap.size+1) 112 gQ (0,0) _ rfl (aY _ (w.heap.size+1) _ _ _ _ K9.res) underlying112 rfl af) rfl ?_;exact ky.no (by exact HE.o) ((K9.fr).setRow (fun h=>absurd h ab) _)
     |some bq =>
      rw[Li]at mN;simp only[Bool.not_true,cJ,eW]at mN;have K9:=K8.set (i:=2) (u:=.string (bA bq)) IM;have A9:=A8.set (r':={js with scheme:=k,aK:=bA aK,bq:=bA bq,cA:=cA}) 2 (.string (bA bq)) rfl;have x0:=K9.Bi.cell0;have x1:=K9.Bi.h_;have x2:=K9.Bi.lT;go_wp2_with fail
      clear a2 f2 A8 K8 x0 x1 x2;generalize u8.setCell ⟨A,2,none⟩ (.string (bA bq))=u9 at *
      refine(GET.o J8 u9 ag K9.fr).mono ?_;rintro e u10⟨rfl,hf⟩;have K10:=K9.next hf;have A10:fT u10 A {js with scheme:=k,aK:=bA aK,bq:=bA bq,cA:=cA}:=hf.keep A9 id;have avR:A<u10.heap.size:=bj A10;have HQP:=O (show Ud x.params=match kr x.params J8 with|none=>some []|some q=>Uc q from rfl);clear A9 K9 hf
      go_upto_if 72 with fail
      go_cut [8,9,10,11,12,13]from 67 to 96 (fun _ _ _ _ _ _ wz=>aeG w x pv A {js with scheme:=k,aK:=bA aK,bq:=bA bq,cA:=cA} wz)
      case first =>
       have HQL:=O (aal.o J8);cases hq:kr x.params J8 with
       |none =>
        go_wp2_with fail
        go_meet
        exact⟨[],by rw[HQP.o,hq],K10,A10⟩
       |some q =>
        rw[hq]at HQP HQL;simp only[Option.getD_some]at HQP HQL;have hql:(bA q).size<4398046511104:=by
         have h:q.length<=99999:=HQL.o;show q.length<_;omega
        have LI:=O (J7 (bA q) u10 hql);clear hql;go_wp2_with fail
        refine LI.o.mono ?_;intro e V7 hlp;rcases aak q with ⟨ws,yn,EO,hqo⟩|⟨Li,hqo⟩
        case inr =>
         obtain⟨lv,lt,lx,rfl,hf⟩:=hlp.aeE (by rw[fU];exact Li);have HE:=O (show nd x=none by rw[mN.o,HQP.o,hqo]);have K11:=K10.next hf;clear hlp Li hqo;go_wp2_with (first|((with_reducible refine cW 112 ?_);refine aF rfl 112 (.tmp 2) (.tmp 80) rfl (w.heap.size+1) gQ rfl rfl _ gQ K11.res af rfl ry ?_)|fail)
         refine aU (results_cell_tmp bC _ _ (w.heap.size+1) 112 gQ (0,0) _ rfl (aY V7 (w.heap.size+1) _ _ _ _ K11.res) underlying112 rfl af) rfl ?_;exact ky.no (by exact HE.o) ((K11.fr).setRow (fun h=>absurd h ab) _)
        case inl =>
         obtain⟨lv,rfl,hlv,hf⟩:=hlp.isOk (ws:=ws) (by rw[fU];exact yn) EO;have K11:=K10.next hf;have A11:fT V7 A {js with scheme:=k,aK:=bA aK,bq:=bA bq,cA:=cA}:=hf.keep A10 id;have ash:=hf.size;have HWZ:=O (show∀y∈dU ws,y.size<17592186044416 from fun y hy=>by
          obtain⟨w0,V8,rfl⟩:=b_.1 hy;have h1:=GL _ _ _ yn w0 V8;have h2:q.length<=99999:=HQL.o;show w0.length<_;omega)
         have HQO:=O (show Ud x.params=if(qK ws 2).isEmpty then none else some (qK ws 2)by rw[HQP.o,hqo,aeF]);clear hlp yn hqo hf A10 K10;obtain⟨u12,aam⟩:∃u12,u12=V7.alloc (.cells #[.string (bA qi),.string (bA mh)] 9):=⟨_,rfl⟩;have hf:Fr aS V7 u12:=by rw[aam];exact(ae _ _).alloc _
         have ao4:u12.heap[V7.heap.size]?=some (.cells #[.string (bA qi),.string (bA mh)] 9 (0,0)):=by rw[aam];exact aC _ _
         have K12:=K11.next hf;have A12:fT u12 A {js with scheme:=k,aK:=bA aK,bq:=bA bq,cA:=cA}:=hf.keep A11 id;have ajm:=hlv.fr hf (fun _ h=>h.elim);have ao5:=O aam;obtain⟨la,lc,hle⟩:=ajm.form;have hAB:A<V7.heap.size:=ab;clear aam hf A11 K11 hlv;subst hle;go_wp2_with fail
         rw[show V7.alloc (.cells #[.string ⟨#[97,117,116,104,45,105,110,116]⟩,.string ⟨#[97,117,116,104]⟩] 9)=u12 from ao5.o.symm];go_loopw[83] (ajh w x pv A {js with scheme:=k,aK:=bA aK,bq:=bA bq,cA:=cA} ws u12) (fun t _=>2-(intOf t).toNat)
         case atStart=>exact⟨0,ab,rfl,K12,A12,ae _ _⟩
         case round =>
          obtain⟨m,hm,rfl,K13,A13,cL⟩:=hrel;have hAr:A<wr.heap.size:=bj A13;have hbr:=cL.keep ao4 (fun e=>by have e':V7.heap.size=A:=e;omega);have hlr:=ajm.fr cL (fun j e=>by have e':j=A:=e;omega);have c0:wr.cell? ⟨V7.heap.size,0,none⟩=some (.string (bA qi)):=by simp[World.cell?,hbr]
          have c1:wr.cell? ⟨V7.heap.size,1,none⟩=some (.string (bA mh)):=by simp[World.cell?,hbr]
          have LJ:∀n:Bs,n.length<=8->∃wn,wn=wr.alloc (.cells #[.string (bA n)] 9)/\IK wn wr.heap.size (bA n)/\Fr aS wr wn/\aB 175 #[.slice la (dU ws).length lc,.func (.func 176) #[] #[.pointer (some ⟨wr.heap.size,0,none⟩)]] wn fun e w'=>e=.returned (.bool (ws.any fun y=>dJ y n))/\Fr aS wn w':=by
           intro n hn;have Gg:Fr aS wr (wr.alloc (.cells #[.string (bA n)] 9)):=(ae _ _).alloc _;have hb:=aC wr (.cells #[.string (bA n)] 9);refine⟨_,rfl,hb,Gg,?_⟩;have h:=aah (bA n) wr.heap.size _ (dU ws) _ (hlr.fr Gg (fun _ h=>h.elim)).at (by rw[pG];omega) hb (by show n.length<_;omega) HWZ.o;rw[RZ]at h;exact h
          rcases(show m=0\/m=1\/m=2 from ab)with rfl|rfl|rfl
          case inl =>
           obtain⟨wn,X9,Dj,Gg,CF⟩:=LJ qi ag;have HWN:=O X9;have PF:wn.cell? ⟨wr.heap.size,0,none⟩=some (.string (bA qi)):=by simp[World.cell?,show wn.heap[wr.heap.size]?=_ from Dj]
           clear LJ X9;go_wp2_with fail
           rw[<-HWN.o];refine CF.mono ?_;rintro e w14⟨rfl,tB⟩;have K14:=(K13.next Gg).next tB;have A14:fT w14 A {js with scheme:=k,aK:=bA aK,bq:=bA bq,cA:=cA,eH:=bA (qK ws 0)}:=tB.keep (Gg.keep A13 id) id;have V9:=O ((cL.trans Gg.nj).trans tB.nj);have Bk:w14.cell? ⟨wr.heap.size,0,none⟩=some (.string (bA qi)):=(tB.cell (p:=⟨wr.heap.size,0,none⟩) (bj Dj) id).trans PF;have a5:=A14.cell (i:=5) rfl
           have f5:=A14.free 5;cases jk:ws.any (fun y=>dJ y qi)
           case false =>
            have JC:=O (show qK ws 1=qK ws 0 by show(if ws.any (fun w=>dJ w qi)then qi else [])=[];rw[jk];rfl);go_wp2;go_roundw
            case rel=>exact⟨1,ab,bg,K14,by rw[JC.o];exact A14,V9.o⟩
            case measure=>simp[intOf]
           case true =>
            have JC:=O (show qK ws 1=qi by show(if ws.any (fun w=>dJ w qi)then qi else [])=_;rw[jk];rfl);have K15:=K14.set (i:=5) (u:=.string (bA qi)) IM;have A15:=A14.set (r':={js with scheme:=k,aK:=bA aK,bq:=bA bq,cA:=cA,eH:=bA qi}) 5 (.string (bA qi)) rfl;have aeK:=O (V9.o.setCell (p:=⟨A,5,none⟩) (fun _=>rfl) (.string (bA qi)));go_wp2;go_roundw
            case rel=>exact⟨1,ab,bg,K15,by rw[JC.o];exact A15,aeK.o⟩
            case measure=>simp[intOf]
          case inr.inl =>
           obtain⟨wn,X9,Dj,Gg,CF⟩:=LJ mh ag;have HWN:=O X9;have PF:wn.cell? ⟨wr.heap.size,0,none⟩=some (.string (bA mh)):=by simp[World.cell?,show wn.heap[wr.heap.size]?=_ from Dj]
           clear LJ X9;go_wp2_with fail
           rw[<-HWN.o];refine CF.mono ?_;rintro e w14⟨rfl,tB⟩;have K14:=(K13.next Gg).next tB;have A14:fT w14 A {js with scheme:=k,aK:=bA aK,bq:=bA bq,cA:=cA,eH:=bA (qK ws 1)}:=tB.keep (Gg.keep A13 id) id;have V9:=O ((cL.trans Gg.nj).trans tB.nj);have Bk:w14.cell? ⟨wr.heap.size,0,none⟩=some (.string (bA mh)):=(tB.cell (p:=⟨wr.heap.size,0,none⟩) (bj Dj) id).trans PF;have a5:=A14.cell (i:=5) rfl
           have f5:=A14.free 5;cases jk:ws.any (fun y=>dJ y mh)
           case false =>
            have JC:=O (show qK ws 2=qK ws 1 by show(if ws.any (fun w=>dJ w mh)then mh else qK ws 1)=_;rw[jk];rfl);go_wp2;go_roundw
            case rel=>exact⟨2,ab,bg,K14,by rw[JC.o];exact A14,V9.o⟩
            case measure=>simp[intOf]
           case true =>
            have JC:=O (show qK ws 2=mh by show(if ws.any (fun w=>dJ w mh)then mh else qK ws 1)=_;rw[jk];rfl);have K15:=K14.set (i:=5) (u:=.string (bA mh)) IM;have A15:=A14.set (r':={js with scheme:=k,aK:=bA aK,bq:=bA bq,cA:=cA,eH:=bA mh}) 5 (.string (bA mh)) rfl;have aeK:=O (V9.o.setCell (p:=⟨A,5,none⟩) (fun _=>rfl) (.string (bA mh)));go_wp2;go_roundw
            case rel=>exact⟨2,ab,bg,K15,by rw[JC.o];exact A15,aeK.o⟩
            case measure=>simp[intOf]
          case inr.inr =>
           have a5:=A13.cell (i:=5) rfl;clear LJ c0 c1;cases Ra:(qK ws 2).isEmpty
           case true =>
            have HE:=O (show nd x=none by rw[mN.o,HQO.o,Ra];rfl);have e1:(bA (qK ws 2)).toList=[]:=by rw[mQ];exact gF.1 Ra
            have e2:((bA (qK ws 2)).toList== [])=true:=dW.2 e1;go_wp2_with (first|((with_reducible refine cW 112 ?_);refine aF rfl 112 (.tmp 2) (.tmp 96) rfl (w.heap.size+1) gQ rfl rfl _ gQ K13.res af rfl ry ?_)|fail)
            refine aU (results_cell_tmp bC _ _ (w.heap.size+1) 112 gQ (0,0) _ rfl (aY wr (w.heap.size+1) _ _ _ _ K13.res) underlying112 rfl af) rfl ?_;exact ky.no (by exact HE.o) ((K13.fr).setRow (fun h=>absurd h ab) _)
           case false =>
            have e1:¬(bA (qK ws 2)).toList=[]:=by rw[mQ];intro e;rw[e]at Ra;cases Ra
            have e2:((bA (qK ws 2)).toList== [])=false:=aL.2 e1;go_wp2_with fail
            go_meet
            exact⟨qK ws 2,by rw[HQO.o,Ra];rfl,K13,A13⟩
      case rest =>
      obtain⟨q,hqp,K20,A20⟩:=hcut;have HE1:=O (show nd x=some ⟨k,bA aK,bA bq,bA ((kr x.params mi).getD []),cA,bA q,dJ ((kr x.params AK).getD []) lS,(Ho ((kr x.params qT).getD [])).map bA⟩by rw[mN.o,hqp]);clear mN hqp HQP K10 A10;have x0:=K20.Bi.cell0;have x1:=K20.Bi.h_;have x2:=K20.Bi.lT;go_wp2_with fail
      refine(GET.o mi wc ag K20.fr).mono ?_;rintro e u21⟨rfl,hf⟩;have K21:=K20.next hf;have A21:fT u21 A {js with scheme:=k,aK:=bA aK,bq:=bA bq,cA:=cA,eH:=bA q}:=hf.keep A20 id;clear x0 x1 x2 A20 K20 hf;generalize (kr x.params mi).getD []=op at *
      have a3:=A21.cell (i:=3) rfl;have f3:=A21.free 3;have K22:=K21.set (i:=3) (u:=.string (bA op)) IM;have A22:=A21.set (r':={js with scheme:=k,aK:=bA aK,bq:=bA bq,cy:=bA op,cA:=cA,eH:=bA q}) 3 (.string (bA op)) rfl;have x0:=K22.Bi.cell0;have x1:=K22.Bi.h_;have x2:=K22.Bi.lT;go_wp2_with fail
      clear a3 f3 A21 K21 x0 x1 x2;generalize u21.setCell ⟨A,3,none⟩ (.string (bA op))=u22 at *
      refine(GET.o AK u22 ag K22.fr).mono ?_;rintro e u23⟨rfl,hf⟩;have K23:=K22.next hf;have A23:fT u23 A {js with scheme:=k,aK:=bA aK,bq:=bA bq,cy:=bA op,cA:=cA,eH:=bA q}:=hf.keep A22 id;have HSL:=O (aal.o AK);generalize (kr x.params AK).getD []=st at *
      have MQ:(bA st).size<17592186044416:=by have h:st.length<=99999:=HSL.o;show st.length<_;omega
      have SMT:=O (mA (bA st) (bA lS) u23 MQ ag);rw[fU,fU]at SMT;clear MQ HSL A22 K22 hf;go_wp2_with fail
      refine SMT.o.mono ?_;rintro e u24⟨rfl,hf⟩;have K24:=K23.next hf;have A24:fT u24 A {js with scheme:=k,aK:=bA aK,bq:=bA bq,cy:=bA op,cA:=cA,eH:=bA q}:=hf.keep A23 id;have a6:=A24.cell (i:=6) rfl;have f6:=A24.free 6;have K25:=K24.set (i:=6) (u:=.bool (dJ st lS)) IM;have A25:=A24.set (r':={js with scheme:=k,aK:=bA aK,bq:=bA bq,cy:=bA op,cA:=cA,eH:=bA q,cN:=dJ st lS}) 6 (.bool (dJ st lS)) rfl
      have x0:=K25.Bi.cell0;have x1:=K25.Bi.h_;have x2:=K25.Bi.lT;clear SMT A23 K23 hf;go_wp2_with fail
      clear a6 f6 A24 K24 x0 x1 x2;generalize u24.setCell ⟨A,6,none⟩ (.bool (dJ st lS))=u25 at *
      refine(GET.o qT u25 ag K25.fr).mono ?_;rintro e u26⟨rfl,hf⟩;have K26:=K25.next hf;have A26:fT u26 A {js with scheme:=k,aK:=bA aK,bq:=bA bq,cy:=bA op,cA:=cA,eH:=bA q,cN:=dJ st lS}:=hf.keep A25 id;have HDL:=O (aal.o qT);generalize (kr x.params qT).getD []=d at *
      have avZ:A<u26.heap.size:=bj A26;have SP:=O (show aB 125 #[.string (bA d),.string ⟨#[32]⟩] u26 fun e w'=>e=.returned (.slice (some ⟨u26.heap.size,0,none⟩) (ec 32 d).length (ec 32 d).length)/\w'=u26.alloc (.cells (((ec 32 d).map bA).map Value.string).toArray 9)from by
       have h:=yf (bA d) 32 u26 (by have h:d.length<=99999:=HDL.o;show d.length<_;omega);rw[R7,ai]at h;exact h)
      obtain⟨Yh,xN⟩:=GM 32 d;clear hf A25 K25;go_wp2_with fail
      refine SP.o.mono ?_;rintro e u27⟨rfl,aeM⟩;have hf:Fr aS u26 u27:=by rw[aeM];exact(ae _ _).alloc _
      have X2:u27.heap[u26.heap.size]?=some (.cells (((ec 32 d).map bA).map Value.string).toArray 9 (0,0)):=by rw[aeM];exact aC _ _
      have K27:=K26.next hf;have A27:fT u27 A {js with scheme:=k,aK:=bA aK,bq:=bA bq,cy:=bA op,cA:=cA,eH:=bA q,cN:=dJ st lS}:=hf.keep A26 id;generalize hPb:u26.heap.size=Pb at *
      clear SP aeM hf A26 K26;go_wp2_with fail
      go_loopw[119] (ajg w x pv A Pb {js with scheme:=k,aK:=bA aK,bq:=bA bq,cy:=bA op,cA:=cA,eH:=bA q,cN:=dJ st lS} d) (fun t _=>(ec 32 d).length-(intOf t).toNat)
      case atStart=>exact⟨0,.slice none 0 0,aQ _,rfl,K27,A27,kU _ _,X2,fun j e=>by simp[Value.ownBlock]at e⟩
      case round =>
        obtain⟨m,v,hm,rfl,K30,A30,LK,Qj,hvP⟩:=hrel;have hAr:A<wr.heap.size:=bj A30;have hd:d.length<=99999:=HDL.o;by_cases hms:m<(ec 32 d).length
        case pos =>
         have hmi:(m:Int)<((ec 32 d).length:Int):=ab;have dT:=O (List.getElem?_eq_getElem hms);have EN:=xN _ (bN hms);generalize (ec 32 d)[m]=p at dT EN;have c0:wr.cell? ⟨Pb,m,none⟩=some (.string (bA p)):=by
          simp only[World.cell?,Qj];rw[List.getElem?_toArray,List.getElem?_map,List.getElem?_map,dT.o];rfl
         have HSU:=O (Oe dT.o);have HP:=O (show aB 177 #[.string (bA p),.string ⟨#[47]⟩] wr fun e w'=>e=.returned (.bool (M5 47 p))/\wr=w' from by
          have h:=strings_HasPrefix (bA p) ⟨#[47]⟩ wr;rw[fU,show(⟨#[47]⟩:aj).data.toList=[47]from rfl,ajf]at h;exact h.mono (fun e w' ⟨h1,h2⟩=>⟨h1,h2.symm⟩))
         go_wp2_with fail
         refine HP.o.mono ?_;rintro e w31⟨rfl,rfl⟩;clear HP c0;cases hpf:M5 47 p
         case false =>
          have aeQ:=O (show iR d (m+1)=iR d m by rw[HSU.o,hpf];simp);go_wp2;go_roundw
          case rel=>exact⟨m+1,v,ab,bg,K30,A30,by rw[aeQ.o];exact LK,Qj,hvP⟩
          case measure=>simp[intOf];omega
         case true =>
          have aeQ:=O (show(iR d (m+1)).map bA=(iR d m).map bA++[bA (oJ p)]by rw[HSU.o,hpf];simp);have Ff:=O (show∀U,aB 178 #[.string (bA p)] U fun e w'=>e=.returned (.string (bA (oJ p)))/\Fr aS U w' from fun U=>by
           have h:=Ro (bA p) U (by show p.length<_;omega);rw[fU]at h;exact h)
          obtain⟨va,vc,hve⟩:=LK.form;rw[ai]at hve;have hdl:=R2 d m;subst hve;have a7:wr.cell? ⟨A,7,none⟩=some (.slice va (iR d m).length vc):=A30.cell rfl;have f7:=A30.free 7;have hoA:(Value.slice va (iR d m).length vc).ownBlock≠some A:=fun e=>by
           obtain⟨cur,hc⟩:=LK.kind e;rw[show wr.heap[A]?=_ from A30]at hc;simp at hc
          have DY:=O (show∀U,Fr aS wr U->U.cell? ⟨A,7,none⟩=some (.slice va (iR d m).length vc)/\U.frozen? ⟨A,7,none⟩=false from fun U hU=>⟨(hU.cell (p:=⟨A,7,none⟩) hAr id).trans a7,(hU.frozen (p:=⟨A,7,none⟩) hAr id).trans f7⟩);obtain⟨i0,qA,po,k_,lp⟩:=info_parts yP;have hwr:w.heap.size<=wr.heap.size:=K30.fr.size;have apd:=O LK;clear LK hpf;go_wp2_with fail
          go_region_law (first
           |((with_reducible refine mP ⟨some 128,_,_,_,_,_⟩ ?_)
             refine AM rfl 178 _ (by go_simp) (Ff.o _) ?_
             rintro e w3⟨rfl,iz⟩
             refine⟨_,rfl,?_⟩
             have iA:Fr aS wr w3:=bF (by repeat(first|exact ae _ _|apply aA)) iz
             obtain⟨k3,l3⟩:=DY.o w3 iA
             have k3a:∀o:Obj,(w3.alloc o).cell? ⟨A,7,none⟩=some (.slice va (iR d m).length vc):=fun o=>(DY.o _ (iA.alloc o)).1
             have fu:=apd.o.fr iA (fun _ h=>h.elim)
             have tu:w.heap.size<=w3.heap.size:=aG hwr iA.size
             have V_:w3.ownsRow w.heap.size 9 1 (.slice va (iR d m).length vc) (iR d m).length (((iR d m).map bA).map Value.string):=by
               have hh:w3.ownsRow w.heap.size 9 1 (.slice va (iR d m).length vc) ((iR d m).map bA).length (((iR d m).map bA).map Value.string):=fu
               rw[ai]at hh
               exact hh
             clear iz)
           |((with_reducible refine mP ⟨some 130,_,_,_,_,_⟩ ?_)
             refine step_append_lies _ bC _ _ _ bC w.heap.size 9 i0 _ 1 16 underlying110 qA po k_ lp rfl ab (.slice va (iR d m).length vc) (iR d m).length _ bC (by repeat(first|exact V_|apply World.ownsRow.alloc|apply World.ownsRow.drew)) ⟨w3.heap.size,0,none⟩ 1 1 [.string (bA (oJ p))] bC bC (kR w3 [.string (bA (oJ p))] _) bW ab fx ab bI (w3.heap.size+1) aR ?_
             intro gg cap w4 fa jC Ux Lb
             have Iz:Fr (fun k=>(Value.slice va (iR d m).length vc).ownBlock=some k) w3 w4:=fq (by repeat(first|exact ae _ _|apply aA|apply bz)) jC (fun _ hk _=>hk)
             have hA3:A<w3.heap.size:=cP hAr iA.size
             have k4:w4.cell? ⟨A,7,none⟩=some (.slice va (iR d m).length vc):=(Iz.cell (p:=⟨A,7,none⟩) hA3 hoA).trans k3
             have e4:w4.frozen? ⟨A,7,none⟩=false:=(Iz.frozen (p:=⟨A,7,none⟩) hA3 hoA).trans l3))
          all_goals
           have BD:Strs w.heap.size w3 (.slice va (iR d m).length vc) ((iR d m).map bA):=fu;have K31:=(K30.next iA).own BD Iz;have A31:fT w4 A {{js with scheme:=k,aK:=bA aK,bq:=bA bq,cy:=bA op,cA:=cA,eH:=bA q,cN:=dJ st lS}with dom:=.slice va (iR d m).length vc}:=Iz.keep (iA.keep A30 id) hoA;have hPl:Pb<wr.heap.size:=bj Qj;have ajq:=Iz.keep (iA.keep Qj id) (fun e=>absurd (hvP Pb e) (Nat.lt_irrefl _))
           have hvg:Strs w.heap.size w4 (.slice (some ⟨gg,0,none⟩) ((iR d m).length+1) cap) ((iR d (m+1)).map bA):=by
            rw[aeQ.o];have e1:((iR d m).map bA++[bA (oJ p)]).length=(iR d m).length+1:=aR;unfold Strs;rw[e1,bG];exact fa
           have hfA:Fr (one A) w4 (w4.setCell ⟨A,7,none⟩ (.slice (some ⟨gg,0,none⟩) ((iR d m).length+1) cap)):=(ae (one A) w4).setCell (p:=⟨A,7,none⟩) (fun _=>rfl) _;have ape:=hvg.aaj hfA A31 ag;have K32:=K31.set (i:=7) (u:=.slice (some ⟨gg,0,none⟩) ((iR d m).length+1) cap) IM
           have A32:=A31.set (r':={{js with scheme:=k,aK:=bA aK,bq:=bA bq,cy:=bA op,cA:=cA,eH:=bA q,cN:=dJ st lS}with dom:=.slice (some ⟨gg,0,none⟩) ((iR d m).length+1) cap}) 7 (.slice (some ⟨gg,0,none⟩) ((iR d m).length+1) cap) rfl;have ajr:=hfA.keep ajq (fun e=>by have e':Pb=A:=e;omega);have apf:∀j,(Value.slice (some ⟨gg,0,none⟩) ((iR d m).length+1) cap).ownBlock=some j->Pb<j:=by
            intro j hj;simp only[Value.ownBlock,ez]at hj;subst hj;rcases Ux with e|e
            ·exact hvP _ e
            ·have:=iA.size;omega
           clear k4 e4 jC fa fu V_ Iz k3 k3a l3 DY;go_wp2;go_roundw
           case rel=>exact⟨m+1,_,ab,bg,K32,A32,ape,ajr,apf⟩
           case measure=>simp[intOf];omega
        case neg =>
         have hmi:¬(m:Int)<((ec 32 d).length:Int):=ab;have apg:=O LK;have Tt:=O (show iR d m=Ho d from R0 ab);have hvo:v.oneCell'=true:=by obtain⟨va,vc,hve⟩:=LK.form;rw[hve];rfl
         have HR0:=O K30.res;clear LK xN Yh;have yL:(prog.info? 112).map (·.size)=some ({{js with scheme:=k,aK:=bA aK,bq:=bA bq,cy:=bA op,cA:=cA,eH:=bA q,cN:=dJ st lS}with dom:=v}).cells.toArray.size:=af;have Bj:wr.heap[A]?=some (.cells ({{js with scheme:=k,aK:=bA aK,bq:=bA bq,cy:=bA op,cA:=cA,eH:=bA q,cN:=dJ st lS}with dom:=v}).cells.toArray 112 (0,0)):=A30
         have Zs:=IL ({{js with scheme:=k,aK:=bA aK,bq:=bA bq,cy:=bA op,cA:=cA,eH:=bA q,cN:=dJ st lS}with dom:=v}) hvo
         go_wp2_with (first|((with_reducible refine di 133 ?_);refine aH rfl 112 (.tmp 6) rfl A rfl _ ({{js with scheme:=k,aK:=bA aK,bq:=bA bq,cy:=bA op,cA:=cA,eH:=bA q,cN:=dJ st lS}with dom:=v}).cells.toArray (0,0) _ Bj underlying112 rfl yL ?_)|((with_reducible refine cW 112 ?_);refine aF rfl 112 (.tmp 2) (.tmp 133) rfl (w.heap.size+1) ({{js with scheme:=k,aK:=bA aK,bq:=bA bq,cy:=bA op,cA:=cA,eH:=bA q,cN:=dJ st lS}with dom:=v}).cells.toArray rfl rfl _ gQ K30.res yL rfl Zs ?_)|fail)
         refine aU (results_cell_tmp bC _ _ (w.heap.size+1) 112 ({{js with scheme:=k,aK:=bA aK,bq:=bA bq,cy:=bA op,cA:=cA,eH:=bA q,cN:=dJ st lS}with dom:=v}).cells.toArray (0,0) _ rfl (aY wr (w.heap.size+1) _ _ _ _ K30.res) underlying112 rfl yL) rfl ?_
         exact ky.yes (by rw[HE1.o]) ((K30.fr).setRow (fun h=>absurd h ab) _) ⟨rfl,rfl,rfl,rfl,rfl,rfl,rfl,by rw[<-Tt.o];exact apg.o.aaj ((ae (one (w.heap.size+1)) wr).setRow (fun _=>rfl) _) HR0.o ag⟩
