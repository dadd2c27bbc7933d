/- Lemmas for the law's walk. -/
import Derived.Test.YtjndhcngnghpiaaGreatDoorPo12
set_option maxRecDepth 100000
set_option maxHeartbeats 16000000
set_option linter.unusedSimpArgs false
namespace Go.Proofs.YtjndhcngnghpiaaGreatDoor
open Go.Proofs.Tryz
open Go.RowKit
variable {w w' U V:World} {b i base k:Nat} {r:fY Value} {u pv v:Value} {x:mZ} {ss:List ai} {d:Bs}
def OW(I:World->Prop)(g:Nat)(cap:bS)(p:ai->Bool)(ss:List ai):Prop :=
 ∀x,x∈ss->∀u,I u->aC g (#[.string x]++cap) u fun e u'=>e=.returned (.bool (p x))/\Fr aW u u'/\I u'
def amG(w:World)(I:World->Prop)(p:ai->Bool)(ss:List ai)(i:Value)(wr:World):Prop :=
 ∃k:Nat,k<=ss.length/\i=.int .i64 k/\(ss.take k).any p=false/\Fr aW w wr/\I wr
theorem DF(I:World->Prop)(g:Nat)(cap:bS)(p:ai->Bool)(v:Value)(ss:List ai)(w:World)(eg:∀args w,(callFunc g args).run prog w=.ok (.enter g args) w)(hI:I w)(hp:OW I g cap p ss)(hv:ib w v ss)(hl:ss.length<=maxLen) :
  aC 215 #[v,.func (.func g) #[] cap] w fun e w'=>e=.returned (.int .i64 (lH p ss 0))/\Fr aW w w'/\I w':=by
 unfold maxLen at hl;obtain⟨av,cv,fT⟩:=hv.form;subst fT;go_enter func215,ntmps215;go_wp2;go_loopw[8] (amG w I p ss) (fun i _=>ss.length-(intOf i).toNat)
 case atStart=>exact⟨0,aS _,rfl,rfl,ae _ _,hI⟩
 case round =>
  obtain⟨k,hk,rfl,hn,cN,hIr⟩:=hrel;have HN:=O hn;clear hn;by_cases fx:k<ss.length
  ·have hvr:=hv.iY cN;rcases hvr with ⟨_,_,_,e,_⟩|⟨bk,o,c,hf,h1,h2,h3,h4⟩
   ·rw[e]at fx;exact absurd fx (cq _)
   ·cases hf;have dL:=O (List.getElem?_eq_getElem fx);have hc:=h4 k _ dL.o;have gM:=O (bL fx);generalize ss[k]=x at dL hc gM;have fy:=O (hp x gM.o wr hIr);clear h4;cases qk:p x
    ·have pN:=O (any_take_succ dL.o HN.o qk);go_wp2_with fail
     refine fy.o.mono ?_;rintro e w1⟨rfl,dn,hI1⟩;rw[qk];go_wp2;go_roundw
     case rel=>exact⟨k+1,ab,bf,pN.o,cN.trans dn,hI1⟩
     case measure=>simp[intOf];omega
    ·have eX:=O (oF (i:=0) dL.o qk HN.o);go_wp2_with fail
     refine fy.o.mono ?_;rintro e w1⟨rfl,dn,hI1⟩;rw[qk];go_wp2;go_ret;rw[eX.o,bj];exact⟨rfl,cN.trans dn,hI1⟩
  ·have eX:=O (show lH p ss 0= -1 from j8 (by have h:=HN.o;rw[aD ab]at h;exact h));go_wp2;go_ret;rw[eX.o];exact⟨rfl,cN,hIr⟩
theorem zu(I:World->Prop)(g:Nat)(cap:bS)(p:ai->Bool)(v:Value)(ss:List ai)(w:World)(eg:∀args w,(callFunc g args).run prog w=.ok (.enter g args) w)(hI:I w)(hp:OW I g cap p ss)(hv:ib w v ss)(hl:ss.length<=maxLen) :
  aC 176 #[v,.func (.func g) #[] cap] w fun e w'=>e=.returned (.bool (ss.any p))/\Fr aW w w'/\I w':=by
 have hb:=O (ru p ss 0);go_enter func176,ntmps176;go_wp2_with fail
 refine(DF I g cap p v ss w eg hI hp hv hl).mono ?_;rintro e w1⟨rfl,dn,hI1⟩;go_wp2;go_ret;exact⟨ft hb.o,dn,hI1⟩
def M0(s:Bs):Value:=match Sw s with
 |some (k,b)=>.tuple #[.int .i64 k,.bool b,.bool true]
 |none=>.tuple #[.int .i64 0,.bool false,.bool false]
theorem Ez(s:ai)(w:World)(hs:s.size<17592186044416) :
  aC 174 #[.string s] w fun e w'=>e=.returned (M0 s.data.toList)/\Fr aW w w':=by
 have S1:=O (show∀U,aC 113 #[.string s,.string ⟨#[77,68,53]⟩] U fun e w'=>e=.returned (.bool (dG s.data.toList xC))/\Fr aW U w' from fun U=>ma s _ U hs ag);have S2:=O (show∀U,aC 113 #[.string s,.string ⟨#[77,68,53,45,115,101,115,115]⟩] U fun e w'=>e=.returned (.bool (dG s.data.toList (xC++yz)))/\Fr aW U w' from fun U=>ma s _ U hs ag)
 have S3:=O (show∀U,aC 113 #[.string s,.string ⟨#[83,72,65,45,50,53,54]⟩] U fun e w'=>e=.returned (.bool (dG s.data.toList Gn))/\Fr aW U w' from fun U=>ma s _ U hs ag);have S4:=O (show∀U,aC 113 #[.string s,.string ⟨#[83,72,65,45,50,53,54,45,115,101,115,115]⟩] U fun e w'=>e=.returned (.bool (dG s.data.toList (Gn++yz)))/\Fr aW U w' from fun U=>ma s _ U hs ag)
 have HV:=O (show M0 s.data.toList=if dG s.data.toList xC then .tuple #[.int .i64 2,.bool false,.bool true]else if dG s.data.toList (xC++yz)then .tuple #[.int .i64 2,.bool true,.bool true]
   else if dG s.data.toList Gn then .tuple #[.int .i64 3,.bool false,.bool true]else if dG s.data.toList (Gn++yz)then .tuple #[.int .i64 3,.bool true,.bool true]else .tuple #[.int .i64 0,.bool false,.bool false]by
  unfold M0 Sw;split
  ·rename_i k b h;split at h
   ·rename_i h1;cases h;rw[aA h1]
   rename_i h1;rw[ar h1];split at h
   ·rename_i h2;cases h;rw[aA h2]
   rename_i h2;rw[ar h2];split at h
   ·rename_i h3;cases h;rw[aA h3]
   rename_i h3;rw[ar h3];split at h
   ·rename_i h4;cases h;rw[aA h4]
   ·cases h
  ·rename_i h;split at h
   ·cases h
   rename_i h1;rw[ar h1];split at h
   ·cases h
   rename_i h2;rw[ar h2];split at h
   ·cases h
   rename_i h3;rw[ar h3];split at h
   ·cases h
   rename_i h4;rw[ar h4])
 generalize dG s.data.toList xC=b1 at *
 generalize dG s.data.toList (xC++yz)=b2 at *
 generalize dG s.data.toList Gn=b3 at *
 generalize dG s.data.toList (Gn++yz)=b4 at *
 obtain⟨w1,oT⟩:∃w1,w1=w.alloc (.cells #[.string ⟨#[77,68,53]⟩,.string ⟨#[83,72,65,45,50,53,54]⟩] 9):=⟨_,rfl⟩;have dn:Fr aW w w1:=by rw[oT];exact(ae _ _).alloc _
 have sJ:w1.heap[w.heap.size]?=some (.cells #[.string ⟨#[77,68,53]⟩,.string ⟨#[83,72,65,45,50,53,54]⟩] 9 (0,0)):=by rw[oT];exact aB _ _
 have HC:=O (show∀U,Fr aW w1 U->U.cell? ⟨w.heap.size,0,none⟩=some (.string ⟨#[77,68,53]⟩)/\U.cell? ⟨w.heap.size,1,none⟩=some (.string ⟨#[83,72,65,45,50,53,54]⟩)from fun U hU=>by
  have j1:=hU.keep sJ id;simp[World.cell?,j1])
 have PQ:=O oT;clear oT sJ;go_enter func174,ntmps174;go_wp2;rw[<-PQ.o];obtain⟨c0,c1⟩:=HC.o w1 (ae _ _);refine wp_loop_rounds 3 ?_;rw[rounds_succ];go_wp2_with fail
 refine(S1.o w1).mono ?_;rintro e u1⟨rfl,uY⟩;clear c0 c1;cases b1
 case true =>
  go_wp2
  go_ret3
  exact⟨by rw[HV.o];rfl,dn.trans uY⟩
 case false =>
  go_wp2_with fail
  refine(S2.o u1).mono ?_;rintro e u2⟨rfl,lD⟩;have fS:=O (uY.trans lD);cases b2
  case true =>
   go_wp2
   go_ret3
   exact⟨by rw[HV.o];rfl,dn.trans fS.o⟩
  case false =>
   obtain⟨c0,c1⟩:=HC.o u2 fS.o;go_wp2_with fail
   rw[rounds_succ];go_wp2_with fail
   refine(S3.o u2).mono ?_;rintro e u3⟨rfl,B8⟩;have ij:=O (fS.o.trans B8);clear c0 c1;cases b3
   case true =>
    go_wp2
    go_ret3
    exact⟨by rw[HV.o];rfl,dn.trans ij.o⟩
   case false =>
    go_wp2_with fail
    refine(S4.o u3).mono ?_;rintro e u4⟨rfl,M1⟩;have jH:=O (ij.o.trans M1);cases b4
    case true =>
     go_wp2
     go_ret3
     exact⟨by rw[HV.o];rfl,dn.trans jH.o⟩
    case false =>
     go_wp2_with fail
     rw[rounds_succ];go_wp2
     go_ret3
     exact⟨by rw[HV.o];rfl,dn.trans jH.o⟩
def Hc(w:World)(b:Nat)(n:ai):Prop:=w.heap[b]?=some (.cells #[.string n] 9 (0,0))
theorem M3(s n:ai)(b:Nat)(w:World)(h:Hc w b n)(hs:s.size<17592186044416)(hn:n.size<17592186044416) :
  aC 177 #[.string s,.pointer (some ⟨b,0,none⟩)] w fun e w'=>e=.returned (.bool (dG s.data.toList n.data.toList))/\Fr aW w w':=by
 have c0:w.cell? ⟨b,0,none⟩=some (.string n):=by simp[World.cell?,show w.heap[b]?=_ from h]
 go_enter func177,ntmps177;go_wp2_with fail
 refine(ma s n w hs hn).mono ?_;rintro e w1⟨rfl,hf⟩;go_wp2;go_ret;exact⟨rfl,hf⟩
theorem YC(n:ai)(b:Nat)(v:Value)(ss:List ai)(w:World)(hv:ib w v ss)(hl:ss.length<=1000)(hb:Hc w b n)(hn:n.size<17592186044416)(hz:∀x∈ss,x.size<17592186044416) :
  aC 176 #[v,.func (.func 177) #[] #[.pointer (some ⟨b,0,none⟩)]] w fun e w'=>e=.returned (.bool (ss.any fun x=>dG x.data.toList n.data.toList))/\Fr aW w w':=by
 refine(zu (fun u=>Hc u b n) 177 #[.pointer (some ⟨b,0,none⟩)] (fun x=>dG x.data.toList n.data.toList) v ss w call177 hb ?_ hv fl).mono ?_
 ·intro x hx u hu;refine(M3 x n b u hu (hz x hx) hn).mono ?_;rintro e u'⟨he,hf⟩;exact⟨he,hf,hf.keep hu id⟩
 ·rintro e w'⟨he,hf,_⟩;exact⟨he,hf⟩
def jb:fY Value:=⟨0,⟨#[]⟩,⟨#[]⟩,⟨#[]⟩,false,⟨#[]⟩,false,.slice none 0 0⟩
abbrev gG:bS:= #[.int .i64 0,.string ⟨#[]⟩,.string ⟨#[]⟩,.string ⟨#[]⟩,.bool false,.string ⟨#[]⟩,.bool false,.slice none 0 0]
theorem QG:∀v∈gG.toList,v.oneCell'=true:=dp
theorem qW:gG.all (·.oneCell')=true:=dp
theorem YD(r:fY Value)(h:r.dom.oneCell'=true):∀u∈r.cells,u.oneCell'=true:=by
 intro u hu;simp only[fY.cells,bu,cg,dS]at hu;rcases hu with rfl|rfl|rfl|rfl|rfl|rfl|rfl|rfl<;>first|rfl|exact h
theorem Hd(r:fY Value)(h:r.dom.oneCell'=true):r.cells.toArray.all (·.oneCell')=true:=bU (YD r h)
def fJ(w:World)(b:Nat)(r:fY Value):Prop:=w.heap[b]?=some (.cells r.cells.toArray 127 (0,0))
theorem fJ.cell(h:fJ w b r)(hu:r.cells[i]?=some u):w.cell? ⟨b,i,none⟩=some u:=by
 simp only[World.cell?,show w.heap[b]?=_ from h];simpa using hu
theorem fJ.free(h:fJ w b r)(i:Nat):w.frozen? ⟨b,i,none⟩=false:=by simp[World.frozen?,show w.heap[b]?=_ from h]
theorem fJ.set{r':fY Value}(h:fJ w b r)(i:Nat)(u:Value)(hr:r.cells.toArray.setIfInBounds i u=r'.cells.toArray):fJ (w.setCell ⟨b,i,none⟩ u) b r':=by
 unfold fJ;rw[b_ h i u,hr]
def j_(x:mZ)(w:World)(e:Ending)(w':World):Prop :=
 Fr aW w w'/\match mR x with
  |none=>e=.returned (.tuple #[.agg gG,.bool false])
  |some a=>∃r:fY Value,r.Reads (Strs w.heap.size w') a/\e=.returned (.tuple #[.agg r.cells.toArray,.bool true])
theorem j_.no(h:mR x=none)(hf:Fr aW w w'):j_ x w (.returned (.tuple #[.agg gG,.bool false])) w':=by
 refine⟨hf,?_⟩;rw[h]
theorem j_.yes{a:fY bE}(h:mR x=some a)(hf:Fr aW w w')(hr:r.Reads (Strs w.heap.size w') a):j_ x w (.returned (.tuple #[.agg r.cells.toArray,.bool true])) w':=by
 refine⟨hf,?_⟩;rw[h];exact⟨r,hr,rfl⟩
structure QH (w:World) (x:mZ) (pv:Value) (U:World):Prop where
 Ax:ks U w.heap.size (bA x.scheme) (bA x.token) pv
 res:U.heap[w.heap.size+1]?=some (.cells gG 127 (0,0))
 fr:Fr aW w U
theorem QH.next(h:QH w x pv U)(hf:Fr aW U V):QH w x pv V:=⟨h.Ax.fr hf id,hf.keep h.res id,h.fr.trans hf⟩
theorem QH.set(h:QH w x pv U)(hb:w.heap.size+1<b):QH w x pv (U.setCell ⟨b,i,none⟩ u):=by
 have hf:Fr (one b) U (U.setCell ⟨b,i,none⟩ u):=(ae (one b) U).setCell (p:=⟨b,i,none⟩) (fun _=>rfl) u;exact⟨h.Ax.fr hf (fun e=>by have e':w.heap.size=b:=e;omega),hf.keep h.res (fun e=>by have e':w.heap.size+1=b:=e;omega),h.fr.step hf (fun k hk e=>by have e':k=b:=e;omega)⟩
theorem Strs.kind{g:Nat}(h:Strs base w v ss)(hg:v.ownBlock=some g):∃cur,w.heap[g]?=some (.cells cur 9 (0,0)):=by
 rcases h.2 with ⟨hv,_⟩|⟨g',cap,cur,hv,_,hh,_⟩
 ·rw[hv]at hg;simp[Value.ownBlock]at hg
 ·rw[hv]at hg;simp[Value.ownBlock]at hg;subst hg;exact⟨cur,hh⟩
theorem Strs.off{S:dz}(h:Strs base w v ss)(hf:Fr S w w')(hS:∀k,v.ownBlock=some k->¬S k):Strs base w' v ss:=by
 obtain⟨h1,h2⟩:=h;refine⟨h1,?_⟩;rcases h2 with h2|⟨g,cap,cur,hv,hg,hh,r⟩
 ·exact Or.inl h2
 ·exact Or.inr ⟨g,cap,cur,hv,hg,hf.keep hh (hS g (by rw[hv];rfl)),r⟩
theorem Strs.YE{cs:bS}{t:TypeId}{f:Nat×Nat}(h:Strs base w v ss)(hf:Fr (one b) w w')(hb:w.heap[b]?=some (.cells cs t f))(ht:t≠9):Strs base w' v ss :=
 h.off hf (fun k hk e=>by
  obtain rfl:k=b:=e;obtain⟨cur,hc⟩:=h.kind hk;rw[hc]at hb;cases hb;exact ht rfl)
theorem QH.own(h:QH w x pv U)(hv:Strs w.heap.size U v ss)(hf:Fr (fun k=>v.ownBlock=some k) U V):QH w x pv V:=by
 have hn:∀ {b:Nat} {cs:bS} {t:TypeId} {f:Nat×Nat},U.heap[b]?=some (.cells cs t f)->t≠9->¬v.ownBlock=some b:=by
  intro b cs t f hb ht e;obtain⟨cur,hc⟩:=hv.kind e;rw[hc]at hb;cases hb;exact ht rfl
 exact⟨h.Ax.fr hf (hn h.Ax ag),hf.keep h.res (hn h.res ag),h.fr.step hf (fun k hk e=>by have:=hv.block k e;omega)⟩
theorem UI{ps:List jh}{n v:Bs}(h:j5 ps n=some v):∃p∈ps,v=p.2:=by
 unfold j5 at h;obtain⟨p,hp,rfl⟩:=Option.map_eq_some_iff.1 h;exact⟨p,List.mem_of_find?_eq_some hp,rfl⟩
theorem YF(l:aH):(∃ws,gP l=.ok ws/\ws.length<=40/\Sx l=N4 ws)\/((∀ws,gP l=.ok ws->40<ws.length)/\Sx l=none):=by
 unfold Sx;cases h:gP l with
 |ok ws =>
  by_cases hn:ws.length<=40
  ·exact Or.inl ⟨ws,rfl,hn,ar ab⟩
  ·refine Or.inr ⟨fun ws' h'=>?_,aA ab⟩;cases h';omega
 |error m=>exact Or.inr ⟨fun ws' h'=>(by cases h'),rfl⟩
theorem jg.acP{s:ai}{e:Ending}(h:jg s w e w')(hl:∀ws,gP s.data.toList=.ok ws->40<ws.length) :
  ∃v t x,e=.returned (.tuple #[v,.iface t x])/\Fr aW w w':=by
 obtain⟨v,er,he,hf,hm⟩:=h;cases hr:gP s.data.toList with
 |ok ws =>
  rw[hr]at hm;have LL:if 40<ws.length then v=.slice none 0 0/\EG w' er (some (4,none))else Strs w.heap.size w' v (dM ws)/\er=.nilIface:=hm
  rw[aA (hl ws hr)]at LL;obtain⟨_,hv⟩:=LL;exact⟨v,_,_,by rw[he,show er=_ from hv],hf⟩
 |error m =>
  rw[hr]at hm;obtain⟨_,g,hv,_⟩:=hm;exact⟨v,_,_,by rw[he,hv],hf⟩
theorem FN:∀(f:Nat) (r:Bs) (ws:List Bs),lF f r=.ok ws->∀w∈ws,w.length<=r.length
 |0,r,ws,h,w,hw=>by rw[lF]at h;cases h;cases hw
 |f+1,r,ws,h,w,hw=>by
  rw[lF]at h;have h1:=pO dH r;have h2:=pO fM (r.dropWhile dH);have h3:=pO dH ((r.dropWhile dH).dropWhile fM);have h4:=px fM (r.dropWhile dH);have dX:∀u∈(if((r.dropWhile dH).takeWhile fM).isEmpty then []else [(r.dropWhile dH).takeWhile fM]),u.length<=r.length:=by
   intro u hu;split at hu
   ·cases hu
   ·simp at hu;subst hu;omega
  cases e:((r.dropWhile dH).dropWhile fM).dropWhile dH with
  |nil =>
   rw[e]at h;simp only at h;cases h;exact dX w hw
  |cons c r4 =>
   rw[e]at h h3;simp only at h;split at h
   ·cases hr:lF f r4 with
    |error m=>rw[hr]at h;cases h
    |ok w2 =>
     rw[hr]at h;cases h;rcases bP.1 hw with g|g
     ·exact dX w g
     ·have:=FN f r4 w2 hr w g;simp at h3;omega
   ·cases h
def qK(ws:List Bs):Nat->Bs
 |0=>[]
 |1=>if ws.any (fun w=>dG w pR)then pR else []
 |_=>if ws.any (fun w=>dG w lR)then lR else if ws.any (fun w=>dG w pR)then pR else []
theorem acQ(ws:List Bs):N4 ws=if(qK ws 2).isEmpty then none else some (qK ws 2):=by
 unfold N4 qK;cases ws.any (fun w=>dG w lR)<;>cases ws.any (fun w=>dG w pR)<;>rfl
theorem QI(ws:List Bs)(n:Bs):((dM ws).any fun x=>dG x.data.toList (bA n).data.toList)=ws.any fun w=>dG w n:=by
 unfold dM;rw[List.any_map,fK];rfl
def iA(d:Bs)(k:Nat):List Bs:=(((dU 32 d).take k).filter fun p=>LH 47 p).map ov
theorem ahi(l:Bs):Lib.hasPrefix l [47]=LH 47 l:=by
 cases l with
 |nil=>rfl
 |cons c l =>
  rw[eV];simp[Lib.hasPrefix,LH];exact eq_comm
def ahj(w:World)(x:mZ)(pv:Value)(A Pb:Nat)(a:fY Value)(d:Bs)(t:Value)(wr:World):Prop :=
 ∃(k:Nat) (v:Value),k<=(dU 32 d).length/\t=.int .i64 k/\QH w x pv wr/\fJ wr A {a with dom:=v}/\Strs w.heap.size wr v ((iA d k).map bA)/\wr.heap[Pb]?=some (.cells (((dU 32 d).map bA).map Value.string).toArray 9 (0,0))/\∀j,v.ownBlock=some j->Pb<j
theorem M4{p:Bs}(h:(dU 32 d)[k]?=some p):iA d (k+1)=iA d k++(if LH 47 p then [ov p]else []):=by
 unfold iA;rw[ct,h];simp only[Option.toList_some,cE,bD]
 congr 1
 rw[List.filter_cons];split<;>rfl
theorem QJ(h:(dU 32 d).length<=k):iA d k=Gp d:=by unfold iA Gp;rw[aD h]
theorem QK(d:Bs)(k:Nat):(iA d k).length<=k:=by
 unfold iA;rw[aj];have h:=bR (fun p=>LH 47 p) ((dU 32 d).take k);rw[aL]at h;omega
theorem FO(c:UInt8):∀d:Bs,(dU c d).length<=d.length+1/\∀p∈dU c d,p.length<=d.length
 |[]=>⟨by simp[dU],by simp[dU]⟩
 |x :: d=>by
  obtain⟨h1,h2⟩:=FO c d;unfold dU;split
  ·refine⟨bF,fun p hp=>?_⟩;rcases bu.1 hp with rfl|g
   ·simp
   ·have:=h2 p g;simp;omega
  ·cases e:dU c d with
   |nil=>exact⟨aQ,fun p hp=>by simp at hp;subst hp;simp⟩
   |cons q qs =>
    rw[e]at h1 h2;refine⟨by simp at h1 ⊢; omega,fun p hp=>?_⟩;rcases bu.1 hp with rfl|g
    ·have:=h2 q (cR ..);simp;omega
    ·have:=h2 p (bO _ g);simp;omega
theorem QL(c:UInt8)(d:Bs):iJ c (bA d)=(dU c d).map bA:=by
 unfold iJ;rw[fK];rfl
def ahk(w:World)(x:mZ)(pv:Value)(A:Nat)(a:fY Value)(ws:List Bs)(W:World)(t:Value)(wr:World):Prop :=
 ∃k:Nat,k<=2/\t=.int .i64 k/\QH w x pv wr/\fJ wr A {a with eY:=bA (qK ws k)}/\Fr (one A) W wr
def acR(w:World)(x:mZ)(pv:Value)(A:Nat)(a:fY Value)(wz:World):Prop:=∃q,Sy x.params=some q/\QH w x pv wz/\fJ wz A {a with eY:=bA q}
theorem QM(x:mZ)(pv:Value)(w:World)(hp:lz w pv x.params)(hz:x.Fit) :
  aC 121 #[.agg #[.string (bA x.scheme),.string (bA x.token),pv]] w (j_ x w):=by
 have nI:OS x.params:=⟨by have:=hz.rf;omega,fun p hq=>by have:=hz.yH p hq;omega⟩;have asR:(bA x.scheme).size<=100000:=hz.scheme;have HZ:=O hz
 have GET:=O (show∀(n:Bs) U,n.length<1000->Fr aW w U->aC 173 #[.agg #[.string (bA x.scheme),.string (bA x.token),pv],.string (bA n)] U fun e w'=>e=.returned (.tuple #[.string (bA ((j5 x.params n).getD [])),.bool (j5 x.params n).isSome])/\Fr aW U w' from fun n U hn hU=>by
  have:=Yl (bA x.scheme) (bA x.token) pv x.params (bA n) U (bG hp hU) nI (by show n.length<_;omega);rw[fK]at this;exact this)
 have YG:=O (show∀n,((j5 x.params n).getD []).length<=99999 from fun n=>by
  cases h:j5 x.params n with
  |none=>simp
  |some v =>
   obtain⟨p,hpm,rfl⟩:=UI h;exact(hz.yH p hpm).2)
 have SMB:=O (show∀(n:Bs) U,n.length<1000->aC 113 #[.string (bA x.scheme),.string (bA n)] U fun e w'=>e=.returned (.bool (dG x.scheme n))/\Fr aW U w' from fun n U hn=>by
  have:=ma (bA x.scheme) (bA n) U ab (by show n.length<_;omega);rw[fK,fK]at this;exact this)
 have HK:=O (show mR x=match j5 x.params vr with
  |none=>none
  |some aP =>
   if dG x.scheme Gm then some ⟨1,bA aP,bA [],bA [],false,bA [],false,[]⟩else
   match Sw ((j5 x.params yy).getD xC)with
   |none=>none
   |some (k,cD) =>
    if !dG x.scheme BS then none else
    match j5 x.params vt with
    |none=>none
    |some bz =>
     match Sy x.params with
     |none=>none
     |some q=>some ⟨k,bA aP,bA bz,bA ((j5 x.params lS).getD []),cD,bA q,dG ((j5 x.params Aa).getD []) lG,(Gp ((j5 x.params qA).getD [])).map bA⟩from rfl)
 obtain⟨av,cv,hv⟩:=hp.form;subst hv;obtain⟨w2,ez⟩:∃w2,w2=(w.alloc (.cells #[.string (bA x.scheme),.string (bA x.token),.slice av x.params.length cv] 208)).alloc (.cells gG 127):=⟨_,rfl⟩;have Ci:w2.heap.size=w.heap.size+2:=by rw[ez];simp
 have K0:QH w x (.slice av x.params.length cv) w2:=by
  have f1:Fr aW (w.alloc (.cells #[.string (bA x.scheme),.string (bA x.token),.slice av x.params.length cv] 208)) w2:=by rw[ez];exact(ae _ _).alloc _
  refine⟨f1.keep (aB w _) id,?_,((ae aW w).alloc _).trans f1⟩;rw[ez];have:=aB (w.alloc (.cells #[.string (bA x.scheme),.string (bA x.token),.slice av x.params.length cv] 208)) (.cells gG 127);simpa using this
 have oz:=O ez;clear hp hz nI ez;generalize L5:Value.slice av x.params.length cv=pv at *
 clear L5;go_enter func121,ntmps121;go_wp2_with fail
 rw[<-oz.o];refine(GET.o vr w2 ag K0.fr).mono ?_;rintro e u1⟨rfl,hf⟩;have K1:=K0.next hf;have uY:w.heap.size+1<u1.heap.size:=by have:=hf.size;omega
 clear hf;cases hre:j5 x.params vr with
 |none =>
  go_wp2_with (first|((with_reducible refine cP 127 ?_);refine aF rfl 127 (.tmp 2) (.tmp 27) rfl (w.heap.size+1) gG rfl rfl _ gG K1.res af rfl qW ?_)|fail)
  refine aR (results_cell_tmp bw _ _ (w.heap.size+1) 127 gG (0,0) _ rfl (aY u1 (w.heap.size+1) _ _ _ _ K1.res) underlying127 rfl af) rfl ?_;exact j_.no (by rw[HK.o,hre]) ((K1.fr).setRow (fun h=>absurd h ab) _)
 |some aP =>
  have mE:=O (show mR x=_ by rw[HK.o,hre]);simp only at mE;clear HK hre;have x0:=K1.Ax.cell0;have x1:=K1.Ax.gV;have x2:=K1.Ax.lU;have iM:=fun W=>run_storeCells_new (P:=prog) W 127 gG [.int .i64 1,.string (bA aP),.string ⟨#[]⟩,.string ⟨#[]⟩,.bool false,.string ⟨#[]⟩,.bool false,.slice none 0 0] rfl (by intro u hu;simp at hu;rcases hu with rfl|rfl|rfl|rfl|rfl|rfl|rfl|rfl<;>rfl)
  obtain⟨u2,lD⟩:∃u2,u2=u1.alloc (.cells #[.int .i64 1,.string (bA aP),.string ⟨#[]⟩,.string ⟨#[]⟩,.bool false,.string ⟨#[]⟩,.bool false,.slice none 0 0] 127):=⟨_,rfl⟩;have hf:Fr aW u1 u2:=by rw[lD];exact(ae _ _).alloc _
  have K2:=K1.next hf;have A2:fJ u2 u1.heap.size {jb with scheme:=1,aP:=bA aP}:=by rw[lD];exact aB _ _
  have x0a:∀o:Obj,(u1.alloc o).cell? ⟨w.heap.size,0,none⟩=some (.string (bA x.scheme)):=fun o=>(K1.Ax.fr ((ae aW u1).alloc o) id).cell0;have p_:=O lD;generalize hA:u1.heap.size=A at *
  clear lD;go_wp2_with fail
  rw[<-p_.o];refine(SMB.o Gm u2 ag).mono ?_;rintro e u3⟨rfl,ik⟩;have K3:=K2.next ik;have A3:fJ u3 A {jb with scheme:=1,aP:=bA aP}:=ik.keep A2 id;have hA3:A<u3.heap.size:=bg A3;clear x0 x1 x2 x0a iM A2 K2 ik;cases hbs:dG x.scheme Gm with
  |true =>
   have Bw:(prog.info? 127).map (·.size)=some ({jb with scheme:=1,aP:=bA aP}).cells.toArray.size:=af;have Ay:u3.heap[A]?=some (.cells ({jb with scheme:=1,aP:=bA aP}).cells.toArray 127 (0,0)):=A3;have XP:=Hd ({jb with scheme:=1,aP:=bA aP}) rfl
   go_wp2_with (first|((with_reducible refine dv 33 ?_);refine aJ rfl 127 (.tmp 6) rfl A rfl _ ({jb with scheme:=1,aP:=bA aP}).cells.toArray (0,0) _ Ay underlying127 rfl Bw ?_)|((with_reducible refine cP 127 ?_);refine aF rfl 127 (.tmp 2) (.tmp 33) rfl (w.heap.size+1) ({jb with scheme:=1,aP:=bA aP}).cells.toArray rfl rfl _ gG K3.res Bw rfl XP ?_)|fail)
   refine aR (results_cell_tmp bw _ _ (w.heap.size+1) 127 ({jb with scheme:=1,aP:=bA aP}).cells.toArray (0,0) _ rfl (aY u3 (w.heap.size+1) _ _ _ _ K3.res) underlying127 rfl Bw) rfl ?_;exact j_.yes (by rw[mE.o,aA hbs]) ((K3.fr).setRow (fun h=>absurd h ab) _) ⟨rfl,rfl,rfl,rfl,rfl,rfl,rfl,kD _ _⟩
  |false =>
   rw[hbs]at mE;clear hbs;have x0:=K3.Ax.cell0;have x1:=K3.Ax.gV;have x2:=K3.Ax.lU;go_wp2_with fail
   refine(GET.o yy u3 ag K3.fr).mono ?_;rintro e u4⟨rfl,hf⟩;have K4:=K3.next hf;have A4:fJ u4 A {jb with scheme:=1,aP:=bA aP}:=hf.keep A3 id;clear x0 x1 x2 A3 K3 hf
   go_upto_if 40 with fail
   go_cut [5,7] (fun _ s7 wz=>s7=.string (bA ((j5 x.params yy).getD xC))/\u4=wz)
   case first =>
    cases Br:j5 x.params yy with
    |none =>
     go_wp2_with fail
     go_meet
     rw[Br];exact⟨rfl,rfl⟩
    |some v =>
     go_wp2_with fail
     go_meet
     rw[Br];exact⟨rfl,rfl⟩
   case rest =>
   obtain⟨rfl,rfl⟩:=hcut;have HNL:=O (YG.o yy);have rD:(bA ((j5 x.params yy).getD xC)).size<17592186044416:=by
    show((j5 x.params yy).getD xC).length<_;cases hg:j5 x.params yy with
    |none=>decide
    |some v =>
     have h:=HNL.o;rw[hg]at h;have:v.length<=99999:=h;show v.length<_;omega
   generalize (j5 x.params yy).getD xC=alg at *
   have a0:=A4.cell (i:=0) rfl;have f0:=A4.free 0;go_wp2_with fail
   refine(Ez (bA alg) u4 rD).mono ?_;rintro e u5⟨rfl,hf⟩;rw[fK];have K5:=K4.next hf;have A5:fJ u5 A {jb with scheme:=1,aP:=bA aP}:=hf.keep A4 id;have He:w.heap.size+1<A:=uY;clear A4 K4 hf HNL rD a0 f0;cases har:Sw alg with
   |none =>
    have HE:=O (show mR x=none by rw[mE.o,har];rfl);have hv0:M0 alg=.tuple #[.int .i64 0,.bool false,.bool false]:=by unfold M0;rw[har]
    rw[hv0];have K6:=(K5.set (i:=0) (u:=.int .i64 0) He).set (i:=4) (u:=.bool false) He;have a0:=A5.cell (i:=0) rfl;have f0:=A5.free 0;have A5b:=A5.set (r':={jb with scheme:=0,aP:=bA aP}) 0 (.int .i64 0) rfl;have a4:=A5b.cell (i:=4) rfl;have f4:=A5b.free 4
    go_wp2_with (first|((with_reducible refine cP 127 ?_);refine aF rfl 127 (.tmp 2) (.tmp 57) rfl (w.heap.size+1) gG rfl rfl _ gG K6.res af rfl qW ?_)|fail)
    refine aR (results_cell_tmp bw _ _ (w.heap.size+1) 127 gG (0,0) _ rfl (aY _ (w.heap.size+1) _ _ _ _ K6.res) underlying127 rfl af) rfl ?_;exact j_.no (by exact HE.o) ((K6.fr).setRow (fun h=>absurd h ab) _)
   |some q =>
    obtain⟨k,cD⟩:=q;have hv0:M0 alg=.tuple #[.int .i64 k,.bool cD,.bool true]:=by unfold M0;rw[har]
    rw[hv0];rw[har]at mE;simp only at mE;have K6:=(K5.set (i:=0) (u:=.int .i64 k) He).set (i:=4) (u:=.bool cD) He;have a0:=A5.cell (i:=0) rfl;have f0:=A5.free 0;have A5b:=A5.set (r':={jb with scheme:=k,aP:=bA aP}) 0 (.int .i64 k) rfl;have a4:=A5b.cell (i:=4) rfl;have f4:=A5b.free 4;have A6:=A5b.set (r':={jb with scheme:=k,aP:=bA aP,cD:=cD}) 4 (.bool cD) rfl;have x0:=K6.Ax.cell0;clear hv0 har
    go_wp2_with fail
    clear a0 f0 a4 f4 A5b A5 K5;generalize (u5.setCell ⟨A,0,none⟩ (.int .i64 k)).setCell ⟨A,4,none⟩ (.bool cD)=u6 at *
    refine(SMB.o BS u6 ag).mono ?_;rintro e u7⟨rfl,hf⟩;have K7:=K6.next hf;have A7:fJ u7 A {jb with scheme:=k,aP:=bA aP,cD:=cD}:=hf.keep A6 id;clear A6 K6 hf x0;cases hds:dG x.scheme BS with
    |false =>
     have HE:=O (show mR x=none by rw[mE.o,hds];rfl);go_wp2_with (first|((with_reducible refine cP 127 ?_);refine aF rfl 127 (.tmp 2) (.tmp 57) rfl (w.heap.size+1) gG rfl rfl _ gG K7.res af rfl qW ?_)|fail)
     refine aR (results_cell_tmp bw _ _ (w.heap.size+1) 127 gG (0,0) _ rfl (aY u7 (w.heap.size+1) _ _ _ _ K7.res) underlying127 rfl af) rfl ?_;exact j_.no (by exact HE.o) ((K7.fr).setRow (fun h=>absurd h ab) _)
    |true =>
     rw[hds]at mE;have x0:=K7.Ax.cell0;have x1:=K7.Ax.gV;have x2:=K7.Ax.lU;go_wp2_with fail
     refine(GET.o vt u7 ag K7.fr).mono ?_;rintro e u8⟨rfl,hf⟩;have K8:=K7.next hf;have A8:fJ u8 A {jb with scheme:=k,aP:=bA aP,cD:=cD}:=hf.keep A7 id;have a2:=A8.cell (i:=2) rfl;have f2:=A8.free 2;clear A7 K7 hf x0 x1 x2;cases J4:j5 x.params vt with
     |none =>
      have HE:=O (show mR x=none by rw[mE.o,J4];rfl);have K9:=K8.set (i:=2) (u:=.string (bA [])) He;go_wp2_with (first|((with_reducible refine cP 127 ?_);refine aF rfl 127 (.tmp 2) (.tmp 66) rfl (w.heap.size+1) gG rfl rfl _ gG K9.res af rfl qW ?_)|fail)
      refine aR (results_cell_tmp bw _ _ (w.heap.size+1) 127 gG (0,0) _ rfl (aY _ (w.heap.size+1) _ _ _ _ K9.res) underlying127 rfl af) rfl ?_;exact j_.no (by exact HE.o) ((K9.fr).setRow (fun h=>absurd h ab) _)
     |some bz =>
      rw[J4]at mE;simp only[Bool.not_true,cG,eR]at mE;have K9:=K8.set (i:=2) (u:=.string (bA bz)) He;have A9:=A8.set (r':={jb with scheme:=k,aP:=bA aP,bz:=bA bz,cD:=cD}) 2 (.string (bA bz)) rfl;have x0:=K9.Ax.cell0;have x1:=K9.Ax.gV;have x2:=K9.Ax.lU;go_wp2_with fail
      clear a2 f2 A8 K8 x0 x1 x2;generalize u8.setCell ⟨A,2,none⟩ (.string (bA bz))=u9 at *
      refine(GET.o I7 u9 ag K9.fr).mono ?_;rintro e u10⟨rfl,hf⟩;have K10:=K9.next hf;have A10:fJ u10 A {jb with scheme:=k,aP:=bA aP,bz:=bA bz,cD:=cD}:=hf.keep A9 id;have asT:A<u10.heap.size:=bg A10;have HQP:=O (show Sy x.params=match j5 x.params I7 with|none=>some []|some q=>Sx q from rfl);clear A9 K9 hf
      go_upto_if 72 with fail
      go_cut [8,9,10,11,12,13]from 67 to 96 (fun _ _ _ _ _ _ wz=>acR w x pv A {jb with scheme:=k,aP:=bA aP,bz:=bA bz,cD:=cD} wz)
      case first =>
       have HQL:=O (YG.o I7);cases hq:j5 x.params I7 with
       |none =>
        go_wp2_with fail
        go_meet
        exact⟨[],by rw[HQP.o,hq],K10,A10⟩
       |some q =>
        rw[hq]at HQP HQL;simp only[Option.getD_some]at HQP HQL;have hql:(bA q).size<4398046511104:=by
         have h:q.length<=99999:=HQL.o;show q.length<_;omega
        have LI:=O (I2 (bA q) u10 hql);clear hql;go_wp2_with fail
        refine LI.o.mono ?_;intro e Wr hlp;rcases YF q with ⟨ws,zQ,D8,hqo⟩|⟨J4,hqo⟩
        case inr =>
         obtain⟨lv,lt,lx,rfl,hf⟩:=hlp.acP (by rw[fK];exact J4);have HE:=O (show mR x=none by rw[mE.o,HQP.o,hqo]);have K11:=K10.next hf;clear hlp J4 hqo;go_wp2_with (first|((with_reducible refine cP 127 ?_);refine aF rfl 127 (.tmp 2) (.tmp 80) rfl (w.heap.size+1) gG rfl rfl _ gG K11.res af rfl qW ?_)|fail)
         refine aR (results_cell_tmp bw _ _ (w.heap.size+1) 127 gG (0,0) _ rfl (aY Wr (w.heap.size+1) _ _ _ _ K11.res) underlying127 rfl af) rfl ?_;exact j_.no (by exact HE.o) ((K11.fr).setRow (fun h=>absurd h ab) _)
        case inl =>
         obtain⟨lv,rfl,hlv,hf⟩:=hlp.isOk (ws:=ws) (by rw[fK];exact zQ) D8;have K11:=K10.next hf;have A11:fJ Wr A {jb with scheme:=k,aP:=bA aP,bz:=bA bz,cD:=cD}:=hf.keep A10 id;have apG:=hf.size;have HWZ:=O (show∀y∈dM ws,y.size<17592186044416 from fun y hy=>by
          obtain⟨w0,UJ,rfl⟩:=cj.1 hy;have h1:=FN _ _ _ zQ w0 UJ;have h2:q.length<=99999:=HQL.o;show w0.length<_;omega)
         have HQO:=O (show Sy x.params=if(qK ws 2).isEmpty then none else some (qK ws 2)by rw[HQP.o,hqo,acQ]);clear hlp zQ hqo hf A10 K10;obtain⟨u12,YH⟩:∃u12,u12=Wr.alloc (.cells #[.string (bA pR),.string (bA lR)] 9):=⟨_,rfl⟩;have hf:Fr aW Wr u12:=by rw[YH];exact(ae _ _).alloc _
         have amJ:u12.heap[Wr.heap.size]?=some (.cells #[.string (bA pR),.string (bA lR)] 9 (0,0)):=by rw[YH];exact aB _ _
         have K12:=K11.next hf;have A12:fJ u12 A {jb with scheme:=k,aP:=bA aP,bz:=bA bz,cD:=cD}:=hf.keep A11 id;have ahp:=hlv.fr hf (fun _ h=>h.elim);have amK:=O YH;obtain⟨la,lc,hle⟩:=ahp.form;have hAB:A<Wr.heap.size:=ab;clear YH hf A11 K11 hlv;subst hle;go_wp2_with fail
         rw[show Wr.alloc (.cells #[.string ⟨#[97,117,116,104,45,105,110,116]⟩,.string ⟨#[97,117,116,104]⟩] 9)=u12 from amK.o.symm];go_loopw[83] (ahk w x pv A {jb with scheme:=k,aP:=bA aP,bz:=bA bz,cD:=cD} ws u12) (fun t _=>2-(intOf t).toNat)
         case atStart=>exact⟨0,ab,rfl,K12,A12,ae _ _⟩
         case round =>
          obtain⟨m,hm,rfl,K13,A13,cN⟩:=hrel;have hAr:A<wr.heap.size:=bg A13;have hbr:=cN.keep amJ (fun e=>by have e':Wr.heap.size=A:=e;omega);have hlr:=ahp.fr cN (fun j e=>by have e':j=A:=e;omega);have c0:wr.cell? ⟨Wr.heap.size,0,none⟩=some (.string (bA pR)):=by simp[World.cell?,hbr]
          have c1:wr.cell? ⟨Wr.heap.size,1,none⟩=some (.string (bA lR)):=by simp[World.cell?,hbr]
          have Kr:∀n:Bs,n.length<=8->∃wn,wn=wr.alloc (.cells #[.string (bA n)] 9)/\Hc wn wr.heap.size (bA n)/\Fr aW wr wn/\aC 176 #[.slice la (dM ws).length lc,.func (.func 177) #[] #[.pointer (some ⟨wr.heap.size,0,none⟩)]] wn fun e w'=>e=.returned (.bool (ws.any fun y=>dG y n))/\Fr aW wn w':=by
           intro n hn;have Fk:Fr aW wr (wr.alloc (.cells #[.string (bA n)] 9)):=(ae _ _).alloc _;have hb:=aB wr (.cells #[.string (bA n)] 9);refine⟨_,rfl,hb,Fk,?_⟩;have h:=YC (bA n) wr.heap.size _ (dM ws) _ (hlr.fr Fk (fun _ h=>h.elim)).at (by rw[pk];omega) hb (by show n.length<_;omega) HWZ.o;rw[QI]at h;exact h
          rcases(show m=0\/m=1\/m=2 from ab)with rfl|rfl|rfl
          case inl =>
           obtain⟨wn,hwn,GF,Fk,CF⟩:=Kr pR ag;have HWN:=O hwn;have Og:wn.cell? ⟨wr.heap.size,0,none⟩=some (.string (bA pR)):=by simp[World.cell?,show wn.heap[wr.heap.size]?=_ from GF]
           clear Kr hwn;go_wp2_with fail
           rw[<-HWN.o];refine CF.mono ?_;rintro e w14⟨rfl,Hf⟩;have K14:=(K13.next Fk).next Hf;have YI:fJ w14 A {jb with scheme:=k,aP:=bA aP,bz:=bA bz,cD:=cD,eY:=bA (qK ws 0)}:=Hf.keep (Fk.keep A13 id) id;have UK:=O ((cN.trans Fk.mU).trans Hf.mU);have amM:w14.cell? ⟨wr.heap.size,0,none⟩=some (.string (bA pR)):=(Hf.cell (p:=⟨wr.heap.size,0,none⟩) (bg GF) id).trans Og;have a5:=YI.cell (i:=5) rfl
           have f5:=YI.free 5;cases iX:ws.any (fun y=>dG y pR)
           case false =>
            have Ly:=O (show qK ws 1=qK ws 0 by show(if ws.any (fun w=>dG w pR)then pR else [])=[];rw[iX];rfl);go_wp2;go_roundw
            case rel=>exact⟨1,ab,bf,K14,by rw[Ly.o];exact YI,UK.o⟩
            case measure=>simp[intOf]
           case true =>
            have Ly:=O (show qK ws 1=pR by show(if ws.any (fun w=>dG w pR)then pR else [])=_;rw[iX];rfl);have K15:=K14.set (i:=5) (u:=.string (bA pR)) He;have A15:=YI.set (r':={jb with scheme:=k,aP:=bA aP,bz:=bA bz,cD:=cD,eY:=bA pR}) 5 (.string (bA pR)) rfl;have acV:=O (UK.o.setCell (p:=⟨A,5,none⟩) (fun _=>rfl) (.string (bA pR)));go_wp2;go_roundw
            case rel=>exact⟨1,ab,bf,K15,by rw[Ly.o];exact A15,acV.o⟩
            case measure=>simp[intOf]
          case inr.inl =>
           obtain⟨wn,hwn,GF,Fk,CF⟩:=Kr lR ag;have HWN:=O hwn;have Og:wn.cell? ⟨wr.heap.size,0,none⟩=some (.string (bA lR)):=by simp[World.cell?,show wn.heap[wr.heap.size]?=_ from GF]
           clear Kr hwn;go_wp2_with fail
           rw[<-HWN.o];refine CF.mono ?_;rintro e w14⟨rfl,Hf⟩;have K14:=(K13.next Fk).next Hf;have YI:fJ w14 A {jb with scheme:=k,aP:=bA aP,bz:=bA bz,cD:=cD,eY:=bA (qK ws 1)}:=Hf.keep (Fk.keep A13 id) id;have UK:=O ((cN.trans Fk.mU).trans Hf.mU);have amM:w14.cell? ⟨wr.heap.size,0,none⟩=some (.string (bA lR)):=(Hf.cell (p:=⟨wr.heap.size,0,none⟩) (bg GF) id).trans Og;have a5:=YI.cell (i:=5) rfl
           have f5:=YI.free 5;cases iX:ws.any (fun y=>dG y lR)
           case false =>
            have Ly:=O (show qK ws 2=qK ws 1 by show(if ws.any (fun w=>dG w lR)then lR else qK ws 1)=_;rw[iX];rfl);go_wp2;go_roundw
            case rel=>exact⟨2,ab,bf,K14,by rw[Ly.o];exact YI,UK.o⟩
            case measure=>simp[intOf]
           case true =>
            have Ly:=O (show qK ws 2=lR by show(if ws.any (fun w=>dG w lR)then lR else qK ws 1)=_;rw[iX];rfl);have K15:=K14.set (i:=5) (u:=.string (bA lR)) He;have A15:=YI.set (r':={jb with scheme:=k,aP:=bA aP,bz:=bA bz,cD:=cD,eY:=bA lR}) 5 (.string (bA lR)) rfl;have acV:=O (UK.o.setCell (p:=⟨A,5,none⟩) (fun _=>rfl) (.string (bA lR)));go_wp2;go_roundw
            case rel=>exact⟨2,ab,bf,K15,by rw[Ly.o];exact A15,acV.o⟩
            case measure=>simp[intOf]
          case inr.inr =>
           have a5:=A13.cell (i:=5) rfl;clear Kr c0 c1;cases PS:(qK ws 2).isEmpty
           case true =>
            have HE:=O (show mR x=none by rw[mE.o,HQO.o,PS];rfl);have e1:(bA (qK ws 2)).toList=[]:=by rw[mI];exact gj.1 PS
            have e2:((bA (qK ws 2)).toList== [])=true:=dQ.2 e1;go_wp2_with (first|((with_reducible refine cP 127 ?_);refine aF rfl 127 (.tmp 2) (.tmp 96) rfl (w.heap.size+1) gG rfl rfl _ gG K13.res af rfl qW ?_)|fail)
            refine aR (results_cell_tmp bw _ _ (w.heap.size+1) 127 gG (0,0) _ rfl (aY wr (w.heap.size+1) _ _ _ _ K13.res) underlying127 rfl af) rfl ?_;exact j_.no (by exact HE.o) ((K13.fr).setRow (fun h=>absurd h ab) _)
           case false =>
            have e1:¬(bA (qK ws 2)).toList=[]:=by rw[mI];intro e;rw[e]at PS;cases PS
            have e2:((bA (qK ws 2)).toList== [])=false:=aK.2 e1;go_wp2_with fail
            go_meet
            exact⟨qK ws 2,by rw[HQO.o,PS];rfl,K13,A13⟩
      case rest =>
      obtain⟨q,hqp,K20,A20⟩:=hcut;have HE1:=O (show mR x=some ⟨k,bA aP,bA bz,bA ((j5 x.params lS).getD []),cD,bA q,dG ((j5 x.params Aa).getD []) lG,(Gp ((j5 x.params qA).getD [])).map bA⟩by rw[mE.o,hqp]);clear mE hqp HQP K10 A10;have x0:=K20.Ax.cell0;have x1:=K20.Ax.gV;have x2:=K20.Ax.lU;go_wp2_with fail
      refine(GET.o lS wc ag K20.fr).mono ?_;rintro e u21⟨rfl,hf⟩;have K21:=K20.next hf;have A21:fJ u21 A {jb with scheme:=k,aP:=bA aP,bz:=bA bz,cD:=cD,eY:=bA q}:=hf.keep A20 id;clear x0 x1 x2 A20 K20 hf;generalize (j5 x.params lS).getD []=op at *
      have a3:=A21.cell (i:=3) rfl;have f3:=A21.free 3;have K22:=K21.set (i:=3) (u:=.string (bA op)) He;have A22:=A21.set (r':={jb with scheme:=k,aP:=bA aP,bz:=bA bz,cC:=bA op,cD:=cD,eY:=bA q}) 3 (.string (bA op)) rfl;have x0:=K22.Ax.cell0;have x1:=K22.Ax.gV;have x2:=K22.Ax.lU;go_wp2_with fail
      clear a3 f3 A21 K21 x0 x1 x2;generalize u21.setCell ⟨A,3,none⟩ (.string (bA op))=u22 at *
      refine(GET.o Aa u22 ag K22.fr).mono ?_;rintro e u23⟨rfl,hf⟩;have K23:=K22.next hf;have A23:fJ u23 A {jb with scheme:=k,aP:=bA aP,bz:=bA bz,cC:=bA op,cD:=cD,eY:=bA q}:=hf.keep A22 id;have HSL:=O (YG.o Aa);generalize (j5 x.params Aa).getD []=st at *
      have Tb:(bA st).size<17592186044416:=by have h:st.length<=99999:=HSL.o;show st.length<_;omega
      have SMT:=O (ma (bA st) (bA lG) u23 Tb ag);rw[fK,fK]at SMT;clear Tb HSL A22 K22 hf;go_wp2_with fail
      refine SMT.o.mono ?_;rintro e u24⟨rfl,hf⟩;have K24:=K23.next hf;have A24:fJ u24 A {jb with scheme:=k,aP:=bA aP,bz:=bA bz,cC:=bA op,cD:=cD,eY:=bA q}:=hf.keep A23 id;have a6:=A24.cell (i:=6) rfl;have f6:=A24.free 6;have K25:=K24.set (i:=6) (u:=.bool (dG st lG)) He;have A25:=A24.set (r':={jb with scheme:=k,aP:=bA aP,bz:=bA bz,cC:=bA op,cD:=cD,eY:=bA q,du:=dG st lG}) 6 (.bool (dG st lG)) rfl
      have x0:=K25.Ax.cell0;have x1:=K25.Ax.gV;have x2:=K25.Ax.lU;clear SMT A23 K23 hf;go_wp2_with fail
      clear a6 f6 A24 K24 x0 x1 x2;generalize u24.setCell ⟨A,6,none⟩ (.bool (dG st lG))=u25 at *
      refine(GET.o qA u25 ag K25.fr).mono ?_;rintro e YJ⟨rfl,hf⟩;have K26:=K25.next hf;have A26:fJ YJ A {jb with scheme:=k,aP:=bA aP,bz:=bA bz,cC:=bA op,cD:=cD,eY:=bA q,du:=dG st lG}:=hf.keep A25 id;have HDL:=O (YG.o qA);generalize (j5 x.params qA).getD []=d at *
      have as1:A<YJ.heap.size:=bg A26;have SP:=O (show aC 131 #[.string (bA d),.string ⟨#[32]⟩] YJ fun e w'=>e=.returned (.slice (some ⟨YJ.heap.size,0,none⟩) (dU 32 d).length (dU 32 d).length)/\w'=YJ.alloc (.cells (((dU 32 d).map bA).map Value.string).toArray 9)from by
       have h:=xR (bA d) 32 YJ (by have h:d.length<=99999:=HDL.o;show d.length<_;omega);rw[QL,aj]at h;exact h)
      obtain⟨Ws,xy⟩:=FO 32 d;clear hf A25 K25;go_wp2_with fail
      refine SP.o.mono ?_;rintro e u27⟨rfl,acW⟩;have hf:Fr aW YJ u27:=by rw[acW];exact(ae _ _).alloc _
      have Wf:u27.heap[YJ.heap.size]?=some (.cells (((dU 32 d).map bA).map Value.string).toArray 9 (0,0)):=by rw[acW];exact aB _ _
      have K27:=K26.next hf;have A27:fJ u27 A {jb with scheme:=k,aP:=bA aP,bz:=bA bz,cC:=bA op,cD:=cD,eY:=bA q,du:=dG st lG}:=hf.keep A26 id;generalize hPb:YJ.heap.size=Pb at *
      clear SP acW hf A26 K26;go_wp2_with fail
      go_loopw[119] (ahj w x pv A Pb {jb with scheme:=k,aP:=bA aP,bz:=bA bz,cC:=bA op,cD:=cD,eY:=bA q,du:=dG st lG} d) (fun t _=>(dU 32 d).length-(intOf t).toNat)
      case atStart=>exact⟨0,.slice none 0 0,aS _,rfl,K27,A27,kD _ _,Wf,fun j e=>by simp[Value.ownBlock]at e⟩
      case round =>
        obtain⟨m,v,hm,rfl,K30,A30,Ks,OX,hvP⟩:=hrel;have hAr:A<wr.heap.size:=bg A30;have hd:d.length<=99999:=HDL.o;by_cases hms:m<(dU 32 d).length
        case pos =>
         have hmi:(m:Int)<((dU 32 d).length:Int):=ab;have dL:=O (List.getElem?_eq_getElem hms);have D7:=xy _ (bL hms);generalize (dU 32 d)[m]=p at dL D7;have c0:wr.cell? ⟨Pb,m,none⟩=some (.string (bA p)):=by
          simp only[World.cell?,OX];rw[List.getElem?_toArray,List.getElem?_map,List.getElem?_map,dL.o];rfl
         have HSU:=O (M4 dL.o);have HP:=O (show aC 178 #[.string (bA p),.string ⟨#[47]⟩] wr fun e w'=>e=.returned (.bool (LH 47 p))/\wr=w' from by
          have h:=strings_HasPrefix (bA p) ⟨#[47]⟩ wr;rw[fK,show(⟨#[47]⟩:ai).data.toList=[47]from rfl,ahi]at h;exact h.mono (fun e w' ⟨h1,h2⟩=>⟨h1,h2.symm⟩))
         go_wp2_with fail
         refine HP.o.mono ?_;rintro e w31⟨rfl,rfl⟩;clear HP c0;cases hpf:LH 47 p
         case false =>
          have ac0:=O (show iA d (m+1)=iA d m by rw[HSU.o,hpf];simp);go_wp2;go_roundw
          case rel=>exact⟨m+1,v,ab,bf,K30,A30,by rw[ac0.o];exact Ks,OX,hvP⟩
          case measure=>simp[intOf];omega
         case true =>
          have ac0:=O (show(iA d (m+1)).map bA=(iA d m).map bA++[bA (ov p)]by rw[HSU.o,hpf];simp);have Eo:=O (show∀U,aC 179 #[.string (bA p)] U fun e w'=>e=.returned (.string (bA (ov p)))/\Fr aW U w' from fun U=>by
           have h:=P7 (bA p) U (by show p.length<_;omega);rw[fK]at h;exact h)
          obtain⟨va,vc,hve⟩:=Ks.form;rw[aj]at hve;have hdl:=QK d m;subst hve;have a7:wr.cell? ⟨A,7,none⟩=some (.slice va (iA d m).length vc):=A30.cell rfl;have f7:=A30.free 7;have hoA:(Value.slice va (iA d m).length vc).ownBlock≠some A:=fun e=>by
           obtain⟨cur,hc⟩:=Ks.kind e;rw[show wr.heap[A]?=_ from A30]at hc;simp at hc
          have Dg:=O (show∀U,Fr aW wr U->U.cell? ⟨A,7,none⟩=some (.slice va (iA d m).length vc)/\U.frozen? ⟨A,7,none⟩=false from fun U hU=>⟨(hU.cell (p:=⟨A,7,none⟩) hAr id).trans a7,(hU.frozen (p:=⟨A,7,none⟩) hAr id).trans f7⟩);obtain⟨i0,ri,oZ,kI,kS⟩:=info_parts yo;have hwr:w.heap.size<=wr.heap.size:=K30.fr.size;have amV:=O Ks;clear Ks hpf;go_wp2_with fail
          go_region_law (first
           |((with_reducible refine mG ⟨some 128,_,_,_,_,_⟩ ?_)
             refine wB rfl 179 _ (by go_simp) (Eo.o _) ?_
             rintro e w3⟨rfl,ik⟩
             refine⟨_,rfl,?_⟩
             have ij:Fr aW wr w3:=bC (by repeat(first|exact ae _ _|apply az)) ik
             obtain⟨k3,l3⟩:=Dg.o w3 ij
             have k3a:∀o:Obj,(w3.alloc o).cell? ⟨A,7,none⟩=some (.slice va (iA d m).length vc):=fun o=>(Dg.o _ (ij.alloc o)).1
             have fk:=amV.o.fr ij (fun _ h=>h.elim)
             have sN:w.heap.size<=w3.heap.size:=aE hwr ij.size
             have UL:w3.ownsRow w.heap.size 9 1 (.slice va (iA d m).length vc) (iA d m).length (((iA d m).map bA).map Value.string):=by
               have hh:w3.ownsRow w.heap.size 9 1 (.slice va (iA d m).length vc) ((iA d m).map bA).length (((iA d m).map bA).map Value.string):=fk
               rw[aj]at hh
               exact hh
             clear ik)
           |((with_reducible refine mG ⟨some 130,_,_,_,_,_⟩ ?_)
             refine step_append_lies _ bw _ _ _ bw w.heap.size 9 i0 _ 1 16 underlying125 ri oZ kI kS rfl ab (.slice va (iA d m).length vc) (iA d m).length _ bw (by repeat(first|exact UL|apply World.ownsRow.alloc|apply World.ownsRow.drew)) ⟨w3.heap.size,0,none⟩ 1 1 [.string (bA (ov p))] bw bw (kB w3 [.string (bA (ov p))] _) bX ab fl ab bF (w3.heap.size+1) aQ ?_
             intro gg cap w4 eU jk SV JY
             have GY:Fr (fun k=>(Value.slice va (iA d m).length vc).ownBlock=some k) w3 w4:=fg (by repeat(first|exact ae _ _|apply az|apply bq)) jk (fun _ hk _=>hk)
             have hA3:A<w3.heap.size:=cK hAr ij.size
             have k4:w4.cell? ⟨A,7,none⟩=some (.slice va (iA d m).length vc):=(GY.cell (p:=⟨A,7,none⟩) hA3 hoA).trans k3
             have e4:w4.frozen? ⟨A,7,none⟩=false:=(GY.frozen (p:=⟨A,7,none⟩) hA3 hoA).trans l3))
          all_goals
           have Cj:Strs w.heap.size w3 (.slice va (iA d m).length vc) ((iA d m).map bA):=fk;have K31:=(K30.next ij).own Cj GY;have A31:fJ w4 A {{jb with scheme:=k,aP:=bA aP,bz:=bA bz,cC:=bA op,cD:=cD,eY:=bA q,du:=dG st lG}with dom:=.slice va (iA d m).length vc}:=GY.keep (ij.keep A30 id) hoA;have hPl:Pb<wr.heap.size:=bg OX;have aht:=GY.keep (ij.keep OX id) (fun e=>absurd (hvP Pb e) (Nat.lt_irrefl _))
           have hvg:Strs w.heap.size w4 (.slice (some ⟨gg,0,none⟩) ((iA d m).length+1) cap) ((iA d (m+1)).map bA):=by
            rw[ac0.o];have e1:((iA d m).map bA++[bA (ov p)]).length=(iA d m).length+1:=aQ;unfold Strs;rw[e1,bD];exact eU
           have hfA:Fr (one A) w4 (w4.setCell ⟨A,7,none⟩ (.slice (some ⟨gg,0,none⟩) ((iA d m).length+1) cap)):=(ae (one A) w4).setCell (p:=⟨A,7,none⟩) (fun _=>rfl) _;have amW:=hvg.YE hfA A31 ag;have K32:=K31.set (i:=7) (u:=.slice (some ⟨gg,0,none⟩) ((iA d m).length+1) cap) He
           have A32:=A31.set (r':={{jb with scheme:=k,aP:=bA aP,bz:=bA bz,cC:=bA op,cD:=cD,eY:=bA q,du:=dG st lG}with dom:=.slice (some ⟨gg,0,none⟩) ((iA d m).length+1) cap}) 7 (.slice (some ⟨gg,0,none⟩) ((iA d m).length+1) cap) rfl;have ahu:=hfA.keep aht (fun e=>by have e':Pb=A:=e;omega);have amX:∀j,(Value.slice (some ⟨gg,0,none⟩) ((iA d m).length+1) cap).ownBlock=some j->Pb<j:=by
            intro j hj;simp only[Value.ownBlock,eh]at hj;subst hj;rcases SV with e|e
            ·exact hvP _ e
            ·have:=ij.size;omega
           clear k4 e4 jk eU fk UL GY k3 k3a l3 Dg;go_wp2;go_roundw
           case rel=>exact⟨m+1,_,ab,bf,K32,A32,amW,ahu,amX⟩
           case measure=>simp[intOf];omega
        case neg =>
         have hmi:¬(m:Int)<((dU 32 d).length:Int):=ab;have amY:=O Ks;have RL:=O (show iA d m=Gp d from QJ ab);have hvo:v.oneCell'=true:=by obtain⟨va,vc,hve⟩:=Ks.form;rw[hve];rfl
         have HR0:=O K30.res;clear Ks xy Ws;have Bw:(prog.info? 127).map (·.size)=some ({{jb with scheme:=k,aP:=bA aP,bz:=bA bz,cC:=bA op,cD:=cD,eY:=bA q,du:=dG st lG}with dom:=v}).cells.toArray.size:=af;have Ay:wr.heap[A]?=some (.cells ({{jb with scheme:=k,aP:=bA aP,bz:=bA bz,cC:=bA op,cD:=cD,eY:=bA q,du:=dG st lG}with dom:=v}).cells.toArray 127 (0,0)):=A30
         have XP:=Hd ({{jb with scheme:=k,aP:=bA aP,bz:=bA bz,cC:=bA op,cD:=cD,eY:=bA q,du:=dG st lG}with dom:=v}) hvo
         go_wp2_with (first|((with_reducible refine dv 133 ?_);refine aJ rfl 127 (.tmp 6) rfl A rfl _ ({{jb with scheme:=k,aP:=bA aP,bz:=bA bz,cC:=bA op,cD:=cD,eY:=bA q,du:=dG st lG}with dom:=v}).cells.toArray (0,0) _ Ay underlying127 rfl Bw ?_)|((with_reducible refine cP 127 ?_);refine aF rfl 127 (.tmp 2) (.tmp 133) rfl (w.heap.size+1) ({{jb with scheme:=k,aP:=bA aP,bz:=bA bz,cC:=bA op,cD:=cD,eY:=bA q,du:=dG st lG}with dom:=v}).cells.toArray rfl rfl _ gG K30.res Bw rfl XP ?_)|fail)
         refine aR (results_cell_tmp bw _ _ (w.heap.size+1) 127 ({{jb with scheme:=k,aP:=bA aP,bz:=bA bz,cC:=bA op,cD:=cD,eY:=bA q,du:=dG st lG}with dom:=v}).cells.toArray (0,0) _ rfl (aY wr (w.heap.size+1) _ _ _ _ K30.res) underlying127 rfl Bw) rfl ?_
         exact j_.yes (by rw[HE1.o]) ((K30.fr).setRow (fun h=>absurd h ab) _) ⟨rfl,rfl,rfl,rfl,rfl,rfl,rfl,by rw[<-RL.o];exact amY.o.YE ((ae (one (w.heap.size+1)) wr).setRow (fun _=>rfl) _) HR0.o ag⟩
