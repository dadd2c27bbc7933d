/- Lemmas for the law's walk. -/
import Derived.Test.YtjndhcngnghpiaaGreatDoorPn12
set_option maxRecDepth 100000
set_option maxHeartbeats 16000000
set_option linter.unusedSimpArgs false
namespace Go.Proofs.YtjndhcngnghpiaaGreatDoor
open Go.Proofs.Tryz
open Go.RowKit
variable {w w' U V:World} {b i base k:Nat} {r:fI Value} {u pv v:Value} {x:ni} {ss:List aj} {d:Bs}
def P2(I:World->Prop)(g:Nat)(cap:bS)(p:aj->Bool)(ss:List aj):Prop :=
 ∀x,x∈ss->∀u,I u->aB g (#[.string x]++cap) u fun e u'=>e=.returned (.bool (p x))/\Fr aS u u'/\I u'
def aol(w:World)(I:World->Prop)(p:aj->Bool)(ss:List aj)(i:Value)(wr:World):Prop :=
 ∃k:Nat,k<=ss.length/\i=.int .i64 k/\(ss.take k).any p=false/\Fr aS w wr/\I wr
theorem D4(I:World->Prop)(g:Nat)(cap:bS)(p:aj->Bool)(v:Value)(ss:List aj)(w:World)(eg:∀args w,(callFunc g args).run prog w=.ok (.enter g args) w)(hI:I w)(hp:P2 I g cap p ss)(hv:fM w v ss)(hl:ss.length<=maxLen) :
  aB 215 #[v,.func (.func g) #[] cap] w fun e w'=>e=.returned (.int .i64 (lQ p ss 0))/\Fr aS w w'/\I w':=by
 unfold maxLen at hl;obtain⟨av,cv,fH⟩:=hv.form;subst fH;go_enter func215,ntmps215;go_wp2;go_loopw[8] (aol w I p ss) (fun i _=>ss.length-(intOf i).toNat)
 case atStart=>exact⟨0,aQ _,rfl,rfl,ae _ _,hI⟩
 case round =>
  obtain⟨k,hk,rfl,hn,cL,hIr⟩:=hrel;have HN:=O hn;clear hn;by_cases fk:k<ss.length
  ·have hvr:=hv.fG cL;rcases hvr with ⟨_,_,_,e,_⟩|⟨bk,o,c,hf,h1,h2,h3,h4⟩
   ·rw[e]at fk;exact absurd fk (cq _)
   ·cases hf;have dP:=O (List.getElem?_eq_getElem fk);have hc:=h4 k _ dP.o;have iw:=O (bM fk);generalize ss[k]=x at dP hc iw;have fB:=O (hp x iw.o wr hIr);clear h4;cases qy:p x
    ·have pV:=O (any_take_succ dP.o HN.o qy);go_wp2_with fail
     refine fB.o.mono ?_;rintro e w1⟨rfl,dn,hI1⟩;rw[qy];go_wp2;go_roundw
     case rel=>exact⟨k+1,ab,bg,pV.o,cL.trans dn,hI1⟩
     case measure=>simp[intOf];omega
    ·have fe:=O (oK (i:=0) dP.o qy HN.o);go_wp2_with fail
     refine fB.o.mono ?_;rintro e w1⟨rfl,dn,hI1⟩;rw[qy];go_wp2;go_ret;rw[fe.o,bw];exact⟨rfl,cL.trans dn,hI1⟩
  ·have fe:=O (show lQ p ss 0= -1 from kh (by have h:=HN.o;rw[aD ab]at h;exact h));go_wp2;go_ret;rw[fe.o];exact⟨rfl,cL,hIr⟩
theorem zM(I:World->Prop)(g:Nat)(cap:bS)(p:aj->Bool)(v:Value)(ss:List aj)(w:World)(eg:∀args w,(callFunc g args).run prog w=.ok (.enter g args) w)(hI:I w)(hp:P2 I g cap p ss)(hv:fM w v ss)(hl:ss.length<=maxLen) :
  aB 176 #[v,.func (.func g) #[] cap] w fun e w'=>e=.returned (.bool (ss.any p))/\Fr aS w w'/\I w':=by
 have hb:=O (rD p ss 0);go_enter func176,ntmps176;go_wp2_with fail
 refine(D4 I g cap p v ss w eg hI hp hv hl).mono ?_;rintro e w1⟨rfl,dn,hI1⟩;go_wp2;go_ret;exact⟨fy hb.o,dn,hI1⟩
def NV(s:Bs):Value:=match TL s with
 |some (k,b)=>.tuple #[.int .i64 k,.bool b,.bool true]
 |none=>.tuple #[.int .i64 0,.bool false,.bool false]
theorem E5(s:aj)(w:World)(hs:s.size<17592186044416) :
  aB 174 #[.string s] w fun e w'=>e=.returned (NV s.data.toList)/\Fr aS w w':=by
 have S1:=O (show∀U,aB 113 #[.string s,.string ⟨#[77,68,53]⟩] U fun e w'=>e=.returned (.bool (dH s.data.toList xJ))/\Fr aS U w' from fun U=>ml s _ U hs ag);have S2:=O (show∀U,aB 113 #[.string s,.string ⟨#[77,68,53,45,115,101,115,115]⟩] U fun e w'=>e=.returned (.bool (dH s.data.toList (xJ++yP)))/\Fr aS U w' from fun U=>ml s _ U hs ag)
 have S3:=O (show∀U,aB 113 #[.string s,.string ⟨#[83,72,65,45,50,53,54]⟩] U fun e w'=>e=.returned (.bool (dH s.data.toList G1))/\Fr aS U w' from fun U=>ml s _ U hs ag);have S4:=O (show∀U,aB 113 #[.string s,.string ⟨#[83,72,65,45,50,53,54,45,115,101,115,115]⟩] U fun e w'=>e=.returned (.bool (dH s.data.toList (G1++yP)))/\Fr aS U w' from fun U=>ml s _ U hs ag)
 have HV:=O (show NV s.data.toList=if dH s.data.toList xJ then .tuple #[.int .i64 2,.bool false,.bool true]else if dH s.data.toList (xJ++yP)then .tuple #[.int .i64 2,.bool true,.bool true]
   else if dH s.data.toList G1 then .tuple #[.int .i64 3,.bool false,.bool true]else if dH s.data.toList (G1++yP)then .tuple #[.int .i64 3,.bool true,.bool true]else .tuple #[.int .i64 0,.bool false,.bool false]by
  unfold NV TL;split
  ·rename_i k b h;split at h
   ·rename_i h1;cases h;rw[aA h1]
   rename_i h1;rw[ar h1];split at h
   ·rename_i h2;cases h;rw[aA h2]
   rename_i h2;rw[ar h2];split at h
   ·rename_i h3;cases h;rw[aA h3]
   rename_i h3;rw[ar h3];split at h
   ·rename_i h4;cases h;rw[aA h4]
   ·cases h
  ·rename_i h;split at h
   ·cases h
   rename_i h1;rw[ar h1];split at h
   ·cases h
   rename_i h2;rw[ar h2];split at h
   ·cases h
   rename_i h3;rw[ar h3];split at h
   ·cases h
   rename_i h4;rw[ar h4])
 generalize dH s.data.toList xJ=b1 at *
 generalize dH s.data.toList (xJ++yP)=b2 at *
 generalize dH s.data.toList G1=b3 at *
 generalize dH s.data.toList (G1++yP)=b4 at *
 obtain⟨w1,oq⟩:∃w1,w1=w.alloc (.cells #[.string ⟨#[77,68,53]⟩,.string ⟨#[83,72,65,45,50,53,54]⟩] 9):=⟨_,rfl⟩;have dn:Fr aS w w1:=by rw[oq];exact(ae _ _).alloc _
 have pW:w1.heap[w.heap.size]?=some (.cells #[.string ⟨#[77,68,53]⟩,.string ⟨#[83,72,65,45,50,53,54]⟩] 9 (0,0)):=by rw[oq];exact aC _ _
 have HC:=O (show∀U,Fr aS w1 U->U.cell? ⟨w.heap.size,0,none⟩=some (.string ⟨#[77,68,53]⟩)/\U.cell? ⟨w.heap.size,1,none⟩=some (.string ⟨#[83,72,65,45,50,53,54]⟩)from fun U hU=>by
  have j1:=hU.keep pW id;simp[World.cell?,j1])
 have Ho:=O oq;clear oq pW;go_enter func174,ntmps174;go_wp2;rw[<-Ho.o];obtain⟨c0,c1⟩:=HC.o w1 (ae _ _);refine wp_loop_rounds 3 ?_;rw[rounds_succ];go_wp2_with fail
 refine(S1.o w1).mono ?_;rintro e u1⟨rfl,tY⟩;clear c0 c1;cases b1
 case true =>
  go_wp2
  go_ret3
  exact⟨by rw[HV.o];rfl,dn.trans tY⟩
 case false =>
  go_wp2_with fail
  refine(S2.o u1).mono ?_;rintro e u2⟨rfl,nj⟩;have fY:=O (tY.trans nj);cases b2
  case true =>
   go_wp2
   go_ret3
   exact⟨by rw[HV.o];rfl,dn.trans fY.o⟩
  case false =>
   obtain⟨c0,c1⟩:=HC.o u2 fY.o;go_wp2_with fail
   rw[rounds_succ];go_wp2_with fail
   refine(S3.o u2).mono ?_;rintro e u3⟨rfl,zu⟩;have iq:=O (fY.o.trans zu);clear c0 c1;cases b3
   case true =>
    go_wp2
    go_ret3
    exact⟨by rw[HV.o];rfl,dn.trans iq.o⟩
   case false =>
    go_wp2_with fail
    refine(S4.o u3).mono ?_;rintro e u4⟨rfl,Cr⟩;have jO:=O (iq.o.trans Cr);cases b4
    case true =>
     go_wp2
     go_ret3
     exact⟨by rw[HV.o];rfl,dn.trans jO.o⟩
    case false =>
     go_wp2_with fail
     rw[rounds_succ];go_wp2
     go_ret3
     exact⟨by rw[HV.o];rfl,dn.trans jO.o⟩
def Im(w:World)(b:Nat)(n:aj):Prop:=w.heap[b]?=some (.cells #[.string n] 9 (0,0))
theorem NW(s n:aj)(b:Nat)(w:World)(h:Im w b n)(hs:s.size<17592186044416)(hn:n.size<17592186044416) :
  aB 177 #[.string s,.pointer (some ⟨b,0,none⟩)] w fun e w'=>e=.returned (.bool (dH s.data.toList n.data.toList))/\Fr aS w w':=by
 have c0:w.cell? ⟨b,0,none⟩=some (.string n):=by simp[World.cell?,show w.heap[b]?=_ from h]
 go_enter func177,ntmps177;go_wp2_with fail
 refine(ml s n w hs hn).mono ?_;rintro e w1⟨rfl,hf⟩;go_wp2;go_ret;exact⟨rfl,hf⟩
theorem ZM(n:aj)(b:Nat)(v:Value)(ss:List aj)(w:World)(hv:fM w v ss)(hl:ss.length<=1000)(hb:Im w b n)(hn:n.size<17592186044416)(hz:∀x∈ss,x.size<17592186044416) :
  aB 176 #[v,.func (.func 177) #[] #[.pointer (some ⟨b,0,none⟩)]] w fun e w'=>e=.returned (.bool (ss.any fun x=>dH x.data.toList n.data.toList))/\Fr aS w w':=by
 refine(zM (fun u=>Im u b n) 177 #[.pointer (some ⟨b,0,none⟩)] (fun x=>dH x.data.toList n.data.toList) v ss w call177 hb ?_ hv ft).mono ?_
 ·intro x hx u hu;refine(NW x n b u hu (hz x hx) hn).mono ?_;rintro e u'⟨he,hf⟩;exact⟨he,hf,hf.keep hu id⟩
 ·rintro e w'⟨he,hf,_⟩;exact⟨he,hf⟩
def jg:fI Value:=⟨0,⟨#[]⟩,⟨#[]⟩,⟨#[]⟩,false,⟨#[]⟩,false,.slice none 0 0⟩
abbrev gM:bS:= #[.int .i64 0,.string ⟨#[]⟩,.string ⟨#[]⟩,.string ⟨#[]⟩,.bool false,.string ⟨#[]⟩,.bool false,.slice none 0 0]
theorem RF:∀v∈gM.toList,v.oneCell'=true:=dt
theorem rf:gM.all (·.oneCell')=true:=dt
theorem ZN(r:fI Value)(h:r.dom.oneCell'=true):∀u∈r.cells,u.oneCell'=true:=by
 intro u hu;simp only[fI.cells,bB,cz,dU]at hu;rcases hu with rfl|rfl|rfl|rfl|rfl|rfl|rfl|rfl<;>first|rfl|exact h
theorem Ip(r:fI Value)(h:r.dom.oneCell'=true):r.cells.toArray.all (·.oneCell')=true:=bW (ZN r h)
def fR(w:World)(b:Nat)(r:fI Value):Prop:=w.heap[b]?=some (.cells r.cells.toArray 127 (0,0))
theorem fR.cell(h:fR w b r)(hu:r.cells[i]?=some u):w.cell? ⟨b,i,none⟩=some u:=by
 simp only[World.cell?,show w.heap[b]?=_ from h];simpa using hu
theorem fR.free(h:fR w b r)(i:Nat):w.frozen? ⟨b,i,none⟩=false:=by simp[World.frozen?,show w.heap[b]?=_ from h]
theorem fR.set{r':fI Value}(h:fR w b r)(i:Nat)(u:Value)(hr:r.cells.toArray.setIfInBounds i u=r'.cells.toArray):fR (w.setCell ⟨b,i,none⟩ u) b r':=by
 unfold fR;rw[b_ h i u,hr]
def kj(x:ni)(w:World)(e:Ending)(w':World):Prop :=
 Fr aS w w'/\match mU x with
  |none=>e=.returned (.tuple #[.agg gM,.bool false])
  |some a=>∃r:fI Value,r.Reads (Strs w.heap.size w') a/\e=.returned (.tuple #[.agg r.cells.toArray,.bool true])
theorem kj.no(h:mU x=none)(hf:Fr aS w w'):kj x w (.returned (.tuple #[.agg gM,.bool false])) w':=by
 refine⟨hf,?_⟩;rw[h]
theorem kj.yes{a:fI bE}(h:mU x=some a)(hf:Fr aS w w')(hr:r.Reads (Strs w.heap.size w') a):kj x w (.returned (.tuple #[.agg r.cells.toArray,.bool true])) w':=by
 refine⟨hf,?_⟩;rw[h];exact⟨r,hr,rfl⟩
structure RG (w:World) (x:ni) (pv:Value) (U:World):Prop where
 AY:kz U w.heap.size (bA x.scheme) (bA x.token) pv
 res:U.heap[w.heap.size+1]?=some (.cells gM 127 (0,0))
 fr:Fr aS w U
theorem RG.next(h:RG w x pv U)(hf:Fr aS U V):RG w x pv V:=⟨h.AY.fr hf id,hf.keep h.res id,h.fr.trans hf⟩
theorem RG.set(h:RG w x pv U)(hb:w.heap.size+1<b):RG w x pv (U.setCell ⟨b,i,none⟩ u):=by
 have hf:Fr (one b) U (U.setCell ⟨b,i,none⟩ u):=(ae (one b) U).setCell (p:=⟨b,i,none⟩) (fun _=>rfl) u;exact⟨h.AY.fr hf (fun e=>by have e':w.heap.size=b:=e;omega),hf.keep h.res (fun e=>by have e':w.heap.size+1=b:=e;omega),h.fr.step hf (fun k hk e=>by have e':k=b:=e;omega)⟩
theorem Strs.kind{g:Nat}(h:Strs base w v ss)(hg:v.ownBlock=some g):∃cur,w.heap[g]?=some (.cells cur 9 (0,0)):=by
 rcases h.2 with ⟨hv,_⟩|⟨g',cap,cur,hv,_,hh,_⟩
 ·rw[hv]at hg;simp[Value.ownBlock]at hg
 ·rw[hv]at hg;simp[Value.ownBlock]at hg;subst hg;exact⟨cur,hh⟩
theorem Strs.off{S:dB}(h:Strs base w v ss)(hf:Fr S w w')(hS:∀k,v.ownBlock=some k->¬S k):Strs base w' v ss:=by
 obtain⟨h1,h2⟩:=h;refine⟨h1,?_⟩;rcases h2 with h2|⟨g,cap,cur,hv,hg,hh,r⟩
 ·exact Or.inl h2
 ·exact Or.inr ⟨g,cap,cur,hv,hg,hf.keep hh (hS g (by rw[hv];rfl)),r⟩
theorem Strs.ZO{cs:bS}{t:TypeId}{f:Nat×Nat}(h:Strs base w v ss)(hf:Fr (one b) w w')(hb:w.heap[b]?=some (.cells cs t f))(ht:t≠9):Strs base w' v ss :=
 h.off hf (fun k hk e=>by
  obtain rfl:k=b:=e;obtain⟨cur,hc⟩:=h.kind hk;rw[hc]at hb;cases hb;exact ht rfl)
theorem RG.own(h:RG w x pv U)(hv:Strs w.heap.size U v ss)(hf:Fr (fun k=>v.ownBlock=some k) U V):RG w x pv V:=by
 have hn:∀ {b:Nat} {cs:bS} {t:TypeId} {f:Nat×Nat},U.heap[b]?=some (.cells cs t f)->t≠9->¬v.ownBlock=some b:=by
  intro b cs t f hb ht e;obtain⟨cur,hc⟩:=hv.kind e;rw[hc]at hb;cases hb;exact ht rfl
 exact⟨h.AY.fr hf (hn h.AY ag),hf.keep h.res (hn h.res ag),h.fr.step hf (fun k hk e=>by have:=hv.block k e;omega)⟩
theorem VJ{ps:List jn}{n v:Bs}(h:ke ps n=some v):∃p∈ps,v=p.2:=by
 unfold ke at h;obtain⟨p,hp,rfl⟩:=Option.map_eq_some_iff.1 h;exact⟨p,List.mem_of_find?_eq_some hp,rfl⟩
theorem ZQ(l:aH):(∃ws,gU l=.ok ws/\ws.length<=40/\TM l=O7 ws)\/((∀ws,gU l=.ok ws->40<ws.length)/\TM l=none):=by
 unfold TM;cases h:gU l with
 |ok ws =>
  by_cases hn:ws.length<=40
  ·exact Or.inl ⟨ws,rfl,hn,ar ab⟩
  ·refine Or.inr ⟨fun ws' h'=>?_,aA ab⟩;cases h';omega
 |error m=>exact Or.inr ⟨fun ws' h'=>(by cases h'),rfl⟩
theorem jm.aea{s:aj}{e:Ending}(h:jm s w e w')(hl:∀ws,gU s.data.toList=.ok ws->40<ws.length) :
  ∃v t x,e=.returned (.tuple #[v,.iface t x])/\Fr aS w w':=by
 obtain⟨v,er,he,hf,hm⟩:=h;cases hr:gU s.data.toList with
 |ok ws =>
  rw[hr]at hm;have G3:if 40<ws.length then v=.slice none 0 0/\Fi w' er (some (4,none))else Strs w.heap.size w' v (dQ ws)/\er=.nilIface:=hm
  rw[aA (hl ws hr)]at G3;obtain⟨_,hv⟩:=G3;exact⟨v,_,_,by rw[he,show er=_ from hv],hf⟩
 |error m =>
  rw[hr]at hm;obtain⟨_,g,hv,_⟩:=hm;exact⟨v,_,_,by rw[he,hv],hf⟩
theorem Gn:∀(f:Nat) (r:Bs) (ws:List Bs),lM f r=.ok ws->∀w∈ws,w.length<=r.length
 |0,r,ws,h,w,hw=>by rw[lM]at h;cases h;cases hw
 |f+1,r,ws,h,w,hw=>by
  rw[lM]at h;have h1:=pX dK r;have h2:=pX fV (r.dropWhile dK);have h3:=pX dK ((r.dropWhile dK).dropWhile fV);have h4:=pD fV (r.dropWhile dK);have dX:∀u∈(if((r.dropWhile dK).takeWhile fV).isEmpty then []else [(r.dropWhile dK).takeWhile fV]),u.length<=r.length:=by
   intro u hu;split at hu
   ·cases hu
   ·simp at hu;subst hu;omega
  cases e:((r.dropWhile dK).dropWhile fV).dropWhile dK with
  |nil =>
   rw[e]at h;simp only at h;cases h;exact dX w hw
  |cons c r4 =>
   rw[e]at h h3;simp only at h;split at h
   ·cases hr:lM f r4 with
    |error m=>rw[hr]at h;cases h
    |ok w2 =>
     rw[hr]at h;cases h;rcases bQ.1 hw with g|g
     ·exact dX w g
     ·have:=Gn f r4 w2 hr w g;simp at h3;omega
   ·cases h
def qK(ws:List Bs):Nat->Bs
 |0=>[]
 |1=>if ws.any (fun w=>dH w pZ)then pZ else []
 |_=>if ws.any (fun w=>dH w lY)then lY else if ws.any (fun w=>dH w pZ)then pZ else []
theorem aeb(ws:List Bs):O7 ws=if(qK ws 2).isEmpty then none else some (qK ws 2):=by
 unfold O7 qK;cases ws.any (fun w=>dH w lY)<;>cases ws.any (fun w=>dH w pZ)<;>rfl
theorem RH(ws:List Bs)(n:Bs):((dQ ws).any fun x=>dH x.data.toList (bA n).data.toList)=ws.any fun w=>dH w n:=by
 unfold dQ;rw[List.any_map,fT];rfl
def iH(d:Bs)(k:Nat):List Bs:=(((dY 32 d).take k).filter fun p=>MH 47 p).map oB
theorem aiH(l:Bs):Lib.hasPrefix l [47]=MH 47 l:=by
 cases l with
 |nil=>rfl
 |cons c l =>
  rw[fb];simp[Lib.hasPrefix,MH];exact eq_comm
def aiI(w:World)(x:ni)(pv:Value)(A Pb:Nat)(a:fI Value)(d:Bs)(t:Value)(wr:World):Prop :=
 ∃(k:Nat) (v:Value),k<=(dY 32 d).length/\t=.int .i64 k/\RG w x pv wr/\fR wr A {a with dom:=v}/\Strs w.heap.size wr v ((iH d k).map bA)/\wr.heap[Pb]?=some (.cells (((dY 32 d).map bA).map Value.string).toArray 9 (0,0))/\∀j,v.ownBlock=some j->Pb<j
theorem NX{p:Bs}(h:(dY 32 d)[k]?=some p):iH d (k+1)=iH d k++(if MH 47 p then [oB p]else []):=by
 unfold iH;rw[cC,h];simp only[Option.toList_some,cG,bG]
 congr 1
 rw[List.filter_cons];split<;>rfl
theorem RI(h:(dY 32 d).length<=k):iH d k=G2 d:=by unfold iH G2;rw[aD h]
theorem RJ(d:Bs)(k:Nat):(iH d k).length<=k:=by
 unfold iH;rw[ai];have h:=bT (fun p=>MH 47 p) ((dY 32 d).take k);rw[aM]at h;omega
theorem Gp(c:UInt8):∀d:Bs,(dY c d).length<=d.length+1/\∀p∈dY c d,p.length<=d.length
 |[]=>⟨by simp[dY],by simp[dY]⟩
 |x :: d=>by
  obtain⟨h1,h2⟩:=Gp c d;unfold dY;split
  ·refine⟨bH,fun p hp=>?_⟩;rcases bB.1 hp with rfl|g
   ·simp
   ·have:=h2 p g;simp;omega
  ·cases e:dY c d with
   |nil=>exact⟨aR,fun p hp=>by simp at hp;subst hp;simp⟩
   |cons q qs =>
    rw[e]at h1 h2;refine⟨by simp at h1 ⊢; omega,fun p hp=>?_⟩;rcases bB.1 hp with rfl|g
    ·have:=h2 q (cX ..);simp;omega
    ·have:=h2 p (bP _ g);simp;omega
theorem RL(c:UInt8)(d:Bs):iQ c (bA d)=(dY c d).map bA:=by
 unfold iQ;rw[fT];rfl
def aiJ(w:World)(x:ni)(pv:Value)(A:Nat)(a:fI Value)(ws:List Bs)(W:World)(t:Value)(wr:World):Prop :=
 ∃k:Nat,k<=2/\t=.int .i64 k/\RG w x pv wr/\fR wr A {a with eF:=bA (qK ws k)}/\Fr (one A) W wr
def aec(w:World)(x:ni)(pv:Value)(A:Nat)(a:fI Value)(wz:World):Prop:=∃q,TN x.params=some q/\RG w x pv wz/\fR wz A {a with eF:=bA q}
theorem RM(x:ni)(pv:Value)(w:World)(hp:lH w pv x.params)(hz:x.Fit) :
  aB 121 #[.agg #[.string (bA x.scheme),.string (bA x.token),pv]] w (kj x w):=by
 have sR:PU x.params:=⟨by have:=hz.qZ;omega,fun p hq=>by have:=hz.yX p hq;omega⟩;have au9:(bA x.scheme).size<=100000:=hz.scheme;have HZ:=O hz
 have GET:=O (show∀(n:Bs) U,n.length<1000->Fr aS w U->aB 173 #[.agg #[.string (bA x.scheme),.string (bA x.token),pv],.string (bA n)] U fun e w'=>e=.returned (.tuple #[.string (bA ((ke x.params n).getD [])),.bool (ke x.params n).isSome])/\Fr aS U w' from fun n U hn hU=>by
  have:=Zv (bA x.scheme) (bA x.token) pv x.params (bA n) U (bh hp hU) sR (by show n.length<_;omega);rw[fT]at this;exact this)
 have ZR:=O (show∀n,((ke x.params n).getD []).length<=99999 from fun n=>by
  cases h:ke x.params n with
  |none=>simp
  |some v =>
   obtain⟨p,hpm,rfl⟩:=VJ h;exact(hz.yX p hpm).2)
 have SMB:=O (show∀(n:Bs) U,n.length<1000->aB 113 #[.string (bA x.scheme),.string (bA n)] U fun e w'=>e=.returned (.bool (dH x.scheme n))/\Fr aS U w' from fun n U hn=>by
  have:=ml (bA x.scheme) (bA n) U ab (by show n.length<_;omega);rw[fT,fT]at this;exact this)
 have HK:=O (show mU x=match ke x.params vt with
  |none=>none
  |some aK =>
   if dH x.scheme G0 then some ⟨1,bA aK,bA [],bA [],false,bA [],false,[]⟩else
   match TL ((ke x.params yO).getD xJ)with
   |none=>none
   |some (k,cA) =>
    if !dH x.scheme Ch then none else
    match ke x.params vu with
    |none=>none
    |some bq =>
     match TN x.params with
     |none=>none
     |some q=>some ⟨k,bA aK,bA bq,bA ((ke x.params lZ).getD []),cA,bA q,dH ((ke x.params Aw).getD []) lN,(G2 ((ke x.params qI).getD [])).map bA⟩from rfl)
 obtain⟨av,cv,hv⟩:=hp.form;subst hv;obtain⟨w2,eA⟩:∃w2,w2=(w.alloc (.cells #[.string (bA x.scheme),.string (bA x.token),.slice av x.params.length cv] 208)).alloc (.cells gM 127):=⟨_,rfl⟩;have Mo:w2.heap.size=w.heap.size+2:=by rw[eA];simp
 have K0:RG w x (.slice av x.params.length cv) w2:=by
  have f1:Fr aS (w.alloc (.cells #[.string (bA x.scheme),.string (bA x.token),.slice av x.params.length cv] 208)) w2:=by rw[eA];exact(ae _ _).alloc _
  refine⟨f1.keep (aC w _) id,?_,((ae aS w).alloc _).trans f1⟩;rw[eA];have:=aC (w.alloc (.cells #[.string (bA x.scheme),.string (bA x.token),.slice av x.params.length cv] 208)) (.cells gM 127);simpa using this
 have nD:=O eA;clear hp hz sR eA;generalize MY:Value.slice av x.params.length cv=pv at *
 clear MY;go_enter func121,ntmps121;go_wp2_with fail
 rw[<-nD.o];refine(GET.o vt w2 ag K0.fr).mono ?_;rintro e u1⟨rfl,hf⟩;have K1:=K0.next hf;have tY:w.heap.size+1<u1.heap.size:=by have:=hf.size;omega
 clear hf;cases hre:ke x.params vt with
 |none =>
  go_wp2_with (first|((with_reducible refine cV 127 ?_);refine aG rfl 127 (.tmp 2) (.tmp 27) rfl (w.heap.size+1) gM rfl rfl _ gM K1.res af rfl rf ?_)|fail)
  refine aU (results_cell_tmp bC _ _ (w.heap.size+1) 127 gM (0,0) _ rfl (aY u1 (w.heap.size+1) _ _ _ _ K1.res) underlying127 rfl af) rfl ?_;exact kj.no (by rw[HK.o,hre]) ((K1.fr).setRow (fun h=>absurd h ab) _)
 |some aK =>
  have mJ:=O (show mU x=_ by rw[HK.o,hre]);simp only at mJ;clear HK hre;have x0:=K1.AY.cell0;have x1:=K1.AY.gW;have x2:=K1.AY.lO;have jq:=fun W=>run_storeCells_new (P:=prog) W 127 gM [.int .i64 1,.string (bA aK),.string ⟨#[]⟩,.string ⟨#[]⟩,.bool false,.string ⟨#[]⟩,.bool false,.slice none 0 0] rfl (by intro u hu;simp at hu;rcases hu with rfl|rfl|rfl|rfl|rfl|rfl|rfl|rfl<;>rfl)
  obtain⟨u2,nj⟩:∃u2,u2=u1.alloc (.cells #[.int .i64 1,.string (bA aK),.string ⟨#[]⟩,.string ⟨#[]⟩,.bool false,.string ⟨#[]⟩,.bool false,.slice none 0 0] 127):=⟨_,rfl⟩;have hf:Fr aS u1 u2:=by rw[nj];exact(ae _ _).alloc _
  have K2:=K1.next hf;have A2:fR u2 u1.heap.size {jg with scheme:=1,aK:=bA aK}:=by rw[nj];exact aC _ _
  have x0a:∀o:Obj,(u1.alloc o).cell? ⟨w.heap.size,0,none⟩=some (.string (bA x.scheme)):=fun o=>(K1.AY.fr ((ae aS u1).alloc o) id).cell0;have tu:=O nj;generalize hA:u1.heap.size=A at *
  clear nj;go_wp2_with fail
  rw[<-tu.o];refine(SMB.o G0 u2 ag).mono ?_;rintro e u3⟨rfl,il⟩;have K3:=K2.next il;have A3:fR u3 A {jg with scheme:=1,aK:=bA aK}:=il.keep A2 id;have hA3:A<u3.heap.size:=bj A3;clear x0 x1 x2 x0a jq A2 K2 il;cases hbs:dH x.scheme G0 with
  |true =>
   have yC:(prog.info? 127).map (·.size)=some ({jg with scheme:=1,aK:=bA aK}).cells.toArray.size:=af;have AZ:u3.heap[A]?=some (.cells ({jg with scheme:=1,aK:=bA aK}).cells.toArray 127 (0,0)):=A3;have YZ:=Ip ({jg with scheme:=1,aK:=bA aK}) rfl
   go_wp2_with (first|((with_reducible refine dk 33 ?_);refine aI rfl 127 (.tmp 6) rfl A rfl _ ({jg with scheme:=1,aK:=bA aK}).cells.toArray (0,0) _ AZ underlying127 rfl yC ?_)|((with_reducible refine cV 127 ?_);refine aG rfl 127 (.tmp 2) (.tmp 33) rfl (w.heap.size+1) ({jg with scheme:=1,aK:=bA aK}).cells.toArray rfl rfl _ gM K3.res yC rfl YZ ?_)|fail)
   refine aU (results_cell_tmp bC _ _ (w.heap.size+1) 127 ({jg with scheme:=1,aK:=bA aK}).cells.toArray (0,0) _ rfl (aY u3 (w.heap.size+1) _ _ _ _ K3.res) underlying127 rfl yC) rfl ?_;exact kj.yes (by rw[mJ.o,aA hbs]) ((K3.fr).setRow (fun h=>absurd h ab) _) ⟨rfl,rfl,rfl,rfl,rfl,rfl,rfl,kI _ _⟩
  |false =>
   rw[hbs]at mJ;clear hbs;have x0:=K3.AY.cell0;have x1:=K3.AY.gW;have x2:=K3.AY.lO;go_wp2_with fail
   refine(GET.o yO u3 ag K3.fr).mono ?_;rintro e u4⟨rfl,hf⟩;have K4:=K3.next hf;have A4:fR u4 A {jg with scheme:=1,aK:=bA aK}:=hf.keep A3 id;clear x0 x1 x2 A3 K3 hf
   go_upto_if 40 with fail
   go_cut [5,7] (fun _ s7 wz=>s7=.string (bA ((ke x.params yO).getD xJ))/\u4=wz)
   case first =>
    cases BS:ke x.params yO with
    |none =>
     go_wp2_with fail
     go_meet
     rw[BS];exact⟨rfl,rfl⟩
    |some v =>
     go_wp2_with fail
     go_meet
     rw[BS];exact⟨rfl,rfl⟩
   case rest =>
   obtain⟨rfl,rfl⟩:=hcut;have HNL:=O (ZR.o yO);have rJ:(bA ((ke x.params yO).getD xJ)).size<17592186044416:=by
    show((ke x.params yO).getD xJ).length<_;cases hg:ke x.params yO with
    |none=>decide
    |some v =>
     have h:=HNL.o;rw[hg]at h;have:v.length<=99999:=h;show v.length<_;omega
   generalize (ke x.params yO).getD xJ=alg at *
   have a0:=A4.cell (i:=0) rfl;have f0:=A4.free 0;go_wp2_with fail
   refine(E5 (bA alg) u4 rJ).mono ?_;rintro e u5⟨rfl,hf⟩;rw[fT];have K5:=K4.next hf;have A5:fR u5 A {jg with scheme:=1,aK:=bA aK}:=hf.keep A4 id;have Iq:w.heap.size+1<A:=tY;clear A4 K4 hf HNL rJ a0 f0;cases har:TL alg with
   |none =>
    have HE:=O (show mU x=none by rw[mJ.o,har];rfl);have hv0:NV alg=.tuple #[.int .i64 0,.bool false,.bool false]:=by unfold NV;rw[har]
    rw[hv0];have K6:=(K5.set (i:=0) (u:=.int .i64 0) Iq).set (i:=4) (u:=.bool false) Iq;have a0:=A5.cell (i:=0) rfl;have f0:=A5.free 0;have A5b:=A5.set (r':={jg with scheme:=0,aK:=bA aK}) 0 (.int .i64 0) rfl;have a4:=A5b.cell (i:=4) rfl;have f4:=A5b.free 4
    go_wp2_with (first|((with_reducible refine cV 127 ?_);refine aG rfl 127 (.tmp 2) (.tmp 57) rfl (w.heap.size+1) gM rfl rfl _ gM K6.res af rfl rf ?_)|fail)
    refine aU (results_cell_tmp bC _ _ (w.heap.size+1) 127 gM (0,0) _ rfl (aY _ (w.heap.size+1) _ _ _ _ K6.res) underlying127 rfl af) rfl ?_;exact kj.no (by exact HE.o) ((K6.fr).setRow (fun h=>absurd h ab) _)
   |some q =>
    obtain⟨k,cA⟩:=q;have hv0:NV alg=.tuple #[.int .i64 k,.bool cA,.bool true]:=by unfold NV;rw[har]
    rw[hv0];rw[har]at mJ;simp only at mJ;have K6:=(K5.set (i:=0) (u:=.int .i64 k) Iq).set (i:=4) (u:=.bool cA) Iq;have a0:=A5.cell (i:=0) rfl;have f0:=A5.free 0;have A5b:=A5.set (r':={jg with scheme:=k,aK:=bA aK}) 0 (.int .i64 k) rfl;have a4:=A5b.cell (i:=4) rfl;have f4:=A5b.free 4;have A6:=A5b.set (r':={jg with scheme:=k,aK:=bA aK,cA:=cA}) 4 (.bool cA) rfl;have x0:=K6.AY.cell0;clear hv0 har
    go_wp2_with fail
    clear a0 f0 a4 f4 A5b A5 K5;generalize (u5.setCell ⟨A,0,none⟩ (.int .i64 k)).setCell ⟨A,4,none⟩ (.bool cA)=u6 at *
    refine(SMB.o Ch u6 ag).mono ?_;rintro e u7⟨rfl,hf⟩;have K7:=K6.next hf;have A7:fR u7 A {jg with scheme:=k,aK:=bA aK,cA:=cA}:=hf.keep A6 id;clear A6 K6 hf x0;cases hds:dH x.scheme Ch with
    |false =>
     have HE:=O (show mU x=none by rw[mJ.o,hds];rfl);go_wp2_with (first|((with_reducible refine cV 127 ?_);refine aG rfl 127 (.tmp 2) (.tmp 57) rfl (w.heap.size+1) gM rfl rfl _ gM K7.res af rfl rf ?_)|fail)
     refine aU (results_cell_tmp bC _ _ (w.heap.size+1) 127 gM (0,0) _ rfl (aY u7 (w.heap.size+1) _ _ _ _ K7.res) underlying127 rfl af) rfl ?_;exact kj.no (by exact HE.o) ((K7.fr).setRow (fun h=>absurd h ab) _)
    |true =>
     rw[hds]at mJ;have x0:=K7.AY.cell0;have x1:=K7.AY.gW;have x2:=K7.AY.lO;go_wp2_with fail
     refine(GET.o vu u7 ag K7.fr).mono ?_;rintro e u8⟨rfl,hf⟩;have K8:=K7.next hf;have A8:fR u8 A {jg with scheme:=k,aK:=bA aK,cA:=cA}:=hf.keep A7 id;have a2:=A8.cell (i:=2) rfl;have f2:=A8.free 2;clear A7 K7 hf x0 x1 x2;cases KM:ke x.params vu with
     |none =>
      have HE:=O (show mU x=none by rw[mJ.o,KM];rfl);have K9:=K8.set (i:=2) (u:=.string (bA [])) Iq;go_wp2_with (first|((with_reducible refine cV 127 ?_);refine aG rfl 127 (.tmp 2) (.tmp 66) rfl (w.heap.size+1) gM rfl rfl _ gM K9.res af rfl rf ?_)|fail)
      refine aU (results_cell_tmp bC _ _ (w.heap.size+1) 127 gM (0,0) _ rfl (aY _ (w.heap.size+1) _ _ _ _ K9.res) underlying127 rfl af) rfl ?_;exact kj.no (by exact HE.o) ((K9.fr).setRow (fun h=>absurd h ab) _)
     |some bq =>
      rw[KM]at mJ;simp only[Bool.not_true,cJ,eV]at mJ;have K9:=K8.set (i:=2) (u:=.string (bA bq)) Iq;have A9:=A8.set (r':={jg with scheme:=k,aK:=bA aK,bq:=bA bq,cA:=cA}) 2 (.string (bA bq)) rfl;have x0:=K9.AY.cell0;have x1:=K9.AY.gW;have x2:=K9.AY.lO;go_wp2_with fail
      clear a2 f2 A8 K8 x0 x1 x2;generalize u8.setCell ⟨A,2,none⟩ (.string (bA bq))=u9 at *
      refine(GET.o JQ u9 ag K9.fr).mono ?_;rintro e u10⟨rfl,hf⟩;have K10:=K9.next hf;have A10:fR u10 A {jg with scheme:=k,aK:=bA aK,bq:=bA bq,cA:=cA}:=hf.keep A9 id;have au':A<u10.heap.size:=bj A10;have HQP:=O (show TN x.params=match ke x.params JQ with|none=>some []|some q=>TM q from rfl);clear A9 K9 hf
      go_upto_if 72 with fail
      go_cut [8,9,10,11,12,13]from 67 to 96 (fun _ _ _ _ _ _ wz=>aec w x pv A {jg with scheme:=k,aK:=bA aK,bq:=bA bq,cA:=cA} wz)
      case first =>
       have HQL:=O (ZR.o JQ);cases hq:ke x.params JQ with
       |none =>
        go_wp2_with fail
        go_meet
        exact⟨[],by rw[HQP.o,hq],K10,A10⟩
       |some q =>
        rw[hq]at HQP HQL;simp only[Option.getD_some]at HQP HQL;have hql:(bA q).size<4398046511104:=by
         have h:q.length<=99999:=HQL.o;show q.length<_;omega
        have LI:=O (JP (bA q) u10 hql);clear hql;go_wp2_with fail
        refine LI.o.mono ?_;intro e VK hlp;rcases ZQ q with ⟨ws,yf,Ew,hqo⟩|⟨KM,hqo⟩
        case inr =>
         obtain⟨lv,lt,lx,rfl,hf⟩:=hlp.aea (by rw[fT];exact KM);have HE:=O (show mU x=none by rw[mJ.o,HQP.o,hqo]);have K11:=K10.next hf;clear hlp KM hqo;go_wp2_with (first|((with_reducible refine cV 127 ?_);refine aG rfl 127 (.tmp 2) (.tmp 80) rfl (w.heap.size+1) gM rfl rfl _ gM K11.res af rfl rf ?_)|fail)
         refine aU (results_cell_tmp bC _ _ (w.heap.size+1) 127 gM (0,0) _ rfl (aY VK (w.heap.size+1) _ _ _ _ K11.res) underlying127 rfl af) rfl ?_;exact kj.no (by exact HE.o) ((K11.fr).setRow (fun h=>absurd h ab) _)
        case inl =>
         obtain⟨lv,rfl,hlv,hf⟩:=hlp.isOk (ws:=ws) (by rw[fT];exact yf) Ew;have K11:=K10.next hf;have A11:fR VK A {jg with scheme:=k,aK:=bA aK,bq:=bA bq,cA:=cA}:=hf.keep A10 id;have arH:=hf.size;have HWZ:=O (show∀y∈dQ ws,y.size<17592186044416 from fun y hy=>by
          obtain⟨w0,VL,rfl⟩:=bZ.1 hy;have h1:=Gn _ _ _ yf w0 VL;have h2:q.length<=99999:=HQL.o;show w0.length<_;omega)
         have HQO:=O (show TN x.params=if(qK ws 2).isEmpty then none else some (qK ws 2)by rw[HQP.o,hqo,aeb]);clear hlp yf hqo hf A10 K10;obtain⟨u12,ZS⟩:∃u12,u12=VK.alloc (.cells #[.string (bA pZ),.string (bA lY)] 9):=⟨_,rfl⟩;have hf:Fr aS VK u12:=by rw[ZS];exact(ae _ _).alloc _
         have aon:u12.heap[VK.heap.size]?=some (.cells #[.string (bA pZ),.string (bA lY)] 9 (0,0)):=by rw[ZS];exact aC _ _
         have K12:=K11.next hf;have A12:fR u12 A {jg with scheme:=k,aK:=bA aK,bq:=bA bq,cA:=cA}:=hf.keep A11 id;have aiO:=hlv.fr hf (fun _ h=>h.elim);have aoo:=O ZS;obtain⟨la,lc,hle⟩:=aiO.form;have hAB:A<VK.heap.size:=ab;clear ZS hf A11 K11 hlv;subst hle;go_wp2_with fail
         rw[show VK.alloc (.cells #[.string ⟨#[97,117,116,104,45,105,110,116]⟩,.string ⟨#[97,117,116,104]⟩] 9)=u12 from aoo.o.symm];go_loopw[83] (aiJ w x pv A {jg with scheme:=k,aK:=bA aK,bq:=bA bq,cA:=cA} ws u12) (fun t _=>2-(intOf t).toNat)
         case atStart=>exact⟨0,ab,rfl,K12,A12,ae _ _⟩
         case round =>
          obtain⟨m,hm,rfl,K13,A13,cL⟩:=hrel;have hAr:A<wr.heap.size:=bj A13;have hbr:=cL.keep aon (fun e=>by have e':VK.heap.size=A:=e;omega);have hlr:=aiO.fr cL (fun j e=>by have e':j=A:=e;omega);have c0:wr.cell? ⟨VK.heap.size,0,none⟩=some (.string (bA pZ)):=by simp[World.cell?,hbr]
          have c1:wr.cell? ⟨VK.heap.size,1,none⟩=some (.string (bA lY)):=by simp[World.cell?,hbr]
          have Ln:∀n:Bs,n.length<=8->∃wn,wn=wr.alloc (.cells #[.string (bA n)] 9)/\Im wn wr.heap.size (bA n)/\Fr aS wr wn/\aB 176 #[.slice la (dQ ws).length lc,.func (.func 177) #[] #[.pointer (some ⟨wr.heap.size,0,none⟩)]] wn fun e w'=>e=.returned (.bool (ws.any fun y=>dH y n))/\Fr aS wn w':=by
           intro n hn;have FQ:Fr aS wr (wr.alloc (.cells #[.string (bA n)] 9)):=(ae _ _).alloc _;have hb:=aC wr (.cells #[.string (bA n)] 9);refine⟨_,rfl,hb,FQ,?_⟩;have h:=ZM (bA n) wr.heap.size _ (dQ ws) _ (hlr.fr FQ (fun _ h=>h.elim)).at (by rw[pz];omega) hb (by show n.length<_;omega) HWZ.o;rw[RH]at h;exact h
          rcases(show m=0\/m=1\/m=2 from ab)with rfl|rfl|rfl
          case inl =>
           obtain⟨wn,XC,Hi,FQ,CF⟩:=Ln pZ ag;have HWN:=O XC;have Pm:wn.cell? ⟨wr.heap.size,0,none⟩=some (.string (bA pZ)):=by simp[World.cell?,show wn.heap[wr.heap.size]?=_ from Hi]
           clear Ln XC;go_wp2_with fail
           rw[<-HWN.o];refine CF.mono ?_;rintro e w14⟨rfl,Ir⟩;have K14:=(K13.next FQ).next Ir;have ZT:fR w14 A {jg with scheme:=k,aK:=bA aK,bq:=bA bq,cA:=cA,eF:=bA (qK ws 0)}:=Ir.keep (FQ.keep A13 id) id;have VM:=O ((cL.trans FQ.mX).trans Ir.mX);have aoq:w14.cell? ⟨wr.heap.size,0,none⟩=some (.string (bA pZ)):=(Ir.cell (p:=⟨wr.heap.size,0,none⟩) (bj Hi) id).trans Pm;have a5:=ZT.cell (i:=5) rfl
           have f5:=ZT.free 5;cases ja:ws.any (fun y=>dH y pZ)
           case false =>
            have Jk:=O (show qK ws 1=qK ws 0 by show(if ws.any (fun w=>dH w pZ)then pZ else [])=[];rw[ja];rfl);go_wp2;go_roundw
            case rel=>exact⟨1,ab,bg,K14,by rw[Jk.o];exact ZT,VM.o⟩
            case measure=>simp[intOf]
           case true =>
            have Jk:=O (show qK ws 1=pZ by show(if ws.any (fun w=>dH w pZ)then pZ else [])=_;rw[ja];rfl);have K15:=K14.set (i:=5) (u:=.string (bA pZ)) Iq;have A15:=ZT.set (r':={jg with scheme:=k,aK:=bA aK,bq:=bA bq,cA:=cA,eF:=bA pZ}) 5 (.string (bA pZ)) rfl;have aeg:=O (VM.o.setCell (p:=⟨A,5,none⟩) (fun _=>rfl) (.string (bA pZ)));go_wp2;go_roundw
            case rel=>exact⟨1,ab,bg,K15,by rw[Jk.o];exact A15,aeg.o⟩
            case measure=>simp[intOf]
          case inr.inl =>
           obtain⟨wn,XC,Hi,FQ,CF⟩:=Ln lY ag;have HWN:=O XC;have Pm:wn.cell? ⟨wr.heap.size,0,none⟩=some (.string (bA lY)):=by simp[World.cell?,show wn.heap[wr.heap.size]?=_ from Hi]
           clear Ln XC;go_wp2_with fail
           rw[<-HWN.o];refine CF.mono ?_;rintro e w14⟨rfl,Ir⟩;have K14:=(K13.next FQ).next Ir;have ZT:fR w14 A {jg with scheme:=k,aK:=bA aK,bq:=bA bq,cA:=cA,eF:=bA (qK ws 1)}:=Ir.keep (FQ.keep A13 id) id;have VM:=O ((cL.trans FQ.mX).trans Ir.mX);have aoq:w14.cell? ⟨wr.heap.size,0,none⟩=some (.string (bA lY)):=(Ir.cell (p:=⟨wr.heap.size,0,none⟩) (bj Hi) id).trans Pm;have a5:=ZT.cell (i:=5) rfl
           have f5:=ZT.free 5;cases ja:ws.any (fun y=>dH y lY)
           case false =>
            have Jk:=O (show qK ws 2=qK ws 1 by show(if ws.any (fun w=>dH w lY)then lY else qK ws 1)=_;rw[ja];rfl);go_wp2;go_roundw
            case rel=>exact⟨2,ab,bg,K14,by rw[Jk.o];exact ZT,VM.o⟩
            case measure=>simp[intOf]
           case true =>
            have Jk:=O (show qK ws 2=lY by show(if ws.any (fun w=>dH w lY)then lY else qK ws 1)=_;rw[ja];rfl);have K15:=K14.set (i:=5) (u:=.string (bA lY)) Iq;have A15:=ZT.set (r':={jg with scheme:=k,aK:=bA aK,bq:=bA bq,cA:=cA,eF:=bA lY}) 5 (.string (bA lY)) rfl;have aeg:=O (VM.o.setCell (p:=⟨A,5,none⟩) (fun _=>rfl) (.string (bA lY)));go_wp2;go_roundw
            case rel=>exact⟨2,ab,bg,K15,by rw[Jk.o];exact A15,aeg.o⟩
            case measure=>simp[intOf]
          case inr.inr =>
           have a5:=A13.cell (i:=5) rfl;clear Ln c0 c1;cases QR:(qK ws 2).isEmpty
           case true =>
            have HE:=O (show mU x=none by rw[mJ.o,HQO.o,QR];rfl);have e1:(bA (qK ws 2)).toList=[]:=by rw[mM];exact gA.1 QR
            have e2:((bA (qK ws 2)).toList== [])=true:=dT.2 e1;go_wp2_with (first|((with_reducible refine cV 127 ?_);refine aG rfl 127 (.tmp 2) (.tmp 96) rfl (w.heap.size+1) gM rfl rfl _ gM K13.res af rfl rf ?_)|fail)
            refine aU (results_cell_tmp bC _ _ (w.heap.size+1) 127 gM (0,0) _ rfl (aY wr (w.heap.size+1) _ _ _ _ K13.res) underlying127 rfl af) rfl ?_;exact kj.no (by exact HE.o) ((K13.fr).setRow (fun h=>absurd h ab) _)
           case false =>
            have e1:¬(bA (qK ws 2)).toList=[]:=by rw[mM];intro e;rw[e]at QR;cases QR
            have e2:((bA (qK ws 2)).toList== [])=false:=aL.2 e1;go_wp2_with fail
            go_meet
            exact⟨qK ws 2,by rw[HQO.o,QR];rfl,K13,A13⟩
      case rest =>
      obtain⟨q,hqp,K20,A20⟩:=hcut;have HE1:=O (show mU x=some ⟨k,bA aK,bA bq,bA ((ke x.params lZ).getD []),cA,bA q,dH ((ke x.params Aw).getD []) lN,(G2 ((ke x.params qI).getD [])).map bA⟩by rw[mJ.o,hqp]);clear mJ hqp HQP K10 A10;have x0:=K20.AY.cell0;have x1:=K20.AY.gW;have x2:=K20.AY.lO;go_wp2_with fail
      refine(GET.o lZ wc ag K20.fr).mono ?_;rintro e u21⟨rfl,hf⟩;have K21:=K20.next hf;have A21:fR u21 A {jg with scheme:=k,aK:=bA aK,bq:=bA bq,cA:=cA,eF:=bA q}:=hf.keep A20 id;clear x0 x1 x2 A20 K20 hf;generalize (ke x.params lZ).getD []=op at *
      have a3:=A21.cell (i:=3) rfl;have f3:=A21.free 3;have K22:=K21.set (i:=3) (u:=.string (bA op)) Iq;have A22:=A21.set (r':={jg with scheme:=k,aK:=bA aK,bq:=bA bq,cy:=bA op,cA:=cA,eF:=bA q}) 3 (.string (bA op)) rfl;have x0:=K22.AY.cell0;have x1:=K22.AY.gW;have x2:=K22.AY.lO;go_wp2_with fail
      clear a3 f3 A21 K21 x0 x1 x2;generalize u21.setCell ⟨A,3,none⟩ (.string (bA op))=u22 at *
      refine(GET.o Aw u22 ag K22.fr).mono ?_;rintro e u23⟨rfl,hf⟩;have K23:=K22.next hf;have A23:fR u23 A {jg with scheme:=k,aK:=bA aK,bq:=bA bq,cy:=bA op,cA:=cA,eF:=bA q}:=hf.keep A22 id;have HSL:=O (ZR.o Aw);generalize (ke x.params Aw).getD []=st at *
      have M4:(bA st).size<17592186044416:=by have h:st.length<=99999:=HSL.o;show st.length<_;omega
      have SMT:=O (ml (bA st) (bA lN) u23 M4 ag);rw[fT,fT]at SMT;clear M4 HSL A22 K22 hf;go_wp2_with fail
      refine SMT.o.mono ?_;rintro e u24⟨rfl,hf⟩;have K24:=K23.next hf;have A24:fR u24 A {jg with scheme:=k,aK:=bA aK,bq:=bA bq,cy:=bA op,cA:=cA,eF:=bA q}:=hf.keep A23 id;have a6:=A24.cell (i:=6) rfl;have f6:=A24.free 6;have K25:=K24.set (i:=6) (u:=.bool (dH st lN)) Iq;have A25:=A24.set (r':={jg with scheme:=k,aK:=bA aK,bq:=bA bq,cy:=bA op,cA:=cA,eF:=bA q,cN:=dH st lN}) 6 (.bool (dH st lN)) rfl
      have x0:=K25.AY.cell0;have x1:=K25.AY.gW;have x2:=K25.AY.lO;clear SMT A23 K23 hf;go_wp2_with fail
      clear a6 f6 A24 K24 x0 x1 x2;generalize u24.setCell ⟨A,6,none⟩ (.bool (dH st lN))=u25 at *
      refine(GET.o qI u25 ag K25.fr).mono ?_;rintro e ZV⟨rfl,hf⟩;have K26:=K25.next hf;have A26:fR ZV A {jg with scheme:=k,aK:=bA aK,bq:=bA bq,cy:=bA op,cA:=cA,eF:=bA q,cN:=dH st lN}:=hf.keep A25 id;have HDL:=O (ZR.o qI);generalize (ke x.params qI).getD []=d at *
      have avh:A<ZV.heap.size:=bj A26;have SP:=O (show aB 131 #[.string (bA d),.string ⟨#[32]⟩] ZV fun e w'=>e=.returned (.slice (some ⟨ZV.heap.size,0,none⟩) (dY 32 d).length (dY 32 d).length)/\w'=ZV.alloc (.cells (((dY 32 d).map bA).map Value.string).toArray 9)from by
       have h:=xY (bA d) 32 ZV (by have h:d.length<=99999:=HDL.o;show d.length<_;omega);rw[RL,ai]at h;exact h)
      obtain⟨XM,xF⟩:=Gp 32 d;clear hf A25 K25;go_wp2_with fail
      refine SP.o.mono ?_;rintro e u27⟨rfl,aei⟩;have hf:Fr aS ZV u27:=by rw[aei];exact(ae _ _).alloc _
      have Xx:u27.heap[ZV.heap.size]?=some (.cells (((dY 32 d).map bA).map Value.string).toArray 9 (0,0)):=by rw[aei];exact aC _ _
      have K27:=K26.next hf;have A27:fR u27 A {jg with scheme:=k,aK:=bA aK,bq:=bA bq,cy:=bA op,cA:=cA,eF:=bA q,cN:=dH st lN}:=hf.keep A26 id;generalize hPb:ZV.heap.size=Pb at *
      clear SP aei hf A26 K26;go_wp2_with fail
      go_loopw[119] (aiI w x pv A Pb {jg with scheme:=k,aK:=bA aK,bq:=bA bq,cy:=bA op,cA:=cA,eF:=bA q,cN:=dH st lN} d) (fun t _=>(dY 32 d).length-(intOf t).toNat)
      case atStart=>exact⟨0,.slice none 0 0,aQ _,rfl,K27,A27,kI _ _,Xx,fun j e=>by simp[Value.ownBlock]at e⟩
      case round =>
        obtain⟨m,v,hm,rfl,K30,A30,Lp,P3,hvP⟩:=hrel;have hAr:A<wr.heap.size:=bj A30;have hd:d.length<=99999:=HDL.o;by_cases hms:m<(dY 32 d).length
        case pos =>
         have hmi:(m:Int)<((dY 32 d).length:Int):=ab;have dP:=O (List.getElem?_eq_getElem hms);have Ev:=xF _ (bM hms);generalize (dY 32 d)[m]=p at dP Ev;have c0:wr.cell? ⟨Pb,m,none⟩=some (.string (bA p)):=by
          simp only[World.cell?,P3];rw[List.getElem?_toArray,List.getElem?_map,List.getElem?_map,dP.o];rfl
         have HSU:=O (NX dP.o);have HP:=O (show aB 178 #[.string (bA p),.string ⟨#[47]⟩] wr fun e w'=>e=.returned (.bool (MH 47 p))/\wr=w' from by
          have h:=strings_HasPrefix (bA p) ⟨#[47]⟩ wr;rw[fT,show(⟨#[47]⟩:aj).data.toList=[47]from rfl,aiH]at h;exact h.mono (fun e w' ⟨h1,h2⟩=>⟨h1,h2.symm⟩))
         go_wp2_with fail
         refine HP.o.mono ?_;rintro e w31⟨rfl,rfl⟩;clear HP c0;cases hpf:MH 47 p
         case false =>
          have aem:=O (show iH d (m+1)=iH d m by rw[HSU.o,hpf];simp);go_wp2;go_roundw
          case rel=>exact⟨m+1,v,ab,bg,K30,A30,by rw[aem.o];exact Lp,P3,hvP⟩
          case measure=>simp[intOf];omega
         case true =>
          have aem:=O (show(iH d (m+1)).map bA=(iH d m).map bA++[bA (oB p)]by rw[HSU.o,hpf];simp);have EO:=O (show∀U,aB 179 #[.string (bA p)] U fun e w'=>e=.returned (.string (bA (oB p)))/\Fr aS U w' from fun U=>by
           have h:=Q5 (bA p) U (by show p.length<_;omega);rw[fT]at h;exact h)
          obtain⟨va,vc,hve⟩:=Lp.form;rw[ai]at hve;have hdl:=RJ d m;subst hve;have a7:wr.cell? ⟨A,7,none⟩=some (.slice va (iH d m).length vc):=A30.cell rfl;have f7:=A30.free 7;have hoA:(Value.slice va (iH d m).length vc).ownBlock≠some A:=fun e=>by
           obtain⟨cur,hc⟩:=Lp.kind e;rw[show wr.heap[A]?=_ from A30]at hc;simp at hc
          have DG:=O (show∀U,Fr aS wr U->U.cell? ⟨A,7,none⟩=some (.slice va (iH d m).length vc)/\U.frozen? ⟨A,7,none⟩=false from fun U hU=>⟨(hU.cell (p:=⟨A,7,none⟩) hAr id).trans a7,(hU.frozen (p:=⟨A,7,none⟩) hAr id).trans f7⟩);obtain⟨i0,qp,o9,kQ,ld⟩:=info_parts yG;have hwr:w.heap.size<=wr.heap.size:=K30.fr.size;have aoz:=O Lp;clear Lp hpf;go_wp2_with fail
          go_region_law (first
           |((with_reducible refine mL ⟨some 128,_,_,_,_,_⟩ ?_)
             refine Ay rfl 179 _ (by go_simp) (EO.o _) ?_
             rintro e w3⟨rfl,il⟩
             refine⟨_,rfl,?_⟩
             have iq:Fr aS wr w3:=bF (by repeat(first|exact ae _ _|apply az)) il
             obtain⟨k3,l3⟩:=DG.o w3 iq
             have k3a:∀o:Obj,(w3.alloc o).cell? ⟨A,7,none⟩=some (.slice va (iH d m).length vc):=fun o=>(DG.o _ (iq.alloc o)).1
             have fq:=aoz.o.fr iq (fun _ h=>h.elim)
             have sV:w.heap.size<=w3.heap.size:=aF hwr iq.size
             have VN:w3.ownsRow w.heap.size 9 1 (.slice va (iH d m).length vc) (iH d m).length (((iH d m).map bA).map Value.string):=by
               have hh:w3.ownsRow w.heap.size 9 1 (.slice va (iH d m).length vc) ((iH d m).map bA).length (((iH d m).map bA).map Value.string):=fq
               rw[ai]at hh
               exact hh
             clear il)
           |((with_reducible refine mL ⟨some 130,_,_,_,_,_⟩ ?_)
             refine step_append_lies _ bC _ _ _ bC w.heap.size 9 i0 _ 1 16 underlying125 qp o9 kQ ld rfl ab (.slice va (iH d m).length vc) (iH d m).length _ bC (by repeat(first|exact VN|apply World.ownsRow.alloc|apply World.ownsRow.drew)) ⟨w3.heap.size,0,none⟩ 1 1 [.string (bA (oB p))] bC bC (kF w3 [.string (bA (oB p))] _) ct ab ft ab bH (w3.heap.size+1) aR ?_
             intro gg cap w4 eZ js Ua KG
             have H_:Fr (fun k=>(Value.slice va (iH d m).length vc).ownBlock=some k) w3 w4:=fl (by repeat(first|exact ae _ _|apply az|apply bz)) js (fun _ hk _=>hk)
             have hA3:A<w3.heap.size:=cO hAr iq.size
             have k4:w4.cell? ⟨A,7,none⟩=some (.slice va (iH d m).length vc):=(H_.cell (p:=⟨A,7,none⟩) hA3 hoA).trans k3
             have e4:w4.frozen? ⟨A,7,none⟩=false:=(H_.frozen (p:=⟨A,7,none⟩) hA3 hoA).trans l3))
          all_goals
           have Bk:Strs w.heap.size w3 (.slice va (iH d m).length vc) ((iH d m).map bA):=fq;have K31:=(K30.next iq).own Bk H_;have A31:fR w4 A {{jg with scheme:=k,aK:=bA aK,bq:=bA bq,cy:=bA op,cA:=cA,eF:=bA q,cN:=dH st lN}with dom:=.slice va (iH d m).length vc}:=H_.keep (iq.keep A30 id) hoA;have hPl:Pb<wr.heap.size:=bj P3;have aiS:=H_.keep (iq.keep P3 id) (fun e=>absurd (hvP Pb e) (Nat.lt_irrefl _))
           have hvg:Strs w.heap.size w4 (.slice (some ⟨gg,0,none⟩) ((iH d m).length+1) cap) ((iH d (m+1)).map bA):=by
            rw[aem.o];have e1:((iH d m).map bA++[bA (oB p)]).length=(iH d m).length+1:=aR;unfold Strs;rw[e1,bG];exact eZ
           have hfA:Fr (one A) w4 (w4.setCell ⟨A,7,none⟩ (.slice (some ⟨gg,0,none⟩) ((iH d m).length+1) cap)):=(ae (one A) w4).setCell (p:=⟨A,7,none⟩) (fun _=>rfl) _;have aoA:=hvg.ZO hfA A31 ag;have K32:=K31.set (i:=7) (u:=.slice (some ⟨gg,0,none⟩) ((iH d m).length+1) cap) Iq
           have A32:=A31.set (r':={{jg with scheme:=k,aK:=bA aK,bq:=bA bq,cy:=bA op,cA:=cA,eF:=bA q,cN:=dH st lN}with dom:=.slice (some ⟨gg,0,none⟩) ((iH d m).length+1) cap}) 7 (.slice (some ⟨gg,0,none⟩) ((iH d m).length+1) cap) rfl;have aiT:=hfA.keep aiS (fun e=>by have e':Pb=A:=e;omega);have aoB:∀j,(Value.slice (some ⟨gg,0,none⟩) ((iH d m).length+1) cap).ownBlock=some j->Pb<j:=by
            intro j hj;simp only[Value.ownBlock,eo]at hj;subst hj;rcases Ua with e|e
            ·exact hvP _ e
            ·have:=iq.size;omega
           clear k4 e4 js eZ fq VN H_ k3 k3a l3 DG;go_wp2;go_roundw
           case rel=>exact⟨m+1,_,ab,bg,K32,A32,aoA,aiT,aoB⟩
           case measure=>simp[intOf];omega
        case neg =>
         have hmi:¬(m:Int)<((dY 32 d).length:Int):=ab;have aoC:=O Lp;have S_:=O (show iH d m=G2 d from RI ab);have hvo:v.oneCell'=true:=by obtain⟨va,vc,hve⟩:=Lp.form;rw[hve];rfl
         have HR0:=O K30.res;clear Lp xF XM;have yC:(prog.info? 127).map (·.size)=some ({{jg with scheme:=k,aK:=bA aK,bq:=bA bq,cy:=bA op,cA:=cA,eF:=bA q,cN:=dH st lN}with dom:=v}).cells.toArray.size:=af;have AZ:wr.heap[A]?=some (.cells ({{jg with scheme:=k,aK:=bA aK,bq:=bA bq,cy:=bA op,cA:=cA,eF:=bA q,cN:=dH st lN}with dom:=v}).cells.toArray 127 (0,0)):=A30
         have YZ:=Ip ({{jg with scheme:=k,aK:=bA aK,bq:=bA bq,cy:=bA op,cA:=cA,eF:=bA q,cN:=dH st lN}with dom:=v}) hvo
         go_wp2_with (first|((with_reducible refine dk 133 ?_);refine aI rfl 127 (.tmp 6) rfl A rfl _ ({{jg with scheme:=k,aK:=bA aK,bq:=bA bq,cy:=bA op,cA:=cA,eF:=bA q,cN:=dH st lN}with dom:=v}).cells.toArray (0,0) _ AZ underlying127 rfl yC ?_)|((with_reducible refine cV 127 ?_);refine aG rfl 127 (.tmp 2) (.tmp 133) rfl (w.heap.size+1) ({{jg with scheme:=k,aK:=bA aK,bq:=bA bq,cy:=bA op,cA:=cA,eF:=bA q,cN:=dH st lN}with dom:=v}).cells.toArray rfl rfl _ gM K30.res yC rfl YZ ?_)|fail)
         refine aU (results_cell_tmp bC _ _ (w.heap.size+1) 127 ({{jg with scheme:=k,aK:=bA aK,bq:=bA bq,cy:=bA op,cA:=cA,eF:=bA q,cN:=dH st lN}with dom:=v}).cells.toArray (0,0) _ rfl (aY wr (w.heap.size+1) _ _ _ _ K30.res) underlying127 rfl yC) rfl ?_
         exact kj.yes (by rw[HE1.o]) ((K30.fr).setRow (fun h=>absurd h ab) _) ⟨rfl,rfl,rfl,rfl,rfl,rfl,rfl,by rw[<-S_.o];exact aoC.o.ZO ((ae (one (w.heap.size+1)) wr).setRow (fun _=>rfl) _) HR0.o ag⟩
