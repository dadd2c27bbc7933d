/- Lemmas for the law's walk. -/
import Derived.Test.YtnckmcnffadjoaaGreatDoorPk12
set_option maxRecDepth 100000
set_option maxHeartbeats 16000000
set_option linter.unusedSimpArgs false
namespace Go.Proofs.YtnckmcnffadjoaaGreatDoor
open Go.Proofs.Tryz
open Go.RowKit
variable {w w' U V:World} {b i base k:Nat} {r:fQ Value} {u pv v:Value} {x:nA} {ss:List aj} {d:Bs}
def QN(I:World->Prop)(g:Nat)(cap:bT)(p:aj->Bool)(ss:List aj):Prop :=
 ∀x,x∈ss->∀u,I u->aB g (#[.string x]++cap) u fun e u'=>e=.returned (.bool (p x))/\Fr aS u u'/\I u'
def aph(w:World)(I:World->Prop)(p:aj->Bool)(ss:List aj)(i:Value)(wr:World):Prop :=
 ∃k:Nat,k<=ss.length/\i=.int .i64 k/\(ss.take k).any p=false/\Fr aS w wr/\I wr
theorem EJ(I:World->Prop)(g:Nat)(cap:bT)(p:aj->Bool)(v:Value)(ss:List aj)(w:World)(eg:∀args w,(callFunc g args).run prog w=.ok (.enter g args) w)(hI:I w)(hp:QN I g cap p ss)(hv:fT w v ss)(hl:ss.length<=maxLen) :
  aB 216 #[v,.func (.func g) #[] cap] w fun e w'=>e=.returned (.int .i64 (mh p ss 0))/\Fr aS w w'/\I w':=by
 unfold maxLen at hl;obtain⟨av,cv,fO⟩:=hv.form;subst fO;go_enter func216,ntmps216;go_wp2;go_loopw[8] (aph w I p ss) (fun i _=>ss.length-(intOf i).toNat)
 case atStart=>exact⟨0,aL _,rfl,rfl,ae _ _,hI⟩
 case round =>
  obtain⟨k,hk,rfl,hn,cP,hIr⟩:=hrel;have HN:=O hn;clear hn;by_cases fe:k<ss.length
  ·have hvr:=hv.fN cP;rcases hvr with ⟨_,_,_,e,_⟩|⟨bk,o,c,hf,h1,h2,h3,h4⟩
   ·rw[e]at fe;exact absurd fe (bV _)
   ·cases hf;have dS:=O (List.getElem?_eq_getElem fe);have hc:=h4 k _ dS.o;have iJ:=O (bO fe);generalize ss[k]=x at dS hc iJ;have fH:=O (hp x iJ.o wr hIr);clear h4;cases qU:p x
    ·have qt:=O (any_take_succ dS.o HN.o qU);go_wp2_with fail
     refine fH.o.mono ?_;rintro e w1⟨rfl,dk,hI1⟩;rw[qU];go_wp2;go_roundw
     case rel=>exact⟨k+1,ab,bg,qt.o,cP.trans dk,hI1⟩
     case measure=>simp[intOf];omega
    ·have fl:=O (o9 (i:=0) dS.o qU HN.o);go_wp2_with fail
     refine fH.o.mono ?_;rintro e w1⟨rfl,dk,hI1⟩;rw[qU];go_wp2;go_ret;rw[fl.o,bz];exact⟨rfl,cP.trans dk,hI1⟩
  ·have fl:=O (show mh p ss 0= -1 from kE (by have h:=HN.o;rw[aD ab]at h;exact h));go_wp2;go_ret;rw[fl.o];exact⟨rfl,cP,hIr⟩
theorem Ax(I:World->Prop)(g:Nat)(cap:bT)(p:aj->Bool)(v:Value)(ss:List aj)(w:World)(eg:∀args w,(callFunc g args).run prog w=.ok (.enter g args) w)(hI:I w)(hp:QN I g cap p ss)(hv:fT w v ss)(hl:ss.length<=maxLen) :
  aB 175 #[v,.func (.func g) #[] cap] w fun e w'=>e=.returned (.bool (ss.any p))/\Fr aS w w'/\I w':=by
 have hb:=O (rW p ss 0);go_enter func175,ntmps175;go_wp2_with fail
 refine(EJ I g cap p v ss w eg hI hp hv hl).mono ?_;rintro e w1⟨rfl,dk,hI1⟩;go_wp2;go_ret;exact⟨fF hb.o,dk,hI1⟩
def OJ(s:Bs):Value:=match Uz s with
 |some (k,b)=>.tuple #[.int .i64 k,.bool b,.bool true]
 |none=>.tuple #[.int .i64 0,.bool false,.bool false]
theorem FZ(s:aj)(w:World)(hs:s.size<17592186044416) :
  aB 173 #[.string s] w fun e w'=>e=.returned (OJ s.data.toList)/\Fr aS w w':=by
 have S1:=O (show∀U,aB 106 #[.string s,.string ⟨#[77,68,53]⟩] U fun e w'=>e=.returned (.bool (dL s.data.toList yv))/\Fr aS U w' from fun U=>mH s _ U hs ag);have S2:=O (show∀U,aB 106 #[.string s,.string ⟨#[77,68,53,45,115,101,115,115]⟩] U fun e w'=>e=.returned (.bool (dL s.data.toList (yv++zz)))/\Fr aS U w' from fun U=>mH s _ U hs ag)
 have S3:=O (show∀U,aB 106 #[.string s,.string ⟨#[83,72,65,45,50,53,54]⟩] U fun e w'=>e=.returned (.bool (dL s.data.toList Iu))/\Fr aS U w' from fun U=>mH s _ U hs ag);have S4:=O (show∀U,aB 106 #[.string s,.string ⟨#[83,72,65,45,50,53,54,45,115,101,115,115]⟩] U fun e w'=>e=.returned (.bool (dL s.data.toList (Iu++zz)))/\Fr aS U w' from fun U=>mH s _ U hs ag)
 have HV:=O (show OJ s.data.toList=if dL s.data.toList yv then .tuple #[.int .i64 2,.bool false,.bool true]else if dL s.data.toList (yv++zz)then .tuple #[.int .i64 2,.bool true,.bool true]
   else if dL s.data.toList Iu then .tuple #[.int .i64 3,.bool false,.bool true]else if dL s.data.toList (Iu++zz)then .tuple #[.int .i64 3,.bool true,.bool true]else .tuple #[.int .i64 0,.bool false,.bool false]by
  unfold OJ Uz;split
  ·rename_i k b h;split at h
   ·rename_i h1;cases h;rw[az h1]
   rename_i h1;rw[aq h1];split at h
   ·rename_i h2;cases h;rw[az h2]
   rename_i h2;rw[aq h2];split at h
   ·rename_i h3;cases h;rw[az h3]
   rename_i h3;rw[aq h3];split at h
   ·rename_i h4;cases h;rw[az h4]
   ·cases h
  ·rename_i h;split at h
   ·cases h
   rename_i h1;rw[aq h1];split at h
   ·cases h
   rename_i h2;rw[aq h2];split at h
   ·cases h
   rename_i h3;rw[aq h3];split at h
   ·cases h
   rename_i h4;rw[aq h4])
 generalize dL s.data.toList yv=b1 at *
 generalize dL s.data.toList (yv++zz)=b2 at *
 generalize dL s.data.toList Iu=b3 at *
 generalize dL s.data.toList (Iu++zz)=b4 at *
 obtain⟨w1,oJ⟩:∃w1,w1=w.alloc (.cells #[.string ⟨#[77,68,53]⟩,.string ⟨#[83,72,65,45,50,53,54]⟩] 9):=⟨_,rfl⟩;have dk:Fr aS w w1:=by rw[oJ];exact(ae _ _).alloc _
 have qw:w1.heap[w.heap.size]?=some (.cells #[.string ⟨#[77,68,53]⟩,.string ⟨#[83,72,65,45,50,53,54]⟩] 9 (0,0)):=by rw[oJ];exact aC _ _
 have HC:=O (show∀U,Fr aS w1 U->U.cell? ⟨w.heap.size,0,none⟩=some (.string ⟨#[77,68,53]⟩)/\U.cell? ⟨w.heap.size,1,none⟩=some (.string ⟨#[83,72,65,45,50,53,54]⟩)from fun U hU=>by
  have j1:=hU.keep qw id;simp[World.cell?,j1])
 have IV:=O oJ;clear oJ qw;go_enter func173,ntmps173;go_wp2;rw[<-IV.o];obtain⟨c0,c1⟩:=HC.o w1 (ae _ _);refine wp_loop_rounds 3 ?_;rw[rounds_succ];go_wp2_with fail
 refine(S1.o w1).mono ?_;rintro e u1⟨rfl,uF⟩;clear c0 c1;cases b1
 case true =>
  go_wp2
  go_ret3
  exact⟨by rw[HV.o];rfl,dk.trans uF⟩
 case false =>
  go_wp2_with fail
  refine(S2.o u1).mono ?_;rintro e u2⟨rfl,nC⟩;have fU:=O (uF.trans nC);cases b2
  case true =>
   go_wp2
   go_ret3
   exact⟨by rw[HV.o];rfl,dk.trans fU.o⟩
  case false =>
   obtain⟨c0,c1⟩:=HC.o u2 fU.o;go_wp2_with fail
   rw[rounds_succ];go_wp2_with fail
   refine(S3.o u2).mono ?_;rintro e u3⟨rfl,Ab⟩;have il:=O (fU.o.trans Ab);clear c0 c1;cases b3
   case true =>
    go_wp2
    go_ret3
    exact⟨by rw[HV.o];rfl,dk.trans il.o⟩
   case false =>
    go_wp2_with fail
    refine(S4.o u3).mono ?_;rintro e u4⟨rfl,C'⟩;have j6:=O (il.o.trans C');cases b4
    case true =>
     go_wp2
     go_ret3
     exact⟨by rw[HV.o];rfl,dk.trans j6.o⟩
    case false =>
     go_wp2_with fail
     rw[rounds_succ];go_wp2
     go_ret3
     exact⟨by rw[HV.o];rfl,dk.trans j6.o⟩
def Jm(w:World)(b:Nat)(n:aj):Prop:=w.heap[b]?=some (.cells #[.string n] 9 (0,0))
theorem OK(s n:aj)(b:Nat)(w:World)(h:Jm w b n)(hs:s.size<17592186044416)(hn:n.size<17592186044416) :
  aB 176 #[.string s,.pointer (some ⟨b,0,none⟩)] w fun e w'=>e=.returned (.bool (dL s.data.toList n.data.toList))/\Fr aS w w':=by
 have c0:w.cell? ⟨b,0,none⟩=some (.string n):=by simp[World.cell?,show w.heap[b]?=_ from h]
 go_enter func176,ntmps176;go_wp2_with fail
 refine(mH s n w hs hn).mono ?_;rintro e w1⟨rfl,hf⟩;go_wp2;go_ret;exact⟨rfl,hf⟩
theorem aaH(n:aj)(b:Nat)(v:Value)(ss:List aj)(w:World)(hv:fT w v ss)(hl:ss.length<=1000)(hb:Jm w b n)(hn:n.size<17592186044416)(hz:∀x∈ss,x.size<17592186044416) :
  aB 175 #[v,.func (.func 176) #[] #[.pointer (some ⟨b,0,none⟩)]] w fun e w'=>e=.returned (.bool (ss.any fun x=>dL x.data.toList n.data.toList))/\Fr aS w w':=by
 refine(Ax (fun u=>Jm u b n) 176 #[.pointer (some ⟨b,0,none⟩)] (fun x=>dL x.data.toList n.data.toList) v ss w call176 hb ?_ hv ft).mono ?_
 ·intro x hx u hu;refine(OK x n b u hu (hz x hx) hn).mono ?_;rintro e u'⟨he,hf⟩;exact⟨he,hf,hf.keep hu id⟩
 ·rintro e w'⟨he,hf,_⟩;exact⟨he,hf⟩
def jA:fQ Value:=⟨0,⟨#[]⟩,⟨#[]⟩,⟨#[]⟩,false,⟨#[]⟩,false,.slice none 0 0⟩
abbrev gV:bT:= #[.int .i64 0,.string ⟨#[]⟩,.string ⟨#[]⟩,.string ⟨#[]⟩,.bool false,.string ⟨#[]⟩,.bool false,.slice none 0 0]
theorem Sx:∀v∈gV.toList,v.oneCell'=true:=dw
theorem rI:gV.all (·.oneCell')=true:=dw
theorem aaI(r:fQ Value)(h:r.dom.oneCell'=true):∀u∈r.cells,u.oneCell'=true:=by
 intro u hu;simp only[fQ.cells,bC,cA,dY]at hu;rcases hu with rfl|rfl|rfl|rfl|rfl|rfl|rfl|rfl<;>first|rfl|exact h
theorem Jn(r:fQ Value)(h:r.dom.oneCell'=true):r.cells.toArray.all (·.oneCell')=true:=b_ (aaI r h)
def fY(w:World)(b:Nat)(r:fQ Value):Prop:=w.heap[b]?=some (.cells r.cells.toArray 112 (0,0))
theorem fY.cell(h:fY w b r)(hu:r.cells[i]?=some u):w.cell? ⟨b,i,none⟩=some u:=by
 simp only[World.cell?,show w.heap[b]?=_ from h];simpa using hu
theorem fY.free(h:fY w b r)(i:Nat):w.frozen? ⟨b,i,none⟩=false:=by simp[World.frozen?,show w.heap[b]?=_ from h]
theorem fY.set{r':fQ Value}(h:fY w b r)(i:Nat)(u:Value)(hr:r.cells.toArray.setIfInBounds i u=r'.cells.toArray):fY (w.setCell ⟨b,i,none⟩ u) b r':=by
 unfold fY;rw[cq h i u,hr]
def kG(x:nA)(w:World)(e:Ending)(w':World):Prop :=
 Fr aS w w'/\match nr x with
  |none=>e=.returned (.tuple #[.agg gV,.bool false])
  |some a=>∃r:fQ Value,r.Reads (Strs w.heap.size w') a/\e=.returned (.tuple #[.agg r.cells.toArray,.bool true])
theorem kG.no(h:nr x=none)(hf:Fr aS w w'):kG x w (.returned (.tuple #[.agg gV,.bool false])) w':=by
 refine⟨hf,?_⟩;rw[h]
theorem kG.yes{a:fQ bE}(h:nr x=some a)(hf:Fr aS w w')(hr:r.Reads (Strs w.heap.size w') a):kG x w (.returned (.tuple #[.agg r.cells.toArray,.bool true])) w':=by
 refine⟨hf,?_⟩;rw[h];exact⟨r,hr,rfl⟩
structure Sy (w:World) (x:nA) (pv:Value) (U:World):Prop where
 BD:kU U w.heap.size (bA x.scheme) (bA x.token) pv
 res:U.heap[w.heap.size+1]?=some (.cells gV 112 (0,0))
 fr:Fr aS w U
theorem Sy.next(h:Sy w x pv U)(hf:Fr aS U V):Sy w x pv V:=⟨h.BD.fr hf id,hf.keep h.res id,h.fr.trans hf⟩
theorem Sy.set(h:Sy w x pv U)(hb:w.heap.size+1<b):Sy w x pv (U.setCell ⟨b,i,none⟩ u):=by
 have hf:Fr (one b) U (U.setCell ⟨b,i,none⟩ u):=(ae (one b) U).setCell (p:=⟨b,i,none⟩) (fun _=>rfl) u;exact⟨h.BD.fr hf (fun e=>by have e':w.heap.size=b:=e;omega),hf.keep h.res (fun e=>by have e':w.heap.size+1=b:=e;omega),h.fr.step hf (fun k hk e=>by have e':k=b:=e;omega)⟩
theorem Strs.kind{g:Nat}(h:Strs base w v ss)(hg:v.ownBlock=some g):∃cur,w.heap[g]?=some (.cells cur 9 (0,0)):=by
 rcases h.2 with ⟨hv,_⟩|⟨g',cap,cur,hv,_,hh,_⟩
 ·rw[hv]at hg;simp[Value.ownBlock]at hg
 ·rw[hv]at hg;simp[Value.ownBlock]at hg;subst hg;exact⟨cur,hh⟩
theorem Strs.off{S:dF}(h:Strs base w v ss)(hf:Fr S w w')(hS:∀k,v.ownBlock=some k->¬S k):Strs base w' v ss:=by
 obtain⟨h1,h2⟩:=h;refine⟨h1,?_⟩;rcases h2 with h2|⟨g,cap,cur,hv,hg,hh,r⟩
 ·exact Or.inl h2
 ·exact Or.inr ⟨g,cap,cur,hv,hg,hf.keep hh (hS g (by rw[hv];rfl)),r⟩
theorem Strs.aaJ{cs:bT}{t:TypeId}{f:Nat×Nat}(h:Strs base w v ss)(hf:Fr (one b) w w')(hb:w.heap[b]?=some (.cells cs t f))(ht:t≠9):Strs base w' v ss :=
 h.off hf (fun k hk e=>by
  obtain rfl:k=b:=e;obtain⟨cur,hc⟩:=h.kind hk;rw[hc]at hb;cases hb;exact ht rfl)
theorem Sy.own(h:Sy w x pv U)(hv:Strs w.heap.size U v ss)(hf:Fr (fun k=>v.ownBlock=some k) U V):Sy w x pv V:=by
 have hn:∀ {b:Nat} {cs:bT} {t:TypeId} {f:Nat×Nat},U.heap[b]?=some (.cells cs t f)->t≠9->¬v.ownBlock=some b:=by
  intro b cs t f hb ht e;obtain⟨cur,hc⟩:=hv.kind e;rw[hc]at hb;cases hb;exact ht rfl
 exact⟨h.BD.fr hf (hn h.BD ag),hf.keep h.res (hn h.res ag),h.fr.step hf (fun k hk e=>by have:=hv.block k e;omega)⟩
theorem Ws{ps:List jF}{n v:Bs}(h:kB ps n=some v):∃p∈ps,v=p.2:=by
 unfold kB at h;obtain⟨p,hp,rfl⟩:=Option.map_eq_some_iff.1 h;exact⟨p,List.mem_of_find?_eq_some hp,rfl⟩
theorem aaK(l:aH):(∃ws,ia l=.ok ws/\ws.length<=40/\UA l=P1 ws)\/((∀ws,ia l=.ok ws->40<ws.length)/\UA l=none):=by
 unfold UA;cases h:ia l with
 |ok ws =>
  by_cases hn:ws.length<=40
  ·exact Or.inl ⟨ws,rfl,hn,aq ab⟩
  ·refine Or.inr ⟨fun ws' h'=>?_,az ab⟩;cases h';omega
 |error m=>exact Or.inr ⟨fun ws' h'=>(by cases h'),rfl⟩
theorem jE.ae2{s:aj}{e:Ending}(h:jE s w e w')(hl:∀ws,ia s.data.toList=.ok ws->40<ws.length) :
  ∃v t x,e=.returned (.tuple #[v,.iface t x])/\Fr aS w w':=by
 obtain⟨v,er,he,hf,hm⟩:=h;cases hr:ia s.data.toList with
 |ok ws =>
  rw[hr]at hm;have CA:if 40<ws.length then v=.slice none 0 0/\Gf w' er (some (4,none))else Strs w.heap.size w' v (dT ws)/\er=.nilIface:=hm
  rw[az (hl ws hr)]at CA;obtain⟨_,hv⟩:=CA;exact⟨v,_,_,by rw[he,show er=_ from hv],hf⟩
 |error m =>
  rw[hr]at hm;obtain⟨_,g,hv,_⟩:=hm;exact⟨v,_,_,by rw[he,hv],hf⟩
theorem Hl:∀(f:Nat) (r:Bs) (ws:List Bs),ma f r=.ok ws->∀w∈ws,w.length<=r.length
 |0,r,ws,h,w,hw=>by rw[ma]at h;cases h;cases hw
 |f+1,r,ws,h,w,hw=>by
  rw[ma]at h;have h1:=qx dN r;have h2:=qx gq (r.dropWhile dN);have h3:=qx dN ((r.dropWhile dN).dropWhile gq);have h4:=pV gq (r.dropWhile dN);have ef:∀u∈(if((r.dropWhile dN).takeWhile gq).isEmpty then []else [(r.dropWhile dN).takeWhile gq]),u.length<=r.length:=by
   intro u hu;split at hu
   ·cases hu
   ·simp at hu;subst hu;omega
  cases e:((r.dropWhile dN).dropWhile gq).dropWhile dN with
  |nil =>
   rw[e]at h;simp only at h;cases h;exact ef w hw
  |cons c r4 =>
   rw[e]at h h3;simp only at h;split at h
   ·cases hr:ma f r4 with
    |error m=>rw[hr]at h;cases h
    |ok w2 =>
     rw[hr]at h;cases h;rcases bL.1 hw with g|g
     ·exact ef w g
     ·have:=Hl f r4 w2 hr w g;simp at h3;omega
   ·cases h
def qK(ws:List Bs):Nat->Bs
 |0=>[]
 |1=>if ws.any (fun w=>dL w qz)then qz else []
 |_=>if ws.any (fun w=>dL w mz)then mz else if ws.any (fun w=>dL w qz)then qz else []
theorem ae3(ws:List Bs):P1 ws=if(qK ws 2).isEmpty then none else some (qK ws 2):=by
 unfold P1 qK;cases ws.any (fun w=>dL w mz)<;>cases ws.any (fun w=>dL w qz)<;>rfl
theorem Sz(ws:List Bs)(n:Bs):((dT ws).any fun x=>dL x.data.toList (bA n).data.toList)=ws.any fun w=>dL w n:=by
 unfold dT;rw[List.any_map,fZ];rfl
def iZ(d:Bs)(k:Nat):List Bs:=(((eh 32 d).take k).filter fun p=>Nx 47 p).map oV
theorem ajJ(l:Bs):Lib.hasPrefix l [47]=Nx 47 l:=by
 cases l with
 |nil=>rfl
 |cons c l =>
  rw[fj];simp[Lib.hasPrefix,Nx];exact eq_comm
def ajK(w:World)(x:nA)(pv:Value)(A Pb:Nat)(a:fQ Value)(d:Bs)(t:Value)(wr:World):Prop :=
 ∃(k:Nat) (v:Value),k<=(eh 32 d).length/\t=.int .i64 k/\Sy w x pv wr/\fY wr A {a with dom:=v}/\Strs w.heap.size wr v ((iZ d k).map bA)/\wr.heap[Pb]?=some (.cells (((eh 32 d).map bA).map Value.string).toArray 9 (0,0))/\∀j,v.ownBlock=some j->Pb<j
theorem OL{p:Bs}(h:(eh 32 d)[k]?=some p):iZ d (k+1)=iZ d k++(if Nx 47 p then [oV p]else []):=by
 unfold iZ;rw[cj,h];simp only[Option.toList_some,cG,bI]
 congr 1
 rw[List.filter_cons];split<;>rfl
theorem SB(h:(eh 32 d).length<=k):iZ d k=Iv d:=by unfold iZ Iv;rw[aD h]
theorem SC(d:Bs)(k:Nat):(iZ d k).length<=k:=by
 unfold iZ;rw[ai];have h:=bW (fun p=>Nx 47 p) ((eh 32 d).take k);rw[aJ]at h;omega
theorem Hm(c:UInt8):∀d:Bs,(eh c d).length<=d.length+1/\∀p∈eh c d,p.length<=d.length
 |[]=>⟨by simp[eh],by simp[eh]⟩
 |x :: d=>by
  obtain⟨h1,h2⟩:=Hm c d;unfold eh;split
  ·refine⟨bH,fun p hp=>?_⟩;rcases bC.1 hp with rfl|g
   ·simp
   ·have:=h2 p g;simp;omega
  ·cases e:eh c d with
   |nil=>exact⟨aR,fun p hp=>by simp at hp;subst hp;simp⟩
   |cons q qs =>
    rw[e]at h1 h2;refine⟨by simp at h1 ⊢; omega,fun p hp=>?_⟩;rcases bC.1 hp with rfl|g
    ·have:=h2 q (cM ..);simp;omega
    ·have:=h2 p (bN _ g);simp;omega
theorem SD(c:UInt8)(d:Bs):ji c (bA d)=(eh c d).map bA:=by
 unfold ji;rw[fZ];rfl
def ajL(w:World)(x:nA)(pv:Value)(A:Nat)(a:fQ Value)(ws:List Bs)(W:World)(t:Value)(wr:World):Prop :=
 ∃k:Nat,k<=2/\t=.int .i64 k/\Sy w x pv wr/\fY wr A {a with eJ:=bA (qK ws k)}/\Fr (one A) W wr
def ae4(w:World)(x:nA)(pv:Value)(A:Nat)(a:fQ Value)(wz:World):Prop:=∃q,UB x.params=some q/\Sy w x pv wz/\fY wz A {a with eJ:=bA q}
theorem SE(x:nA)(pv:Value)(w:World)(hp:lX w pv x.params)(hz:x.Fit) :
  aB 114 #[.agg #[.string (bA x.scheme),.string (bA x.token),pv]] w (kG x w):=by
 have qL:QH x.params:=⟨by have:=hz.sZ;omega,fun p hq=>by have:=hz.zH p hq;omega⟩;have awb:(bA x.scheme).size<=100000:=hz.scheme;have HZ:=O hz
 have GET:=O (show∀(n:Bs) U,n.length<1000->Fr aS w U->aB 172 #[.agg #[.string (bA x.scheme),.string (bA x.token),pv],.string (bA n)] U fun e w'=>e=.returned (.tuple #[.string (bA ((kB x.params n).getD [])),.bool (kB x.params n).isSome])/\Fr aS U w' from fun n U hn hU=>by
  have:=aaq (bA x.scheme) (bA x.token) pv x.params (bA n) U (bh hp hU) qL (by show n.length<_;omega);rw[fZ]at this;exact this)
 have aaL:=O (show∀n,((kB x.params n).getD []).length<=99999 from fun n=>by
  cases h:kB x.params n with
  |none=>simp
  |some v =>
   obtain⟨p,hpm,rfl⟩:=Ws h;exact(hz.zH p hpm).2)
 have SMB:=O (show∀(n:Bs) U,n.length<1000->aB 106 #[.string (bA x.scheme),.string (bA n)] U fun e w'=>e=.returned (.bool (dL x.scheme n))/\Fr aS U w' from fun n U hn=>by
  have:=mH (bA x.scheme) (bA n) U ab (by show n.length<_;omega);rw[fZ,fZ]at this;exact this)
 have HK:=O (show nr x=match kB x.params wB with
  |none=>none
  |some aM =>
   if dL x.scheme Ir then some ⟨1,bA aM,bA [],bA [],false,bA [],false,[]⟩else
   match Uz ((kB x.params zy).getD yv)with
   |none=>none
   |some (k,cD) =>
    if !dL x.scheme CX then none else
    match kB x.params wC with
    |none=>none
    |some bu =>
     match UB x.params with
     |none=>none
     |some q=>some ⟨k,bA aM,bA bu,bA ((kB x.params mA).getD []),cD,bA q,dL ((kB x.params Bf).getD []) mf,(Iv ((kB x.params rf).getD [])).map bA⟩from rfl)
 obtain⟨av,cv,hv⟩:=hp.form;subst hv;obtain⟨w2,eG⟩:∃w2,w2=(w.alloc (.cells #[.string (bA x.scheme),.string (bA x.token),.slice av x.params.length cv] 198)).alloc (.cells gV 112):=⟨_,rfl⟩;have Nf:w2.heap.size=w.heap.size+2:=by rw[eG];simp
 have K0:Sy w x (.slice av x.params.length cv) w2:=by
  have f1:Fr aS (w.alloc (.cells #[.string (bA x.scheme),.string (bA x.token),.slice av x.params.length cv] 198)) w2:=by rw[eG];exact(ae _ _).alloc _
  refine⟨f1.keep (aC w _) id,?_,((ae aS w).alloc _).trans f1⟩;rw[eG];have:=aC (w.alloc (.cells #[.string (bA x.scheme),.string (bA x.token),.slice av x.params.length cv] 198)) (.cells gV 112);simpa using this
 have nP:=O eG;clear hp hz qL eG;generalize NP:Value.slice av x.params.length cv=pv at *
 clear NP;go_enter func114,ntmps114;go_wp2_with fail
 rw[<-nP.o];refine(GET.o wB w2 ag K0.fr).mono ?_;rintro e u1⟨rfl,hf⟩;have K1:=K0.next hf;have uF:w.heap.size+1<u1.heap.size:=by have:=hf.size;omega
 clear hf;cases hre:kB x.params wB with
 |none =>
  go_wp2_with (first|((with_reducible refine cZ 112 ?_);refine aF rfl 112 (.tmp 2) (.tmp 27) rfl (w.heap.size+1) gV rfl rfl _ gV K1.res af rfl rI ?_)|fail)
  refine aW (results_cell_tmp bD _ _ (w.heap.size+1) 112 gV (0,0) _ rfl (a_ u1 (w.heap.size+1) _ _ _ _ K1.res) underlying112 rfl af) rfl ?_;exact kG.no (by rw[HK.o,hre]) ((K1.fr).setRow (fun h=>absurd h ab) _)
 |some aM =>
  have mV:=O (show nr x=_ by rw[HK.o,hre]);simp only at mV;clear HK hre;have x0:=K1.BD.cell0;have x1:=K1.BD.ib;have x2:=K1.BD.mg;have jx:=fun W=>run_storeCells_new (P:=prog) W 112 gV [.int .i64 1,.string (bA aM),.string ⟨#[]⟩,.string ⟨#[]⟩,.bool false,.string ⟨#[]⟩,.bool false,.slice none 0 0] rfl (by intro u hu;simp at hu;rcases hu with rfl|rfl|rfl|rfl|rfl|rfl|rfl|rfl<;>rfl)
  obtain⟨u2,nC⟩:∃u2,u2=u1.alloc (.cells #[.int .i64 1,.string (bA aM),.string ⟨#[]⟩,.string ⟨#[]⟩,.bool false,.string ⟨#[]⟩,.bool false,.slice none 0 0] 112):=⟨_,rfl⟩;have hf:Fr aS u1 u2:=by rw[nC];exact(ae _ _).alloc _
  have K2:=K1.next hf;have A2:fY u2 u1.heap.size {jA with scheme:=1,aM:=bA aM}:=by rw[nC];exact aC _ _
  have x0a:∀o:Obj,(u1.alloc o).cell? ⟨w.heap.size,0,none⟩=some (.string (bA x.scheme)):=fun o=>(K1.BD.fr ((ae aS u1).alloc o) id).cell0;have t_:=O nC;generalize hA:u1.heap.size=A at *
  clear nC;go_wp2_with fail
  rw[<-t_.o];refine(SMB.o Ir u2 ag).mono ?_;rintro e u3⟨rfl,iz⟩;have K3:=K2.next iz;have A3:fY u3 A {jA with scheme:=1,aM:=bA aM}:=iz.keep A2 id;have hA3:A<u3.heap.size:=bq A3;clear x0 x1 x2 x0a jx A2 K2 iz;cases hbs:dL x.scheme Ir with
  |true =>
   have zj:(prog.info? 112).map (·.size)=some ({jA with scheme:=1,aM:=bA aM}).cells.toArray.size:=af;have BF:u3.heap[A]?=some (.cells ({jA with scheme:=1,aM:=bA aM}).cells.toArray 112 (0,0)):=A3;have ZT:=Jn ({jA with scheme:=1,aM:=bA aM}) rfl
   go_wp2_with (first|((with_reducible refine dr 33 ?_);refine aI rfl 112 (.tmp 6) rfl A rfl _ ({jA with scheme:=1,aM:=bA aM}).cells.toArray (0,0) _ BF underlying112 rfl zj ?_)|((with_reducible refine cZ 112 ?_);refine aF rfl 112 (.tmp 2) (.tmp 33) rfl (w.heap.size+1) ({jA with scheme:=1,aM:=bA aM}).cells.toArray rfl rfl _ gV K3.res zj rfl ZT ?_)|fail)
   refine aW (results_cell_tmp bD _ _ (w.heap.size+1) 112 ({jA with scheme:=1,aM:=bA aM}).cells.toArray (0,0) _ rfl (a_ u3 (w.heap.size+1) _ _ _ _ K3.res) underlying112 rfl zj) rfl ?_;exact kG.yes (by rw[mV.o,az hbs]) ((K3.fr).setRow (fun h=>absurd h ab) _) ⟨rfl,rfl,rfl,rfl,rfl,rfl,rfl,ld _ _⟩
  |false =>
   rw[hbs]at mV;clear hbs;have x0:=K3.BD.cell0;have x1:=K3.BD.ib;have x2:=K3.BD.mg;go_wp2_with fail
   refine(GET.o zy u3 ag K3.fr).mono ?_;rintro e u4⟨rfl,hf⟩;have K4:=K3.next hf;have A4:fY u4 A {jA with scheme:=1,aM:=bA aM}:=hf.keep A3 id;clear x0 x1 x2 A3 K3 hf
   go_upto_if 40 with fail
   go_cut [5,7] (fun _ s7 wz=>s7=.string (bA ((kB x.params zy).getD yv))/\u4=wz)
   case first =>
    cases CB:kB x.params zy with
    |none =>
     go_wp2_with fail
     go_meet
     rw[CB];exact⟨rfl,rfl⟩
    |some v =>
     go_wp2_with fail
     go_meet
     rw[CB];exact⟨rfl,rfl⟩
   case rest =>
   obtain⟨rfl,rfl⟩:=hcut;have HNL:=O (aaL.o zy);have se:(bA ((kB x.params zy).getD yv)).size<17592186044416:=by
    show((kB x.params zy).getD yv).length<_;cases hg:kB x.params zy with
    |none=>decide
    |some v =>
     have h:=HNL.o;rw[hg]at h;have:v.length<=99999:=h;show v.length<_;omega
   generalize (kB x.params zy).getD yv=alg at *
   have a0:=A4.cell (i:=0) rfl;have f0:=A4.free 0;go_wp2_with fail
   refine(FZ (bA alg) u4 se).mono ?_;rintro e u5⟨rfl,hf⟩;rw[fZ];have K5:=K4.next hf;have A5:fY u5 A {jA with scheme:=1,aM:=bA aM}:=hf.keep A4 id;have Jo:w.heap.size+1<A:=uF;clear A4 K4 hf HNL se a0 f0;cases har:Uz alg with
   |none =>
    have HE:=O (show nr x=none by rw[mV.o,har];rfl);have hv0:OJ alg=.tuple #[.int .i64 0,.bool false,.bool false]:=by unfold OJ;rw[har]
    rw[hv0];have K6:=(K5.set (i:=0) (u:=.int .i64 0) Jo).set (i:=4) (u:=.bool false) Jo;have a0:=A5.cell (i:=0) rfl;have f0:=A5.free 0;have A5b:=A5.set (r':={jA with scheme:=0,aM:=bA aM}) 0 (.int .i64 0) rfl;have a4:=A5b.cell (i:=4) rfl;have f4:=A5b.free 4
    go_wp2_with (first|((with_reducible refine cZ 112 ?_);refine aF rfl 112 (.tmp 2) (.tmp 57) rfl (w.heap.size+1) gV rfl rfl _ gV K6.res af rfl rI ?_)|fail)
    refine aW (results_cell_tmp bD _ _ (w.heap.size+1) 112 gV (0,0) _ rfl (a_ _ (w.heap.size+1) _ _ _ _ K6.res) underlying112 rfl af) rfl ?_;exact kG.no (by exact HE.o) ((K6.fr).setRow (fun h=>absurd h ab) _)
   |some q =>
    obtain⟨k,cD⟩:=q;have hv0:OJ alg=.tuple #[.int .i64 k,.bool cD,.bool true]:=by unfold OJ;rw[har]
    rw[hv0];rw[har]at mV;simp only at mV;have K6:=(K5.set (i:=0) (u:=.int .i64 k) Jo).set (i:=4) (u:=.bool cD) Jo;have a0:=A5.cell (i:=0) rfl;have f0:=A5.free 0;have A5b:=A5.set (r':={jA with scheme:=k,aM:=bA aM}) 0 (.int .i64 k) rfl;have a4:=A5b.cell (i:=4) rfl;have f4:=A5b.free 4;have A6:=A5b.set (r':={jA with scheme:=k,aM:=bA aM,cD:=cD}) 4 (.bool cD) rfl;have x0:=K6.BD.cell0;clear hv0 har
    go_wp2_with fail
    clear a0 f0 a4 f4 A5b A5 K5;generalize (u5.setCell ⟨A,0,none⟩ (.int .i64 k)).setCell ⟨A,4,none⟩ (.bool cD)=u6 at *
    refine(SMB.o CX u6 ag).mono ?_;rintro e u7⟨rfl,hf⟩;have K7:=K6.next hf;have A7:fY u7 A {jA with scheme:=k,aM:=bA aM,cD:=cD}:=hf.keep A6 id;clear A6 K6 hf x0;cases hds:dL x.scheme CX with
    |false =>
     have HE:=O (show nr x=none by rw[mV.o,hds];rfl);go_wp2_with (first|((with_reducible refine cZ 112 ?_);refine aF rfl 112 (.tmp 2) (.tmp 57) rfl (w.heap.size+1) gV rfl rfl _ gV K7.res af rfl rI ?_)|fail)
     refine aW (results_cell_tmp bD _ _ (w.heap.size+1) 112 gV (0,0) _ rfl (a_ u7 (w.heap.size+1) _ _ _ _ K7.res) underlying112 rfl af) rfl ?_;exact kG.no (by exact HE.o) ((K7.fr).setRow (fun h=>absurd h ab) _)
    |true =>
     rw[hds]at mV;have x0:=K7.BD.cell0;have x1:=K7.BD.ib;have x2:=K7.BD.mg;go_wp2_with fail
     refine(GET.o wC u7 ag K7.fr).mono ?_;rintro e u8⟨rfl,hf⟩;have K8:=K7.next hf;have A8:fY u8 A {jA with scheme:=k,aM:=bA aM,cD:=cD}:=hf.keep A7 id;have a2:=A8.cell (i:=2) rfl;have f2:=A8.free 2;clear A7 K7 hf x0 x1 x2;cases LO:kB x.params wC with
     |none =>
      have HE:=O (show nr x=none by rw[mV.o,LO];rfl);have K9:=K8.set (i:=2) (u:=.string (bA [])) Jo;go_wp2_with (first|((with_reducible refine cZ 112 ?_);refine aF rfl 112 (.tmp 2) (.tmp 66) rfl (w.heap.size+1) gV rfl rfl _ gV K9.res af rfl rI ?_)|fail)
      refine aW (results_cell_tmp bD _ _ (w.heap.size+1) 112 gV (0,0) _ rfl (a_ _ (w.heap.size+1) _ _ _ _ K9.res) underlying112 rfl af) rfl ?_;exact kG.no (by exact HE.o) ((K9.fr).setRow (fun h=>absurd h ab) _)
     |some bu =>
      rw[LO]at mV;simp only[Bool.not_true,cL,fa]at mV;have K9:=K8.set (i:=2) (u:=.string (bA bu)) Jo;have A9:=A8.set (r':={jA with scheme:=k,aM:=bA aM,bu:=bA bu,cD:=cD}) 2 (.string (bA bu)) rfl;have x0:=K9.BD.cell0;have x1:=K9.BD.ib;have x2:=K9.BD.mg;go_wp2_with fail
      clear a2 f2 A8 K8 x0 x1 x2;generalize u8.setCell ⟨A,2,none⟩ (.string (bA bu))=u9 at *
      refine(GET.o KC u9 ag K9.fr).mono ?_;rintro e u10⟨rfl,hf⟩;have K10:=K9.next hf;have A10:fY u10 A {jA with scheme:=k,aM:=bA aM,bu:=bA bu,cD:=cD}:=hf.keep A9 id;have awd:A<u10.heap.size:=bq A10;have HQP:=O (show UB x.params=match kB x.params KC with|none=>some []|some q=>UA q from rfl);clear A9 K9 hf
      go_upto_if 72 with fail
      go_cut [8,9,10,11,12,13]from 67 to 96 (fun _ _ _ _ _ _ wz=>ae4 w x pv A {jA with scheme:=k,aM:=bA aM,bu:=bA bu,cD:=cD} wz)
      case first =>
       have HQL:=O (aaL.o KC);cases hq:kB x.params KC with
       |none =>
        go_wp2_with fail
        go_meet
        exact⟨[],by rw[HQP.o,hq],K10,A10⟩
       |some q =>
        rw[hq]at HQP HQL;simp only[Option.getD_some]at HQP HQL;have hql:(bA q).size<4398046511104:=by
         have h:q.length<=99999:=HQL.o;show q.length<_;omega
        have LI:=O (KB (bA q) u10 hql);clear hql;go_wp2_with fail
        refine LI.o.mono ?_;intro e Wt hlp;rcases aaK q with ⟨ws,yS,Fq,hqo⟩|⟨LO,hqo⟩
        case inr =>
         obtain⟨lv,lt,lx,rfl,hf⟩:=hlp.ae2 (by rw[fZ];exact LO);have HE:=O (show nr x=none by rw[mV.o,HQP.o,hqo]);have K11:=K10.next hf;clear hlp LO hqo;go_wp2_with (first|((with_reducible refine cZ 112 ?_);refine aF rfl 112 (.tmp 2) (.tmp 80) rfl (w.heap.size+1) gV rfl rfl _ gV K11.res af rfl rI ?_)|fail)
         refine aW (results_cell_tmp bD _ _ (w.heap.size+1) 112 gV (0,0) _ rfl (a_ Wt (w.heap.size+1) _ _ _ _ K11.res) underlying112 rfl af) rfl ?_;exact kG.no (by exact HE.o) ((K11.fr).setRow (fun h=>absurd h ab) _)
        case inl =>
         obtain⟨lv,rfl,hlv,hf⟩:=hlp.isOk (ws:=ws) (by rw[fZ];exact yS) Fq;have K11:=K10.next hf;have A11:fY Wt A {jA with scheme:=k,aM:=bA aM,bu:=bA bu,cD:=cD}:=hf.keep A10 id;have asG:=hf.size;have HWZ:=O (show∀y∈dT ws,y.size<17592186044416 from fun y hy=>by
          obtain⟨w0,hw0,rfl⟩:=bZ.1 hy;have h1:=Hl _ _ _ yS w0 hw0;have h2:q.length<=99999:=HQL.o;show w0.length<_;omega)
         have HQO:=O (show UB x.params=if(qK ws 2).isEmpty then none else some (qK ws 2)by rw[HQP.o,hqo,ae3]);clear hlp yS hqo hf A10 K10;obtain⟨u12,aaM⟩:∃u12,u12=Wt.alloc (.cells #[.string (bA qz),.string (bA mz)] 9):=⟨_,rfl⟩;have hf:Fr aS Wt u12:=by rw[aaM];exact(ae _ _).alloc _
         have apj:u12.heap[Wt.heap.size]?=some (.cells #[.string (bA qz),.string (bA mz)] 9 (0,0)):=by rw[aaM];exact aC _ _
         have K12:=K11.next hf;have A12:fY u12 A {jA with scheme:=k,aM:=bA aM,bu:=bA bu,cD:=cD}:=hf.keep A11 id;have ajR:=hlv.fr hf (fun _ h=>h.elim);have apk:=O aaM;obtain⟨la,lc,hle⟩:=ajR.form;have hAB:A<Wt.heap.size:=ab;clear aaM hf A11 K11 hlv;subst hle;go_wp2_with fail
         rw[show Wt.alloc (.cells #[.string ⟨#[97,117,116,104,45,105,110,116]⟩,.string ⟨#[97,117,116,104]⟩] 9)=u12 from apk.o.symm];go_loopw[83] (ajL w x pv A {jA with scheme:=k,aM:=bA aM,bu:=bA bu,cD:=cD} ws u12) (fun t _=>2-(intOf t).toNat)
         case atStart=>exact⟨0,ab,rfl,K12,A12,ae _ _⟩
         case round =>
          obtain⟨m,hm,rfl,K13,A13,cP⟩:=hrel;have hAr:A<wr.heap.size:=bq A13;have hbr:=cP.keep apj (fun e=>by have e':Wt.heap.size=A:=e;omega);have hlr:=ajR.fr cP (fun j e=>by have e':j=A:=e;omega);have c0:wr.cell? ⟨Wt.heap.size,0,none⟩=some (.string (bA qz)):=by simp[World.cell?,hbr]
          have c1:wr.cell? ⟨Wt.heap.size,1,none⟩=some (.string (bA mz)):=by simp[World.cell?,hbr]
          have Mi:∀n:Bs,n.length<=8->∃wn,wn=wr.alloc (.cells #[.string (bA n)] 9)/\Jm wn wr.heap.size (bA n)/\Fr aS wr wn/\aB 175 #[.slice la (dT ws).length lc,.func (.func 176) #[] #[.pointer (some ⟨wr.heap.size,0,none⟩)]] wn fun e w'=>e=.returned (.bool (ws.any fun y=>dL y n))/\Fr aS wn w':=by
           intro n hn;have Fv:Fr aS wr (wr.alloc (.cells #[.string (bA n)] 9)):=(ae _ _).alloc _;have hb:=aC wr (.cells #[.string (bA n)] 9);refine⟨_,rfl,hb,Fv,?_⟩;have h:=aaH (bA n) wr.heap.size _ (dT ws) _ (hlr.fr Fv (fun _ h=>h.elim)).at (by rw[pR];omega) hb (by show n.length<_;omega) HWZ.o;rw[Sz]at h;exact h
          rcases(show m=0\/m=1\/m=2 from ab)with rfl|rfl|rfl
          case inl =>
           obtain⟨wn,Yx,DI,Fv,CF⟩:=Mi qz ag;have HWN:=O Yx;have Qc:wn.cell? ⟨wr.heap.size,0,none⟩=some (.string (bA qz)):=by simp[World.cell?,show wn.heap[wr.heap.size]?=_ from DI]
           clear Mi Yx;go_wp2_with fail
           rw[<-HWN.o];refine CF.mono ?_;rintro e w14⟨rfl,Jp⟩;have K14:=(K13.next Fv).next Jp;have A14:fY w14 A {jA with scheme:=k,aM:=bA aM,bu:=bA bu,cD:=cD,eJ:=bA (qK ws 0)}:=Jp.keep (Fv.keep A13 id) id;have Wu:=O ((cP.trans Fv.nv).trans Jp.nv);have apm:w14.cell? ⟨wr.heap.size,0,none⟩=some (.string (bA qz)):=(Jp.cell (p:=⟨wr.heap.size,0,none⟩) (bq DI) id).trans Qc;have a5:=A14.cell (i:=5) rfl
           have f5:=A14.free 5;cases jv:ws.any (fun y=>dL y qz)
           case false =>
            have J8:=O (show qK ws 1=qK ws 0 by show(if ws.any (fun w=>dL w qz)then qz else [])=[];rw[jv];rfl);go_wp2;go_roundw
            case rel=>exact⟨1,ab,bg,K14,by rw[J8.o];exact A14,Wu.o⟩
            case measure=>simp[intOf]
           case true =>
            have J8:=O (show qK ws 1=qz by show(if ws.any (fun w=>dL w qz)then qz else [])=_;rw[jv];rfl);have K15:=K14.set (i:=5) (u:=.string (bA qz)) Jo;have A15:=A14.set (r':={jA with scheme:=k,aM:=bA aM,bu:=bA bu,cD:=cD,eJ:=bA qz}) 5 (.string (bA qz)) rfl;have ae8:=O (Wu.o.setCell (p:=⟨A,5,none⟩) (fun _=>rfl) (.string (bA qz)));go_wp2;go_roundw
            case rel=>exact⟨1,ab,bg,K15,by rw[J8.o];exact A15,ae8.o⟩
            case measure=>simp[intOf]
          case inr.inl =>
           obtain⟨wn,Yx,DI,Fv,CF⟩:=Mi mz ag;have HWN:=O Yx;have Qc:wn.cell? ⟨wr.heap.size,0,none⟩=some (.string (bA mz)):=by simp[World.cell?,show wn.heap[wr.heap.size]?=_ from DI]
           clear Mi Yx;go_wp2_with fail
           rw[<-HWN.o];refine CF.mono ?_;rintro e w14⟨rfl,Jp⟩;have K14:=(K13.next Fv).next Jp;have A14:fY w14 A {jA with scheme:=k,aM:=bA aM,bu:=bA bu,cD:=cD,eJ:=bA (qK ws 1)}:=Jp.keep (Fv.keep A13 id) id;have Wu:=O ((cP.trans Fv.nv).trans Jp.nv);have apm:w14.cell? ⟨wr.heap.size,0,none⟩=some (.string (bA mz)):=(Jp.cell (p:=⟨wr.heap.size,0,none⟩) (bq DI) id).trans Qc;have a5:=A14.cell (i:=5) rfl
           have f5:=A14.free 5;cases jv:ws.any (fun y=>dL y mz)
           case false =>
            have J8:=O (show qK ws 2=qK ws 1 by show(if ws.any (fun w=>dL w mz)then mz else qK ws 1)=_;rw[jv];rfl);go_wp2;go_roundw
            case rel=>exact⟨2,ab,bg,K14,by rw[J8.o];exact A14,Wu.o⟩
            case measure=>simp[intOf]
           case true =>
            have J8:=O (show qK ws 2=mz by show(if ws.any (fun w=>dL w mz)then mz else qK ws 1)=_;rw[jv];rfl);have K15:=K14.set (i:=5) (u:=.string (bA mz)) Jo;have A15:=A14.set (r':={jA with scheme:=k,aM:=bA aM,bu:=bA bu,cD:=cD,eJ:=bA mz}) 5 (.string (bA mz)) rfl;have ae8:=O (Wu.o.setCell (p:=⟨A,5,none⟩) (fun _=>rfl) (.string (bA mz)));go_wp2;go_roundw
            case rel=>exact⟨2,ab,bg,K15,by rw[J8.o];exact A15,ae8.o⟩
            case measure=>simp[intOf]
          case inr.inr =>
           have a5:=A13.cell (i:=5) rfl;clear Mi c0 c1;cases RD:(qK ws 2).isEmpty
           case true =>
            have HE:=O (show nr x=none by rw[mV.o,HQO.o,RD];rfl);have e1:(bA (qK ws 2)).toList=[]:=by rw[mY];exact gK.1 RD
            have e2:((bA (qK ws 2)).toList== [])=true:=dX.2 e1;go_wp2_with (first|((with_reducible refine cZ 112 ?_);refine aF rfl 112 (.tmp 2) (.tmp 96) rfl (w.heap.size+1) gV rfl rfl _ gV K13.res af rfl rI ?_)|fail)
            refine aW (results_cell_tmp bD _ _ (w.heap.size+1) 112 gV (0,0) _ rfl (a_ wr (w.heap.size+1) _ _ _ _ K13.res) underlying112 rfl af) rfl ?_;exact kG.no (by exact HE.o) ((K13.fr).setRow (fun h=>absurd h ab) _)
           case false =>
            have e1:¬(bA (qK ws 2)).toList=[]:=by rw[mY];intro e;rw[e]at RD;cases RD
            have e2:((bA (qK ws 2)).toList== [])=false:=aO.2 e1;go_wp2_with fail
            go_meet
            exact⟨qK ws 2,by rw[HQO.o,RD];rfl,K13,A13⟩
      case rest =>
      obtain⟨q,hqp,K20,A20⟩:=hcut;have HE1:=O (show nr x=some ⟨k,bA aM,bA bu,bA ((kB x.params mA).getD []),cD,bA q,dL ((kB x.params Bf).getD []) mf,(Iv ((kB x.params rf).getD [])).map bA⟩by rw[mV.o,hqp]);clear mV hqp HQP K10 A10;have x0:=K20.BD.cell0;have x1:=K20.BD.ib;have x2:=K20.BD.mg;go_wp2_with fail
      refine(GET.o mA wc ag K20.fr).mono ?_;rintro e u21⟨rfl,hf⟩;have K21:=K20.next hf;have A21:fY u21 A {jA with scheme:=k,aM:=bA aM,bu:=bA bu,cD:=cD,eJ:=bA q}:=hf.keep A20 id;clear x0 x1 x2 A20 K20 hf;generalize (kB x.params mA).getD []=op at *
      have a3:=A21.cell (i:=3) rfl;have f3:=A21.free 3;have K22:=K21.set (i:=3) (u:=.string (bA op)) Jo;have A22:=A21.set (r':={jA with scheme:=k,aM:=bA aM,bu:=bA bu,cz:=bA op,cD:=cD,eJ:=bA q}) 3 (.string (bA op)) rfl;have x0:=K22.BD.cell0;have x1:=K22.BD.ib;have x2:=K22.BD.mg;go_wp2_with fail
      clear a3 f3 A21 K21 x0 x1 x2;generalize u21.setCell ⟨A,3,none⟩ (.string (bA op))=u22 at *
      refine(GET.o Bf u22 ag K22.fr).mono ?_;rintro e u23⟨rfl,hf⟩;have K23:=K22.next hf;have A23:fY u23 A {jA with scheme:=k,aM:=bA aM,bu:=bA bu,cz:=bA op,cD:=cD,eJ:=bA q}:=hf.keep A22 id;have HSL:=O (aaL.o Bf);generalize (kB x.params Bf).getD []=st at *
      have Ll:(bA st).size<17592186044416:=by have h:st.length<=99999:=HSL.o;show st.length<_;omega
      have SMT:=O (mH (bA st) (bA mf) u23 Ll ag);rw[fZ,fZ]at SMT;clear Ll HSL A22 K22 hf;go_wp2_with fail
      refine SMT.o.mono ?_;rintro e u24⟨rfl,hf⟩;have K24:=K23.next hf;have A24:fY u24 A {jA with scheme:=k,aM:=bA aM,bu:=bA bu,cz:=bA op,cD:=cD,eJ:=bA q}:=hf.keep A23 id;have a6:=A24.cell (i:=6) rfl;have f6:=A24.free 6;have K25:=K24.set (i:=6) (u:=.bool (dL st mf)) Jo;have A25:=A24.set (r':={jA with scheme:=k,aM:=bA aM,bu:=bA bu,cz:=bA op,cD:=cD,eJ:=bA q,cR:=dL st mf}) 6 (.bool (dL st mf)) rfl
      have x0:=K25.BD.cell0;have x1:=K25.BD.ib;have x2:=K25.BD.mg;clear SMT A23 K23 hf;go_wp2_with fail
      clear a6 f6 A24 K24 x0 x1 x2;generalize u24.setCell ⟨A,6,none⟩ (.bool (dL st mf))=u25 at *
      refine(GET.o rf u25 ag K25.fr).mono ?_;rintro e u26⟨rfl,hf⟩;have K26:=K25.next hf;have A26:fY u26 A {jA with scheme:=k,aM:=bA aM,bu:=bA bu,cz:=bA op,cD:=cD,eJ:=bA q,cR:=dL st mf}:=hf.keep A25 id;have HDL:=O (aaL.o rf);generalize (kB x.params rf).getD []=d at *
      have awl:A<u26.heap.size:=bq A26;have SP:=O (show aB 125 #[.string (bA d),.string ⟨#[32]⟩] u26 fun e w'=>e=.returned (.slice (some ⟨u26.heap.size,0,none⟩) (eh 32 d).length (eh 32 d).length)/\w'=u26.alloc (.cells (((eh 32 d).map bA).map Value.string).toArray 9)from by
       have h:=yK (bA d) 32 u26 (by have h:d.length<=99999:=HDL.o;show d.length<_;omega);rw[SD,ai]at h;exact h)
      obtain⟨YH,xn⟩:=Hm 32 d;clear hf A25 K25;go_wp2_with fail
      refine SP.o.mono ?_;rintro e u27⟨rfl,ae9⟩;have hf:Fr aS u26 u27:=by rw[ae9];exact(ae _ _).alloc _
      have Ys:u27.heap[u26.heap.size]?=some (.cells (((eh 32 d).map bA).map Value.string).toArray 9 (0,0)):=by rw[ae9];exact aC _ _
      have K27:=K26.next hf;have A27:fY u27 A {jA with scheme:=k,aM:=bA aM,bu:=bA bu,cz:=bA op,cD:=cD,eJ:=bA q,cR:=dL st mf}:=hf.keep A26 id;generalize hPb:u26.heap.size=Pb at *
      clear SP ae9 hf A26 K26;go_wp2_with fail
      go_loopw[119] (ajK w x pv A Pb {jA with scheme:=k,aM:=bA aM,bu:=bA bu,cz:=bA op,cD:=cD,eJ:=bA q,cR:=dL st mf} d) (fun t _=>(eh 32 d).length-(intOf t).toNat)
      case atStart=>exact⟨0,.slice none 0 0,aL _,rfl,K27,A27,ld _ _,Ys,fun j e=>by simp[Value.ownBlock]at e⟩
      case round =>
        obtain⟨m,v,hm,rfl,K30,A30,Mj,QO,hvP⟩:=hrel;have hAr:A<wr.heap.size:=bq A30;have hd:d.length<=99999:=HDL.o;by_cases hms:m<(eh 32 d).length
        case pos =>
         have hmi:(m:Int)<((eh 32 d).length:Int):=ab;have dS:=O (List.getElem?_eq_getElem hms);have Fp:=xn _ (bO hms);generalize (eh 32 d)[m]=p at dS Fp;have c0:wr.cell? ⟨Pb,m,none⟩=some (.string (bA p)):=by
          simp only[World.cell?,QO];rw[List.getElem?_toArray,List.getElem?_map,List.getElem?_map,dS.o];rfl
         have HSU:=O (OL dS.o);have HP:=O (show aB 177 #[.string (bA p),.string ⟨#[47]⟩] wr fun e w'=>e=.returned (.bool (Nx 47 p))/\wr=w' from by
          have h:=strings_HasPrefix (bA p) ⟨#[47]⟩ wr;rw[fZ,show(⟨#[47]⟩:aj).data.toList=[47]from rfl,ajJ]at h;exact h.mono (fun e w' ⟨h1,h2⟩=>⟨h1,h2.symm⟩))
         go_wp2_with fail
         refine HP.o.mono ?_;rintro e w31⟨rfl,rfl⟩;clear HP c0;cases hpf:Nx 47 p
         case false =>
          have afb:=O (show iZ d (m+1)=iZ d m by rw[HSU.o,hpf];simp);go_wp2;go_roundw
          case rel=>exact⟨m+1,v,ab,bg,K30,A30,by rw[afb.o];exact Mj,QO,hvP⟩
          case measure=>simp[intOf];omega
         case true =>
          have afb:=O (show(iZ d (m+1)).map bA=(iZ d m).map bA++[bA (oV p)]by rw[HSU.o,hpf];simp);have FN:=O (show∀U,aB 178 #[.string (bA p)] U fun e w'=>e=.returned (.string (bA (oV p)))/\Fr aS U w' from fun U=>by
           have h:=RR (bA p) U (by show p.length<_;omega);rw[fZ]at h;exact h)
          obtain⟨va,vc,hve⟩:=Mj.form;rw[ai]at hve;have hdl:=SC d m;subst hve;have a7:wr.cell? ⟨A,7,none⟩=some (.slice va (iZ d m).length vc):=A30.cell rfl;have f7:=A30.free 7;have hoA:(Value.slice va (iZ d m).length vc).ownBlock≠some A:=fun e=>by
           obtain⟨cur,hc⟩:=Mj.kind e;rw[show wr.heap[A]?=_ from A30]at hc;simp at hc
          have En:=O (show∀U,Fr aS wr U->U.cell? ⟨A,7,none⟩=some (.slice va (iZ d m).length vc)/\U.frozen? ⟨A,7,none⟩=false from fun U hU=>⟨(hU.cell (p:=⟨A,7,none⟩) hAr id).trans a7,(hU.frozen (p:=⟨A,7,none⟩) hAr id).trans f7⟩);obtain⟨i0,qN,pD,ll,lF⟩:=info_parts zp;have hwr:w.heap.size<=wr.heap.size:=K30.fr.size;have apw:=O Mj;clear Mj hpf;go_wp2_with fail
          go_region_law (first
           |((with_reducible refine mX ⟨some 128,_,_,_,_,_⟩ ?_)
             refine Bh rfl 178 _ (by go_simp) (FN.o _) ?_
             rintro e w3⟨rfl,iz⟩
             refine⟨_,rfl,?_⟩
             have il:Fr aS wr w3:=bF (by repeat(first|exact ae _ _|apply aA)) iz
             obtain⟨k3,l3⟩:=En.o w3 il
             have k3a:∀o:Obj,(w3.alloc o).cell? ⟨A,7,none⟩=some (.slice va (iZ d m).length vc):=fun o=>(En.o _ (il.alloc o)).1
             have fC:=apw.o.fr il (fun _ h=>h.elim)
             have tO:w.heap.size<=w3.heap.size:=aE hwr il.size
             have Wv:w3.ownsRow w.heap.size 9 1 (.slice va (iZ d m).length vc) (iZ d m).length (((iZ d m).map bA).map Value.string):=by
               have hh:w3.ownsRow w.heap.size 9 1 (.slice va (iZ d m).length vc) ((iZ d m).map bA).length (((iZ d m).map bA).map Value.string):=fC
               rw[ai]at hh
               exact hh
             clear iz)
           |((with_reducible refine mX ⟨some 130,_,_,_,_,_⟩ ?_)
             refine step_append_lies _ bD _ _ _ bD w.heap.size 9 i0 _ 1 16 underlying110 qN pD ll lF rfl ab (.slice va (iZ d m).length vc) (iZ d m).length _ bD (by repeat(first|exact Wv|apply World.ownsRow.alloc|apply World.ownsRow.drew)) ⟨w3.heap.size,0,none⟩ 1 1 [.string (bA (oV p))] bD bD (kY w3 [.string (bA (oV p))] _) cC ab ft ab bH (w3.heap.size+1) aR ?_
             intro gg cap w4 fg jJ UW LH
             have Jc:Fr (fun k=>(Value.slice va (iZ d m).length vc).ownBlock=some k) w3 w4:=fy (by repeat(first|exact ae _ _|apply aA|apply bB)) jJ (fun _ hk _=>hk)
             have hA3:A<w3.heap.size:=cK hAr il.size
             have k4:w4.cell? ⟨A,7,none⟩=some (.slice va (iZ d m).length vc):=(Jc.cell (p:=⟨A,7,none⟩) hA3 hoA).trans k3
             have e4:w4.frozen? ⟨A,7,none⟩=false:=(Jc.frozen (p:=⟨A,7,none⟩) hA3 hoA).trans l3))
          all_goals
           have BX:Strs w.heap.size w3 (.slice va (iZ d m).length vc) ((iZ d m).map bA):=fC;have K31:=(K30.next il).own BX Jc;have A31:fY w4 A {{jA with scheme:=k,aM:=bA aM,bu:=bA bu,cz:=bA op,cD:=cD,eJ:=bA q,cR:=dL st mf}with dom:=.slice va (iZ d m).length vc}:=Jc.keep (il.keep A30 id) hoA;have hPl:Pb<wr.heap.size:=bq QO;have ajV:=Jc.keep (il.keep QO id) (fun e=>absurd (hvP Pb e) (Nat.lt_irrefl _))
           have hvg:Strs w.heap.size w4 (.slice (some ⟨gg,0,none⟩) ((iZ d m).length+1) cap) ((iZ d (m+1)).map bA):=by
            rw[afb.o];have e1:((iZ d m).map bA++[bA (oV p)]).length=(iZ d m).length+1:=aR;unfold Strs;rw[e1,bI];exact fg
           have hfA:Fr (one A) w4 (w4.setCell ⟨A,7,none⟩ (.slice (some ⟨gg,0,none⟩) ((iZ d m).length+1) cap)):=(ae (one A) w4).setCell (p:=⟨A,7,none⟩) (fun _=>rfl) _;have apx:=hvg.aaJ hfA A31 ag;have K32:=K31.set (i:=7) (u:=.slice (some ⟨gg,0,none⟩) ((iZ d m).length+1) cap) Jo
           have A32:=A31.set (r':={{jA with scheme:=k,aM:=bA aM,bu:=bA bu,cz:=bA op,cD:=cD,eJ:=bA q,cR:=dL st mf}with dom:=.slice (some ⟨gg,0,none⟩) ((iZ d m).length+1) cap}) 7 (.slice (some ⟨gg,0,none⟩) ((iZ d m).length+1) cap) rfl;have ajW:=hfA.keep ajV (fun e=>by have e':Pb=A:=e;omega);have apy:∀j,(Value.slice (some ⟨gg,0,none⟩) ((iZ d m).length+1) cap).ownBlock=some j->Pb<j:=by
            intro j hj;simp only[Value.ownBlock,eb]at hj;subst hj;rcases UW with e|e
            ·exact hvP _ e
            ·have:=il.size;omega
           clear k4 e4 jJ fg fC Wv Jc k3 k3a l3 En;go_wp2;go_roundw
           case rel=>exact⟨m+1,_,ab,bg,K32,A32,apx,ajW,apy⟩
           case measure=>simp[intOf];omega
        case neg =>
         have hmi:¬(m:Int)<((eh 32 d).length:Int):=ab;have apz:=O Mj;have TU:=O (show iZ d m=Iv d from SB ab);have hvo:v.oneCell'=true:=by obtain⟨va,vc,hve⟩:=Mj.form;rw[hve];rfl
         have HR0:=O K30.res;clear Mj xn YH;have zj:(prog.info? 112).map (·.size)=some ({{jA with scheme:=k,aM:=bA aM,bu:=bA bu,cz:=bA op,cD:=cD,eJ:=bA q,cR:=dL st mf}with dom:=v}).cells.toArray.size:=af;have BF:wr.heap[A]?=some (.cells ({{jA with scheme:=k,aM:=bA aM,bu:=bA bu,cz:=bA op,cD:=cD,eJ:=bA q,cR:=dL st mf}with dom:=v}).cells.toArray 112 (0,0)):=A30
         have ZT:=Jn ({{jA with scheme:=k,aM:=bA aM,bu:=bA bu,cz:=bA op,cD:=cD,eJ:=bA q,cR:=dL st mf}with dom:=v}) hvo
         go_wp2_with (first|((with_reducible refine dr 133 ?_);refine aI rfl 112 (.tmp 6) rfl A rfl _ ({{jA with scheme:=k,aM:=bA aM,bu:=bA bu,cz:=bA op,cD:=cD,eJ:=bA q,cR:=dL st mf}with dom:=v}).cells.toArray (0,0) _ BF underlying112 rfl zj ?_)|((with_reducible refine cZ 112 ?_);refine aF rfl 112 (.tmp 2) (.tmp 133) rfl (w.heap.size+1) ({{jA with scheme:=k,aM:=bA aM,bu:=bA bu,cz:=bA op,cD:=cD,eJ:=bA q,cR:=dL st mf}with dom:=v}).cells.toArray rfl rfl _ gV K30.res zj rfl ZT ?_)|fail)
         refine aW (results_cell_tmp bD _ _ (w.heap.size+1) 112 ({{jA with scheme:=k,aM:=bA aM,bu:=bA bu,cz:=bA op,cD:=cD,eJ:=bA q,cR:=dL st mf}with dom:=v}).cells.toArray (0,0) _ rfl (a_ wr (w.heap.size+1) _ _ _ _ K30.res) underlying112 rfl zj) rfl ?_
         exact kG.yes (by rw[HE1.o]) ((K30.fr).setRow (fun h=>absurd h ab) _) ⟨rfl,rfl,rfl,rfl,rfl,rfl,rfl,by rw[<-TU.o];exact apz.o.aaJ ((ae (one (w.heap.size+1)) wr).setRow (fun _=>rfl) _) HR0.o ag⟩
