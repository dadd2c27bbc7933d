/- Lemmas for the law's walk. -/
import Derived.Test.YtjndhcngnghpiaaGreatDoorPp12
set_option maxRecDepth 100000
set_option maxHeartbeats 16000000
set_option linter.unusedSimpArgs false
namespace Go.Proofs.YtjndhcngnghpiaaGreatDoor
open Go.Proofs.Tryz
open Go.RowKit
variable {w w' U V:World} {b i base k:Nat} {r:fX Value} {u pv v:Value} {x:mW} {ss:List ai} {d:Bs}
def Og(I:World->Prop)(g:Nat)(cap:bW)(p:ai->Bool)(ss:List ai):Prop :=
 ∀x,x∈ss->∀u,I u->aE g (#[.string x]++cap) u fun e u'=>e=.returned (.bool (p x))/\Fr aX u u'/\I u'
def ami(w:World)(I:World->Prop)(p:ai->Bool)(ss:List ai)(i:Value)(wr:World):Prop :=
 ∃k:Nat,k<=ss.length/\i=.int .i64 k/\(ss.take k).any p=false/\Fr aX w wr/\I wr
theorem Di(I:World->Prop)(g:Nat)(cap:bW)(p:ai->Bool)(v:Value)(ss:List ai)(w:World)(eg:∀args w,(callFunc g args).run prog w=.ok (.enter g args) w)(hI:I w)(hp:Og I g cap p ss)(hv:ig w v ss)(hl:ss.length<=maxLen) :
  aE 215 #[v,.func (.func g) #[] cap] w fun e w'=>e=.returned (.int .i64 (lW p ss 0))/\Fr aX w w'/\I w':=by
 unfold maxLen at hl;obtain⟨av,cv,gi⟩:=hv.form;subst gi;go_enter func215,ntmps215;go_wp2;go_loopw[8] (ami w I p ss) (fun i _=>ss.length-(intOf i).toNat)
 case atStart=>exact⟨0,aW _,rfl,rfl,ae _ _,hI⟩
 case round =>
  obtain⟨k,hk,rfl,hn,cR,hIr⟩:=hrel;have HN:=O hn;clear hn;by_cases fE:k<ss.length
  ·have hvr:=hv.i_ cR;rcases hvr with ⟨_,_,_,e,_⟩|⟨bk,o,c,hf,h1,h2,h3,h4⟩
   ·rw[e]at fE;exact absurd fE (ct _)
   ·cases hf;have dT:=O (List.getElem?_eq_getElem fE);have hc:=h4 k _ dT.o;have jc:=O (bQ fE);generalize ss[k]=x at dT hc jc;have fF:=O (hp x jc.o wr hIr);clear h4;cases rK:p x
    ·have p9:=O (any_take_succ dT.o HN.o rK);go_wp2_with fail
     refine fF.o.mono ?_;rintro e w1⟨rfl,dw,hI1⟩;rw[rK];go_wp2;go_roundw
     case rel=>exact⟨k+1,ab,bh,p9.o,cR.trans dw,hI1⟩
     case measure=>simp[intOf];omega
    ·have fl:=O (pR (i:=0) dT.o rK HN.o);go_wp2_with fail
     refine fF.o.mono ?_;rintro e w1⟨rfl,dw,hI1⟩;rw[rK];go_wp2;go_ret;rw[fl.o,bw];exact⟨rfl,cR.trans dw,hI1⟩
  ·have fl:=O (show lW p ss 0= -1 from kz (by have h:=HN.o;rw[aG ab]at h;exact h));go_wp2;go_ret;rw[fl.o];exact⟨rfl,cR,hIr⟩
theorem zh(I:World->Prop)(g:Nat)(cap:bW)(p:ai->Bool)(v:Value)(ss:List ai)(w:World)(eg:∀args w,(callFunc g args).run prog w=.ok (.enter g args) w)(hI:I w)(hp:Og I g cap p ss)(hv:ig w v ss)(hl:ss.length<=maxLen) :
  aE 176 #[v,.func (.func g) #[] cap] w fun e w'=>e=.returned (.bool (ss.any p))/\Fr aX w w'/\I w':=by
 have hb:=O (tu p ss 0);go_enter func176,ntmps176;go_wp2_with fail
 refine(Di I g cap p v ss w eg hI hp hv hl).mono ?_;rintro e w1⟨rfl,dw,hI1⟩;go_wp2;go_ret;exact⟨fS hb.o,dw,hI1⟩
def Mv(s:Bs):Value:=match RW s with
 |some (k,b)=>.tuple #[.int .i64 k,.bool b,.bool true]
 |none=>.tuple #[.int .i64 0,.bool false,.bool false]
theorem D'(s:ai)(w:World)(hs:s.size<17592186044416) :
  aE 174 #[.string s] w fun e w'=>e=.returned (Mv s.data.toList)/\Fr aX w w':=by
 have S1:=O (show∀U,aE 113 #[.string s,.string ⟨#[77,68,53]⟩] U fun e w'=>e=.returned (.bool (dH s.data.toList xr))/\Fr aX U w' from fun U=>lY s _ U hs ag);have S2:=O (show∀U,aE 113 #[.string s,.string ⟨#[77,68,53,45,115,101,115,115]⟩] U fun e w'=>e=.returned (.bool (dH s.data.toList (xr++yo)))/\Fr aX U w' from fun U=>lY s _ U hs ag)
 have S3:=O (show∀U,aE 113 #[.string s,.string ⟨#[83,72,65,45,50,53,54]⟩] U fun e w'=>e=.returned (.bool (dH s.data.toList FR))/\Fr aX U w' from fun U=>lY s _ U hs ag);have S4:=O (show∀U,aE 113 #[.string s,.string ⟨#[83,72,65,45,50,53,54,45,115,101,115,115]⟩] U fun e w'=>e=.returned (.bool (dH s.data.toList (FR++yo)))/\Fr aX U w' from fun U=>lY s _ U hs ag)
 have HV:=O (show Mv s.data.toList=if dH s.data.toList xr then .tuple #[.int .i64 2,.bool false,.bool true]else if dH s.data.toList (xr++yo)then .tuple #[.int .i64 2,.bool true,.bool true]
   else if dH s.data.toList FR then .tuple #[.int .i64 3,.bool false,.bool true]else if dH s.data.toList (FR++yo)then .tuple #[.int .i64 3,.bool true,.bool true]else .tuple #[.int .i64 0,.bool false,.bool false]by
  unfold Mv RW;split
  ·rename_i k b h;split at h
   ·rename_i h1;cases h;rw[aB h1]
   rename_i h1;rw[ay h1];split at h
   ·rename_i h2;cases h;rw[aB h2]
   rename_i h2;rw[ay h2];split at h
   ·rename_i h3;cases h;rw[aB h3]
   rename_i h3;rw[ay h3];split at h
   ·rename_i h4;cases h;rw[aB h4]
   ·cases h
  ·rename_i h;split at h
   ·cases h
   rename_i h1;rw[ay h1];split at h
   ·cases h
   rename_i h2;rw[ay h2];split at h
   ·cases h
   rename_i h3;rw[ay h3];split at h
   ·cases h
   rename_i h4;rw[ay h4])
 generalize dH s.data.toList xr=b1 at *
 generalize dH s.data.toList (xr++yo)=b2 at *
 generalize dH s.data.toList FR=b3 at *
 generalize dH s.data.toList (FR++yo)=b4 at *
 obtain⟨w1,oM⟩:∃w1,w1=w.alloc (.cells #[.string ⟨#[77,68,53]⟩,.string ⟨#[83,72,65,45,50,53,54]⟩] 9):=⟨_,rfl⟩;have dw:Fr aX w w1:=by rw[oM];exact(ae _ _).alloc _
 have sD:w1.heap[w.heap.size]?=some (.cells #[.string ⟨#[77,68,53]⟩,.string ⟨#[83,72,65,45,50,53,54]⟩] 9 (0,0)):=by rw[oM];exact aC _ _
 have HC:=O (show∀U,Fr aX w1 U->U.cell? ⟨w.heap.size,0,none⟩=some (.string ⟨#[77,68,53]⟩)/\U.cell? ⟨w.heap.size,1,none⟩=some (.string ⟨#[83,72,65,45,50,53,54]⟩)from fun U hU=>by
  have j1:=hU.keep sD id;simp[World.cell?,j1])
 have Pd:=O oM;clear oM sD;go_enter func174,ntmps174;go_wp2;rw[<-Pd.o];obtain⟨c0,c1⟩:=HC.o w1 (ae _ _);refine wp_loop_rounds 3 ?_;rw[rounds_succ];go_wp2_with fail
 refine(S1.o w1).mono ?_;rintro e u1⟨rfl,uV⟩;clear c0 c1;cases b1
 case true =>
  go_wp2
  go_ret3
  exact⟨by rw[HV.o];rfl,dw.trans uV⟩
 case false =>
  go_wp2_with fail
  refine(S2.o u1).mono ?_;rintro e u2⟨rfl,nP⟩;have fR:=O (uV.trans nP);cases b2
  case true =>
   go_wp2
   go_ret3
   exact⟨by rw[HV.o];rfl,dw.trans fR.o⟩
  case false =>
   obtain⟨c0,c1⟩:=HC.o u2 fR.o;go_wp2_with fail
   rw[rounds_succ];go_wp2_with fail
   refine(S3.o u2).mono ?_;rintro e u3⟨rfl,BH⟩;have il:=O (fR.o.trans BH);clear c0 c1;cases b3
   case true =>
    go_wp2
    go_ret3
    exact⟨by rw[HV.o];rfl,dw.trans il.o⟩
   case false =>
    go_wp2_with fail
    refine(S4.o u3).mono ?_;rintro e u4⟨rfl,Mw⟩;have jN:=O (il.o.trans Mw);cases b4
    case true =>
     go_wp2
     go_ret3
     exact⟨by rw[HV.o];rfl,dw.trans jN.o⟩
    case false =>
     go_wp2_with fail
     rw[rounds_succ];go_wp2
     go_ret3
     exact⟨by rw[HV.o];rfl,dw.trans jN.o⟩
def GG(w:World)(b:Nat)(n:ai):Prop:=w.heap[b]?=some (.cells #[.string n] 9 (0,0))
theorem Mx(s n:ai)(b:Nat)(w:World)(h:GG w b n)(hs:s.size<17592186044416)(hn:n.size<17592186044416) :
  aE 177 #[.string s,.pointer (some ⟨b,0,none⟩)] w fun e w'=>e=.returned (.bool (dH s.data.toList n.data.toList))/\Fr aX w w':=by
 have c0:w.cell? ⟨b,0,none⟩=some (.string n):=by simp[World.cell?,show w.heap[b]?=_ from h]
 go_enter func177,ntmps177;go_wp2_with fail
 refine(lY s n w hs hn).mono ?_;rintro e w1⟨rfl,hf⟩;go_wp2;go_ret;exact⟨rfl,hf⟩
theorem Ye(n:ai)(b:Nat)(v:Value)(ss:List ai)(w:World)(hv:ig w v ss)(hl:ss.length<=1000)(hb:GG w b n)(hn:n.size<17592186044416)(hz:∀x∈ss,x.size<17592186044416) :
  aE 176 #[v,.func (.func 177) #[] #[.pointer (some ⟨b,0,none⟩)]] w fun e w'=>e=.returned (.bool (ss.any fun x=>dH x.data.toList n.data.toList))/\Fr aX w w':=by
 refine(zh (fun u=>GG u b n) 177 #[.pointer (some ⟨b,0,none⟩)] (fun x=>dH x.data.toList n.data.toList) v ss w call177 hb ?_ hv ft).mono ?_
 ·intro x hx u hu;refine(Mx x n b u hu (hz x hx) hn).mono ?_;rintro e u'⟨he,hf⟩;exact⟨he,hf,hf.keep hu id⟩
 ·rintro e w'⟨he,hf,_⟩;exact⟨he,hf⟩
def jg:fX Value:=⟨0,⟨#[]⟩,⟨#[]⟩,⟨#[]⟩,false,⟨#[]⟩,false,.slice none 0 0⟩
abbrev gG:bW:= #[.int .i64 0,.string ⟨#[]⟩,.string ⟨#[]⟩,.string ⟨#[]⟩,.bool false,.string ⟨#[]⟩,.bool false,.slice none 0 0]
theorem P_:∀v∈gG.toList,v.oneCell'=true:=cZ
theorem qU:gG.all (·.oneCell')=true:=cZ
theorem Yf(r:fX Value)(h:r.dom.oneCell'=true):∀u∈r.cells,u.oneCell'=true:=by
 intro u hu;simp only[fX.cells,bE,bU,dL]at hu;rcases hu with rfl|rfl|rfl|rfl|rfl|rfl|rfl|rfl<;>first|rfl|exact h
theorem GH(r:fX Value)(h:r.dom.oneCell'=true):r.cells.toArray.all (·.oneCell')=true:=cE (Yf r h)
def fL(w:World)(b:Nat)(r:fX Value):Prop:=w.heap[b]?=some (.cells r.cells.toArray 127 (0,0))
theorem fL.cell(h:fL w b r)(hu:r.cells[i]?=some u):w.cell? ⟨b,i,none⟩=some u:=by
 simp only[World.cell?,show w.heap[b]?=_ from h];simpa using hu
theorem fL.free(h:fL w b r)(i:Nat):w.frozen? ⟨b,i,none⟩=false:=by simp[World.frozen?,show w.heap[b]?=_ from h]
theorem fL.set{r':fX Value}(h:fL w b r)(i:Nat)(u:Value)(hr:r.cells.toArray.setIfInBounds i u=r'.cells.toArray):fL (w.setCell ⟨b,i,none⟩ u) b r':=by
 unfold fL;rw[cg h i u,hr]
def ki(x:mW)(w:World)(e:Ending)(w':World):Prop :=
 Fr aX w w'/\match mN x with
  |none=>e=.returned (.tuple #[.agg gG,.bool false])
  |some a=>∃r:fX Value,r.Reads (Strs w.heap.size w') a/\e=.returned (.tuple #[.agg r.cells.toArray,.bool true])
theorem ki.no(h:mN x=none)(hf:Fr aX w w'):ki x w (.returned (.tuple #[.agg gG,.bool false])) w':=by
 refine⟨hf,?_⟩;rw[h]
theorem ki.yes{a:fX bG}(h:mN x=some a)(hf:Fr aX w w')(hr:r.Reads (Strs w.heap.size w') a):ki x w (.returned (.tuple #[.agg r.cells.toArray,.bool true])) w':=by
 refine⟨hf,?_⟩;rw[h];exact⟨r,hr,rfl⟩
structure P' (w:World) (x:mW) (pv:Value) (U:World):Prop where
 Af:ks U w.heap.size (bA x.scheme) (bA x.token) pv
 res:U.heap[w.heap.size+1]?=some (.cells gG 127 (0,0))
 fr:Fr aX w U
theorem P'.next(h:P' w x pv U)(hf:Fr aX U V):P' w x pv V:=⟨h.Af.fr hf id,hf.keep h.res id,h.fr.trans hf⟩
theorem P'.set(h:P' w x pv U)(hb:w.heap.size+1<b):P' w x pv (U.setCell ⟨b,i,none⟩ u):=by
 have hf:Fr (one b) U (U.setCell ⟨b,i,none⟩ u):=(ae (one b) U).setCell (p:=⟨b,i,none⟩) (fun _=>rfl) u;exact⟨h.Af.fr hf (fun e=>by have e':w.heap.size=b:=e;omega),hf.keep h.res (fun e=>by have e':w.heap.size+1=b:=e;omega),h.fr.step hf (fun k hk e=>by have e':k=b:=e;omega)⟩
theorem Strs.kind{g:Nat}(h:Strs base w v ss)(hg:v.ownBlock=some g):∃cur,w.heap[g]?=some (.cells cur 9 (0,0)):=by
 rcases h.2 with ⟨hv,_⟩|⟨g',cap,cur,hv,_,hh,_⟩
 ·rw[hv]at hg;simp[Value.ownBlock]at hg
 ·rw[hv]at hg;simp[Value.ownBlock]at hg;subst hg;exact⟨cur,hh⟩
theorem Strs.off{S:dB}(h:Strs base w v ss)(hf:Fr S w w')(hS:∀k,v.ownBlock=some k->¬S k):Strs base w' v ss:=by
 obtain⟨h1,h2⟩:=h;refine⟨h1,?_⟩;rcases h2 with h2|⟨g,cap,cur,hv,hg,hh,r⟩
 ·exact Or.inl h2
 ·exact Or.inr ⟨g,cap,cur,hv,hg,hf.keep hh (hS g (by rw[hv];rfl)),r⟩
theorem Strs.Yg{cs:bW}{t:TypeId}{f:Nat×Nat}(h:Strs base w v ss)(hf:Fr (one b) w w')(hb:w.heap[b]?=some (.cells cs t f))(ht:t≠9):Strs base w' v ss :=
 h.off hf (fun k hk e=>by
  obtain rfl:k=b:=e;obtain⟨cur,hc⟩:=h.kind hk;rw[hc]at hb;cases hb;exact ht rfl)
theorem P'.own(h:P' w x pv U)(hv:Strs w.heap.size U v ss)(hf:Fr (fun k=>v.ownBlock=some k) U V):P' w x pv V:=by
 have hn:∀ {b:Nat} {cs:bW} {t:TypeId} {f:Nat×Nat},U.heap[b]?=some (.cells cs t f)->t≠9->¬v.ownBlock=some b:=by
  intro b cs t f hb ht e;obtain⟨cur,hc⟩:=hv.kind e;rw[hc]at hb;cases hb;exact ht rfl
 exact⟨h.Af.fr hf (hn h.Af ag),hf.keep h.res (hn h.res ag),h.fr.step hf (fun k hk e=>by have:=hv.block k e;omega)⟩
theorem Ug{ps:List jn}{n v:Bs}(h:ke ps n=some v):∃p∈ps,v=p.2:=by
 unfold ke at h;obtain⟨p,hp,rfl⟩:=Option.map_eq_some_iff.1 h;exact⟨p,List.mem_of_find?_eq_some hp,rfl⟩
theorem Yh(l:aK):(∃ws,gO l=.ok ws/\ws.length<=40/\RX l=Nt ws)\/((∀ws,gO l=.ok ws->40<ws.length)/\RX l=none):=by
 unfold RX;cases h:gO l with
 |ok ws =>
  by_cases hn:ws.length<=40
  ·exact Or.inl ⟨ws,rfl,hn,ay ab⟩
  ·refine Or.inr ⟨fun ws' h'=>?_,aB ab⟩;cases h';omega
 |error m=>exact Or.inr ⟨fun ws' h'=>(by cases h'),rfl⟩
theorem jm.acx{s:ai}{e:Ending}(h:jm s w e w')(hl:∀ws,gO s.data.toList=.ok ws->40<ws.length) :
  ∃v t x,e=.returned (.tuple #[v,.iface t x])/\Fr aX w w':=by
 obtain⟨v,er,he,hf,hm⟩:=h;cases hr:gO s.data.toList with
 |ok ws =>
  rw[hr]at hm;have RZ:if 40<ws.length then v=.slice none 0 0/\Ei w' er (some (4,none))else Strs w.heap.size w' v (dQ ws)/\er=.nilIface:=hm
  rw[aB (hl ws hr)]at RZ;obtain⟨_,hv⟩:=RZ;exact⟨v,_,_,by rw[he,show er=_ from hv],hf⟩
 |error m =>
  rw[hr]at hm;obtain⟨_,g,hv,_⟩:=hm;exact⟨v,_,_,by rw[he,hv],hf⟩
theorem Fo:∀(f:Nat) (r:Bs) (ws:List Bs),lC f r=.ok ws->∀w∈ws,w.length<=r.length
 |0,r,ws,h,w,hw=>by rw[lC]at h;cases h;cases hw
 |f+1,r,ws,h,w,hw=>by
  rw[lC]at h;have h1:=pK dI r;have h2:=pK fO (r.dropWhile dI);have h3:=pK dI ((r.dropWhile dI).dropWhile fO);have h4:=pn fO (r.dropWhile dI);have ec:∀u∈(if((r.dropWhile dI).takeWhile fO).isEmpty then []else [(r.dropWhile dI).takeWhile fO]),u.length<=r.length:=by
   intro u hu;split at hu
   ·cases hu
   ·simp at hu;subst hu;omega
  cases e:((r.dropWhile dI).dropWhile fO).dropWhile dI with
  |nil =>
   rw[e]at h;simp only at h;cases h;exact ec w hw
  |cons c r4 =>
   rw[e]at h h3;simp only at h;split at h
   ·cases hr:lC f r4 with
    |error m=>rw[hr]at h;cases h
    |ok w2 =>
     rw[hr]at h;cases h;rcases bO.1 hw with g|g
     ·exact ec w g
     ·have:=Fo f r4 w2 hr w g;simp at h3;omega
   ·cases h
def qK(ws:List Bs):Nat->Bs
 |0=>[]
 |1=>if ws.any (fun w=>dH w pM)then pM else []
 |_=>if ws.any (fun w=>dH w lN)then lN else if ws.any (fun w=>dH w pM)then pM else []
theorem acy(ws:List Bs):Nt ws=if(qK ws 2).isEmpty then none else some (qK ws 2):=by
 unfold Nt qK;cases ws.any (fun w=>dH w lN)<;>cases ws.any (fun w=>dH w pM)<;>rfl
theorem Qa(ws:List Bs)(n:Bs):((dQ ws).any fun x=>dH x.data.toList (bA n).data.toList)=ws.any fun w=>dH w n:=by
 unfold dQ;rw[List.any_map,fM];rfl
def iA(d:Bs)(k:Nat):List Bs:=(((dY 32 d).take k).filter fun p=>Ld 47 p).map oo
theorem agU(l:Bs):Lib.hasPrefix l [47]=Ld 47 l:=by
 cases l with
 |nil=>rfl
 |cons c l =>
  rw[eW];simp[Lib.hasPrefix,Ld];exact eq_comm
def agV(w:World)(x:mW)(pv:Value)(A Pb:Nat)(a:fX Value)(d:Bs)(t:Value)(wr:World):Prop :=
 ∃(k:Nat) (v:Value),k<=(dY 32 d).length/\t=.int .i64 k/\P' w x pv wr/\fL wr A {a with dom:=v}/\Strs w.heap.size wr v ((iA d k).map bA)/\wr.heap[Pb]?=some (.cells (((dY 32 d).map bA).map Value.string).toArray 9 (0,0))/\∀j,v.ownBlock=some j->Pb<j
theorem My{p:Bs}(h:(dY 32 d)[k]?=some p):iA d (k+1)=iA d k++(if Ld 47 p then [oo p]else []):=by
 unfold iA;rw[cD,h];simp only[Option.toList_some,cC,bI]
 congr 1
 rw[List.filter_cons];split<;>rfl
theorem Qb(h:(dY 32 d).length<=k):iA d k=FT d:=by unfold iA FT;rw[aG h]
theorem Qc(d:Bs)(k:Nat):(iA d k).length<=k:=by
 unfold iA;rw[aj];have h:=bR (fun p=>Ld 47 p) ((dY 32 d).take k);rw[aQ]at h;omega
theorem Fp(c:UInt8):∀d:Bs,(dY c d).length<=d.length+1/\∀p∈dY c d,p.length<=d.length
 |[]=>⟨by simp[dY],by simp[dY]⟩
 |x :: d=>by
  obtain⟨h1,h2⟩:=Fp c d;unfold dY;split
  ·refine⟨bH,fun p hp=>?_⟩;rcases bE.1 hp with rfl|g
   ·simp
   ·have:=h2 p g;simp;omega
  ·cases e:dY c d with
   |nil=>exact⟨aS,fun p hp=>by simp at hp;subst hp;simp⟩
   |cons q qs =>
    rw[e]at h1 h2;refine⟨by simp at h1 ⊢; omega,fun p hp=>?_⟩;rcases bE.1 hp with rfl|g
    ·have:=h2 q (cY ..);simp;omega
    ·have:=h2 p (bV _ g);simp;omega
theorem Qd(c:UInt8)(d:Bs):iL c (bA d)=(dY c d).map bA:=by
 unfold iL;rw[fM];rfl
def agW(w:World)(x:mW)(pv:Value)(A:Nat)(a:fX Value)(ws:List Bs)(W:World)(t:Value)(wr:World):Prop :=
 ∃k:Nat,k<=2/\t=.int .i64 k/\P' w x pv wr/\fL wr A {a with eZ:=bA (qK ws k)}/\Fr (one A) W wr
def acz(w:World)(x:mW)(pv:Value)(A:Nat)(a:fX Value)(wz:World):Prop:=∃q,RY x.params=some q/\P' w x pv wz/\fL wz A {a with eZ:=bA q}
theorem Qe(x:mW)(pv:Value)(w:World)(hp:lr w pv x.params)(hz:x.Fit) :
  aE 121 #[.agg #[.string (bA x.scheme),.string (bA x.token),pv]] w (ki x w):=by
 have B_:Oc x.params:=⟨by have:=hz.re;omega,fun p hq=>by have:=hz.yx p hq;omega⟩;have asu:(bA x.scheme).size<=100000:=hz.scheme;have HZ:=O hz
 have GET:=O (show∀(n:Bs) U,n.length<1000->Fr aX w U->aE 173 #[.agg #[.string (bA x.scheme),.string (bA x.token),pv],.string (bA n)] U fun e w'=>e=.returned (.tuple #[.string (bA ((ke x.params n).getD [])),.bool (ke x.params n).isSome])/\Fr aX U w' from fun n U hn hU=>by
  have:=XX (bA x.scheme) (bA x.token) pv x.params (bA n) U (bM hp hU) B_ (by show n.length<_;omega);rw[fM]at this;exact this)
 have Yi:=O (show∀n,((ke x.params n).getD []).length<=99999 from fun n=>by
  cases h:ke x.params n with
  |none=>simp
  |some v =>
   obtain⟨p,hpm,rfl⟩:=Ug h;exact(hz.yx p hpm).2)
 have SMB:=O (show∀(n:Bs) U,n.length<1000->aE 113 #[.string (bA x.scheme),.string (bA n)] U fun e w'=>e=.returned (.bool (dH x.scheme n))/\Fr aX U w' from fun n U hn=>by
  have:=lY (bA x.scheme) (bA n) U ab (by show n.length<_;omega);rw[fM,fM]at this;exact this)
 have HK:=O (show mN x=match ke x.params vh with
  |none=>none
  |some aO =>
   if dH x.scheme FQ then some ⟨1,bA aO,bA [],bA [],false,bA [],false,[]⟩else
   match RW ((ke x.params yn).getD xr)with
   |none=>none
   |some (k,cy) =>
    if !dH x.scheme Bv then none else
    match ke x.params vn with
    |none=>none
    |some bC =>
     match RY x.params with
     |none=>none
     |some q=>some ⟨k,bA aO,bA bC,bA ((ke x.params lO).getD []),cy,bA q,dH ((ke x.params zL).getD []) lD,(FT ((ke x.params qz).getD [])).map bA⟩from rfl)
 obtain⟨av,cv,hv⟩:=hp.form;subst hv;obtain⟨w2,eC⟩:∃w2,w2=(w.alloc (.cells #[.string (bA x.scheme),.string (bA x.token),.slice av x.params.length cv] 208)).alloc (.cells gG 127):=⟨_,rfl⟩;have KQ:w2.heap.size=w.heap.size+2:=by rw[eC];simp
 have K0:P' w x (.slice av x.params.length cv) w2:=by
  have f1:Fr aX (w.alloc (.cells #[.string (bA x.scheme),.string (bA x.token),.slice av x.params.length cv] 208)) w2:=by rw[eC];exact(ae _ _).alloc _
  refine⟨f1.keep (aC w _) id,?_,((ae aX w).alloc _).trans f1⟩;rw[eC];have:=aC (w.alloc (.cells #[.string (bA x.scheme),.string (bA x.token),.slice av x.params.length cv] 208)) (.cells gG 127);simpa using this
 have ow:=O eC;clear hp hz B_ eC;generalize Lv:Value.slice av x.params.length cv=pv at *
 clear Lv;go_enter func121,ntmps121;go_wp2_with fail
 rw[<-ow.o];refine(GET.o vh w2 ag K0.fr).mono ?_;rintro e u1⟨rfl,hf⟩;have K1:=K0.next hf;have uV:w.heap.size+1<u1.heap.size:=by have:=hf.size;omega
 clear hf;cases hre:ke x.params vh with
 |none =>
  go_wp2_with (first|((with_reducible refine cU 127 ?_);refine aI rfl 127 (.tmp 2) (.tmp 27) rfl (w.heap.size+1) gG rfl rfl _ gG K1.res af rfl qU ?_)|fail)
  refine aR (results_cell_tmp bB _ _ (w.heap.size+1) 127 gG (0,0) _ rfl (aY u1 (w.heap.size+1) _ _ _ _ K1.res) underlying127 rfl af) rfl ?_;exact ki.no (by rw[HK.o,hre]) ((K1.fr).setRow (fun h=>absurd h ab) _)
 |some aO =>
  have mD:=O (show mN x=_ by rw[HK.o,hre]);simp only at mD;clear HK hre;have x0:=K1.Af.cell0;have x1:=K1.Af.gU;have x2:=K1.Af.lQ;have iQ:=fun W=>run_storeCells_new (P:=prog) W 127 gG [.int .i64 1,.string (bA aO),.string ⟨#[]⟩,.string ⟨#[]⟩,.bool false,.string ⟨#[]⟩,.bool false,.slice none 0 0] rfl (by intro u hu;simp at hu;rcases hu with rfl|rfl|rfl|rfl|rfl|rfl|rfl|rfl<;>rfl)
  obtain⟨u2,nP⟩:∃u2,u2=u1.alloc (.cells #[.int .i64 1,.string (bA aO),.string ⟨#[]⟩,.string ⟨#[]⟩,.bool false,.string ⟨#[]⟩,.bool false,.slice none 0 0] 127):=⟨_,rfl⟩;have hf:Fr aX u1 u2:=by rw[nP];exact(ae _ _).alloc _
  have K2:=K1.next hf;have A2:fL u2 u1.heap.size {jg with scheme:=1,aO:=bA aO}:=by rw[nP];exact aC _ _
  have x0a:∀o:Obj,(u1.alloc o).cell? ⟨w.heap.size,0,none⟩=some (.string (bA x.scheme)):=fun o=>(K1.Af.fr ((ae aX u1).alloc o) id).cell0;have uk:=O nP;generalize hA:u1.heap.size=A at *
  clear nP;go_wp2_with fail
  rw[<-uk.o];refine(SMB.o FQ u2 ag).mono ?_;rintro e u3⟨rfl,iG⟩;have K3:=K2.next iG;have A3:fL u3 A {jg with scheme:=1,aO:=bA aO}:=iG.keep A2 id;have hA3:A<u3.heap.size:=bg A3;clear x0 x1 x2 x0a iQ A2 K2 iG;cases hbs:dH x.scheme FQ with
  |true =>
   have Bd:(prog.info? 127).map (·.size)=some ({jg with scheme:=1,aO:=bA aO}).cells.toArray.size:=af;have Ag:u3.heap[A]?=some (.cells ({jg with scheme:=1,aO:=bA aO}).cells.toArray 127 (0,0)):=A3;have Xp:=GH ({jg with scheme:=1,aO:=bA aO}) rfl
   go_wp2_with (first|((with_reducible refine dt 33 ?_);refine aJ rfl 127 (.tmp 6) rfl A rfl _ ({jg with scheme:=1,aO:=bA aO}).cells.toArray (0,0) _ Ag underlying127 rfl Bd ?_)|((with_reducible refine cU 127 ?_);refine aI rfl 127 (.tmp 2) (.tmp 33) rfl (w.heap.size+1) ({jg with scheme:=1,aO:=bA aO}).cells.toArray rfl rfl _ gG K3.res Bd rfl Xp ?_)|fail)
   refine aR (results_cell_tmp bB _ _ (w.heap.size+1) 127 ({jg with scheme:=1,aO:=bA aO}).cells.toArray (0,0) _ rfl (aY u3 (w.heap.size+1) _ _ _ _ K3.res) underlying127 rfl Bd) rfl ?_;exact ki.yes (by rw[mD.o,aB hbs]) ((K3.fr).setRow (fun h=>absurd h ab) _) ⟨rfl,rfl,rfl,rfl,rfl,rfl,rfl,kA _ _⟩
  |false =>
   rw[hbs]at mD;clear hbs;have x0:=K3.Af.cell0;have x1:=K3.Af.gU;have x2:=K3.Af.lQ;go_wp2_with fail
   refine(GET.o yn u3 ag K3.fr).mono ?_;rintro e u4⟨rfl,hf⟩;have K4:=K3.next hf;have A4:fL u4 A {jg with scheme:=1,aO:=bA aO}:=hf.keep A3 id;clear x0 x1 x2 A3 K3 hf
   go_upto_if 40 with fail
   go_cut [5,7] (fun _ s7 wz=>s7=.string (bA ((ke x.params yn).getD xr))/\u4=wz)
   case first =>
    cases A':ke x.params yn with
    |none =>
     go_wp2_with fail
     go_meet
     rw[A'];exact⟨rfl,rfl⟩
    |some v =>
     go_wp2_with fail
     go_meet
     rw[A'];exact⟨rfl,rfl⟩
   case rest =>
   obtain⟨rfl,rfl⟩:=hcut;have HNL:=O (Yi.o yn);have rA:(bA ((ke x.params yn).getD xr)).size<17592186044416:=by
    show((ke x.params yn).getD xr).length<_;cases hg:ke x.params yn with
    |none=>decide
    |some v =>
     have h:=HNL.o;rw[hg]at h;have:v.length<=99999:=h;show v.length<_;omega
   generalize (ke x.params yn).getD xr=alg at *
   have a0:=A4.cell (i:=0) rfl;have f0:=A4.free 0;go_wp2_with fail
   refine(D' (bA alg) u4 rA).mono ?_;rintro e u5⟨rfl,hf⟩;rw[fM];have K5:=K4.next hf;have A5:fL u5 A {jg with scheme:=1,aO:=bA aO}:=hf.keep A4 id;have GI:w.heap.size+1<A:=uV;clear A4 K4 hf HNL rA a0 f0;cases har:RW alg with
   |none =>
    have HE:=O (show mN x=none by rw[mD.o,har];rfl);have hv0:Mv alg=.tuple #[.int .i64 0,.bool false,.bool false]:=by unfold Mv;rw[har]
    rw[hv0];have K6:=(K5.set (i:=0) (u:=.int .i64 0) GI).set (i:=4) (u:=.bool false) GI;have a0:=A5.cell (i:=0) rfl;have f0:=A5.free 0;have A5b:=A5.set (r':={jg with scheme:=0,aO:=bA aO}) 0 (.int .i64 0) rfl;have a4:=A5b.cell (i:=4) rfl;have f4:=A5b.free 4
    go_wp2_with (first|((with_reducible refine cU 127 ?_);refine aI rfl 127 (.tmp 2) (.tmp 57) rfl (w.heap.size+1) gG rfl rfl _ gG K6.res af rfl qU ?_)|fail)
    refine aR (results_cell_tmp bB _ _ (w.heap.size+1) 127 gG (0,0) _ rfl (aY _ (w.heap.size+1) _ _ _ _ K6.res) underlying127 rfl af) rfl ?_;exact ki.no (by exact HE.o) ((K6.fr).setRow (fun h=>absurd h ab) _)
   |some q =>
    obtain⟨k,cy⟩:=q;have hv0:Mv alg=.tuple #[.int .i64 k,.bool cy,.bool true]:=by unfold Mv;rw[har]
    rw[hv0];rw[har]at mD;simp only at mD;have K6:=(K5.set (i:=0) (u:=.int .i64 k) GI).set (i:=4) (u:=.bool cy) GI;have a0:=A5.cell (i:=0) rfl;have f0:=A5.free 0;have A5b:=A5.set (r':={jg with scheme:=k,aO:=bA aO}) 0 (.int .i64 k) rfl;have a4:=A5b.cell (i:=4) rfl;have f4:=A5b.free 4;have A6:=A5b.set (r':={jg with scheme:=k,aO:=bA aO,cy:=cy}) 4 (.bool cy) rfl;have x0:=K6.Af.cell0;clear hv0 har
    go_wp2_with fail
    clear a0 f0 a4 f4 A5b A5 K5;generalize (u5.setCell ⟨A,0,none⟩ (.int .i64 k)).setCell ⟨A,4,none⟩ (.bool cy)=u6 at *
    refine(SMB.o Bv u6 ag).mono ?_;rintro e u7⟨rfl,hf⟩;have K7:=K6.next hf;have A7:fL u7 A {jg with scheme:=k,aO:=bA aO,cy:=cy}:=hf.keep A6 id;clear A6 K6 hf x0;cases hds:dH x.scheme Bv with
    |false =>
     have HE:=O (show mN x=none by rw[mD.o,hds];rfl);go_wp2_with (first|((with_reducible refine cU 127 ?_);refine aI rfl 127 (.tmp 2) (.tmp 57) rfl (w.heap.size+1) gG rfl rfl _ gG K7.res af rfl qU ?_)|fail)
     refine aR (results_cell_tmp bB _ _ (w.heap.size+1) 127 gG (0,0) _ rfl (aY u7 (w.heap.size+1) _ _ _ _ K7.res) underlying127 rfl af) rfl ?_;exact ki.no (by exact HE.o) ((K7.fr).setRow (fun h=>absurd h ab) _)
    |true =>
     rw[hds]at mD;have x0:=K7.Af.cell0;have x1:=K7.Af.gU;have x2:=K7.Af.lQ;go_wp2_with fail
     refine(GET.o vn u7 ag K7.fr).mono ?_;rintro e u8⟨rfl,hf⟩;have K8:=K7.next hf;have A8:fL u8 A {jg with scheme:=k,aO:=bA aO,cy:=cy}:=hf.keep A7 id;have a2:=A8.cell (i:=2) rfl;have f2:=A8.free 2;clear A7 K7 hf x0 x1 x2;cases JF:ke x.params vn with
     |none =>
      have HE:=O (show mN x=none by rw[mD.o,JF];rfl);have K9:=K8.set (i:=2) (u:=.string (bA [])) GI;go_wp2_with (first|((with_reducible refine cU 127 ?_);refine aI rfl 127 (.tmp 2) (.tmp 66) rfl (w.heap.size+1) gG rfl rfl _ gG K9.res af rfl qU ?_)|fail)
      refine aR (results_cell_tmp bB _ _ (w.heap.size+1) 127 gG (0,0) _ rfl (aY _ (w.heap.size+1) _ _ _ _ K9.res) underlying127 rfl af) rfl ?_;exact ki.no (by exact HE.o) ((K9.fr).setRow (fun h=>absurd h ab) _)
     |some bC =>
      rw[JF]at mD;simp only[Bool.not_true,cJ,eT]at mD;have K9:=K8.set (i:=2) (u:=.string (bA bC)) GI;have A9:=A8.set (r':={jg with scheme:=k,aO:=bA aO,bC:=bA bC,cy:=cy}) 2 (.string (bA bC)) rfl;have x0:=K9.Af.cell0;have x1:=K9.Af.gU;have x2:=K9.Af.lQ;go_wp2_with fail
      clear a2 f2 A8 K8 x0 x1 x2;generalize u8.setCell ⟨A,2,none⟩ (.string (bA bC))=u9 at *
      refine(GET.o Iu u9 ag K9.fr).mono ?_;rintro e u10⟨rfl,hf⟩;have K10:=K9.next hf;have A10:fL u10 A {jg with scheme:=k,aO:=bA aO,bC:=bA bC,cy:=cy}:=hf.keep A9 id;have asx:A<u10.heap.size:=bg A10;have HQP:=O (show RY x.params=match ke x.params Iu with|none=>some []|some q=>RX q from rfl);clear A9 K9 hf
      go_upto_if 72 with fail
      go_cut [8,9,10,11,12,13]from 67 to 96 (fun _ _ _ _ _ _ wz=>acz w x pv A {jg with scheme:=k,aO:=bA aO,bC:=bA bC,cy:=cy} wz)
      case first =>
       have HQL:=O (Yi.o Iu);cases hq:ke x.params Iu with
       |none =>
        go_wp2_with fail
        go_meet
        exact⟨[],by rw[HQP.o,hq],K10,A10⟩
       |some q =>
        rw[hq]at HQP HQL;simp only[Option.getD_some]at HQP HQL;have hql:(bA q).size<4398046511104:=by
         have h:q.length<=99999:=HQL.o;show q.length<_;omega
        have LI:=O (Ir (bA q) u10 hql);clear hql;go_wp2_with fail
        refine LI.o.mono ?_;intro e V6 hlp;rcases Yh q with ⟨ws,zB,DJ,hqo⟩|⟨JF,hqo⟩
        case inr =>
         obtain⟨lv,lt,lx,rfl,hf⟩:=hlp.acx (by rw[fM];exact JF);have HE:=O (show mN x=none by rw[mD.o,HQP.o,hqo]);have K11:=K10.next hf;clear hlp JF hqo;go_wp2_with (first|((with_reducible refine cU 127 ?_);refine aI rfl 127 (.tmp 2) (.tmp 80) rfl (w.heap.size+1) gG rfl rfl _ gG K11.res af rfl qU ?_)|fail)
         refine aR (results_cell_tmp bB _ _ (w.heap.size+1) 127 gG (0,0) _ rfl (aY V6 (w.heap.size+1) _ _ _ _ K11.res) underlying127 rfl af) rfl ?_;exact ki.no (by exact HE.o) ((K11.fr).setRow (fun h=>absurd h ab) _)
        case inl =>
         obtain⟨lv,rfl,hlv,hf⟩:=hlp.isOk (ws:=ws) (by rw[fM];exact zB) DJ;have K11:=K10.next hf;have A11:fL V6 A {jg with scheme:=k,aO:=bA aO,bC:=bA bC,cy:=cy}:=hf.keep A10 id;have api:=hf.size;have HWZ:=O (show∀y∈dQ ws,y.size<17592186044416 from fun y hy=>by
          obtain⟨w0,Rr,rfl⟩:=cz.1 hy;have h1:=Fo _ _ _ zB w0 Rr;have h2:q.length<=99999:=HQL.o;show w0.length<_;omega)
         have HQO:=O (show RY x.params=if(qK ws 2).isEmpty then none else some (qK ws 2)by rw[HQP.o,hqo,acy]);clear hlp zB hqo hf A10 K10;obtain⟨u12,Yj⟩:∃u12,u12=V6.alloc (.cells #[.string (bA pM),.string (bA lN)] 9):=⟨_,rfl⟩;have hf:Fr aX V6 u12:=by rw[Yj];exact(ae _ _).alloc _
         have aml:u12.heap[V6.heap.size]?=some (.cells #[.string (bA pM),.string (bA lN)] 9 (0,0)):=by rw[Yj];exact aC _ _
         have K12:=K11.next hf;have A12:fL u12 A {jg with scheme:=k,aO:=bA aO,bC:=bA bC,cy:=cy}:=hf.keep A11 id;have ag1:=hlv.fr hf (fun _ h=>h.elim);have amm:=O Yj;obtain⟨la,lc,hle⟩:=ag1.form;have hAB:A<V6.heap.size:=ab;clear Yj hf A11 K11 hlv;subst hle;go_wp2_with fail
         rw[show V6.alloc (.cells #[.string ⟨#[97,117,116,104,45,105,110,116]⟩,.string ⟨#[97,117,116,104]⟩] 9)=u12 from amm.o.symm];go_loopw[83] (agW w x pv A {jg with scheme:=k,aO:=bA aO,bC:=bA bC,cy:=cy} ws u12) (fun t _=>2-(intOf t).toNat)
         case atStart=>exact⟨0,ab,rfl,K12,A12,ae _ _⟩
         case round =>
          obtain⟨m,hm,rfl,K13,A13,cR⟩:=hrel;have hAr:A<wr.heap.size:=bg A13;have hbr:=cR.keep aml (fun e=>by have e':V6.heap.size=A:=e;omega);have hlr:=ag1.fr cR (fun j e=>by have e':j=A:=e;omega);have c0:wr.cell? ⟨V6.heap.size,0,none⟩=some (.string (bA pM)):=by simp[World.cell?,hbr]
          have c1:wr.cell? ⟨V6.heap.size,1,none⟩=some (.string (bA lN)):=by simp[World.cell?,hbr]
          have J4:∀n:Bs,n.length<=8->∃wn,wn=wr.alloc (.cells #[.string (bA n)] 9)/\GG wn wr.heap.size (bA n)/\Fr aX wr wn/\aE 176 #[.slice la (dQ ws).length lc,.func (.func 177) #[] #[.pointer (some ⟨wr.heap.size,0,none⟩)]] wn fun e w'=>e=.returned (.bool (ws.any fun y=>dH y n))/\Fr aX wn w':=by
           intro n hn;have EP:Fr aX wr (wr.alloc (.cells #[.string (bA n)] 9)):=(ae _ _).alloc _;have hb:=aC wr (.cells #[.string (bA n)] 9);refine⟨_,rfl,hb,EP,?_⟩;have h:=Ye (bA n) wr.heap.size _ (dQ ws) _ (hlr.fr EP (fun _ h=>h.elim)).at (by rw[pg];omega) hb (by show n.length<_;omega) HWZ.o;rw[Qa]at h;exact h
          rcases(show m=0\/m=1\/m=2 from ab)with rfl|rfl|rfl
          case inl =>
           obtain⟨wn,Z2,Ga,EP,CF⟩:=J4 pM ag;have HWN:=O Z2;have NH:wn.cell? ⟨wr.heap.size,0,none⟩=some (.string (bA pM)):=by simp[World.cell?,show wn.heap[wr.heap.size]?=_ from Ga]
           clear J4 Z2;go_wp2_with fail
           rw[<-HWN.o];refine CF.mono ?_;rintro e w14⟨rfl,GJ⟩;have K14:=(K13.next EP).next GJ;have Yk:fL w14 A {jg with scheme:=k,aO:=bA aO,bC:=bA bC,cy:=cy,eZ:=bA (qK ws 0)}:=GJ.keep (EP.keep A13 id) id;have Uh:=O ((cR.trans EP.mQ).trans GJ.mQ);have amo:w14.cell? ⟨wr.heap.size,0,none⟩=some (.string (bA pM)):=(GJ.cell (p:=⟨wr.heap.size,0,none⟩) (bg Ga) id).trans NH;have a5:=Yk.cell (i:=5) rfl
           have f5:=Yk.free 5;cases jd:ws.any (fun y=>dH y pM)
           case false =>
            have GK:=O (show qK ws 1=qK ws 0 by show(if ws.any (fun w=>dH w pM)then pM else [])=[];rw[jd];rfl);go_wp2;go_roundw
            case rel=>exact⟨1,ab,bh,K14,by rw[GK.o];exact Yk,Uh.o⟩
            case measure=>simp[intOf]
           case true =>
            have GK:=O (show qK ws 1=pM by show(if ws.any (fun w=>dH w pM)then pM else [])=_;rw[jd];rfl);have K15:=K14.set (i:=5) (u:=.string (bA pM)) GI;have A15:=Yk.set (r':={jg with scheme:=k,aO:=bA aO,bC:=bA bC,cy:=cy,eZ:=bA pM}) 5 (.string (bA pM)) rfl;have acD:=O (Uh.o.setCell (p:=⟨A,5,none⟩) (fun _=>rfl) (.string (bA pM)));go_wp2;go_roundw
            case rel=>exact⟨1,ab,bh,K15,by rw[GK.o];exact A15,acD.o⟩
            case measure=>simp[intOf]
          case inr.inl =>
           obtain⟨wn,Z2,Ga,EP,CF⟩:=J4 lN ag;have HWN:=O Z2;have NH:wn.cell? ⟨wr.heap.size,0,none⟩=some (.string (bA lN)):=by simp[World.cell?,show wn.heap[wr.heap.size]?=_ from Ga]
           clear J4 Z2;go_wp2_with fail
           rw[<-HWN.o];refine CF.mono ?_;rintro e w14⟨rfl,GJ⟩;have K14:=(K13.next EP).next GJ;have Yk:fL w14 A {jg with scheme:=k,aO:=bA aO,bC:=bA bC,cy:=cy,eZ:=bA (qK ws 1)}:=GJ.keep (EP.keep A13 id) id;have Uh:=O ((cR.trans EP.mQ).trans GJ.mQ);have amo:w14.cell? ⟨wr.heap.size,0,none⟩=some (.string (bA lN)):=(GJ.cell (p:=⟨wr.heap.size,0,none⟩) (bg Ga) id).trans NH;have a5:=Yk.cell (i:=5) rfl
           have f5:=Yk.free 5;cases jd:ws.any (fun y=>dH y lN)
           case false =>
            have GK:=O (show qK ws 2=qK ws 1 by show(if ws.any (fun w=>dH w lN)then lN else qK ws 1)=_;rw[jd];rfl);go_wp2;go_roundw
            case rel=>exact⟨2,ab,bh,K14,by rw[GK.o];exact Yk,Uh.o⟩
            case measure=>simp[intOf]
           case true =>
            have GK:=O (show qK ws 2=lN by show(if ws.any (fun w=>dH w lN)then lN else qK ws 1)=_;rw[jd];rfl);have K15:=K14.set (i:=5) (u:=.string (bA lN)) GI;have A15:=Yk.set (r':={jg with scheme:=k,aO:=bA aO,bC:=bA bC,cy:=cy,eZ:=bA lN}) 5 (.string (bA lN)) rfl;have acD:=O (Uh.o.setCell (p:=⟨A,5,none⟩) (fun _=>rfl) (.string (bA lN)));go_wp2;go_roundw
            case rel=>exact⟨2,ab,bh,K15,by rw[GK.o];exact A15,acD.o⟩
            case measure=>simp[intOf]
          case inr.inr =>
           have a5:=A13.cell (i:=5) rfl;clear J4 c0 c1;cases Pf:(qK ws 2).isEmpty
           case true =>
            have HE:=O (show mN x=none by rw[mD.o,HQO.o,Pf];rfl);have e1:(bA (qK ws 2)).toList=[]:=by rw[mH];exact gj.1 Pf
            have e2:((bA (qK ws 2)).toList== [])=true:=dP.2 e1;go_wp2_with (first|((with_reducible refine cU 127 ?_);refine aI rfl 127 (.tmp 2) (.tmp 96) rfl (w.heap.size+1) gG rfl rfl _ gG K13.res af rfl qU ?_)|fail)
            refine aR (results_cell_tmp bB _ _ (w.heap.size+1) 127 gG (0,0) _ rfl (aY wr (w.heap.size+1) _ _ _ _ K13.res) underlying127 rfl af) rfl ?_;exact ki.no (by exact HE.o) ((K13.fr).setRow (fun h=>absurd h ab) _)
           case false =>
            have e1:¬(bA (qK ws 2)).toList=[]:=by rw[mH];intro e;rw[e]at Pf;cases Pf
            have e2:((bA (qK ws 2)).toList== [])=false:=aL.2 e1;go_wp2_with fail
            go_meet
            exact⟨qK ws 2,by rw[HQO.o,Pf];rfl,K13,A13⟩
      case rest =>
      obtain⟨q,hqp,K20,A20⟩:=hcut;have HE1:=O (show mN x=some ⟨k,bA aO,bA bC,bA ((ke x.params lO).getD []),cy,bA q,dH ((ke x.params zL).getD []) lD,(FT ((ke x.params qz).getD [])).map bA⟩by rw[mD.o,hqp]);clear mD hqp HQP K10 A10;have x0:=K20.Af.cell0;have x1:=K20.Af.gU;have x2:=K20.Af.lQ;go_wp2_with fail
      refine(GET.o lO wc ag K20.fr).mono ?_;rintro e u21⟨rfl,hf⟩;have K21:=K20.next hf;have A21:fL u21 A {jg with scheme:=k,aO:=bA aO,bC:=bA bC,cy:=cy,eZ:=bA q}:=hf.keep A20 id;clear x0 x1 x2 A20 K20 hf;generalize (ke x.params lO).getD []=op at *
      have a3:=A21.cell (i:=3) rfl;have f3:=A21.free 3;have K22:=K21.set (i:=3) (u:=.string (bA op)) GI;have A22:=A21.set (r':={jg with scheme:=k,aO:=bA aO,bC:=bA bC,cj:=bA op,cy:=cy,eZ:=bA q}) 3 (.string (bA op)) rfl;have x0:=K22.Af.cell0;have x1:=K22.Af.gU;have x2:=K22.Af.lQ;go_wp2_with fail
      clear a3 f3 A21 K21 x0 x1 x2;generalize u21.setCell ⟨A,3,none⟩ (.string (bA op))=u22 at *
      refine(GET.o zL u22 ag K22.fr).mono ?_;rintro e u23⟨rfl,hf⟩;have K23:=K22.next hf;have A23:fL u23 A {jg with scheme:=k,aO:=bA aO,bC:=bA bC,cj:=bA op,cy:=cy,eZ:=bA q}:=hf.keep A22 id;have HSL:=O (Yi.o zL);generalize (ke x.params zL).getD []=st at *
      have ZD:(bA st).size<17592186044416:=by have h:st.length<=99999:=HSL.o;show st.length<_;omega
      have SMT:=O (lY (bA st) (bA lD) u23 ZD ag);rw[fM,fM]at SMT;clear ZD HSL A22 K22 hf;go_wp2_with fail
      refine SMT.o.mono ?_;rintro e u24⟨rfl,hf⟩;have K24:=K23.next hf;have A24:fL u24 A {jg with scheme:=k,aO:=bA aO,bC:=bA bC,cj:=bA op,cy:=cy,eZ:=bA q}:=hf.keep A23 id;have a6:=A24.cell (i:=6) rfl;have f6:=A24.free 6;have K25:=K24.set (i:=6) (u:=.bool (dH st lD)) GI;have A25:=A24.set (r':={jg with scheme:=k,aO:=bA aO,bC:=bA bC,cj:=bA op,cy:=cy,eZ:=bA q,dr:=dH st lD}) 6 (.bool (dH st lD)) rfl
      have x0:=K25.Af.cell0;have x1:=K25.Af.gU;have x2:=K25.Af.lQ;clear SMT A23 K23 hf;go_wp2_with fail
      clear a6 f6 A24 K24 x0 x1 x2;generalize u24.setCell ⟨A,6,none⟩ (.bool (dH st lD))=u25 at *
      refine(GET.o qz u25 ag K25.fr).mono ?_;rintro e Yl⟨rfl,hf⟩;have K26:=K25.next hf;have A26:fL Yl A {jg with scheme:=k,aO:=bA aO,bC:=bA bC,cj:=bA op,cy:=cy,eZ:=bA q,dr:=dH st lD}:=hf.keep A25 id;have HDL:=O (Yi.o qz);generalize (ke x.params qz).getD []=d at *
      have asF:A<Yl.heap.size:=bg A26;have SP:=O (show aE 131 #[.string (bA d),.string ⟨#[32]⟩] Yl fun e w'=>e=.returned (.slice (some ⟨Yl.heap.size,0,none⟩) (dY 32 d).length (dY 32 d).length)/\w'=Yl.alloc (.cells (((dY 32 d).map bA).map Value.string).toArray 9)from by
       have h:=xI (bA d) 32 Yl (by have h:d.length<=99999:=HDL.o;show d.length<_;omega);rw[Qd,aj]at h;exact h)
      obtain⟨V7,xm⟩:=Fp 32 d;clear hf A25 K25;go_wp2_with fail
      refine SP.o.mono ?_;rintro e u27⟨rfl,acE⟩;have hf:Fr aX Yl u27:=by rw[acE];exact(ae _ _).alloc _
      have VW:u27.heap[Yl.heap.size]?=some (.cells (((dY 32 d).map bA).map Value.string).toArray 9 (0,0)):=by rw[acE];exact aC _ _
      have K27:=K26.next hf;have A27:fL u27 A {jg with scheme:=k,aO:=bA aO,bC:=bA bC,cj:=bA op,cy:=cy,eZ:=bA q,dr:=dH st lD}:=hf.keep A26 id;generalize hPb:Yl.heap.size=Pb at *
      clear SP acE hf A26 K26;go_wp2_with fail
      go_loopw[119] (agV w x pv A Pb {jg with scheme:=k,aO:=bA aO,bC:=bA bC,cj:=bA op,cy:=cy,eZ:=bA q,dr:=dH st lD} d) (fun t _=>(dY 32 d).length-(intOf t).toNat)
      case atStart=>exact⟨0,.slice none 0 0,aW _,rfl,K27,A27,kA _ _,VW,fun j e=>by simp[Value.ownBlock]at e⟩
      case round =>
        obtain⟨m,v,hm,rfl,K30,A30,J5,Oh,hvP⟩:=hrel;have hAr:A<wr.heap.size:=bg A30;have hd:d.length<=99999:=HDL.o;by_cases hms:m<(dY 32 d).length
        case pos =>
         have hmi:(m:Int)<((dY 32 d).length:Int):=ab;have dT:=O (List.getElem?_eq_getElem hms);have DI:=xm _ (bQ hms);generalize (dY 32 d)[m]=p at dT DI;have c0:wr.cell? ⟨Pb,m,none⟩=some (.string (bA p)):=by
          simp only[World.cell?,Oh];rw[List.getElem?_toArray,List.getElem?_map,List.getElem?_map,dT.o];rfl
         have HSU:=O (My dT.o);have HP:=O (show aE 178 #[.string (bA p),.string ⟨#[47]⟩] wr fun e w'=>e=.returned (.bool (Ld 47 p))/\wr=w' from by
          have h:=strings_HasPrefix (bA p) ⟨#[47]⟩ wr;rw[fM,show(⟨#[47]⟩:ai).data.toList=[47]from rfl,agU]at h;exact h.mono (fun e w' ⟨h1,h2⟩=>⟨h1,h2.symm⟩))
         go_wp2_with fail
         refine HP.o.mono ?_;rintro e w31⟨rfl,rfl⟩;clear HP c0;cases hpf:Ld 47 p
         case false =>
          have acI:=O (show iA d (m+1)=iA d m by rw[HSU.o,hpf];simp);go_wp2;go_roundw
          case rel=>exact⟨m+1,v,ab,bh,K30,A30,by rw[acI.o];exact J5,Oh,hvP⟩
          case measure=>simp[intOf];omega
         case true =>
          have acI:=O (show(iA d (m+1)).map bA=(iA d m).map bA++[bA (oo p)]by rw[HSU.o,hpf];simp);have D1:=O (show∀U,aE 179 #[.string (bA p)] U fun e w'=>e=.returned (.string (bA (oo p)))/\Fr aX U w' from fun U=>by
           have h:=Pv (bA p) U (by show p.length<_;omega);rw[fM]at h;exact h)
          obtain⟨va,vc,hve⟩:=J5.form;rw[aj]at hve;have hdl:=Qc d m;subst hve;have a7:wr.cell? ⟨A,7,none⟩=some (.slice va (iA d m).length vc):=A30.cell rfl;have f7:=A30.free 7;have hoA:(Value.slice va (iA d m).length vc).ownBlock≠some A:=fun e=>by
           obtain⟨cur,hc⟩:=J5.kind e;rw[show wr.heap[A]?=_ from A30]at hc;simp at hc
          have CT:=O (show∀U,Fr aX wr U->U.cell? ⟨A,7,none⟩=some (.slice va (iA d m).length vc)/\U.frozen? ⟨A,7,none⟩=false from fun U hU=>⟨(hU.cell (p:=⟨A,7,none⟩) hAr id).trans a7,(hU.frozen (p:=⟨A,7,none⟩) hAr id).trans f7⟩);obtain⟨i0,rL,pA,kP,kR⟩:=info_parts ye;have hwr:w.heap.size<=wr.heap.size:=K30.fr.size;have amx:=O J5;clear J5 hpf;go_wp2_with fail
          go_region_law (first
           |((with_reducible refine mF ⟨some 128,_,_,_,_,_⟩ ?_)
             refine zN rfl 179 _ (by go_simp) (D1.o _) ?_
             rintro e w3⟨rfl,iG⟩
             refine⟨_,rfl,?_⟩
             have il:Fr aX wr w3:=bF (by repeat(first|exact ae _ _|apply aA)) iG
             obtain⟨k3,l3⟩:=CT.o w3 il
             have k3a:∀o:Obj,(w3.alloc o).cell? ⟨A,7,none⟩=some (.slice va (iA d m).length vc):=fun o=>(CT.o _ (il.alloc o)).1
             have fo:=amx.o.fr il (fun _ h=>h.elim)
             have sJ:w.heap.size<=w3.heap.size:=aH hwr il.size
             have Ui:w3.ownsRow w.heap.size 9 1 (.slice va (iA d m).length vc) (iA d m).length (((iA d m).map bA).map Value.string):=by
               have hh:w3.ownsRow w.heap.size 9 1 (.slice va (iA d m).length vc) ((iA d m).map bA).length (((iA d m).map bA).map Value.string):=fo
               rw[aj]at hh
               exact hh
             clear iG)
           |((with_reducible refine mF ⟨some 130,_,_,_,_,_⟩ ?_)
             refine step_append_lies _ bB _ _ _ bB w.heap.size 9 i0 _ 1 16 underlying125 rL pA kP kR rfl ab (.slice va (iA d m).length vc) (iA d m).length _ bB (by repeat(first|exact Ui|apply World.ownsRow.alloc|apply World.ownsRow.drew)) ⟨w3.heap.size,0,none⟩ 1 1 [.string (bA (oo p))] bB bB (ky w3 [.string (bA (oo p))] _) bS ab ft ab bH (w3.heap.size+1) aS ?_
             intro gg cap w4 eV jq Sp Jz
             have Gr:Fr (fun k=>(Value.slice va (iA d m).length vc).ownBlock=some k) w3 w4:=fg (by repeat(first|exact ae _ _|apply aA|apply bq)) jq (fun _ hk _=>hk)
             have hA3:A<w3.heap.size:=cN hAr il.size
             have k4:w4.cell? ⟨A,7,none⟩=some (.slice va (iA d m).length vc):=(Gr.cell (p:=⟨A,7,none⟩) hA3 hoA).trans k3
             have e4:w4.frozen? ⟨A,7,none⟩=false:=(Gr.frozen (p:=⟨A,7,none⟩) hA3 hoA).trans l3))
          all_goals
           have BS:Strs w.heap.size w3 (.slice va (iA d m).length vc) ((iA d m).map bA):=fo;have K31:=(K30.next il).own BS Gr;have A31:fL w4 A {{jg with scheme:=k,aO:=bA aO,bC:=bA bC,cj:=bA op,cy:=cy,eZ:=bA q,dr:=dH st lD}with dom:=.slice va (iA d m).length vc}:=Gr.keep (il.keep A30 id) hoA;have hPl:Pb<wr.heap.size:=bg Oh;have ag5:=Gr.keep (il.keep Oh id) (fun e=>absurd (hvP Pb e) (Nat.lt_irrefl _))
           have hvg:Strs w.heap.size w4 (.slice (some ⟨gg,0,none⟩) ((iA d m).length+1) cap) ((iA d (m+1)).map bA):=by
            rw[acI.o];have e1:((iA d m).map bA++[bA (oo p)]).length=(iA d m).length+1:=aS;unfold Strs;rw[e1,bI];exact eV
           have hfA:Fr (one A) w4 (w4.setCell ⟨A,7,none⟩ (.slice (some ⟨gg,0,none⟩) ((iA d m).length+1) cap)):=(ae (one A) w4).setCell (p:=⟨A,7,none⟩) (fun _=>rfl) _;have amy:=hvg.Yg hfA A31 ag;have K32:=K31.set (i:=7) (u:=.slice (some ⟨gg,0,none⟩) ((iA d m).length+1) cap) GI
           have A32:=A31.set (r':={{jg with scheme:=k,aO:=bA aO,bC:=bA bC,cj:=bA op,cy:=cy,eZ:=bA q,dr:=dH st lD}with dom:=.slice (some ⟨gg,0,none⟩) ((iA d m).length+1) cap}) 7 (.slice (some ⟨gg,0,none⟩) ((iA d m).length+1) cap) rfl;have ag6:=hfA.keep ag5 (fun e=>by have e':Pb=A:=e;omega);have amz:∀j,(Value.slice (some ⟨gg,0,none⟩) ((iA d m).length+1) cap).ownBlock=some j->Pb<j:=by
            intro j hj;simp only[Value.ownBlock,dW]at hj;subst hj;rcases Sp with e|e
            ·exact hvP _ e
            ·have:=il.size;omega
           clear k4 e4 jq eV fo Ui Gr k3 k3a l3 CT;go_wp2;go_roundw
           case rel=>exact⟨m+1,_,ab,bh,K32,A32,amy,ag6,amz⟩
           case measure=>simp[intOf];omega
        case neg =>
         have hmi:¬(m:Int)<((dY 32 d).length:Int):=ab;have amA:=O J5;have Rh:=O (show iA d m=FT d from Qb ab);have hvo:v.oneCell'=true:=by obtain⟨va,vc,hve⟩:=J5.form;rw[hve];rfl
         have HR0:=O K30.res;clear J5 xm V7;have Bd:(prog.info? 127).map (·.size)=some ({{jg with scheme:=k,aO:=bA aO,bC:=bA bC,cj:=bA op,cy:=cy,eZ:=bA q,dr:=dH st lD}with dom:=v}).cells.toArray.size:=af;have Ag:wr.heap[A]?=some (.cells ({{jg with scheme:=k,aO:=bA aO,bC:=bA bC,cj:=bA op,cy:=cy,eZ:=bA q,dr:=dH st lD}with dom:=v}).cells.toArray 127 (0,0)):=A30
         have Xp:=GH ({{jg with scheme:=k,aO:=bA aO,bC:=bA bC,cj:=bA op,cy:=cy,eZ:=bA q,dr:=dH st lD}with dom:=v}) hvo
         go_wp2_with (first|((with_reducible refine dt 133 ?_);refine aJ rfl 127 (.tmp 6) rfl A rfl _ ({{jg with scheme:=k,aO:=bA aO,bC:=bA bC,cj:=bA op,cy:=cy,eZ:=bA q,dr:=dH st lD}with dom:=v}).cells.toArray (0,0) _ Ag underlying127 rfl Bd ?_)|((with_reducible refine cU 127 ?_);refine aI rfl 127 (.tmp 2) (.tmp 133) rfl (w.heap.size+1) ({{jg with scheme:=k,aO:=bA aO,bC:=bA bC,cj:=bA op,cy:=cy,eZ:=bA q,dr:=dH st lD}with dom:=v}).cells.toArray rfl rfl _ gG K30.res Bd rfl Xp ?_)|fail)
         refine aR (results_cell_tmp bB _ _ (w.heap.size+1) 127 ({{jg with scheme:=k,aO:=bA aO,bC:=bA bC,cj:=bA op,cy:=cy,eZ:=bA q,dr:=dH st lD}with dom:=v}).cells.toArray (0,0) _ rfl (aY wr (w.heap.size+1) _ _ _ _ K30.res) underlying127 rfl Bd) rfl ?_
         exact ki.yes (by rw[HE1.o]) ((K30.fr).setRow (fun h=>absurd h ab) _) ⟨rfl,rfl,rfl,rfl,rfl,rfl,rfl,by rw[<-Rh.o];exact amA.o.Yg ((ae (one (w.heap.size+1)) wr).setRow (fun _=>rfl) _) HR0.o ag⟩
