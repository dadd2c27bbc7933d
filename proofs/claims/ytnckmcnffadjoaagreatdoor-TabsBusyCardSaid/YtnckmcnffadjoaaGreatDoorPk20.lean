/- Lemmas for the law's walk. -/
import Derived.Test.YtnckmcnffadjoaaGreatDoorPk18
set_option maxRecDepth 100000
set_option maxHeartbeats 16000000
set_option linter.unusedSimpArgs false
namespace Go.Proofs.YtnckmcnffadjoaaGreatDoor
open Go.Proofs.Tryz
open Go.RowKit
variable {w w' U V:World} {b i base k:Nat} {r:fK Value} {u pv v:Value} {x:nu} {ss:List aj} {d:Bs}
def jt:fK Value:=⟨0,⟨#[]⟩,⟨#[]⟩,⟨#[]⟩,false,⟨#[]⟩,false,.slice none 0 0⟩
abbrev gQ:Array Value:= #[.int .i64 0,.string ⟨#[]⟩,.string ⟨#[]⟩,.string ⟨#[]⟩,.bool false,.string ⟨#[]⟩,.bool false,.slice none 0 0]
theorem Sg:∀v∈gQ.toList,v.oneCell'=true:=dp
theorem rC:gQ.all (·.oneCell')=true:=dp
theorem aav(r:fK Value)(h:r.dom.oneCell'=true):∀u∈r.cells,u.oneCell'=true:=by
 intro u hu;simp only[fK.cells,bB,cq,dU]at hu;rcases hu with rfl|rfl|rfl|rfl|rfl|rfl|rfl|rfl<;>first|rfl|exact h
theorem Jc(r:fK Value)(h:r.dom.oneCell'=true):r.cells.toArray.all (·.oneCell')=true:=bW (aav r h)
def fS(w:World)(b:Nat)(r:fK Value):Prop:=w.heap[b]?=some (.cells r.cells.toArray 112 (0,0))
theorem fS.cell(h:fS w b r)(hu:r.cells[i]?=some u):w.cell? ⟨b,i,none⟩=some u:=by
 simp only[World.cell?,show w.heap[b]?=_ from h];simpa using hu
theorem fS.free(h:fS w b r)(i:Nat):w.frozen? ⟨b,i,none⟩=false:=by simp[World.frozen?,show w.heap[b]?=_ from h]
theorem fS.set{r':fK Value}(h:fS w b r)(i:Nat)(u:Value)(hr:r.cells.toArray.setIfInBounds i u=r'.cells.toArray):fS (w.setCell ⟨b,i,none⟩ u) b r':=by
 unfold fS;rw[b_ h i u,hr]
def kz(x:nu)(w:World)(e:Ending)(w':World):Prop :=
 Fr aR w w'/\match nd x with
  |none=>e=.returned (.tuple #[.agg gQ,.bool false])
  |some a=>∃r:fK Value,r.Reads (Strs w.heap.size w') a/\e=.returned (.tuple #[.agg r.cells.toArray,.bool true])
theorem kz.no(h:nd x=none)(hf:Fr aR w w'):kz x w (.returned (.tuple #[.agg gQ,.bool false])) w':=by
 refine⟨hf,?_⟩;rw[h]
theorem kz.yes{a:fK bD}(h:nd x=some a)(hf:Fr aR w w')(hr:r.Reads (Strs w.heap.size w') a):kz x w (.returned (.tuple #[.agg r.cells.toArray,.bool true])) w':=by
 refine⟨hf,?_⟩;rw[h];exact⟨r,hr,rfl⟩
structure Si (w:World) (x:nu) (pv:Value) (U:World):Prop where
 Bw:kM U w.heap.size (bA x.scheme) (bA x.token) pv
 res:U.heap[w.heap.size+1]?=some (.cells gQ 112 (0,0))
 fr:Fr aR w U
theorem Si.next(h:Si w x pv U)(hf:Fr aR U V):Si w x pv V:=⟨h.Bw.fr hf id,hf.keep h.res id,h.fr.trans hf⟩
theorem Si.set(h:Si w x pv U)(hb:w.heap.size+1<b):Si w x pv (U.setCell ⟨b,i,none⟩ u):=by
 have hf:Fr (one b) U (U.setCell ⟨b,i,none⟩ u):=(ae (one b) U).setCell (p:=⟨b,i,none⟩) (fun _=>rfl) u;exact⟨h.Bw.fr hf (fun e=>by have e':w.heap.size=b:=e;omega),hf.keep h.res (fun e=>by have e':w.heap.size+1=b:=e;omega),h.fr.step hf (fun k hk e=>by have e':k=b:=e;omega)⟩
theorem Strs.kind{g:Nat}(h:Strs base w v ss)(hg:v.ownBlock=some g):∃cur,w.heap[g]?=some (.cells cur 9 (0,0)):=by
 rcases h.2 with ⟨hv,_⟩|⟨g',cap,cur,hv,_,hh,_⟩
 ·rw[hv]at hg;simp[Value.ownBlock]at hg
 ·rw[hv]at hg;simp[Value.ownBlock]at hg;subst hg;exact⟨cur,hh⟩
theorem Strs.off{S:Nat->Prop}(h:Strs base w v ss)(hf:Fr S w w')(hS:∀k,v.ownBlock=some k->¬S k):Strs base w' v ss:=by
 obtain⟨h1,h2⟩:=h;refine⟨h1,?_⟩;rcases h2 with h2|⟨g,cap,cur,hv,hg,hh,r⟩
 ·exact Or.inl h2
 ·exact Or.inr ⟨g,cap,cur,hv,hg,hf.keep hh (hS g (by rw[hv];rfl)),r⟩
theorem Strs.aaw{cs:Array Value}{t:TypeId}{f:Nat×Nat}(h:Strs base w v ss)(hf:Fr (one b) w w')(hb:w.heap[b]?=some (.cells cs t f))(ht:t≠9):Strs base w' v ss :=
 h.off hf (fun k hk e=>by
  obtain rfl:k=b:=e;obtain⟨cur,hc⟩:=h.kind hk;rw[hc]at hb;cases hb;exact ht rfl)
theorem Si.own(h:Si w x pv U)(hv:Strs w.heap.size U v ss)(hf:Fr (fun k=>v.ownBlock=some k) U V):Si w x pv V:=by
 have hn:∀ {b:Nat} {cs:Array Value} {t:TypeId} {f:Nat×Nat},U.heap[b]?=some (.cells cs t f)->t≠9->¬v.ownBlock=some b:=by
  intro b cs t f hb ht e;obtain⟨cur,hc⟩:=hv.kind e;rw[hc]at hb;cases hb;exact ht rfl
 exact⟨h.Bw.fr hf (hn h.Bw ag),hf.keep h.res (hn h.res ag),h.fr.step hf (fun k hk e=>by have:=hv.block k e;omega)⟩
theorem Wf{ps:List jy}{n v:Bs}(h:kr ps n=some v):∃p∈ps,v=p.2:=by
 unfold kr at h;obtain⟨p,hp,rfl⟩:=Option.map_eq_some_iff.1 h;exact⟨p,List.mem_of_find?_eq_some hp,rfl⟩
theorem aax(l:aG):(∃ws,gY l=.ok ws/\ws.length<=40/\Un l=PK ws)\/((∀ws,gY l=.ok ws->40<ws.length)/\Un l=none):=by
 unfold Un;cases h:gY l with
 |ok ws =>
  by_cases hn:ws.length<=40
  ·exact Or.inl ⟨ws,rfl,hn,aq ab⟩
  ·refine Or.inr ⟨fun ws' h'=>?_,az ab⟩;cases h';omega
 |error m=>exact Or.inr ⟨fun ws' h'=>(by cases h'),rfl⟩
theorem jx.aeL{s:aj}{e:Ending}(h:jx s w e w')(hl:∀ws,gY s.data.toList=.ok ws->40<ws.length) :
  ∃v t x,e=.returned (.tuple #[v,.iface t x])/\Fr aR w w':=by
 obtain⟨v,er,he,hf,hm⟩:=h;cases hr:gY s.data.toList with
 |ok ws =>
  rw[hr]at hm;have Cr:if 40<ws.length then v=.slice none 0 0/\F9 w' er (some (4,none))else Strs w.heap.size w' v (dP ws)/\er=.nilIface:=hm
  rw[az (hl ws hr)]at Cr;obtain⟨_,hv⟩:=Cr;exact⟨v,_,_,by rw[he,show er=_ from hv],hf⟩
 |error m =>
  rw[hr]at hm;obtain⟨_,g,hv,_⟩:=hm;exact⟨v,_,_,by rw[he,hv],hf⟩
theorem Hc:∀(f:Nat) (r:Bs) (ws:List Bs),lT f r=.ok ws->∀w∈ws,w.length<=r.length
 |0,r,ws,h,w,hw=>by rw[lT]at h;cases h;cases hw
 |f+1,r,ws,h,w,hw=>by
  rw[lT]at h;have h1:=qk dJ r;have h2:=qk fY (r.dropWhile dJ);have h3:=qk dJ ((r.dropWhile dJ).dropWhile fY);have h4:=pN fY (r.dropWhile dJ);have dY:∀u∈(if((r.dropWhile dJ).takeWhile fY).isEmpty then []else [(r.dropWhile dJ).takeWhile fY]),u.length<=r.length:=by
   intro u hu;split at hu
   ·cases hu
   ·simp at hu;subst hu;omega
  cases e:((r.dropWhile dJ).dropWhile fY).dropWhile dJ with
  |nil =>
   rw[e]at h;simp only at h;cases h;exact dY w hw
  |cons c r4 =>
   rw[e]at h h3;simp only at h;split at h
   ·cases hr:lT f r4 with
    |error m=>rw[hr]at h;cases h
    |ok w2 =>
     rw[hr]at h;cases h;rcases bK.1 hw with g|g
     ·exact dY w g
     ·have:=Hc f r4 w2 hr w g;simp at h3;omega
   ·cases h
def qK(ws:List Bs):Nat->Bs
 |0=>[]
 |1=>if ws.any (fun w=>dG w qm)then qm else []
 |_=>if ws.any (fun w=>dG w mh)then mh else if ws.any (fun w=>dG w qm)then qm else []
theorem aeM(ws:List Bs):PK ws=if(qK ws 2).isEmpty then none else some (qK ws 2):=by
 unfold PK qK;cases ws.any (fun w=>dG w mh)<;>cases ws.any (fun w=>dG w qm)<;>rfl
theorem Sj(ws:List Bs)(n:Bs):((dP ws).any fun x=>dG x.data.toList (bA n).data.toList)=ws.any fun w=>dG w n:=by
 unfold dP;rw[List.any_map,fT];rfl
def iQ(d:Bs)(k:Nat):List Bs:=(((dZ 32 d).take k).filter fun p=>Nf 47 p).map oM
theorem ajp(l:Bs):Lib.hasPrefix l [47]=Nf 47 l:=by
 cases l with
 |nil=>rfl
 |cons c l =>
  rw[fa];simp[Lib.hasPrefix,Nf];exact eq_comm
def ajq(w:World)(x:nu)(pv:Value)(A Pb:Nat)(a:fK Value)(d:Bs)(t:Value)(wr:World):Prop :=
 ∃(k:Nat) (v:Value),k<=(dZ 32 d).length/\t=.int .i64 k/\Si w x pv wr/\fS wr A {a with dom:=v}/\Strs w.heap.size wr v ((iQ d k).map bA)/\wr.heap[Pb]?=some (.cells (((dZ 32 d).map bA).map Value.string).toArray 9 (0,0))/\∀j,v.ownBlock=some j->Pb<j
theorem Ox{p:Bs}(h:(dZ 32 d)[k]?=some p):iQ d (k+1)=iQ d k++(if Nf 47 p then [oM p]else []):=by
 unfold iQ;rw[bZ,h];simp only[Option.toList_some,cC,bH]
 congr 1
 rw[List.filter_cons];split<;>rfl
theorem Sk(h:(dZ 32 d).length<=k):iQ d k=Ih d:=by unfold iQ Ih;rw[aC h]
theorem Sl(d:Bs)(k:Nat):(iQ d k).length<=k:=by
 unfold iQ;rw[ai];have h:=bQ (fun p=>Nf 47 p) ((dZ 32 d).take k);rw[aJ]at h;omega
theorem Hd(c:UInt8):∀d:Bs,(dZ c d).length<=d.length+1/\∀p∈dZ c d,p.length<=d.length
 |[]=>⟨by simp[dZ],by simp[dZ]⟩
 |x :: d=>by
  obtain⟨h1,h2⟩:=Hd c d;unfold dZ;split
  ·refine⟨bG,fun p hp=>?_⟩;rcases bB.1 hp with rfl|g
   ·simp
   ·have:=h2 p g;simp;omega
  ·cases e:dZ c d with
   |nil=>exact⟨aQ,fun p hp=>by simp at hp;subst hp;simp⟩
   |cons q qs =>
    rw[e]at h1 h2;refine⟨by simp at h1 ⊢; omega,fun p hp=>?_⟩;rcases bB.1 hp with rfl|g
    ·have:=h2 q (cQ ..);simp;omega
    ·have:=h2 p (bN _ g);simp;omega
theorem Sm(c:UInt8)(d:Bs):jc c (bA d)=(dZ c d).map bA:=by
 unfold jc;rw[fT];rfl
def ajr(w:World)(x:nu)(pv:Value)(A:Nat)(a:fK Value)(ws:List Bs)(W:World)(t:Value)(wr:World):Prop :=
 ∃k:Nat,k<=2/\t=.int .i64 k/\Si w x pv wr/\fS wr A {a with eE:=bA (qK ws k)}/\Fr (one A) W wr
def aeN(w:World)(x:nu)(pv:Value)(A:Nat)(a:fK Value)(wz:World):Prop:=∃q,Uo x.params=some q/\Si w x pv wz/\fS wz A {a with eE:=bA q}
theorem Sn(x:nu)(pv:Value)(w:World)(hp:lQ w pv x.params)(hz:x.Fit) :
  Calls prog 114 #[.agg #[.string (bA x.scheme),.string (bA x.token),pv]] w (kz x w):=by
 have qB:Qs x.params:=⟨by have:=hz.tG;omega,fun p hq=>by have:=hz.zz p hq;omega⟩;have avV:(bA x.scheme).size<=100000:=hz.scheme;have HZ:=O hz
 have GET:=O (show∀(n:Bs) U,n.length<1000->Fr aR w U->Calls prog 172 #[.agg #[.string (bA x.scheme),.string (bA x.token),pv],.string (bA n)] U fun e w'=>e=.returned (.tuple #[.string (bA ((kr x.params n).getD [])),.bool (kr x.params n).isSome])/\Fr aR U w' from fun n U hn hU=>by
  have:=aad (bA x.scheme) (bA x.token) pv x.params (bA n) U (bg hp hU) qB (by show n.length<_;omega);rw[fT]at this;exact this)
 have aay:=O (show∀n,((kr x.params n).getD []).length<=99999 from fun n=>by
  cases h:kr x.params n with
  |none=>simp
  |some v =>
   obtain⟨p,hpm,rfl⟩:=Wf h;exact(hz.zz p hpm).2)
 have SMB:=O (show∀(n:Bs) U,n.length<1000->Calls prog 106 #[.string (bA x.scheme),.string (bA n)] U fun e w'=>e=.returned (.bool (dG x.scheme n))/\Fr aR U w' from fun n U hn=>by
  have:=mA (bA x.scheme) (bA n) U ab (by show n.length<_;omega);rw[fT,fT]at this;exact this)
 have HK:=O (show nd x=match kr x.params wa with
  |none=>none
  |some aK =>
   if dG x.scheme Ie then some ⟨1,bA aK,bA [],bA [],false,bA [],false,[]⟩else
   match Um ((kr x.params zp).getD yl)with
   |none=>none
   |some (k,cy) =>
    if !dG x.scheme CQ then none else
    match kr x.params wh with
    |none=>none
    |some bq =>
     match Uo x.params with
     |none=>none
     |some q=>some ⟨k,bA aK,bA bq,bA ((kr x.params mi).getD []),cy,bA q,dG ((kr x.params A_).getD []) lU,(Ih ((kr x.params qW).getD [])).map bA⟩from rfl)
 obtain⟨av,cv,hv⟩:=hp.form;subst hv;obtain⟨w2,eB⟩:∃w2,w2=(w.alloc (.cells #[.string (bA x.scheme),.string (bA x.token),.slice av x.params.length cv] 198)).alloc (.cells gQ 112):=⟨_,rfl⟩;have MX:w2.heap.size=w.heap.size+2:=by rw[eB];simp
 have K0:Si w x (.slice av x.params.length cv) w2:=by
  have f1:Fr aR (w.alloc (.cells #[.string (bA x.scheme),.string (bA x.token),.slice av x.params.length cv] 198)) w2:=by rw[eB];exact(ae _ _).alloc _
  refine⟨f1.keep (aB w _) id,?_,((ae aR w).alloc _).trans f1⟩;rw[eB];have:=aB (w.alloc (.cells #[.string (bA x.scheme),.string (bA x.token),.slice av x.params.length cv] 198)) (.cells gQ 112);simpa using this
 have nJ:=O eB;clear hp hz qB eB;generalize Ny:Value.slice av x.params.length cv=pv at *
 clear Ny;go_enter func114,ntmps114;go_wp2_with fail
 rw[<-nJ.o];refine(GET.o wa w2 ag K0.fr).mono ?_;rintro e u1⟨rfl,hf⟩;have K1:=K0.next hf;have uA:w.heap.size+1<u1.heap.size:=by have:=hf.size;omega
 clear hf;cases hre:kr x.params wa with
 |none =>
  go_wp2_with (first|((with_reducible refine cV 112 ?_);refine aE rfl 112 (.tmp 2) (.tmp 27) rfl (w.heap.size+1) gQ rfl rfl _ gQ K1.res af rfl rC ?_)|fail)
  refine aS (results_cell_tmp bC _ _ (w.heap.size+1) 112 gQ (0,0) _ rfl (aX u1 (w.heap.size+1) _ _ _ _ K1.res) underlying112 rfl af) rfl ?_;exact kz.no (by rw[HK.o,hre]) ((K1.fr).setRow (fun h=>absurd h ab) _)
 |some aK =>
  have mP:=O (show nd x=_ by rw[HK.o,hre]);simp only at mP;clear HK hre;have x0:=K1.Bw.cell0;have x1:=K1.Bw.hZ;have x2:=K1.Bw.lV;have jq:=fun W=>run_storeCells_new (P:=prog) W 112 gQ [.int .i64 1,.string (bA aK),.string ⟨#[]⟩,.string ⟨#[]⟩,.bool false,.string ⟨#[]⟩,.bool false,.slice none 0 0] rfl (by intro u hu;simp at hu;rcases hu with rfl|rfl|rfl|rfl|rfl|rfl|rfl|rfl<;>rfl)
  obtain⟨u2,nv⟩:∃u2,u2=u1.alloc (.cells #[.int .i64 1,.string (bA aK),.string ⟨#[]⟩,.string ⟨#[]⟩,.bool false,.string ⟨#[]⟩,.bool false,.slice none 0 0] 112):=⟨_,rfl⟩;have hf:Fr aR u1 u2:=by rw[nv];exact(ae _ _).alloc _
  have K2:=K1.next hf;have A2:fS u2 u1.heap.size {jt with scheme:=1,aK:=bA aK}:=by rw[nv];exact aB _ _
  have x0a:∀o:Obj,(u1.alloc o).cell? ⟨w.heap.size,0,none⟩=some (.string (bA x.scheme)):=fun o=>(K1.Bw.fr ((ae aR u1).alloc o) id).cell0;have tW:=O nv;generalize hA:u1.heap.size=A at *
  clear nv;go_wp2_with fail
  rw[<-tW.o];refine(SMB.o Ie u2 ag).mono ?_;rintro e u3⟨rfl,iv⟩;have K3:=K2.next iv;have A3:fS u3 A {jt with scheme:=1,aK:=bA aK}:=iv.keep A2 id;have hA3:A<u3.heap.size:=bj A3;clear x0 x1 x2 x0a jq A2 K2 iv;cases hbs:dG x.scheme Ie with
  |true =>
   have za:(prog.info? 112).map (·.size)=some ({jt with scheme:=1,aK:=bA aK}).cells.toArray.size:=af;have Bx:u3.heap[A]?=some (.cells ({jt with scheme:=1,aK:=bA aK}).cells.toArray 112 (0,0)):=A3;have ZF:=Jc ({jt with scheme:=1,aK:=bA aK}) rfl
   go_wp2_with (first|((with_reducible refine cY 33 ?_);refine aH rfl 112 (.tmp 6) rfl A rfl _ ({jt with scheme:=1,aK:=bA aK}).cells.toArray (0,0) _ Bx underlying112 rfl za ?_)|((with_reducible refine cV 112 ?_);refine aE rfl 112 (.tmp 2) (.tmp 33) rfl (w.heap.size+1) ({jt with scheme:=1,aK:=bA aK}).cells.toArray rfl rfl _ gQ K3.res za rfl ZF ?_)|fail)
   refine aS (results_cell_tmp bC _ _ (w.heap.size+1) 112 ({jt with scheme:=1,aK:=bA aK}).cells.toArray (0,0) _ rfl (aX u3 (w.heap.size+1) _ _ _ _ K3.res) underlying112 rfl za) rfl ?_;exact kz.yes (by rw[mP.o,az hbs]) ((K3.fr).setRow (fun h=>absurd h ab) _) ⟨rfl,rfl,rfl,rfl,rfl,rfl,rfl,kT _ _⟩
  |false =>
   rw[hbs]at mP;clear hbs;have x0:=K3.Bw.cell0;have x1:=K3.Bw.hZ;have x2:=K3.Bw.lV;go_wp2_with fail
   refine(GET.o zp u3 ag K3.fr).mono ?_;rintro e u4⟨rfl,hf⟩;have K4:=K3.next hf;have A4:fS u4 A {jt with scheme:=1,aK:=bA aK}:=hf.keep A3 id;clear x0 x1 x2 A3 K3 hf
   go_upto_if 40 with fail
   go_cut [5,7] (fun _ s7 wz=>s7=.string (bA ((kr x.params zp).getD yl))/\u4=wz)
   case first =>
    cases Cs:kr x.params zp with
    |none =>
     go_wp2_with fail
     go_meet
     rw[Cs];exact⟨rfl,rfl⟩
    |some v =>
     go_wp2_with fail
     go_meet
     rw[Cs];exact⟨rfl,rfl⟩
   case rest =>
   obtain⟨rfl,rfl⟩:=hcut;have HNL:=O (aay.o zp);have rW:(bA ((kr x.params zp).getD yl)).size<17592186044416:=by
    show((kr x.params zp).getD yl).length<_;cases hg:kr x.params zp with
    |none=>decide
    |some v =>
     have h:=HNL.o;rw[hg]at h;have:v.length<=99999:=h;show v.length<_;omega
   generalize (kr x.params zp).getD yl=alg at *
   have a0:=A4.cell (i:=0) rfl;have f0:=A4.free 0;go_wp2_with fail
   refine(FO (bA alg) u4 rW).mono ?_;rintro e u5⟨rfl,hf⟩;rw[fT];have K5:=K4.next hf;have A5:fS u5 A {jt with scheme:=1,aK:=bA aK}:=hf.keep A4 id;have Jd:w.heap.size+1<A:=uA;clear A4 K4 hf HNL rW a0 f0;cases har:Um alg with
   |none =>
    have HE:=O (show nd x=none by rw[mP.o,har];rfl);have hv0:Ov alg=.tuple #[.int .i64 0,.bool false,.bool false]:=by unfold Ov;rw[har]
    rw[hv0];have K6:=(K5.set (i:=0) (u:=.int .i64 0) Jd).set (i:=4) (u:=.bool false) Jd;have a0:=A5.cell (i:=0) rfl;have f0:=A5.free 0;have A5b:=A5.set (r':={jt with scheme:=0,aK:=bA aK}) 0 (.int .i64 0) rfl;have a4:=A5b.cell (i:=4) rfl;have f4:=A5b.free 4
    go_wp2_with (first|((with_reducible refine cV 112 ?_);refine aE rfl 112 (.tmp 2) (.tmp 57) rfl (w.heap.size+1) gQ rfl rfl _ gQ K6.res af rfl rC ?_)|fail)
    refine aS (results_cell_tmp bC _ _ (w.heap.size+1) 112 gQ (0,0) _ rfl (aX _ (w.heap.size+1) _ _ _ _ K6.res) underlying112 rfl af) rfl ?_;exact kz.no (by exact HE.o) ((K6.fr).setRow (fun h=>absurd h ab) _)
   |some q =>
    obtain⟨k,cy⟩:=q;have hv0:Ov alg=.tuple #[.int .i64 k,.bool cy,.bool true]:=by unfold Ov;rw[har]
    rw[hv0];rw[har]at mP;simp only at mP;have K6:=(K5.set (i:=0) (u:=.int .i64 k) Jd).set (i:=4) (u:=.bool cy) Jd;have a0:=A5.cell (i:=0) rfl;have f0:=A5.free 0;have A5b:=A5.set (r':={jt with scheme:=k,aK:=bA aK}) 0 (.int .i64 k) rfl;have a4:=A5b.cell (i:=4) rfl;have f4:=A5b.free 4;have A6:=A5b.set (r':={jt with scheme:=k,aK:=bA aK,cy:=cy}) 4 (.bool cy) rfl;have x0:=K6.Bw.cell0;clear hv0 har
    go_wp2_with fail
    clear a0 f0 a4 f4 A5b A5 K5;generalize (u5.setCell ⟨A,0,none⟩ (.int .i64 k)).setCell ⟨A,4,none⟩ (.bool cy)=u6 at *
    refine(SMB.o CQ u6 ag).mono ?_;rintro e u7⟨rfl,hf⟩;have K7:=K6.next hf;have A7:fS u7 A {jt with scheme:=k,aK:=bA aK,cy:=cy}:=hf.keep A6 id;clear A6 K6 hf x0;cases hds:dG x.scheme CQ with
    |false =>
     have HE:=O (show nd x=none by rw[mP.o,hds];rfl);go_wp2_with (first|((with_reducible refine cV 112 ?_);refine aE rfl 112 (.tmp 2) (.tmp 57) rfl (w.heap.size+1) gQ rfl rfl _ gQ K7.res af rfl rC ?_)|fail)
     refine aS (results_cell_tmp bC _ _ (w.heap.size+1) 112 gQ (0,0) _ rfl (aX u7 (w.heap.size+1) _ _ _ _ K7.res) underlying112 rfl af) rfl ?_;exact kz.no (by exact HE.o) ((K7.fr).setRow (fun h=>absurd h ab) _)
    |true =>
     rw[hds]at mP;have x0:=K7.Bw.cell0;have x1:=K7.Bw.hZ;have x2:=K7.Bw.lV;go_wp2_with fail
     refine(GET.o wh u7 ag K7.fr).mono ?_;rintro e u8⟨rfl,hf⟩;have K8:=K7.next hf;have A8:fS u8 A {jt with scheme:=k,aK:=bA aK,cy:=cy}:=hf.keep A7 id;have a2:=A8.cell (i:=2) rfl;have f2:=A8.free 2;clear A7 K7 hf x0 x1 x2;cases Ly:kr x.params wh with
     |none =>
      have HE:=O (show nd x=none by rw[mP.o,Ly];rfl);have K9:=K8.set (i:=2) (u:=.string (bA [])) Jd;go_wp2_with (first|((with_reducible refine cV 112 ?_);refine aE rfl 112 (.tmp 2) (.tmp 66) rfl (w.heap.size+1) gQ rfl rfl _ gQ K9.res af rfl rC ?_)|fail)
      refine aS (results_cell_tmp bC _ _ (w.heap.size+1) 112 gQ (0,0) _ rfl (aX _ (w.heap.size+1) _ _ _ _ K9.res) underlying112 rfl af) rfl ?_;exact kz.no (by exact HE.o) ((K9.fr).setRow (fun h=>absurd h ab) _)
     |some bq =>
      rw[Ly]at mP;simp only[Bool.not_true,cG,eU]at mP;have K9:=K8.set (i:=2) (u:=.string (bA bq)) Jd;have A9:=A8.set (r':={jt with scheme:=k,aK:=bA aK,bq:=bA bq,cy:=cy}) 2 (.string (bA bq)) rfl;have x0:=K9.Bw.cell0;have x1:=K9.Bw.hZ;have x2:=K9.Bw.lV;go_wp2_with fail
      clear a2 f2 A8 K8 x0 x1 x2;generalize u8.setCell ⟨A,2,none⟩ (.string (bA bq))=u9 at *
      refine(GET.o Kn u9 ag K9.fr).mono ?_;rintro e u10⟨rfl,hf⟩;have K10:=K9.next hf;have A10:fS u10 A {jt with scheme:=k,aK:=bA aK,bq:=bA bq,cy:=cy}:=hf.keep A9 id;have avX:A<u10.heap.size:=bj A10;have HQP:=O (show Uo x.params=match kr x.params Kn with|none=>some []|some q=>Un q from rfl);clear A9 K9 hf
      go_upto_if 72 with fail
      go_cut [8,9,10,11,12,13]from 67 to 96 (fun _ _ _ _ _ _ wz=>aeN w x pv A {jt with scheme:=k,aK:=bA aK,bq:=bA bq,cy:=cy} wz)
      case first =>
       have HQL:=O (aay.o Kn);cases hq:kr x.params Kn with
       |none =>
        go_wp2_with fail
        go_meet
        exact⟨[],by rw[HQP.o,hq],K10,A10⟩
       |some q =>
        rw[hq]at HQP HQL;simp only[Option.getD_some]at HQP HQL;have hql:(bA q).size<4398046511104:=by
         have h:q.length<=99999:=HQL.o;show q.length<_;omega
        have LI:=O (Km (bA q) u10 hql);clear hql;go_wp2_with fail
        refine LI.o.mono ?_;intro e Wg hlp;rcases aax q with ⟨ws,yJ,Fh,hqo⟩|⟨Ly,hqo⟩
        case inr =>
         obtain⟨lv,lt,lx,rfl,hf⟩:=hlp.aeL (by rw[fT];exact Ly);have HE:=O (show nd x=none by rw[mP.o,HQP.o,hqo]);have K11:=K10.next hf;clear hlp Ly hqo;go_wp2_with (first|((with_reducible refine cV 112 ?_);refine aE rfl 112 (.tmp 2) (.tmp 80) rfl (w.heap.size+1) gQ rfl rfl _ gQ K11.res af rfl rC ?_)|fail)
         refine aS (results_cell_tmp bC _ _ (w.heap.size+1) 112 gQ (0,0) _ rfl (aX Wg (w.heap.size+1) _ _ _ _ K11.res) underlying112 rfl af) rfl ?_;exact kz.no (by exact HE.o) ((K11.fr).setRow (fun h=>absurd h ab) _)
        case inl =>
         obtain⟨lv,rfl,hlv,hf⟩:=hlp.isOk (ws:=ws) (by rw[fT];exact yJ) Fh;have K11:=K10.next hf;have A11:fS Wg A {jt with scheme:=k,aK:=bA aK,bq:=bA bq,cy:=cy}:=hf.keep A10 id;have asq:=hf.size;have HWZ:=O (show∀y∈dP ws,y.size<17592186044416 from fun y hy=>by
          obtain⟨w0,hw0,rfl⟩:=bV.1 hy;have h1:=Hc _ _ _ yJ w0 hw0;have h2:q.length<=99999:=HQL.o;show w0.length<_;omega)
         have HQO:=O (show Uo x.params=if(qK ws 2).isEmpty then none else some (qK ws 2)by rw[HQP.o,hqo,aeM]);clear hlp yJ hqo hf A10 K10;obtain⟨u12,aaz⟩:∃u12,u12=Wg.alloc (.cells #[.string (bA qm),.string (bA mh)] 9):=⟨_,rfl⟩;have hf:Fr aR Wg u12:=by rw[aaz];exact(ae _ _).alloc _
         have ao2:u12.heap[Wg.heap.size]?=some (.cells #[.string (bA qm),.string (bA mh)] 9 (0,0)):=by rw[aaz];exact aB _ _
         have K12:=K11.next hf;have A12:fS u12 A {jt with scheme:=k,aK:=bA aK,bq:=bA bq,cy:=cy}:=hf.keep A11 id;have ajx:=hlv.fr hf (fun _ h=>h.elim);have ao3:=O aaz;obtain⟨la,lc,hle⟩:=ajx.form;have hAB:A<Wg.heap.size:=ab;clear aaz hf A11 K11 hlv;subst hle;go_wp2_with fail
         rw[show Wg.alloc (.cells #[.string ⟨#[97,117,116,104,45,105,110,116]⟩,.string ⟨#[97,117,116,104]⟩] 9)=u12 from ao3.o.symm];go_loopw[83] (ajr w x pv A {jt with scheme:=k,aK:=bA aK,bq:=bA bq,cy:=cy} ws u12) (fun t _=>2-(intOf t).toNat)
         case atStart=>exact⟨0,ab,rfl,K12,A12,ae _ _⟩
         case round =>
          obtain⟨m,hm,rfl,K13,A13,cK⟩:=hrel;have hAr:A<wr.heap.size:=bj A13;have hbr:=cK.keep ao2 (fun e=>by have e':Wg.heap.size=A:=e;omega);have hlr:=ajx.fr cK (fun j e=>by have e':j=A:=e;omega);have c0:wr.cell? ⟨Wg.heap.size,0,none⟩=some (.string (bA qm)):=by simp[World.cell?,hbr]
          have c1:wr.cell? ⟨Wg.heap.size,1,none⟩=some (.string (bA mh)):=by simp[World.cell?,hbr]
          have LY:∀n:Bs,n.length<=8->∃wn,wn=wr.alloc (.cells #[.string (bA n)] 9)/\Jb wn wr.heap.size (bA n)/\Fr aR wr wn/\Calls prog 175 #[.slice la (dP ws).length lc,.func (.func 176) #[] #[.pointer (some ⟨wr.heap.size,0,none⟩)]] wn fun e w'=>e=.returned (.bool (ws.any fun y=>dG y n))/\Fr aR wn w':=by
           intro n hn;have Fk:Fr aR wr (wr.alloc (.cells #[.string (bA n)] 9)):=(ae _ _).alloc _;have hb:=aB wr (.cells #[.string (bA n)] 9);refine⟨_,rfl,hb,Fk,?_⟩;have h:=aau (bA n) wr.heap.size _ (dP ws) _ (hlr.fr Fk (fun _ h=>h.elim)).at (by rw[pJ];omega) hb (by show n.length<_;omega) HWZ.o;rw[Sj]at h;exact h
          rcases(show m=0\/m=1\/m=2 from ab)with rfl|rfl|rfl
          case inl =>
           obtain⟨wn,Yk,DB,Fk,CF⟩:=LY qm ag;have HWN:=O Yk;have PY:wn.cell? ⟨wr.heap.size,0,none⟩=some (.string (bA qm)):=by simp[World.cell?,show wn.heap[wr.heap.size]?=_ from DB]
           clear LY Yk;go_wp2_with fail
           rw[<-HWN.o];refine CF.mono ?_;rintro e w14⟨rfl,Je⟩;have K14:=(K13.next Fk).next Je;have A14:fS w14 A {jt with scheme:=k,aK:=bA aK,bq:=bA bq,cy:=cy,eE:=bA (qK ws 0)}:=Je.keep (Fk.keep A13 id) id;have Wh:=O ((cK.trans Fk.nj).trans Je.nj);have ao5:w14.cell? ⟨wr.heap.size,0,none⟩=some (.string (bA qm)):=(Je.cell (p:=⟨wr.heap.size,0,none⟩) (bj DB) id).trans PY
           have a5:=A14.cell (i:=5) rfl;have f5:=A14.free 5;cases jn:ws.any (fun y=>dG y qm)
           case false =>
            have JW:=O (show qK ws 1=qK ws 0 by show(if ws.any (fun w=>dG w qm)then qm else [])=[];rw[jn];rfl);go_wp2;go_roundw
            case rel=>exact⟨1,ab,a_,K14,by rw[JW.o];exact A14,Wh.o⟩
            case measure=>simp[intOf]
           case true =>
            have JW:=O (show qK ws 1=qm by show(if ws.any (fun w=>dG w qm)then qm else [])=_;rw[jn];rfl);have K15:=K14.set (i:=5) (u:=.string (bA qm)) Jd;have A15:=A14.set (r':={jt with scheme:=k,aK:=bA aK,bq:=bA bq,cy:=cy,eE:=bA qm}) 5 (.string (bA qm)) rfl;have aeR:=O (Wh.o.setCell (p:=⟨A,5,none⟩) (fun _=>rfl) (.string (bA qm)));go_wp2;go_roundw
            case rel=>exact⟨1,ab,a_,K15,by rw[JW.o];exact A15,aeR.o⟩
            case measure=>simp[intOf]
          case inr.inl =>
           obtain⟨wn,Yk,DB,Fk,CF⟩:=LY mh ag;have HWN:=O Yk;have PY:wn.cell? ⟨wr.heap.size,0,none⟩=some (.string (bA mh)):=by simp[World.cell?,show wn.heap[wr.heap.size]?=_ from DB]
           clear LY Yk;go_wp2_with fail
           rw[<-HWN.o];refine CF.mono ?_;rintro e w14⟨rfl,Je⟩;have K14:=(K13.next Fk).next Je;have A14:fS w14 A {jt with scheme:=k,aK:=bA aK,bq:=bA bq,cy:=cy,eE:=bA (qK ws 1)}:=Je.keep (Fk.keep A13 id) id;have Wh:=O ((cK.trans Fk.nj).trans Je.nj);have ao5:w14.cell? ⟨wr.heap.size,0,none⟩=some (.string (bA mh)):=(Je.cell (p:=⟨wr.heap.size,0,none⟩) (bj DB) id).trans PY
           have a5:=A14.cell (i:=5) rfl;have f5:=A14.free 5;cases jn:ws.any (fun y=>dG y mh)
           case false =>
            have JW:=O (show qK ws 2=qK ws 1 by show(if ws.any (fun w=>dG w mh)then mh else qK ws 1)=_;rw[jn];rfl);go_wp2;go_roundw
            case rel=>exact⟨2,ab,a_,K14,by rw[JW.o];exact A14,Wh.o⟩
            case measure=>simp[intOf]
           case true =>
            have JW:=O (show qK ws 2=mh by show(if ws.any (fun w=>dG w mh)then mh else qK ws 1)=_;rw[jn];rfl);have K15:=K14.set (i:=5) (u:=.string (bA mh)) Jd;have A15:=A14.set (r':={jt with scheme:=k,aK:=bA aK,bq:=bA bq,cy:=cy,eE:=bA mh}) 5 (.string (bA mh)) rfl;have aeR:=O (Wh.o.setCell (p:=⟨A,5,none⟩) (fun _=>rfl) (.string (bA mh)));go_wp2;go_roundw
            case rel=>exact⟨2,ab,a_,K15,by rw[JW.o];exact A15,aeR.o⟩
            case measure=>simp[intOf]
          case inr.inr =>
           have a5:=A13.cell (i:=5) rfl;clear LY c0 c1;cases Rp:(qK ws 2).isEmpty
           case true =>
            have HE:=O (show nd x=none by rw[mP.o,HQO.o,Rp];rfl);have e1:(bA (qK ws 2)).toList=[]:=by rw[mS];exact gD.1 Rp
            have e2:((bA (qK ws 2)).toList== [])=true:=dT.2 e1;go_wp2_with (first|((with_reducible refine cV 112 ?_);refine aE rfl 112 (.tmp 2) (.tmp 96) rfl (w.heap.size+1) gQ rfl rfl _ gQ K13.res af rfl rC ?_)|fail)
            refine aS (results_cell_tmp bC _ _ (w.heap.size+1) 112 gQ (0,0) _ rfl (aX wr (w.heap.size+1) _ _ _ _ K13.res) underlying112 rfl af) rfl ?_;exact kz.no (by exact HE.o) ((K13.fr).setRow (fun h=>absurd h ab) _)
           case false =>
            have e1:¬(bA (qK ws 2)).toList=[]:=by rw[mS];intro e;rw[e]at Rp;cases Rp
            have e2:((bA (qK ws 2)).toList== [])=false:=aN.2 e1;go_wp2_with fail
            go_meet
            exact⟨qK ws 2,by rw[HQO.o,Rp];rfl,K13,A13⟩
      case rest =>
      obtain⟨q,hqp,K20,A20⟩:=hcut;have HE1:=O (show nd x=some ⟨k,bA aK,bA bq,bA ((kr x.params mi).getD []),cy,bA q,dG ((kr x.params A_).getD []) lU,(Ih ((kr x.params qW).getD [])).map bA⟩by rw[mP.o,hqp]);clear mP hqp HQP K10 A10;have x0:=K20.Bw.cell0;have x1:=K20.Bw.hZ;have x2:=K20.Bw.lV;go_wp2_with fail
      refine(GET.o mi wc ag K20.fr).mono ?_;rintro e u21⟨rfl,hf⟩;have K21:=K20.next hf;have A21:fS u21 A {jt with scheme:=k,aK:=bA aK,bq:=bA bq,cy:=cy,eE:=bA q}:=hf.keep A20 id;clear x0 x1 x2 A20 K20 hf;generalize (kr x.params mi).getD []=op at *
      have a3:=A21.cell (i:=3) rfl;have f3:=A21.free 3;have K22:=K21.set (i:=3) (u:=.string (bA op)) Jd;have A22:=A21.set (r':={jt with scheme:=k,aK:=bA aK,bq:=bA bq,cj:=bA op,cy:=cy,eE:=bA q}) 3 (.string (bA op)) rfl;have x0:=K22.Bw.cell0;have x1:=K22.Bw.hZ;have x2:=K22.Bw.lV;go_wp2_with fail
      clear a3 f3 A21 K21 x0 x1 x2;generalize u21.setCell ⟨A,3,none⟩ (.string (bA op))=u22 at *
      refine(GET.o A_ u22 ag K22.fr).mono ?_;rintro e u23⟨rfl,hf⟩;have K23:=K22.next hf;have A23:fS u23 A {jt with scheme:=k,aK:=bA aK,bq:=bA bq,cj:=bA op,cy:=cy,eE:=bA q}:=hf.keep A22 id;have HSL:=O (aay.o A_);generalize (kr x.params A_).getD []=st at *
      have KX:(bA st).size<17592186044416:=by have h:st.length<=99999:=HSL.o;show st.length<_;omega
      have SMT:=O (mA (bA st) (bA lU) u23 KX ag);rw[fT,fT]at SMT;clear KX HSL A22 K22 hf;go_wp2_with fail
      refine SMT.o.mono ?_;rintro e u24⟨rfl,hf⟩;have K24:=K23.next hf;have A24:fS u24 A {jt with scheme:=k,aK:=bA aK,bq:=bA bq,cj:=bA op,cy:=cy,eE:=bA q}:=hf.keep A23 id;have a6:=A24.cell (i:=6) rfl;have f6:=A24.free 6;have K25:=K24.set (i:=6) (u:=.bool (dG st lU)) Jd;have A25:=A24.set (r':={jt with scheme:=k,aK:=bA aK,bq:=bA bq,cj:=bA op,cy:=cy,eE:=bA q,cM:=dG st lU}) 6 (.bool (dG st lU)) rfl
      have x0:=K25.Bw.cell0;have x1:=K25.Bw.hZ;have x2:=K25.Bw.lV;clear SMT A23 K23 hf;go_wp2_with fail
      clear a6 f6 A24 K24 x0 x1 x2;generalize u24.setCell ⟨A,6,none⟩ (.bool (dG st lU))=u25 at *
      refine(GET.o qW u25 ag K25.fr).mono ?_;rintro e u26⟨rfl,hf⟩;have K26:=K25.next hf;have A26:fS u26 A {jt with scheme:=k,aK:=bA aK,bq:=bA bq,cj:=bA op,cy:=cy,eE:=bA q,cM:=dG st lU}:=hf.keep A25 id;have HDL:=O (aay.o qW);generalize (kr x.params qW).getD []=d at *
      have av7:A<u26.heap.size:=bj A26;have SP:=O (show Calls prog 125 #[.string (bA d),.string ⟨#[32]⟩] u26 fun e w'=>e=.returned (.slice (some ⟨u26.heap.size,0,none⟩) (dZ 32 d).length (dZ 32 d).length)/\w'=u26.alloc (.cells (((dZ 32 d).map bA).map Value.string).toArray 9)from by
       have h:=yB (bA d) 32 u26 (by have h:d.length<=99999:=HDL.o;show d.length<_;omega);rw[Sm,ai]at h;exact h)
      obtain⟨Yu,xi⟩:=Hd 32 d;clear hf A25 K25;go_wp2_with fail
      refine SP.o.mono ?_;rintro e u27⟨rfl,aeS⟩;have hf:Fr aR u26 u27:=by rw[aeS];exact(ae _ _).alloc _
      have Yf:u27.heap[u26.heap.size]?=some (.cells (((dZ 32 d).map bA).map Value.string).toArray 9 (0,0)):=by rw[aeS];exact aB _ _
      have K27:=K26.next hf;have A27:fS u27 A {jt with scheme:=k,aK:=bA aK,bq:=bA bq,cj:=bA op,cy:=cy,eE:=bA q,cM:=dG st lU}:=hf.keep A26 id;generalize hPb:u26.heap.size=Pb at *
      clear SP aeS hf A26 K26;go_wp2_with fail
      go_loopw[119] (ajq w x pv A Pb {jt with scheme:=k,aK:=bA aK,bq:=bA bq,cj:=bA op,cy:=cy,eE:=bA q,cM:=dG st lU} d) (fun t _=>(dZ 32 d).length-(intOf t).toNat)
      case atStart=>exact⟨0,.slice none 0 0,aI _,rfl,K27,A27,kT _ _,Yf,fun j e=>by simp[Value.ownBlock]at e⟩
      case round =>
        obtain⟨m,v,hm,rfl,K30,A30,LZ,Qz,hvP⟩:=hrel;have hAr:A<wr.heap.size:=bj A30;have hd:d.length<=99999:=HDL.o;by_cases hms:m<(dZ 32 d).length
        case pos =>
         have hmi:(m:Int)<((dZ 32 d).length:Int):=ab;have dN:=O (List.getElem?_eq_getElem hms);have Fg:=xi _ (bL hms);generalize (dZ 32 d)[m]=p at dN Fg;have c0:wr.cell? ⟨Pb,m,none⟩=some (.string (bA p)):=by
          simp only[World.cell?,Qz];rw[List.getElem?_toArray,List.getElem?_map,List.getElem?_map,dN.o];rfl
         have HSU:=O (Ox dN.o);have HP:=O (show Calls prog 177 #[.string (bA p),.string ⟨#[47]⟩] wr fun e w'=>e=.returned (.bool (Nf 47 p))/\wr=w' from by
          have h:=strings_HasPrefix (bA p) ⟨#[47]⟩ wr;rw[fT,show(⟨#[47]⟩:aj).data.toList=[47]from rfl,ajp]at h;exact h.mono (fun e w' ⟨h1,h2⟩=>⟨h1,h2.symm⟩))
         go_wp2_with fail
         refine HP.o.mono ?_;rintro e w31⟨rfl,rfl⟩;clear HP c0;cases hpf:Nf 47 p
         case false =>
          have aeW:=O (show iQ d (m+1)=iQ d m by rw[HSU.o,hpf];simp);go_wp2;go_roundw
          case rel=>exact⟨m+1,v,ab,a_,K30,A30,by rw[aeW.o];exact LZ,Qz,hvP⟩
          case measure=>simp[intOf];omega
         case true =>
          have aeW:=O (show(iQ d (m+1)).map bA=(iQ d m).map bA++[bA (oM p)]by rw[HSU.o,hpf];simp);have zO:=O (show∀U,Calls prog 178 #[.string (bA p)] U fun e w'=>e=.returned (.string (bA (oM p)))/\Fr aR U w' from fun U=>by
           have h:=RC (bA p) U (by show p.length<_;omega);rw[fT]at h;exact h)
          obtain⟨va,vc,hve⟩:=LZ.form;rw[ai]at hve;have hdl:=Sl d m;subst hve;have a7:wr.cell? ⟨A,7,none⟩=some (.slice va (iQ d m).length vc):=A30.cell rfl;have f7:=A30.free 7;have hoA:(Value.slice va (iQ d m).length vc).ownBlock≠some A:=fun e=>by
           obtain⟨cur,hc⟩:=LZ.kind e;rw[show wr.heap[A]?=_ from A30]at hc;simp at hc
          have Eg:=O (show∀U,Fr aR wr U->U.cell? ⟨A,7,none⟩=some (.slice va (iQ d m).length vc)/\U.frozen? ⟨A,7,none⟩=false from fun U hU=>⟨(hU.cell (p:=⟨A,7,none⟩) hAr id).trans a7,(hU.frozen (p:=⟨A,7,none⟩) hAr id).trans f7⟩);obtain⟨i0,qD,pq,kZ,lq⟩:=info_parts zg;have hwr:w.heap.size<=wr.heap.size:=K30.fr.size;have apc:=O LZ;clear LZ hpf;go_wp2_with fail
          go_region_law (first
           |((with_reducible refine mR ⟨some 128,_,_,_,_,_⟩ ?_)
             refine Ba rfl 178 _ (by go_simp) (zO.o _) ?_
             rintro e w3⟨rfl,iv⟩
             refine⟨_,rfl,?_⟩
             have ic:Fr aR wr w3:=bE (by repeat(first|exact ae _ _|apply aA)) iv
             obtain⟨k3,l3⟩:=Eg.o w3 ic
             have k3a:∀o:Obj,(w3.alloc o).cell? ⟨A,7,none⟩=some (.slice va (iQ d m).length vc):=fun o=>(Eg.o _ (ic.alloc o)).1
             have fo:=apc.o.fr ic (fun _ h=>h.elim)
             have tK:w.heap.size<=w3.heap.size:=aD hwr ic.size
             have Wi:w3.ownsRow w.heap.size 9 1 (.slice va (iQ d m).length vc) (iQ d m).length (((iQ d m).map bA).map Value.string):=by
               have hh:w3.ownsRow w.heap.size 9 1 (.slice va (iQ d m).length vc) ((iQ d m).map bA).length (((iQ d m).map bA).map Value.string):=fo
               rw[ai]at hh
               exact hh
             clear iv)
           |((with_reducible refine mR ⟨some 130,_,_,_,_,_⟩ ?_)
             refine step_append_lies _ bC _ _ _ bC w.heap.size 9 i0 _ 1 16 underlying110 qD pq kZ lq rfl ab (.slice va (iQ d m).length vc) (iQ d m).length _ bC (by repeat(first|exact Wi|apply World.ownsRow.alloc|apply World.ownsRow.drew)) ⟨w3.heap.size,0,none⟩ 1 1 [.string (bA (oM p))] bC bC (kQ w3 [.string (bA (oM p))] _) ct ab fq ab bG (w3.heap.size+1) aQ ?_
             intro gg cap w4 eY jC UI Ls
             have IX:Fr (fun k=>(Value.slice va (iQ d m).length vc).ownBlock=some k) w3 w4:=fk (by repeat(first|exact ae _ _|apply aA|apply bz)) jC (fun _ hk _=>hk)
             have hA3:A<w3.heap.size:=cN hAr ic.size
             have k4:w4.cell? ⟨A,7,none⟩=some (.slice va (iQ d m).length vc):=(IX.cell (p:=⟨A,7,none⟩) hA3 hoA).trans k3
             have e4:w4.frozen? ⟨A,7,none⟩=false:=(IX.frozen (p:=⟨A,7,none⟩) hA3 hoA).trans l3))
          all_goals
           have BO:Strs w.heap.size w3 (.slice va (iQ d m).length vc) ((iQ d m).map bA):=fo;have K31:=(K30.next ic).own BO IX;have A31:fS w4 A {{jt with scheme:=k,aK:=bA aK,bq:=bA bq,cj:=bA op,cy:=cy,eE:=bA q,cM:=dG st lU}with dom:=.slice va (iQ d m).length vc}:=IX.keep (ic.keep A30 id) hoA;have hPl:Pb<wr.heap.size:=bj Qz
           have ajB:=IX.keep (ic.keep Qz id) (fun e=>absurd (hvP Pb e) (Nat.lt_irrefl _));have hvg:Strs w.heap.size w4 (.slice (some ⟨gg,0,none⟩) ((iQ d m).length+1) cap) ((iQ d (m+1)).map bA):=by
            rw[aeW.o];have e1:((iQ d m).map bA++[bA (oM p)]).length=(iQ d m).length+1:=aQ;unfold Strs;rw[e1,bH];exact eY
           have hfA:Fr (one A) w4 (w4.setCell ⟨A,7,none⟩ (.slice (some ⟨gg,0,none⟩) ((iQ d m).length+1) cap)):=(ae (one A) w4).setCell (p:=⟨A,7,none⟩) (fun _=>rfl) _;have apd:=hvg.aaw hfA A31 ag;have K32:=K31.set (i:=7) (u:=.slice (some ⟨gg,0,none⟩) ((iQ d m).length+1) cap) Jd
           have A32:=A31.set (r':={{jt with scheme:=k,aK:=bA aK,bq:=bA bq,cj:=bA op,cy:=cy,eE:=bA q,cM:=dG st lU}with dom:=.slice (some ⟨gg,0,none⟩) ((iQ d m).length+1) cap}) 7 (.slice (some ⟨gg,0,none⟩) ((iQ d m).length+1) cap) rfl;have ajC:=hfA.keep ajB (fun e=>by have e':Pb=A:=e;omega);have ape:∀j,(Value.slice (some ⟨gg,0,none⟩) ((iQ d m).length+1) cap).ownBlock=some j->Pb<j:=by
            intro j hj;simp only[Value.ownBlock,en]at hj;subst hj;rcases UI with e|e
            ·exact hvP _ e
            ·have:=ic.size;omega
           clear k4 e4 jC eY fo Wi IX k3 k3a l3 Eg;go_wp2;go_roundw
           case rel=>exact⟨m+1,_,ab,a_,K32,A32,apd,ajC,ape⟩
           case measure=>simp[intOf];omega
        case neg =>
         have hmi:¬(m:Int)<((dZ 32 d).length:Int):=ab;have apf:=O LZ;have TG:=O (show iQ d m=Ih d from Sk ab);have hvo:v.oneCell'=true:=by obtain⟨va,vc,hve⟩:=LZ.form;rw[hve];rfl
         have HR0:=O K30.res;clear LZ xi Yu;have za:(prog.info? 112).map (·.size)=some ({{jt with scheme:=k,aK:=bA aK,bq:=bA bq,cj:=bA op,cy:=cy,eE:=bA q,cM:=dG st lU}with dom:=v}).cells.toArray.size:=af;have Bx:wr.heap[A]?=some (.cells ({{jt with scheme:=k,aK:=bA aK,bq:=bA bq,cj:=bA op,cy:=cy,eE:=bA q,cM:=dG st lU}with dom:=v}).cells.toArray 112 (0,0)):=A30
         have ZF:=Jc ({{jt with scheme:=k,aK:=bA aK,bq:=bA bq,cj:=bA op,cy:=cy,eE:=bA q,cM:=dG st lU}with dom:=v}) hvo
         go_wp2_with (first|((with_reducible refine cY 133 ?_);refine aH rfl 112 (.tmp 6) rfl A rfl _ ({{jt with scheme:=k,aK:=bA aK,bq:=bA bq,cj:=bA op,cy:=cy,eE:=bA q,cM:=dG st lU}with dom:=v}).cells.toArray (0,0) _ Bx underlying112 rfl za ?_)|((with_reducible refine cV 112 ?_);refine aE rfl 112 (.tmp 2) (.tmp 133) rfl (w.heap.size+1) ({{jt with scheme:=k,aK:=bA aK,bq:=bA bq,cj:=bA op,cy:=cy,eE:=bA q,cM:=dG st lU}with dom:=v}).cells.toArray rfl rfl _ gQ K30.res za rfl ZF ?_)|fail)
         refine aS (results_cell_tmp bC _ _ (w.heap.size+1) 112 ({{jt with scheme:=k,aK:=bA aK,bq:=bA bq,cj:=bA op,cy:=cy,eE:=bA q,cM:=dG st lU}with dom:=v}).cells.toArray (0,0) _ rfl (aX wr (w.heap.size+1) _ _ _ _ K30.res) underlying112 rfl za) rfl ?_
         exact kz.yes (by rw[HE1.o]) ((K30.fr).setRow (fun h=>absurd h ab) _) ⟨rfl,rfl,rfl,rfl,rfl,rfl,rfl,by rw[<-TG.o];exact apf.o.aaw ((ae (one (w.heap.size+1)) wr).setRow (fun _=>rfl) _) HR0.o ag⟩
theorem Wy{α:Type}{p:α->Bool}{l:List α}{x:α}(h:l[k]?=some x)(hp:p x=true)(hn:(l.take k).any p=false):l.find? p=some x:=by
 induction l generalizing k with
 |nil=>simp at h
 |cons a l ih =>
  cases k with
  |zero=>simp at h;subst h;rw[List.find?_cons_of_pos hp]
  |succ k =>
   simp only[List.getElem?_cons_succ]at h;simp only[List.take_succ_cons,List.any_cons,eJ]at hn;rw[List.find?_cons_of_neg (by rw[hn.1];exact gL)];exact ih h hn.2
theorem Sw{α:Type}{p:α->Bool}{l:List α}(hn:l.any p=false):l.find? p=none:=by
 rw[List.find?_eq_none];intro x hx;have:=(eW.1 hn) x hx;exact this
def ajO(w:World)(gs:List (aP bD))(o:gz)(proxy:Bool)(aK:aj)(i:Value)(wr:World):Prop :=
 ∃k:Nat,k<=gs.length/\i=.int .i64 k/\(gs.take k).any (mZ o proxy aK)=false/\Fr aR w wr
theorem Wz(base:Nat)(w:World)(b:Nat)(gv wv:Value)(gs:List (aP bD))(ws:List (bI bD))(o:gz)(proxy:Bool)(aK:aj)(h:dB base w b gv wv gs ws) :
  Calls prog 56 #[.pointer (some ⟨b,0,none⟩),.agg o.cells.toArray,.bool proxy,.string aK] w (ui base w (gs.find? (mZ o proxy aK))):=by
 have X5:=O (fun r U=>Lp r o proxy aK U);unfold gz.cells at *
 have sO:=h.lt;have lp:=h.low;have pg:Fr aR w _:=((ae aR w).alloc (.cells #[.bool o.aF,.string o.host,.int .i64 o.port] 32)).alloc (.cells eS 114);have b1:=aB (w.alloc (.cells #[.bool o.aF,.string o.host,.int .i64 o.port] 32)) (.cells eS 114);rw[show(w.alloc (.cells #[.bool o.aF,.string o.host,.int .i64 o.port] 32)).heap.size=w.heap.size+1 from aQ]at b1
 have b0:((w.alloc (.cells #[.bool o.aF,.string o.host,.int .i64 o.port] 32)).alloc (.cells eS 114)).heap[w.heap.size]?=some (.cells #[.bool o.aF,.string o.host,.int .i64 o.port] 32 (0,0)):=by
  rw[Below.heap_alloc _ _ _ aQ];exact aB w _
 have h1:=h.dh pg;have d0:=h1.c0;obtain⟨av,cv,hgv⟩:=h1.bF.form;subst hgv;have B0:=O b0;have B1:=O b1;clear b0 b1 h;go_enter func56,ntmps56;go_wp2_with fail
 clear d0;generalize (w.alloc (.cells _ 32)).alloc _=W at *
 go_loopw[17] (ajO W gs o proxy aK) (fun i _=>gs.length-(intOf i).toNat)
 case atStart=>exact⟨0,aI _,rfl,rfl,ae _ _⟩
 case round =>
  obtain⟨k,hk,rfl,jn,cK⟩:=hrel;have HAN:=O jn;clear jn;have h2:=h1.dh cK;have c0:=O (cK.keep B0.o id);have c1:=O (cK.keep B1.o id);have yJ:w.heap.size+1<wr.heap.size:=bj c1.o;by_cases eX:k<gs.length
  ·have py:(k:Int)<(gs.length:Int):=ab;obtain⟨bk,c,dy,sZ,r,dY,hr,hcell⟩:=h2.bF.at eX;cases dy;unfold maxLen at sZ;have dN:=O (List.getElem?_eq_getElem eX);generalize gs[k]=g at dN hr;have hsg:Ln o proxy aK r.cells=mZ o proxy aK g:=Cd hr o proxy aK;obtain⟨x,hx⟩:∃x,x=r.cells:=⟨_,rfl⟩;have lF:x.length=16:=by rw[hx];rfl
   rw[<-hx]at hcell dY;have jq:=fun W=>run_storeCells_new (P:=prog) W 114 #[.bool false,.string ⟨#[]⟩,.int .i64 0,.bool false,.string ⟨#[]⟩,.string ⟨#[]⟩,.int .i64 0,.string ⟨#[]⟩,.string ⟨#[]⟩,.string ⟨#[]⟩,.bool false,.string ⟨#[]⟩,.bool false,.slice none 0 0,.int .i64 0,.slice none 0 0] x (by rw[lF];rfl) dY;have D8:=O (show(prog.info? 114).map (·.size)=some x.length by rw[lF];kernel_rfl)
   have gS:Fr aR wr (wr.alloc (.cells x.toArray 114)):=(ae aR wr).alloc _;have ud:=O (aB wr (.cells x.toArray 114));have HSM:=O (show∀U,Calls prog 109 #[.agg x.toArray,.agg #[.bool o.aF,.string o.host,.int .i64 o.port],.bool proxy,.string aK] U fun e w'=>e=.returned (.bool (mZ o proxy aK g))/\Fr aR U w' from fun U=>by
    have:=X5.o r U;rw[hx];refine this.mono ?_;rintro e w' h';rw[<-hsg];exact h')
   have HR:=O (hr.mono (fun _ _ h=>h.dh gS));have sD:=O (cK.trans gS);have MX:wr.heap.size<(wr.alloc (.cells x.toArray 114)).heap.size:=aQ;have HX:=O hx;have c0a:=O (gS.keep c0.o id);have c1a:=O (gS.keep c1.o id);clear hx dY hr hsg gS
   go_wp2_with (first|((with_reducible refine cY 20 ?_);refine aU rfl 114 (.tmp 19) rfl bk (k*16) rfl x _ hcell underlying114 rfl D8.o ?_)|((with_reducible refine cY 21 ?_);refine aH rfl 114 (.tmp 11) rfl wr.heap.size rfl _ x.toArray (0,0) _ ud.o underlying114 rfl (by rw[aW];exact D8.o) ?_)|((with_reducible refine cY 22 ?_);refine aH rfl 32 (.tmp 5) rfl w.heap.size rfl _ _ (0,0) _ c0a.o underlying32 rfl af ?_)|fail)
   clear jq hcell;generalize wr.alloc (.cells x.toArray 114)=V at *
   refine(HSM.o V).mono ?_;rintro e u1⟨rfl,df⟩;cases pk:mZ o proxy aK g
   ·have HN:=O (any_take_succ dN.o HAN.o pk);clear pk HSM;go_wp2;go_roundw
    case rel=>exact⟨k+1,ab,a_,HN.o,sD.o.trans df⟩
    case measure=>simp[intOf];omega
   ·have vG:=O (Wy dN.o pk HAN.o);have apr:=O (df.keep ud.o id);have hub:base<=u1.heap.size:=by have:=df.size;have:=h1.lt;have:=cK.size;omega
    have fA:=O (uP base r g u1 hub (HR.o.mono (fun _ _ h=>h.dh df)));rw[<-HX.o]at fA;have c1b:=O (df.keep c1a.o id);have k_:=O (pg.trans (sD.o.trans df));clear pk HSM;go_wp2_with (first|((with_reducible refine cY 26 ?_);refine aH rfl 114 (.tmp 11) rfl wr.heap.size rfl _ x.toArray (0,0) _ apr.o underlying114 rfl (by rw[aW];exact D8.o) ?_)|fail)
    refine fA.o.mono ?_;intro e w3 NZ;obtain⟨r3,rfl,rJ,qO,iv⟩:=NZ;have b3:=O (iv.keep c1b.o id);have za:(prog.info? 114).map (·.size)=some r3.cells.toArray.size:=af;have ic:=k_.o.trans iv;obtain⟨y,hy⟩:∃y,y=r3.cells:=⟨_,rfl⟩;have HY:=O hy;rw[<-hy]at za qO ⊢;have Fi:=O (bW qO);have Dm:=O (show eS.size=y.toArray.size by rw[hy];rfl);clear hy fA
    go_wp2_with (first|((with_reducible refine cV 114 ?_);refine aE rfl 114 (.tmp 8) (.tmp 27) rfl (w.heap.size+1) y.toArray rfl rfl _ eS b3.o za Dm.o Fi.o ?_)|fail)
    have rS:sr base w3 (one (w.heap.size+1)):=by
     rintro j rfl hj;exact⟨ab,fun c f e=>by rw[b3.o]at e;cases e⟩
    have kJ:Fr (one (w.heap.size+1)) w3 (w3.setRow (w.heap.size+1) y.toArray):=(ae (one (w.heap.size+1)) w3).setRow (fun _=>rfl) _;refine aS (results_cell_tmp bC _ _ (w.heap.size+1) 114 y.toArray (0,0) _ rfl (aX w3 (w.heap.size+1) _ _ _ _ b3.o) underlying114 rfl za) rfl ?_;have Ek:∀u∈r3.cells,u.oneCell'=true:=by rw[<-HY.o];exact qO
    rw[HY.o]at *
    refine⟨ic.setRow (fun h=>absurd h ab) _,?_⟩;rw[vG.o];exact⟨r3,rfl,rJ.mono (fun _ _ h=>h.fr kJ rS),Ek⟩
  ·have py:¬(k:Int)<(gs.length:Int):=ab;have vG:=O (Sw (p:=mZ o proxy aK) (l:=gs) (by have h:=HAN.o;rwa [aC ab]at h));have HF:=O (pg.trans cK);go_wp2_with (first|((with_reducible refine cV 114 ?_);refine aE rfl 114 (.tmp 8) (.tmp 29) rfl (w.heap.size+1) eS rfl rfl _ eS c1.o af rfl yE ?_)|fail)
   refine aS (results_cell_tmp bC _ _ (w.heap.size+1) 114 eS (0,0) _ rfl (aX wr (w.heap.size+1) _ _ _ _ c1.o) underlying114 rfl af) rfl ?_;refine⟨HF.o.setRow (fun h=>absurd h ab) _,?_⟩;rw[vG.o];rfl
theorem Jf(base:Nat)(w:World)(b:Nat)(v:Value)(ps:List ef)(h:eO base w b v ps)(hlen:ps.length<1000000) :
  Calls prog 80 #[.pointer (some ⟨b,0,none⟩)] w fun e w'=>∃b' v',e=.returned (.pointer (some ⟨b',0,none⟩))/\eO w.heap.size w' b' v' ps/\Fr aR w w':=by
 have HL:=O (Af base w b v ps h hlen);clear h;go_enter func80,ntmps80;go_wp2_with fail
 refine HL.o.mono ?_;rintro e u⟨v',rfl,ho,hf⟩;have gS:Fr aR u (u.alloc (.cells #[v'] 92)):=(ae aR u).alloc _;have HR:=O (show eO w.heap.size (u.alloc (.cells #[v'] 92)) u.heap.size v' ps from⟨hf.size,aB _ _,ho.fr gS (fun _ _ h=>h)⟩);have HF:=O (hf.trans gS);obtain⟨a',c',sH⟩:=ho.form;rw[ai]at sH;subst sH;clear ho HL hf gS;go_wp2;go_ret;exact⟨_,_,rfl,HR.o,HF.o⟩
