/- CorsPure, DigSt, Bank6, Covers, AskFitP, Bank7, Sweep, Book1, FRight, Grant1, Waits, SpaceP, Book4, Take, BankGet, Asked, WorldPure, WorldLaw, WorldLaw2, WorldRep, WorldLaw3, WorldFit, WRight, WNow, WorldLaw4, PathSm. -/
import Derived.Test.YtpkkncoddhkfkaaGreatDoorPk2
set_option maxRecDepth 100000
set_option maxHeartbeats 16000000
set_option linter.unusedSimpArgs false
namespace Go.Proofs.YtpkkncoddhkfkaaGreatDoor
open Go.Proofs.Tryz
open Go.RowKit
variable {k M b g base i B:Nat} {r:Bs} {w a w':World} {v gv wv bv:Value} {S:Nat->Prop} {o:ef} {proxy:Bool} {ps:List fW}
def mO(l:Bs):Bs:=if l.getLast?=some 13 then l.dropLast else l
def trimB(l:Bs):Bs:=Lib.trimS l [32,9]
def A5(l:Bs):Option (Option fW) :=
 if(mO l).isEmpty then some none
 else if !(nV 58 (mO l)).2.2||!kr (nV 58 (mO l)).1 then none
 else some (some ((nV 58 (mO l)).1,trimB (nV 58 (mO l)).2.1))
def lH:List Bs->List fW->Except Nat (List fW)
 |[],acc=>.ok acc
 |l :: ls,acc =>
  match A5 l with
  |none=>.error 3
  |some none=>lH ls acc
  |some (some p)=>if acc.length=40 then .error 4 else lH ls (acc++[p])
def vq(s:Bs):Except Nat (List fW):=if 3000<s.length then .error 4 else lH (cm 10 s) []
def A6(ps:List fW)(n:Bs):List Bs:=(ps.filter fun p=>ft p.1 n).map (·.2)
def iL(ps:List fW)(n:Bs):Bs:=Lib.join (A6 ps n) [44,32]
def rY(ps:List fW)(n:Bs):Bool:=!(A6 ps n).isEmpty
def lI:Bs:=[65,99,99,101,115,115,45,67,111,110,116,114,111,108,45,65,108,108,111,119,45,79,114,105,103,105,110]
def A7:Bs:=[65,99,99,101,115,115,45,67,111,110,116,114,111,108,45,65,108,108,111,119,45,67,114,101,100,101,110,116,105,97,108,115]
def A8:Bs:=[65,99,99,101,115,115,45,67,111,110,116,114,111,108,45,65,108,108,111,119,45,77,101,116,104,111,100,115]
def yk:Bs:=[65,99,99,101,115,115,45,67,111,110,116,114,111,108,45,65,108,108,111,119,45,72,101,97,100,101,114,115]
def yl:Bs:=[65,99,99,101,115,115,45,67,111,110,116,114,111,108,45,77,97,120,45,65,103,101]
def D5(t:Bs)(dB:Bool)(ps:List fW):Bool :=
 if !rY ps lI then false
 else if(iL ps lI== [42])&&!dB then true
 else if iL ps lI !=t then false
 else !dB||(iL ps A7==wZ)
def A9(ps:List fW):Int:=if rY ps yl then(if ve (iL ps yl)then min (DZ (iL ps yl)) 600 else 5)else 5
def rZ(ps:List fW)(n:Bs):Option (List Bs) :=
 match pB (iL ps n)with
 | .error _=>none
 | .ok l=>if 40<l.length then none else some l
def A_(ps:List eV)(p:eV):List eV:=if ps.any (fun q=>q.jo p)then ps else ps++[p]
def gb.Ge(r:gb)(rX:Int)(m h:ai):eV:=⟨r.bg,r.o,r.path,r.query,r.dB,m,h,rX⟩
def gb.methods(r:gb)(ms:List Bs):List ai:=if ms.isEmpty then [lD r.method]else ms.map bA
def gb.bC(r:gb)(rX:Int)(ms hs:List Bs):List eV :=
 (hs.map fun h=>r.Ge rX (bA []) (bA (lr h))).foldl A_ ((r.methods ms |>.map fun m=>r.Ge rX m (bA [])).foldl A_ [])
def ym(r:gb)(t:Bs)(ps:List fW)(now:Int):Except Nat (List eV) :=
 match rZ ps A8,rZ ps yk with
 |some ms,some hs =>
  if !D5 t r.dB ps then .error 6
  else if !r.nX (r.bC (now+A9 ps) ms hs)then .error 6
  else .ok (r.bC (now+A9 ps) ms hs)
 |_,_=>.error 3
def xd(IM:Int)(e9:ai)(x:jU):fb:=⟨IM,x.cj.data.toList,x.dk.data.toList,e9.data.toList,x.eP,x.iI.data.toList,x.user.data.toList,x.target.data.toList,(Bq x).data.toList,x.aW.data.toList,sg x.n⟩
def lT(gs:List (aC aH))(g:aC aH):List (aC aH) :=
 let l:=gs.filter (fun x=>!sI g.o g.proxy g.a.cj x)++[g]
 l.drop (l.length-8)
structure fe (D:Type) where
 part:Int
 bg:ef
 o:ef
 path:ai
 query:ai
 method:ai
 bo:D
 dB:Bool
 body:ai
def fe.cells(r:fe Value):List Value:=[.int .i64 r.part,.bool r.bg.ao,.string r.bg.host,.int .i64 r.bg.port,.bool r.o.ao,.string r.o.host,.int .i64 r.o.port,.string r.path,.string r.query,.string r.method,r.bo,.bool r.dB,.string r.body]
def xn(r:fe Value)(hs:List dP):Prop:=r.method.size<100000/\hs.length<100000/\∀p∈hs,p.1.size<100000/\p.2.size<100000
theorem lU{α:Type}{p:α->Bool}{l:List α}{x:α}(h:l[k]?=some x)(hn:(l.take k).all p=true)(hp:p x=true):(l.take (k+1)).all p=true:=by
 rw[gY h,List.all_append,hn];simp[hp]
theorem ox{α:Type}{p:α->Bool}{l:List α}{x:α}(h:l[k]?=some x)(hp:p x=false):l.all p=false:=by
 rw[List.all_eq_false];exact⟨x,aR h,by simp[hp]⟩
def gF(M:Nat)(ps:List fW):Prop:=∀p∈ps,p.1.length<=M/\p.2.length<=M
theorem gS(M:Nat):∀(f:Nat) (ps:List fW) (r:Bs) (q:List fW×Bs),r.length<=M->gF M ps->fw f ps r=.ok q->gF M q.1
 |0,ps,r,q,_,hp,h=>by rw[fw]at h;cases h;exact hp
 |f+1,ps,r,q,hr,hp,h=>by
  rw[fw]at h;cases hq:jI ps r with
  |error e=>rw[hq]at h;cases h
  |ok p =>
   obtain⟨p,r1⟩:=p;rw[hq]at h;have hle:=kL hq;have hg:=jK r1;have hn:gF M (ps++[p]):=by
    intro a ha;rcases aE.1 ha with g|g
    ·exact hp a g
    ·simp at g;subst g;exact⟨ab,ab⟩
   simp only at h;split at h
   ·split at h
    ·exact gS M f _ _ q ab hn h
    ·cases h;exact hn
   ·cases h
structure kA.Le (M:Nat) (x:kA):Prop where
 scheme:x.scheme.length<=M
 token:x.token.length<=M
 r_:gF M x.params
theorem oz{x:kA}{z:Bs}(hr:r.length<=M)(h:qj k r=.ok (x,z)):x.Le M:=by
 have hw:=gz r;have hb:=dy (cW r);unfold qj at h;split at h
 ·cases h
 split at h
 ·cases h
 split at h
 ·cases h;exact⟨by show(eI r).length<=M;omega,az _,fun p hp=>by cases hp⟩
 split at h
 ·cases h
 split at h
 ·rename_i q hq;obtain⟨t,z'⟩:=q;have:=jN hq;cases h;exact⟨by show(eI r).length<=M;omega,by show t.length<=M;omega,fun p hp=>by cases hp⟩
 ·split at h
  ·cases h
  ·rename_i q hq;have:=gS M _ _ _ _ ab (fun p hp=>by cases hp) hq;cases h;exact⟨by show(eI r).length<=M;omega,az _,this⟩
theorem im(M:Nat):∀(f:Nat) (acc:List kA) (r:Bs) (l:List kA),r.length<=M->(∀x∈acc,x.Le M)->jJ f acc r=.ok l->∀x∈l,x.Le M
 |0,acc,r,l,_,ha,h=>by rw[jJ]at h;cases h;exact ha
 |f+1,acc,r,l,hr,ha,h=>by
  rw[jJ]at h;split at h
  ·cases h;exact ha
  ·cases ho:qj acc.length (jH r)with
   |error e=>rw[ho]at h;cases h
   |ok q =>
    obtain⟨x,r1⟩:=q;rw[ho]at h;have h1:=uY ho;have h2:=jK r;have hx:=oz (M:=M) ab ho;refine im M f _ _ l ab (fun y hy=>?_) h;rcases aE.1 hy with g|g
    ·exact ha y g
    ·simp at g;subst g;exact hx
theorem nt{l:List kA}(h:kJ r=.ok l):∀x∈l,x.Le r.length:=by
 unfold kJ at h;split at h
 ·cases h
 ·exact im _ _ _ _ _ (ar _) (fun x hx=>by cases hx) h
theorem nu{l:List kA}(h:kJ r=.ok l):r.length<=3000:=by
 unfold kJ at h;split at h
 ·cases h
 ·omega
def aC.used{D:Type}(g:aC D):aC D:={g with count:=g.count+1}
def ot(gs:List (aC aH))(o:ef)(proxy:Bool)(path:ai):List (aC aH)×Except Nat (aC aH) :=
 if 0<=jh gs o proxy path then
  match gs[(jh gs o proxy path).toNat]? with
  |some g =>
   let l:=gs.take (jh gs o proxy path).toNat++gs.drop ((jh gs o proxy path).toNat+1)
   if 4294967295<=g.count then(l,.error 12)else(l++[g.used],.ok g.used)
  |none=>(gs,.error 8)
 else(gs,.error 8)
def I8(o:ef)(g:aC aH):Bool:=g.o.jo o
def EG(o:ef)(g:aP aH):Bool:=g.o.jo o
theorem OwnRows.xo{e:TypeId}{xs:List (List Value)}(h:OwnRows b e k w v xs)(hg:own v g):∃c,w.heap[g]?=some (.cells c e (0,0)):=by
 obtain⟨cap,cur,_,_,h2,_⟩:=h.open hg;exact⟨cur,h2⟩
structure cU (base:Nat) (w:World) (b:Nat) (v:Value) (ps:List eV):Prop where
 low:base<=b
 cR:w.heap[b]?=some (.cells #[v] 104 (0,0))
 rows:OwnRows base 179 12 w v (ps.map eV.cells)
def pM(b:Nat)(v:Value):Nat->Prop:=fun k=>k=b\/own v k
section
variable {base : Nat} {w w' : World} {b : Nat} {v : Value} {ps : List eV}
theorem cU.c0(h:cU base w b v ps):w.cell? ⟨b,0,none⟩=some v:=by simp[World.cell?,h.cR]
theorem cU.form(h:cU base w b v ps):∃a c,v=.slice a ps.length c:=by
 obtain⟨a,c,e⟩:=h.rows.form;exact⟨a,c,by rw[e,ag]⟩
theorem cU.fr(h:cU base w b v ps)(hf:Fr S w w')(hn:∀k,pM b v k->¬S k):cU base w' b v ps :=
 ⟨h.low,hf.keep h.cR (hn b (Or.inl rfl)),h.rows.fr hf (fun k hk=>hn k (Or.inr hk))⟩
theorem cU.dv(h:cU base w b v ps)(hf:Fr aU w w'):cU base w' b v ps:=h.fr hf (fun _ _ h=>h)
end
def dM(part:Int)(method:ai)(hs:List dP):Bool:=decide (0<=part)&&(decide (part<4)&&(kr method.data.toList&&(decide (hs.length<=40)&&hs.all fun p=>kr p.1.data.toList)))
def B7(hs:List dP)(w1:World)(i:Value)(wr:World):Prop :=
 ∃k:Nat,k<=hs.length/\i=.int .i64 k/\(hs.take k).all (fun p=>kr p.1.data.toList)=true/\Fr aU w1 wr
theorem j_(r:fe Value)(hs:List dP)(w:World)(hr:lF w r.bo hs)(hz:xn r hs) :
  Calls prog 9 #[.agg r.cells.toArray] w fun e w'=>e=.returned (.bool (dM r.part r.method hs))/\Fr aU w w':=by
 have hE:=O (show dM r.part r.method hs=(decide (0<=r.part)&&(decide (r.part<4)&&(kr r.method.data.toList&&(decide (hs.length<=40)&&hs.all fun p=>kr p.1.data.toList))))from rfl);generalize dM r.part r.method hs=res at hE ⊢;obtain⟨wb,kQ⟩:∃wb,wb=w.alloc (.cells r.cells.toArray 31):=⟨_,rfl⟩;have ux:Fr aU w wb:=by rw[kQ];exact(Fr.refl aU w).alloc _
 have zS:wb.heap[w.heap.size]?=some (.cells r.cells.toArray 31 (0,0)):=by rw[kQ];exact aB _ _
 obtain⟨ah,ch,eK⟩:=cz.form hr;rw[ag]at eK;have xu:r.cells=[.int .i64 r.part,.bool r.bg.ao,.string r.bg.host,.int .i64 r.bg.port,.bool r.o.ao,.string r.o.host,.int .i64 r.o.port,.string r.path,.string r.query,.string r.method,.slice ah hs.length ch,.bool r.dB,.string r.body]:=by unfold fe.cells;rw[eK]
 have c0:wb.cell? ⟨w.heap.size,0,none⟩=some (.int .i64 r.part):=by simp only[World.cell?,zS];rw[xu];rfl
 have c9:wb.cell? ⟨w.heap.size,9,none⟩=some (.string r.method):=by simp only[World.cell?,zS];rw[xu];rfl
 have zW:wb.cell? ⟨w.heap.size,10,none⟩=some (.slice ah hs.length ch):=by simp only[World.cell?,zS];rw[xu];rfl
 have hh:=bK hr ux;rw[eK]at hh;obtain⟨gK,mv,Dc⟩:=hz;have hlen:(hs.length:Int)<100000:=ab;have IS:=O (show∀U,Calls prog 20 #[.string r.method] U fun e w'=>e=.returned (.bool (kr r.method.data.toList))/\U=w' from fun U=>rN r.method U ab);have HH:=O hh;have HZ:=O Dc;have zX:=O ux;rw[xu]at kQ ⊢;have uy:=O kQ;rw[kQ]at c0 c9 zW;clear hr ux zS eK xu hh Dc kQ;by_cases h0:r.part<0
 ·have HR:=O (show res=false by rw[hE.o,aN ab];rfl);clear hE;go_enter func9,ntmps9;go_wp2;go_ret;exact⟨by rw[HR.o];rfl,by rw[<-uy.o];exact zX.o⟩
 by_cases h4:r.part>=4
 ·have HR:=O (show res=false by rw[hE.o,aN (show¬r.part<4 from ab),Bool.false_and,Bool.and_false]);clear hE;go_enter func9,ntmps9;go_wp2;go_ret;exact⟨by rw[HR.o];rfl,by rw[<-uy.o];exact zX.o⟩
 have la:=O (show res=(kr r.method.data.toList&&(decide (hs.length<=40)&&hs.all fun p=>kr p.1.data.toList))by rw[hE.o,aM (show 0<=r.part from ab),aM (show r.part<4 from ab)];rfl);clear hE;go_enter func9,ntmps9;go_wp2_with fail
 refine(IS.o _).mono ?_;rintro e w2⟨rfl,rfl⟩;cases Dd:kr r.method.data.toList
 ·have HR:=O (show res=false by rw[la.o,Dd];rfl);clear la;go_wp2;go_ret;exact⟨by rw[HR.o];rfl,by rw[<-uy.o];exact zX.o⟩
 by_cases KS:(hs.length:Int)>40
 ·have HR:=O (show res=false by rw[la.o,Dd,aN (show¬hs.length<=40 from ab)];rfl);clear la;go_wp2;go_ret;exact⟨by rw[HR.o];rfl,by rw[<-uy.o];exact zX.o⟩
 have yJ:=O (show res=hs.all (fun p=>kr p.1.data.toList)by rw[la.o,Dd,aM (show hs.length<=40 from ab)];rfl);clear la Dd gK mv h0 h4 hlen;go_wp2;rw[<-uy.o];go_loopw[28] (B7 hs wb) (fun i _=>hs.length-(intOf i).toNat)
 case atStart=>exact⟨0,az _,rfl,rfl,Fr.refl _ _⟩
 case round =>
  obtain⟨k,hk,rfl,fV,dU⟩:=hrel;have Gw:=O fV;clear fV;by_cases h_:k<hs.length
  ·have B8:(k:Int)<(hs.length:Int):=ab;rcases(bK HH.o dU).2 with ⟨_,_,_,e,_⟩|⟨bk,o,c,hf,h1,h2,h3,Gx⟩
   ·have e2:=ay List.length e;rw[ag]at e2;have e3:hs.length=0:=e2;omega
   ·rw[ag]at hf h1;cases hf;unfold maxLen at h2;have lx:=O (List.getElem?_eq_getElem h_);have hc:=Gx k _ (by rw[List.getElem?_map,lx.o];rfl);have zY:=hc 0 _ rfl;have B9:=hc 1 _ rfl;simp only[Nat.add_zero]at zY;have Dc:(hs[k]).1.size<100000:=(HZ.o _ (bZ h_)).1;generalize hs[k]=x at lx zY B9 Dc
    have Jf:=O (show∀U,Calls prog 20 #[.string x.1] U fun e w'=>e=.returned (.bool (kr x.1.data.toList))/\U=w' from fun U=>rN x.1 U ab);have yK:=O (dU.alloc (.cells #[.string x.1,.string x.2] 65));clear Gx hc;go_wp2_with fail
    refine(Jf.o _).mono ?_;rintro e w3⟨rfl,rfl⟩;cases hx:kr x.1.data.toList
    ·have HR:=O (show res=false by rw[yJ.o];exact ox lx.o hx);clear hx;go_wp2;go_ret;exact⟨by rw[HR.o];rfl,zX.o.trans yK.o⟩
    ·have hn:=O (lU lx.o Gw.o hx);clear hx;go_wp2;go_roundw
     case rel=>exact⟨k+1,ab,bn,hn.o,yK.o⟩
     case measure=>simp[intOf];omega
  ·have B8:¬(k:Int)<(hs.length:Int):=ab;have HR:=O (show res=true by rw[yJ.o];have h:=Gw.o;rwa [bj ab]at h);go_wp2;go_ret;exact⟨by rw[HR.o];rfl,zX.o.trans dU⟩
theorem fH(h:Fr S a w)(hg:a.heap.size<=g)(cs:Array Value):Fr S a (w.setRow g cs) :=
 ⟨h.os,h.tape,h.output,by show a.heap.size<=(w.setRow g cs).heap.size;rw[World.setRow];simp only[Array.size_modify];exact h.size,fun k hk hn=>(show(w.setRow g cs).heap[k]?=w.heap[k]? by simp[World.setRow,Array.getElem?_modify,show g≠k from ab]).trans (h.block k hk hn)⟩
theorem gI{old cs:Array Value}{t:TypeId}(h:w.heap[g]?=some (.cells old t (0,0))):(w.setRow g cs).heap[g]?=some (.cells cs t (0,0)):=by
 simp[World.setRow,Array.getElem?_modify,h]
theorem qy:(prog.info? 156).map (fun i=>(i.zero,i.size,i.bytes))=some (some (.agg C'),13,168):=af
def yA(base:Nat)(w:World)(b:Nat)(o:Nat)(g:aP aH):Prop :=
 ∃r:aP Value,(∀u∈r.cells,u.oneCell'=true)/\r.Reads (cZ base w) g/\∀(i:Nat) u,r.cells[i]?=some u->w.cell? ⟨b,o+i,none⟩=some u
theorem eS.at{gs:List (aP aH)}(h:eS base w v gs)(hk:k<gs.length) :
  ∃b c,v=.slice (some ⟨b,0,none⟩) gs.length c/\gs.length<=maxLen/\yA base w b (k*13) gs[k]:=by
 obtain⟨rs,h1,h2⟩:=h;have hl:=h2.len;obtain⟨x,hx⟩:∃x,rs[k]?=some x:=⟨_,List.getElem?_eq_getElem ab⟩;obtain⟨g,hg,hr⟩:=h2.get hx;rw[List.getElem?_eq_getElem hk]at hg;obtain rfl:=Option.some.inj hg;have lx:=h1.at;rcases h1.2.2 with ⟨_,hn⟩|⟨bk,cap,cur,hv,_⟩
 ·rw[ag]at hn;omega
 rcases lx.2 with ⟨_,_,e1,e,_⟩|⟨sG,o,c,qs,q1,q2,q3,q4⟩
 ·simp at e;rw[e]at hl;simp at hl;omega
 ·rw[hv]at qs;cases qs;rw[ag]at q1;refine⟨bk,cap,by rw[hv,ag,hl],ab,x,(h1.1 x.cells (List.mem_map.2 ⟨x,aR hx,rfl⟩)).2,hr,?_⟩;intro i u hu;have:=q4 k x.cells (by rw[List.getElem?_map,hx];rfl) i u hu;rw[Nat.zero_add]at this;exact this
def sK(base:Nat)(w:World)(gs:List (aP aH))(v:Value)(w':World):Prop:=eS base w' v gs/\∀k,v.ownBlock=some k->w.heap.size<=k
def qz(base:Nat)(w:World)(gs:List (aP aH))(e:Ending)(w':World):Prop :=
 ∃v,e=.returned v/\sK base w gs v w'/\Fr aU w w'
def BU(base:Nat)(w:World)(gs:List (aP aH))(v i:Value)(wr:World):Prop :=
 ∃(k:Nat) (rs:List (aP Value)),k<=gs.length/\i=.int .i64 k/\OwnRows w.heap.size 156 13 wr v (rs.map aP.cells)/\fo (aP.Reads (cZ base wr)) rs (gs.take k)/\Fr aU w wr
def aP.gC(r:aP Value)(d:Value):aP Value:={r with a:={r.a with dom:=d}}
theorem qA(base:Nat)(w:World)(b:Nat)(gv wv:Value)(gs:List (aC aH))(ws:List (aP aH))(h:b_ base w b gv wv gs ws)(EB:ws.length<68719476736) :
  Calls prog 59 #[.pointer (some ⟨b,0,none⟩)] w (qz base w ws):=by
 have h0:=h.c1;obtain⟨av,cv,hv⟩:=h.waits.form;subst hv;have sa:=h.lt;have fE:base<=w.heap.size:=by have:=h.low;omega
 go_enter func59,ntmps59;go_wp2;clear h0;go_loopw[3,11] (BU base w ws) (fun _ i _=>ws.length-(intOf i).toNat)
 case atStart=>exact⟨0,[],az _,rfl,aV _ _ _ _,.nil,Fr.refl _ _⟩
 case round =>
  obtain⟨k,rs,hk,rfl,bO,gm,dU⟩:=hrel;by_cases h_:k<ws.length
  ·obtain⟨bk,c,dt,EC,r,vI,hr,hcell⟩:=(h.dv dU).waits.at h_;cases dt;unfold maxLen at EC;obtain⟨ad,cd,EH⟩:=hr.2.2.2.2.2.2.2.2.2.2.rd.form;obtain⟨x,hx⟩:∃x,x=r.cells:=⟨_,rfl⟩;have BO:x.length=13:=by rw[hx];rfl
   have aF:=fun W=>run_storeCells_new (P:=prog) W 156 C' x (by rw[BO];rfl) (by rw[hx];exact vI);rw[<-hx]at hcell;have HX:=O hx;have C_:=O (sJ BO);have yB:x[12]?=some (.slice ad ws[k].a.dom.length cd):=by rw[hx, <-EH];rfl
   clear hx;obtain⟨av,cv,yz⟩:=bO.form;subst yz;rw[ag,gm.len,bE,Nat.min_eq_left hk]at bO ⊢;have mz:Fr aU wr (wr.alloc (.cells x.toArray 156)):=(Fr.refl aU wr).alloc _;have EI:(wr.alloc (.cells x.toArray 156)).heap[wr.heap.size]?=some (.cells x.toArray 156 (0,0)):=aB _ _
   have BV:(wr.alloc (.cells x.toArray 156)).cell? ⟨wr.heap.size,12,none⟩=some (.slice ad ws[k].a.dom.length cd):=by simp only[World.cell?,EI];simpa using yB
   have qx:=hr.mono (fun _ _ h=>h.dv mz);have sL:=qx.2.2.2.2.2.2.2.2.2.2;rw[EH]at sL;have CL:=O (gZ base _ _ _ sL);go_wp2_with (first|((with_reducible refine dC 14 ?_);go_must(refine wpList_load_mid rfl 156 (.tmp 13) rfl bk (k*13) rfl x _ hcell underlying156 rfl C_.o ?_))|fail)
   have Gp:=O (dU.trans mz);have mZ:=bO.alloc (.cells x.toArray 156);have jX:=gm.mono (fun _ _ h=>h.mono (fun _ _ h=>h.dv mz));have kQ:w.heap.size<=wr.heap.size:=dU.size;have EJ:=bO.lt;clear aF hcell hr bO gm dU sL mz;generalize wr.alloc (.cells x.toArray 156)=W2 at *
   refine CL.o.mono ?_;rintro e u1⟨a2,c2,rfl,qt,dt⟩;have vK:=dt.keep EI (fun h=>h);have nb:=qx.mono (fun _ _ h=>h.dv dt);have gP:=mZ.fr dt (fun _ _ h=>h);have jY:=jX.mono (fun _ _ h=>h.mono (fun _ _ h=>h.dv dt));have yC:=Gp.o.trans dt;have I9:u1.cell? ⟨wr.heap.size,12,none⟩=some (.slice ad ws[k].a.dom.length cd):=by simp only[World.cell?,vK];simpa using yB
   have f12:u1.frozen? ⟨wr.heap.size,12,none⟩=false:=by simp[World.frozen?,vK]
   have Da:=ba vK 12 (.slice a2 ws[k].a.dom.length c2);have Gq:x.toArray.setIfInBounds 12 (.slice a2 ws[k].a.dom.length c2)=(r.gC (.slice a2 ws[k].a.dom.length c2)).cells.toArray:=by rw[HX.o];rfl
   rw[Gq]at Da;have pL:jc base u1 (one wr.heap.size):=by
    rintro j rfl hj;exact⟨ab,fun c f e=>by rw[vK]at e;cases e⟩
   have ji:Fr (one wr.heap.size) u1 (u1.setCell ⟨wr.heap.size,12,none⟩ (.slice a2 ws[k].a.dom.length c2)):=(Fr.refl (one wr.heap.size) u1).setCell (p:=⟨wr.heap.size,12,none⟩) (fun _=>rfl) _;have Gr:∀j,(Value.slice av k cv).ownBlock=some j->¬one wr.heap.size j:=by
    rintro j hj rfl;have:=EJ _ hj;omega
   have gL:=yC.eC (p:=⟨wr.heap.size,12,none⟩) kQ (.slice a2 ws[k].a.dom.length c2);have zV:(r.gC (.slice a2 ws[k].a.dom.length c2)).Reads (cZ base (u1.setCell ⟨wr.heap.size,12,none⟩ (.slice a2 ws[k].a.dom.length c2))) ws[k] :=
    ⟨nb.1,nb.2.1,nb.2.2.1,nb.2.2.2.1,nb.2.2.2.2.1,nb.2.2.2.2.2.1,nb.2.2.2.2.2.2.1,nb.2.2.2.2.2.2.2.1,nb.2.2.2.2.2.2.2.2.1,nb.2.2.2.2.2.2.2.2.2.1,qt.fr ji pL⟩
   have eA:=gP.fr ji Gr;have ou:=jY.mono (fun _ _ h=>h.mono (fun _ _ h=>h.fr ji pL));have xl:∀u∈(r.gC (.slice a2 ws[k].a.dom.length c2)).cells,u.oneCell'=true:=by
    intro u hu;simp only[aP.cells,aP.gC,aD,aZ,ct]at hu;rcases hu with rfl|rfl|rfl|rfl|rfl|rfl|rfl|rfl|rfl|rfl|rfl|rfl|rfl<;>rfl
   obtain⟨y,hy⟩:∃y,y=(r.gC (.slice a2 ws[k].a.dom.length c2)).cells:=⟨_,rfl⟩;have vn:y.length=13:=by rw[hy];rfl
   rw[<-hy]at xl Da;have HY:=O hy;have yD:=O Da;have I_:=O (sJ vn);have jr:=O eA;have BP:=mP y C' (by rw[vn];rfl);have I7:w.heap.size<=(u1.setCell ⟨wr.heap.size,12,none⟩ (.slice a2 ws[k].a.dom.length c2)).heap.size:=gL.size;have kU:=O (show(u1.setCell ⟨wr.heap.size,12,none⟩ (.slice a2 ws[k].a.dom.length c2)).heap.size=u1.heap.size by simp[World.setCell]);have I':w.heap.size<=u1.heap.size:=yC.size
   have xk:=ou.len;rw[bE,Nat.min_eq_left hk]at xk;have xf:(rs.map aP.cells).length<68719476736:=by rw[ag,xk];omega
   have sM:=O zV;have BW:=O ou;have EK:=O gL;clear xk nb qx mZ gP jX jY EI vK pL ji Gr qt Gq hy yB BV CL eA ou zV gL yC dt Da Gp EH
   go_wp2_with (first|((with_reducible refine dC 22 ?_);go_must(refine wpList_load_row rfl 156 (.tmp 5) rfl wr.heap.size rfl _ y.toArray (0,0) _ yD.o underlying156 rfl (by rw[bb];exact I_.o) ?_))|(at_builtin;go_must(refine fM rfl _ _ 99 156 rfl 13 168 (.agg C') underlying99 qy rfl ae ae w.heap.size (.slice av k cv) (rs.map aP.cells) rfl (jr.o.alloc _) u1.heap.size 1 y rfl vn xl (fun i u hi=>by rw[<-kU.o,World.cell?_alloc_mark];simpa using hi) xf cw ?_);intro v' w4 eA zU))
   have nL:=Fr.pH _ zU;have kD:=jr.o.off (base:=base) fE ae;rw[HY.o]at eA;refine⟨⟨k+1,rs++[r.gC (.slice a2 ws[k].a.dom.length c2)],ab,bn,by rw[bI];exact eA,?_,EK.o.step nL (fun j hj hS=>by have h2:=jr.o.block j hS;omega)⟩,by simp[intOf];omega⟩;rw[gY (List.getElem?_eq_getElem h_)];exact(BW.o.mono (fun _ _ h=>h.mono (fun _ _ h=>h.fr nL kD))).app (.cons (sM.o.mono (fun _ _ h=>h.fr nL kD)) .nil)
  ·rw[bj ab]at gm;obtain⟨av,cv,yz⟩:=bO.form;subst yz;go_wp2;go_ret;exact⟨_,rfl,⟨⟨rs,bO.up fE,gm⟩,bO.block⟩,dU⟩
def ng(base:Nat)(w:World)(gs:List (aC aH))(ws:List (aP aH))(e:Ending)(w':World):Prop :=
 ∃b gv wv,e=.returned (.pointer (some ⟨b,0,none⟩))/\b_ base w' b gv wv gs ws/\Fr aU w w'/\∀k,nd b gv wv k->w.heap.size<=k
theorem sN(base:Nat)(w:World)(b:Nat)(gv wv:Value)(gs:List (aC aH))(ws:List (aP aH))(h:b_ base w b gv wv gs ws)(EB:gs.length<68719476736)(Ja:ws.length<68719476736) :
  Calls prog 32 #[.pointer (some ⟨b,0,none⟩)] w (ng base w gs ws):=by
 have sa:=h.lt;have g_:=h.low;go_enter func32,ntmps32;go_wp2_with fail
 refine(oq base w b gv wv gs ws h EB).mono ?_;intro e u1 hp;obtain⟨v1,rfl,⟨EL,xm⟩,dt⟩:=hp;go_wp2_with fail
 refine(qA base u1 b gv wv gs ws (h.dv dt) Ja).mono ?_;intro e u2 hp;obtain⟨v2,rfl,⟨EM,uA⟩,gB⟩:=hp;obtain⟨a1,c1,Jb⟩:=EL.form;obtain⟨a2,c2,Jc⟩:=EM.form;subst Jb Jc;have qt:=dt.size;have vH:=gB.size;have mz:Fr aU u2 (u2.alloc (.cells #[.slice a1 gs.length c1,.slice a2 ws.length c2] 101)):=(Fr.refl aU u2).alloc _
 have HB:=O (show b_ base (u2.alloc (.cells #[.slice a1 gs.length c1,.slice a2 ws.length c2] 101)) u2.heap.size (.slice a1 gs.length c1) (.slice a2 ws.length c2) gs ws from
  ⟨ab,aB _ _,(EL.fr gB (jc.none _ _) (fun _ _ h=>h)).fr mz (jc.none _ _) (fun _ _ h=>h),EM.fr mz (jc.none _ _) (fun _ _ h=>h)⟩)
 have HF:=O ((dt.trans gB).trans mz);have HN:=O (show∀k,nd u2.heap.size (.slice a1 gs.length c1) (.slice a2 ws.length c2) k->w.heap.size<=k from fun k hk=>by
  rcases hk with rfl|hk|hk
  ·omega
  ·exact xm k hk
  ·have:=uA k hk;omega)
 clear EL EM xm uA mz h;go_wp2;go_ret;exact⟨_,_,_,rfl,HB.o,HF.o,HN.o⟩
def EN(p:ai):ai:=p.extract 0 (Lib.lastIndexByte p 47+1).toNat
def yE(a:eh aH)(proxy:Bool)(path:ai):aH :=
 if proxy then [⟨#[47]⟩]else if a.scheme≠1/\a.dom.length=0 then [⟨#[47]⟩]else if a.scheme=1 then [EN path]else a.dom
theorem lV(base:Nat)(w:World)(b:Nat)(v:Value)(ps:List eV)(h:cU base w b v ps)(hlen:ps.length<1000000) :
  Calls prog 60 #[.pointer (some ⟨b,0,none⟩)] w fun e w'=>∃v',e=.returned v'/\OwnRows w.heap.size 179 12 w' v' (ps.map eV.cells)/\Fr aU w w':=by
 obtain⟨av,cv,hv⟩:=h.form;subst hv;have c0:=h.c0;have hc:=O (vM _ _ w h.rows.at (by rw[ag];omega));clear h;go_enter func60,ntmps60;go_wp2_with fail
 refine hc.o.mono ?_;rintro e u⟨v',rfl,ho,hf⟩;obtain⟨a',c',qs⟩:=ho.form;subst qs;rw[ag]at ho;have HO:=O ho;clear ho;go_wp2;go_ret;exact⟨_,rfl,HO.o,hf⟩
def eV.BZ(r:gb)(p:eV):Bool:=p.bg.jo r.bg&&(p.o.jo r.o&&(p.path.toList==r.path.toList&&p.query.toList==r.query.toList))
def eV.B0(o:ef)(p:eV):Bool:=p.bg.jo o||p.o.jo o
def ov(o:ef)(proxy:Bool)(g:aP aH):Bool:=g.o.jo o&&g.proxy==proxy
def gq(o:ef)(proxy:Bool):List (aP aH)->List (aP aH)×Option (aP aH)
 |[]=>([],none)
 |g :: l=>if ov o proxy g then(l,some g)else(g :: (gq o proxy l).1,(gq o proxy l).2)
theorem l5(base:Nat)(w:World)(b:Nat)(v:Value)(ps:List eV)(h:cU base w b v ps)(hlen:ps.length<1000000) :
  Calls prog 33 #[.pointer (some ⟨b,0,none⟩)] w fun e w'=>∃b' v',e=.returned (.pointer (some ⟨b',0,none⟩))/\cU w.heap.size w' b' v' ps/\Fr aU w w':=by
 have HL:=O (lV base w b v ps h hlen);clear h;go_enter func33,ntmps33;go_wp2_with fail
 refine HL.o.mono ?_;rintro e u⟨v',rfl,ho,hf⟩;have mz:Fr aU u (u.alloc (.cells #[v'] 104)):=(Fr.refl aU u).alloc _;have HR:=O (show cU w.heap.size (u.alloc (.cells #[v'] 104)) u.heap.size v' ps from⟨hf.size,aB _ _,ho.fr mz (fun _ _ h=>h)⟩);have HF:=O (hf.trans mz);obtain⟨a',c',qs⟩:=ho.form;rw[ag]at qs;subst qs;clear ho HL hf mz;go_wp2;go_ret;exact⟨_,_,rfl,HR.o,HF.o⟩
def ow(ws:List (aP aH))(m:aP aH):List (aP aH) :=
 let l:=(gq m.o m.proxy ws).1++[m]
 l.drop (l.length-8)
theorem sO(ws:List (aP aH))(m:aP aH):(ow ws m).length<=8:=by
 unfold ow;simp only[bX];omega
structure cy where
 bC:List (aC aH)
 waits:List (aP aH)
 book:List eV
 cO:List (ef×Int)
structure bu where
 part:Nat->cy
 now:Int
structure df where
 what:Int
 part:Int
 bg:ef
 o:ef
 path:ai
 query:ai
 method:ai
 bo:List dP
 dB:Bool
 body:ai
 proxy:Bool
 text:ai
 user:ai
 pass:ai
 aW:ai
 cert:Int
 all:Bool
 n:Int
structure dG where
 what:Int
 head:ai
 cert:Int
def df.ak(o:df):gb:=⟨o.bg,o.o,o.path,o.query,o.method,o.bo,o.dB⟩
def jZ:cy:=⟨[],[],[],[]⟩
def lW:bu:=⟨fun _=>jZ,0⟩
def bu.set(w:bu)(k:Nat)(p:cy):bu:={w with part:=fun i=>if i=k then p else w.part i}
def rep(n:Int):dG:=⟨n,.empty,0⟩
def df.ER(o:df)(g:aC aH):jU:=⟨decide (g.a.scheme=3),g.a.eP,g.a.cj,g.a.dk,g.a.iI,g.user,g.pass,lD o.method,vF o.path o.query,o.body,o.aW,g.count.toNat⟩
def yF(g:aC aH)(o:df):Option ai :=
 if g.a.scheme=1 then
  (if 0<=Lib.indexByte g.user.data.toList 58 then none else if xe g.user&&xe g.pass then some (yp g.user g.pass)else none)
 else if((g.a.scheme=2\/g.a.scheme=3)/\(g.a.iI.data.toList=[]\/g.a.iI.data.toList=rU\/g.a.iI.data.toList=x8))/\(1<=g.count/\g.count<=4294967295)/\(xd g.a.scheme g.a.e9 (o.ER g)).fair=true then
  some (bA (xd g.a.scheme g.a.e9 (o.ER g)).text)
 else none
def xp(gs:List (aC aH))(o:ef)(proxy:Bool)(cj:ai):List (aC aH):=gs.filter (fun x=>!sI o proxy cj x)
def jy(p:cy)(o:df):cy×dG :=
 match ot p.bC o.o o.proxy o.path with
 |(gs,.error _)=>({p with bC:=gs},rep 2)
 |(gs,.ok g) =>
  match yF g o with
  |none=>({p with bC:=xp gs g.o g.proxy g.a.cj},rep 2)
  |some s=>({p with bC:=gs},⟨1,s,0⟩)
def ES(gs:List (aC aH))(o:ef)(proxy:Bool)(cj:ai):Option (aC aH):=gs.find? (sI o proxy cj)
def oy(a:eh aH)(g:Option (aC aH)):Option (aC aH) :=
 match g with
 |some g=>if a.fx&&(a.scheme==g.a.scheme&&a.dk.toList !=g.a.dk.toList)then some {g with a:=a,count:=0}else none
 |none=>none
def ij(p:cy)(o:df):cy×dG :=
 match kJ o.text.data.toList with
 | .error _=>(p,rep 7)
 | .ok l =>
  if 0<(jb l).scheme then
   match oy (jb l) (ES p.bC o.o o.proxy (jb l).cj)with
   |some g=>({p with bC:=lT p.bC g},rep 1)
   |none=>({p with bC:=xp p.bC o.o o.proxy (jb l).cj,waits:=ow p.waits ⟨o.o,o.proxy,o.path,jb l⟩},rep 3)
  else(p,rep 2)
def gD(p:cy)(o:df):cy×dG :=
 match gq o.o o.proxy p.waits with
 |(ws,none)=>({p with waits:=ws},rep 2)
 |(ws,some x)=>({p with waits:=ws,bC:=lT p.bC ⟨x.o,x.proxy,o.user,o.pass,x.a,0,yE x.a x.proxy x.path⟩},rep 1)
def ik(p:cy)(now:Int)(o:df):cy×dG :=
 match vq o.text.data.toList with
 | .error _=>(p,rep 7)
 | .ok l =>
  match ym o.ak (AY o.bg.cH) l now with
  | .error _=>({p with book:=p.book.filter (fun q=>!q.BZ o.ak)},rep 2)
  | .ok m=>({p with book:=lG p.book m now},rep 1)
def yG(o:ef)(l:List (ef×Int)):List (ef×Int):=l.filter (fun c=>!c.1.jo o)
def sQ(l:List (ef×Int))(o:ef)(n:Int):List (ef×Int) :=
 (yG o l++[(o,n)]).drop ((yG o l++[(o,n)]).length-8)
def jz(p:cy)(o:df):cy×dG :=
 if o.cert<0 then(p,rep 7)else({p with cO:=sQ p.cO o.o o.cert},rep 1)
def B1(p:cy)(o:df):dG :=
 match p.cO.find? (fun c=>c.1.jo o.o)with
 |some c=>⟨1,.empty,c.2⟩
 |none=>rep 3
def lX(p:cy)(o:ef):cy:={p with bC:=p.bC.filter (fun g=>!I8 o g),waits:=p.waits.filter (fun g=>!EG o g)}
def yH(p:cy)(o:ef):cy:={lX p o with book:=p.book.filter (fun q=>!q.B0 o),cO:=yG o p.cO}
def pN(p:cy)(o:df):cy×dG :=
 if o.all&&o.what==9 then(jZ,rep 1)
 else if o.what==9 then(yH p o.o,rep 1)else(lX p o.o,rep 1)
def nM(p:cy)(now:Int)(o:df):cy×dG :=
 if o.what=1 then jy p o
 else if o.what=2 then ij p o
 else if o.what=3 then gD p o
 else if o.what=4 then(p,rep (if nY p.book o.ak now then 5 else 4))
 else if o.what=5 then ik p now o
 else if o.what=6 then(p,B1 p o)
 else if o.what=7 then jz p o
 else pN p o
def df.sR(o:df):Bool:=decide (0<=o.part)&&(decide (o.part<4)&&(kr o.method.data.toList&&(decide (o.bo.length<=40)&&o.bo.all fun p=>kr p.1.data.toList)))
def df.right(o:df):Bool :=
 decide (1<=o.what)&&(decide (o.what<=10)&&(o.sR&&(dc o.bg&&(dc o.o&&(decide (o.path.size<=200)&&(o.path.data.toList.head?==some 47&&decide (o.text.size<=3000)))))))
def fX(w:bu)(o:df):bu×dG :=
 if o.right then
  if o.what=10 then
   if o.n<0\/1099511627776-w.now<o.n then(w,rep 7)else({w with now:=w.now+o.n},rep 1)
  else(w.set o.part.toNat (nM (w.part o.part.toNat) w.now o).1,(nM (w.part o.part.toNat) w.now o).2)
 else(w,rep 7)
def bd(o:df):Nat×Bool :=
 if o.right then
  if o.what=1\/o.what=2\/o.what=3\/o.what=8 then(1,true)
  else if o.what=4 then(10,false)
  else if o.what=5 then(10,true)
  else if o.what=6 then(4,false)
  else if o.what=7 then(4,true)
  else if o.what=10 then(8,true)
  else(7,true)
 else(0,false)
theorem bu.sS(w:bu)(k:Nat)(p:cy):(w.set k p).part k=p:=by unfold bu.set;simp
theorem bu.pO(w:bu)(p:cy)(h:i≠k):(w.set k p).part i=w.part i:=by unfold bu.set;simp[h]
theorem pQ{w:bu}{o:df}(h:o.right=false):fX w o=(w,rep 7):=by unfold fX;rw[h];rfl
theorem ni{w:bu}{o:df}(h:o.right=true)(hw:o.what≠10):fX w o=(w.set o.part.toNat (nM (w.part o.part.toNat) w.now o).1,(nM (w.part o.part.toNat) w.now o).2):=by
 unfold fX;rw[aq h,aj hw]
theorem j0{w:bu}{o:df}(h:o.right=true)(hw:o.what=10):fX w o=if o.n<0\/1099511627776-w.now<o.n then(w,rep 7)else({w with now:=w.now+o.n},rep 1):=by
 unfold fX;rw[aq h,aq hw]
theorem eb{o:df}(h:o.right=true):0<=o.part/\o.part<4:=by
 unfold df.right df.sR at h;simp only[aY,cE]at h;exact⟨h.2.2.1.1,h.2.2.1.2.1⟩
def gR(ws:List (aP aH)):Prop:=ws.Pairwise fun x y=>ov x.o x.proxy y=false
theorem j3{x:aP aH}:ov o proxy x=true↔x.o=o/\x.proxy=proxy:=by
 unfold ov;rw[aY,ef.uZ,beq_iff_eq]
theorem eW(o:ef)(proxy:Bool):∀ws:List (aP aH),(gq o proxy ws).1.Sublist ws
 |[]=>List.Sublist.slnil
 |g :: l=>by
  rw[gq];split
  ·exact List.sublist_cons_self _ _
  ·exact(eW o proxy l).cons_cons _
theorem j4:∀ {ws:List (aP aH)},gR ws->∀x∈(gq o proxy ws).1,ov o proxy x=false
 |[],_,x,hx=>by cases hx
 |g :: l,hu,x,hx=>by
  have Gs:=List.pairwise_cons.1 hu;rw[gq]at hx;cases hg:ov o proxy g
  ·rw[hg]at hx;simp only[Bool.false_eq_true,if_false]at hx;rcases aD.1 hx with rfl|hx
   ·exact hg
   ·exact j4 Gs.2 x hx
  ·rw[hg,aq rfl]at hx;have hx:x∈l:=hx;obtain⟨e1,e2⟩:=j3.1 hg;have:=Gs.1 x hx;rw[e1,e2]at this;exact this
theorem gR.sub{ws l:List (aP aH)}(h:gR ws)(hs:l.Sublist ws):gR l:=List.Pairwise.sublist hs h
theorem gR.ask{ws:List (aP aH)}(h:gR ws)(m:aP aH):gR (ow ws m):=by
 unfold ow;refine gR.sub (ws:=(gq m.o m.proxy ws).1++[m]) ?_ (List.drop_sublist _ _);unfold gR;rw[List.pairwise_append];refine⟨h.sub (eW _ _ _),List.pairwise_singleton _ _,fun x hx y hy=>?_⟩;rw[aG]at hy;subst hy;have:=j4 h x hx;rw[Bool.eq_false_iff]at this ⊢;intro e;obtain⟨e1,e2⟩:=j3.1 e;exact this (j3.2 ⟨e1.symm,e2.symm⟩)
def kE(gs:List (aC aH)):Prop:=∀g∈gs,0<=g.count
structure fB (p:cy):Prop where
 uniq:gR p.waits
 nat:kE p.bC
 my:p.bC.length<=8/\p.waits.length<=8/\p.book.length<=32/\p.cO.length<=8
theorem fB.no:fB jZ:=⟨List.Pairwise.nil,fun _ h=>(by cases h),ae⟩
theorem kE.filter{gs:List (aC aH)}(h:kE gs)(f:aC aH->Bool):kE (gs.filter f):=fun g hg=>h g (bB.1 hg).1
theorem kE.put{gs:List (aC aH)}(h:kE gs){g:aC aH}(hg:0<=g.count):kE (lT gs g):=by
 unfold lT;intro x hx;have hx:=bU hx;rcases aE.1 hx with hx|hx
 ·exact h x (bB.1 hx).1
 ·rw[aG]at hx;rw[hx];exact hg
theorem nj(gs:List (aC aH))(g:aC aH):(lT gs g).length<=8/\1<=(lT gs g).length:=by
 unfold lT;simp only[bX,aS,bR];omega
theorem vO{gs:List (aC aH)}(h:kE gs)(o:ef)(proxy:Bool)(path:ai):kE (ot gs o proxy path).1/\(ot gs o proxy path).1.length<=gs.length:=by
 unfold ot;split
 ·split
  ·rename_i g hg;have hk:=(List.getElem?_eq_some_iff.1 hg).1;have hl:kE (gs.take (jh gs o proxy path).toNat++gs.drop ((jh gs o proxy path).toNat+1)):=fun x hx=>by
    rcases aE.1 hx with hx|hx
    ·exact h x (List.mem_of_mem_take hx)
    ·exact h x (bU hx)
   simp only;split
   ·refine⟨hl,?_⟩;simp only[aS,bE,bX];omega
   ·refine⟨fun x hx=>?_,?_⟩
    ·rcases aE.1 hx with hx|hx
     ·exact hl x hx
     ·rw[aG]at hx;rw[hx];have:=h g (aR hg);show 0<=g.count+1;omega
    ·simp only[aS,bE,bX,bR];omega
  ·exact⟨h,ar _⟩
 ·exact⟨h,ar _⟩
theorem fB.nM{p:cy}(h:fB p)(now:Int)(o:df):fB (nM p now o).1:=by
 obtain⟨hu,hn,f1,f2,f3,f4⟩:=h;unfold Go.Proofs.YtpkkncoddhkfkaaGreatDoor.nM;by_cases h1:o.what=1
 ·rw[aq h1];have hU:=vO hn o.o o.proxy o.path;unfold jy;split
  ·rename_i gs e he;rw[he]at hU;exact⟨hu,hU.1,au hU.2 f1,f2,f3,f4⟩
  ·rename_i gs g he;rw[he]at hU;split
   ·exact⟨hu,hU.1.filter _,au (bc _ _) (au hU.2 f1),f2,f3,f4⟩
   ·exact⟨hu,hU.1,au hU.2 f1,f2,f3,f4⟩
 rw[aj h1];by_cases h2:o.what=2
 ·rw[aq h2];unfold ij;split
  ·exact⟨hu,hn,f1,f2,f3,f4⟩
  ·rename_i l _;split
   ·split
    ·rename_i g hg;have hc:0<=g.count:=by
      unfold oy at hg;split at hg
      ·split at hg
       ·cases hg;exact bV _
       ·cases hg
      ·cases hg
     exact⟨hu,hn.put hc,(nj _ _).1,f2,f3,f4⟩
    ·exact⟨hu.ask _,hn.filter _,au (bc _ _) f1,sO _ _,f3,f4⟩
   ·exact⟨hu,hn,f1,f2,f3,f4⟩
 rw[aj h2];by_cases h3:o.what=3
 ·rw[aq h3];have hs:=eW o.o o.proxy p.waits;unfold gD;split
  ·rename_i ws e;rw[e]at hs;exact⟨hu.sub hs,hn,f1,au hs.length_le f2,f3,f4⟩
  ·rename_i ws x e;rw[e]at hs;exact⟨hu.sub hs,hn.put (bV _),(nj _ _).1,au hs.length_le f2,f3,f4⟩
 rw[aj h3];by_cases h4:o.what=4
 ·rw[aq h4];exact⟨hu,hn,f1,f2,f3,f4⟩
 rw[aj h4];by_cases h5:o.what=5
 ·rw[aq h5];unfold ik;split
  ·exact⟨hu,hn,f1,f2,f3,f4⟩
  ·split
   ·exact⟨hu,hn,f1,f2,au (bc _ _) f3,f4⟩
   ·exact⟨hu,hn,f1,f2,mN _ _ _,f4⟩
 rw[aj h5];by_cases h6:o.what=6
 ·rw[aq h6];exact⟨hu,hn,f1,f2,f3,f4⟩
 rw[aj h6];by_cases h7:o.what=7
 ·rw[aq h7];unfold jz;split
  ·exact⟨hu,hn,f1,f2,f3,f4⟩
  ·refine⟨hu,hn,f1,f2,f3,?_⟩;show(sQ p.cO o.o o.cert).length<=8;unfold sQ;simp only[bX];omega
 rw[aj h7];unfold pN;split
 ·exact fB.no
 ·have vP:fB (lX p o.o):=⟨hu.sub List.filter_sublist,hn.filter _,au (bc _ _) f1,au (bc _ _) f2,f3,f4⟩;split
  ·exact⟨vP.uniq,vP.nat,vP.my.1,vP.my.2.1,au (bc _ _) f3,au (bc _ _) f4⟩
  ·exact vP
structure j5 (w:bu):Prop where
 part:∀k,fB (w.part k)
 now:0<=w.now/\w.now<=1099511627776
theorem j5.new:j5 lW:=⟨fun _=>fB.no,ae,ae⟩
theorem j5.fX{w:bu}(h:j5 w)(o:df):j5 (fX w o).1:=by
 cases hr:o.right
 ·rw[pQ hr];exact h
 ·by_cases hw:o.what=10
  ·rw[j0 hr hw];split
   ·exact h
   ·rename_i hn;refine⟨h.part,?_⟩;show 0<=w.now+o.n/\w.now+o.n<=1099511627776;have:=h.now;omega
  ·rw[ni hr hw];refine⟨fun k=>?_,h.now⟩;by_cases hk:k=o.part.toNat
   ·subst hk;rw[bu.sS];exact(h.part _).nM _ _
   ·rw[bu.pO _ _ hk];exact h.part k
def xq(c:ef×Int):List Value:=[.bool c.1.ao,.string c.1.host,.int .i64 c.1.port,.int .i64 c.2]
structure bh where
 b:Nat
 gv:Value
 wv:Value
 k:Nat
 kv:Value
 cv:Value
def bh.cells(v:bh):List Value:=[.pointer (some ⟨v.b,0,none⟩),.pointer (some ⟨v.k,0,none⟩),v.cv]
structure cS (base:Nat) (w:World) (v:bh) (p:cy):Prop where
 lZ:b_ base w v.b v.gv v.wv p.bC p.waits
 book:cU base w v.k v.kv p.book
 cO:OwnRows base 109 4 w v.cv (p.cO.map xq)
def bh.eT(v:bh):Nat->Prop:=fun i=>nd v.b v.gv v.wv i\/pM v.k v.kv i\/own v.cv i
section
variable {base : Nat} {w w' : World} {v : bh} {p : cy}
theorem b_.ek{gs:List (aC aH)}{ws:List (aP aH)}(h:b_ base w b gv wv gs ws)(hi:nd b gv wv i) :
  ∃c t,w.heap[i]?=some (.cells c t (0,0))/\(t=101\/t=137\/t=156):=by
 rcases hi with rfl|hi|hi
 ·exact⟨_,_,h.cR,Or.inl rfl⟩
 ·obtain⟨c,e⟩:=h.BQ hi;exact⟨_,_,e,Or.inr (Or.inl rfl)⟩
 ·obtain⟨c,e⟩:=h.BR hi;exact⟨_,_,e,Or.inr (Or.inr rfl)⟩
theorem cU.ek{ps:List eV}(h:cU base w b bv ps)(hi:pM b bv i) :
  ∃c t,w.heap[i]?=some (.cells c t (0,0))/\(t=104\/t=179):=by
 rcases hi with rfl|hi
 ·exact⟨_,_,h.cR,Or.inl rfl⟩
 ·obtain⟨c,e⟩:=h.rows.xo hi;exact⟨_,_,e,Or.inr rfl⟩
theorem b_.eu{gs:List (aC aH)}{ws:List (aP aH)}(h:b_ base w b gv wv gs ws)(hi:nd b gv wv i):base<=i:=by
 rcases hi with rfl|hi|hi
 ·exact h.low
 ·exact h.EE hi
 ·exact h.EF hi
theorem cU.eu{ps:List eV}(h:cU base w b bv ps)(hi:pM b bv i):base<=i:=by
 rcases hi with rfl|hi
 ·exact h.low
 ·exact h.rows.block _ hi
theorem cS.ek(h:cS base w v p)(hi:v.eT i) :
  ∃c t,w.heap[i]?=some (.cells c t (0,0))/\(t=101\/t=137\/t=156\/t=104\/t=179\/t=109):=by
 rcases hi with hi|hi|hi
 ·obtain⟨c,t,e,ht⟩:=h.lZ.ek hi;exact⟨c,t,e,by rcases ht with rfl|rfl|rfl<;>simp⟩
 ·obtain⟨c,t,e,ht⟩:=h.book.ek hi;exact⟨c,t,e,by rcases ht with rfl|rfl<;>simp⟩
 ·obtain⟨c,e⟩:=h.cO.xo hi;exact⟨c,_,e,aK⟩
theorem cS.eu(h:cS base w v p)(hi:v.eT i):base<=i:=by
 rcases hi with hi|hi|hi
 ·exact h.lZ.eu hi
 ·exact h.book.eu hi
 ·exact h.cO.block _ hi
theorem cS.fy(h:cS base w v p)(hi:v.eT i):i<w.heap.size:=by
 obtain⟨c,t,e,_⟩:=h.ek hi;exact aJ e
theorem cS.off(h:cS base w v p):jc base w v.eT:=fun i hi _=>by
 refine⟨h.eu hi,fun c f e=>?_⟩;obtain⟨c',t,e',ht⟩:=h.ek hi;rw[e]at e';cases e';revert ht;decide
theorem cS.fr(h:cS base w v p)(hf:Fr S w w')(ho:jc base w S)(hn:∀i,v.eT i->¬S i):cS base w' v p :=
 ⟨h.lZ.fr hf ho (hn _ (Or.inl (Or.inl rfl))) (fun _ hk=>hn _ (Or.inl (Or.inr (Or.inl hk)))) (fun _ hk=>hn _ (Or.inl (Or.inr (Or.inr hk)))),
  h.book.fr hf (fun _ hk=>hn _ (Or.inr (Or.inl hk))),h.cO.fr hf (fun _ hk=>hn _ (Or.inr (Or.inr hk)))⟩
theorem cS.dv(h:cS base w v p)(hf:Fr aU w w'):cS base w' v p:=h.fr hf (jc.none _ _) (fun _ _ h=>h)
end
def ec(pv:Nat->bh)(now:Int):List Value:=(pv 0).cells++((pv 1).cells++((pv 2).cells++((pv 3).cells++[.int .i64 now])))
def iV(pv:Nat->bh)(i:Nat)(v:bh):Nat->bh:=fun j=>if j=i then v else pv j
def qF(cs:List Value)(o:Nat)(v:bh):List Value:=((cs.set o (.pointer (some ⟨v.b,0,none⟩))).set (o+1) (.pointer (some ⟨v.k,0,none⟩))).set (o+2) v.cv
theorem gG(pv:Nat->bh)(i:Nat)(v:bh):iV pv i v i=v:=by unfold iV;simp
theorem fg(pv:Nat->bh){j:Nat}(v:bh)(h:j≠i):iV pv i v j=pv j:=by unfold iV;simp[h]
theorem oA(pv:Nat->bh)(now:Int)(hi:i<4)(v:bh):qF (ec pv now) (i*3) v=ec (iV pv i v) now:=by
 unfold qF ec iV bh.cells
 match i,hi with
 |0,_=>rfl
 |1,_=>rfl
 |2,_=>rfl
 |3,_=>rfl
theorem gH(pv:Nat->bh)(now:Int)(hi:i<4):(ec pv now)[i*3]?=some (.pointer (some ⟨(pv i).b,0,none⟩))/\(ec pv now)[i*3+1]?=some (.pointer (some ⟨(pv i).k,0,none⟩))/\(ec pv now)[i*3+2]?=some (pv i).cv:=by
 unfold ec bh.cells
 match i,hi with
 |0,_=>exact⟨rfl,rfl,rfl⟩
 |1,_=>exact⟨rfl,rfl,rfl⟩
 |2,_=>exact⟨rfl,rfl,rfl⟩
 |3,_=>exact⟨rfl,rfl,rfl⟩
theorem oB(pv:Nat->bh)(now:Int):(ec pv now)[12]?=some (.int .i64 now):=rfl
theorem gT(pv:Nat->bh)(now n:Int):(ec pv now).set 12 (.int .i64 n)=ec pv n:=rfl
structure aQ (base:Nat) (w:World) (B:Nat) (pv:Nat->bh) (x:bu):Prop where
 low:base<=B
 cR:w.heap[B]?=some (.cells (ec pv x.now).toArray 88 (0,0))
 part:∀i,i<4->cS base w (pv i) (x.part i)
 apart:∀i j,i<4->j<4->i≠j->∀k,(pv i).eT k->¬(pv j).eT k
def dJ(B:Nat)(pv:Nat->bh):Nat->Prop:=fun k=>k=B\/∃i,i<4/\(pv i).eT k
def aL(base:Nat)(w:World)(B:Nat)(pv:Nat->bh)(x:bu)(w':World):Prop :=
 ∃s4,aQ base w' B s4 x/\Fr (dJ B pv) w w'/\∀k,dJ B s4 k->dJ B pv k\/w.heap.size<=k
section
variable {base : Nat} {w w' : World} {B : Nat} {pv : Nat → bh} {x : bu}
theorem aQ.lt(h:aQ base w B pv x):B<w.heap.size:=aJ h.cR
theorem aQ.fy(h:aQ base w B pv x)(hk:dJ B pv k):k<w.heap.size:=by
 rcases hk with rfl|⟨i,hi,hk⟩
 ·exact h.lt
 ·exact(h.part i hi).fy hk
theorem aQ.eu(h:aQ base w B pv x)(hk:dJ B pv k):base<=k:=by
 rcases hk with rfl|⟨i,hi,hk⟩
 ·exact h.low
 ·exact(h.part i hi).eu hk
theorem aQ.j9(h:aQ base w B pv x)(hi:i<4):¬(pv i).eT B:=fun hk=>by
 obtain⟨c,t,e,ht⟩:=(h.part i hi).ek hk;rw[h.cR]at e;cases e;revert ht;decide
theorem aQ.s5(h:aQ base w B pv x):jc base w (one B):=by
 rintro k rfl _;exact⟨h.low,fun c f e=>by rw[h.cR]at e;cases e⟩
theorem aQ.off(h:aQ base w B pv x):jc base w (dJ B pv):=by
 rintro k(rfl|⟨i,hi,hk⟩)hl
 ·exact h.s5 _ rfl hl
 ·exact(h.part i hi).off k hk hl
theorem aQ.fr(h:aQ base w B pv x)(hf:Fr S w w')(ho:jc base w S)(hn:∀k,dJ B pv k->¬S k):aQ base w' B pv x :=
 ⟨h.low,hf.keep h.cR (hn B (Or.inl rfl)),fun i hi=>(h.part i hi).fr hf ho (fun k hk=>hn k (Or.inr ⟨i,hi,hk⟩)),h.apart⟩
theorem aQ.dv(h:aQ base w B pv x)(hf:Fr aU w w'):aQ base w' B pv x:=h.fr hf (jc.none _ _) (fun _ _ h=>h)
theorem aL.same(h:aQ base w B pv x)(hf:Fr aU w w'):aL base w B pv x w' :=
 ⟨pv,h.dv hf,hf.mono (fun _ _ h=>absurd h (fun h=>h)),fun _ hk=>Or.inl hk⟩
end
theorem aL.frame{pv:Nat->bh}{x x':bu}(h:aL base w B pv x' w')(h0:aQ base w B pv x)(hf:Fr aU a w)(hb:a.heap.size<=base):Fr aU a w':=by
 obtain⟨_,_,h2,_⟩:=h;refine hf.step h2 (fun k hk hw=>?_);have:=h0.eu hw;omega
structure fQ (w:World) (B:Nat) (cs:List Value) (o:Nat) (v:bh):Prop where
 cR:w.heap[B]?=some (.cells cs.toArray 88 (0,0))
 c0:cs[o]?=some (.pointer (some ⟨v.b,0,none⟩))
 c1:cs[o+1]?=some (.pointer (some ⟨v.k,0,none⟩))
 c2:cs[o+2]?=some v.cv
section
variable {w w' : World} {B o : Nat} {cs : List Value} {v : bh}
theorem fQ.cell0(h:fQ w B cs o v):w.cell? ⟨B,o,none⟩=some (.pointer (some ⟨v.b,0,none⟩)):=by simp[World.cell?,h.cR,h.c0]
theorem fQ.xr(h:fQ w B cs o v):w.cell? ⟨B,o+1,none⟩=some (.pointer (some ⟨v.k,0,none⟩)):=by simp[World.cell?,h.cR,h.c1]
theorem fQ.xt(h:fQ w B cs o v):w.cell? ⟨B,o+2,none⟩=some v.cv:=by simp[World.cell?,h.cR,h.c2]
theorem fQ.free(h:fQ w B cs o v)(k:Nat):w.frozen? ⟨B,k,none⟩=false:=by simp[World.frozen?,h.cR]
end
theorem aQ.partAt{pv:Nat->bh}{x:bu}(h:aQ base w B pv x)(hi:i<4):fQ w B (ec pv x.now) (i*3) (pv i) :=
 ⟨h.cR,(gH pv x.now hi).1,(gH pv x.now hi).2.1,(gH pv x.now hi).2.2⟩
def dG.val(r:dG):Value:=.agg #[.int .i64 r.what,.string r.head,.int .i64 r.cert]
structure dK where
 what:Int
 ak:fe Value
 proxy:Bool
 text:ai
 user:ai
 pass:ai
 aW:ai
 cert:Int
 all:Bool
 n:Int
def dK.cells(o:dK):List Value:=.int .i64 o.what :: (o.ak.cells++[.bool o.proxy,.string o.text,.string o.user,.string o.pass,.string o.aW,.int .i64 o.cert,.bool o.all,.int .i64 o.n])
def dK.cH(o:dK)(hs:List dP):df:=⟨o.what,o.ak.part,o.ak.bg,o.ak.o,o.ak.path,o.ak.query,o.ak.method,hs,o.ak.dB,o.ak.body,o.proxy,o.text,o.user,o.pass,o.aW,o.cert,o.all,o.n⟩
structure dL (w:World) (o:dK) (hs:List dP):Prop where
 bo:lF w o.ak.bo hs
 ak:xn o.ak hs
 bg:o.ak.bg.host.size<100000
 Gt:o.ak.o.host.size<100000
 path:o.ak.path.size<=2000
 query:o.ak.query.size<=2000
 method:o.ak.method.size<=5000
 body:o.ak.body.size<=5000
 text:o.text.size<100000
 user:o.user.size<=5000
 pass:o.pass.size<=5000
 aW:o.aW.size<=5000
 Gu: -9223372036854775808<=o.ak.bg.port/\o.ak.bg.port<=9223372036854775807
 Gv: -9223372036854775808<=o.ak.o.port/\o.ak.o.port<=9223372036854775807
 part: -9223372036854775808<=o.ak.part/\o.ak.part<=9223372036854775807
 what: -9223372036854775808<=o.what/\o.what<=9223372036854775807
 cert: -9223372036854775808<=o.cert/\o.cert<=9223372036854775807
 n: -9223372036854775808<=o.n/\o.n<=9223372036854775807
theorem dL.dv{o:dK}{hs:List dP}(h:dL w o hs)(hf:Fr aU w w'):dL w' o hs:={h with bo:=bK h.bo hf}
def fP(c:Nat)(P F:cy):cy:=⟨if c.testBit 0 then F.bC else P.bC,if c.testBit 0 then F.waits else P.waits,if c.testBit 1 then F.book else P.book,if c.testBit 2 then F.cO else P.cO⟩
def dH(w f:bu)(part:Int)(c:Nat):bu :=
 if 0<=part/\part<4 then{part:=fun i=>if i=part.toNat then fP c (w.part i) (f.part i)else w.part i,now:=if c.testBit 3 then f.now else w.now}else w
def k0(a:eh aH):Prop:=a.cj.size<=3000/\a.dk.size<=3000/\a.e9.size<=3000/\a.dom.length<=3001
def B6(g:aC aH):Prop:=k0 g.a/\g.user.size<=5000/\g.pass.size<=5000
theorem lY(h:gF M ps){n v:Bs}(e:iK ps n=some v):v.length<=M:=by
 unfold iK at e;cases hf:ps.find? (fun p=>ft p.1 n)with
 |none=>rw[hf]at e;cases e
 |some p =>
  rw[hf]at e;obtain rfl:p.2=v:=by simpa using e
  exact(h p (List.mem_of_find?_eq_some hf)).2
theorem pT(h:gF M ps)(n:Bs):((iK ps n).getD []).length<=M:=by
 cases e:iK ps n with
 |none=>exact az _
 |some v=>exact lY h e
theorem jk(c:UInt8):∀l:Bs,(cm c l).length<=l.length+1
 |[]=>by simp[cm]
 |x :: l=>by
  have ih:=jk c l;by_cases hx:x=c
  ·subst hx;rw[fK];simp;exact ih
  ·cases e:cm c l with
   |nil=>exact absurd e (iJ c l)
   |cons p ps =>
    rw[eJ hx e];rw[e]at ih;simp at ih ⊢; omega
theorem qD(d:Bs):(u' d).length<=d.length+1:=by
 unfold u';rw[ag];exact au (bc _ _) (jk 32 d)
theorem qE{x:kA}{a:eh aH}(hx:x.Le 3000)(h:lC x=some a):k0 a:=by
 have hp:=hx.r_;unfold lC at h;split at h
 ·cases h
 rename_i cj hr;have h1:=lY hp hr;split at h
 ·cases h;exact⟨h1,az _,az _,az _⟩
 split at h
 ·cases h
 split at h
 ·cases h
 split at h
 ·cases h
 rename_i dk hn;have h2:=lY hp hn;split at h
 ·cases h
 ·cases h;refine⟨h1,h2,pT hp lB,?_⟩;show((u' ((iK x.params jv).getD [])).map bA).length<=3001;rw[ag];have:=qD ((iK x.params jv).getD []);have:=pT hp jv;omega
theorem sY:k0 rV:=⟨az _,az _,az _,az _⟩
theorem sZ{l:List kA}(h:∀x∈l,x.Le 3000):k0 (jb l):=by
 unfold jb;rcases pS l rV with e|⟨x,hx,e⟩
 ·rw[e];exact sY
 ·exact qE (h x hx) e
theorem vS{l:List kA}(h:kJ r=.ok l):k0 (jb l):=by
 refine sZ (fun x hx=>?_);have h1:=nt h x hx;have h2:=nu h;exact⟨au h1.scheme h2,au h1.token h2,fun p hp=>⟨au (h1.r_ p hp).1 h2,au (h1.r_ p hp).2 h2⟩⟩
theorem nv{gs:List (aC aH)}{g x:aC aH}(h:x∈lT gs g):x∈gs\/x=g:=by
 unfold lT at h;have h:=bU h;rcases aE.1 h with h|h
 ·exact Or.inl (bB.1 h).1
 ·exact Or.inr (aG.1 h)
theorem nw{ws:List (aP aH)}{m x:aP aH}(h:x∈ow ws m):x∈ws\/x=m:=by
 unfold ow at h;have h:=bU h;rcases aE.1 h with h|h
 ·exact Or.inl ((eW _ _ _).subset h)
 ·exact Or.inr (aG.1 h)
theorem k_:∀ {ws:List (aP aH)} {g:aP aH},(gq o proxy ws).2=some g->g∈ws
 |[],_,h=>by cases h
 |x :: l,g,h=>by
  rw[gq]at h;cases hx:ov o proxy x
  ·rw[hx]at h;simp only[Bool.false_eq_true,if_false]at h;exact br _ (k_ h)
  ·rw[hx]at h;simp only[bD]at h;cases h;exact cq
theorem s3{gs:List (aC aH)}{path:ai}{P:aC aH->Prop}(hP:∀g,P g->P g.used)(h:∀x∈gs,P x) :
  (∀x∈(ot gs o proxy path).1,P x)/\∀g,(ot gs o proxy path).2=.ok g->P g:=by
 unfold ot;split
 ·split
  ·rename_i g hg;have hl:∀x∈gs.take (jh gs o proxy path).toNat++gs.drop ((jh gs o proxy path).toNat+1),P x:=fun x hx=>by
    rcases aE.1 hx with hx|hx
    ·exact h x (List.mem_of_mem_take hx)
    ·exact h x (bU hx)
   have Db:P g.used:=hP g (h g (aR hg));simp only;split
   ·exact⟨hl,fun g h=>by cases h⟩
   ·refine⟨fun x hx=>?_,fun g h=>by cases h;exact Db⟩;rcases aE.1 hx with hx|hx
    ·exact hl x hx
    ·rw[aG]at hx;rw[hx];exact Db
  ·exact⟨h,fun g h=>by cases h⟩
 ·exact⟨h,fun g h=>by cases h⟩
structure fC (p:cy):Prop where
 bC:∀g∈p.bC,B6 g
 waits:∀x∈p.waits,k0 x.a
theorem fC.no:fC jZ:=⟨fun _ h=>(by cases h),fun _ h=>(by cases h)⟩
theorem fC.nM{p:cy}(h:fC p)(now:Int)(o:df)(hu:o.user.size<=5000)(hp:o.pass.size<=5000):fC (nM p now o).1:=by
 obtain⟨hg,hw⟩:=h;unfold Go.Proofs.YtpkkncoddhkfkaaGreatDoor.nM;by_cases h1:o.what=1
 ·rw[aq h1];have hU:=(s3 (gs:=p.bC) (o:=o.o) (proxy:=o.proxy) (path:=o.path) (P:=B6) (fun _ h=>h) hg).1;unfold jy;split
  ·rename_i gs e he;rw[he]at hU;exact⟨hU,hw⟩
  ·rename_i gs g he;rw[he]at hU;split
   ·exact⟨fun x hx=>hU x (bB.1 hx).1,hw⟩
   ·exact⟨hU,hw⟩
 rw[aj h1];by_cases h2:o.what=2
 ·rw[aq h2];unfold ij;split
  ·exact⟨hg,hw⟩
  ·rename_i l hl;have hb:=vS hl;split
   ·split
    ·rename_i g hs;refine⟨fun x hx=>?_,hw⟩;rcases nv hx with hx|rfl
     ·exact hg x hx
     ·unfold oy at hs;split at hs
      ·rename_i g' Db;split at hs
       ·cases hs;have:=hg g' (List.mem_of_find?_eq_some Db);exact⟨hb,this.2⟩
       ·cases hs
      ·cases hs
    ·refine⟨fun x hx=>hg x (bB.1 hx).1,fun x hx=>?_⟩;rcases nw hx with hx|rfl
     ·exact hw x hx
     ·exact hb
   ·exact⟨hg,hw⟩
 rw[aj h2];by_cases h3:o.what=3
 ·rw[aq h3];have hs:=eW o.o o.proxy p.waits;unfold gD;split
  ·rename_i ws e;rw[e]at hs;exact⟨hg,fun x hx=>hw x (hs.subset hx)⟩
  ·rename_i ws x e;have hx:=k_ (o:=o.o) (proxy:=o.proxy) (ws:=p.waits) (g:=x) (by rw[e]);rw[e]at hs;refine⟨fun y hy=>?_,fun x hx=>hw x (hs.subset hx)⟩;rcases nv hy with hy|rfl
   ·exact hg y hy
   ·exact⟨hw x hx,hu,hp⟩
 rw[aj h3];by_cases h4:o.what=4
 ·rw[aq h4];exact⟨hg,hw⟩
 rw[aj h4];by_cases h5:o.what=5
 ·rw[aq h5];unfold ik;split
  ·exact⟨hg,hw⟩
  ·split
   ·exact⟨hg,hw⟩
   ·exact⟨hg,hw⟩
 rw[aj h5];by_cases h6:o.what=6
 ·rw[aq h6];exact⟨hg,hw⟩
 rw[aj h6];by_cases h7:o.what=7
 ·rw[aq h7];unfold jz;split
  ·exact⟨hg,hw⟩
  ·exact⟨hg,hw⟩
 rw[aj h7];unfold pN;split
 ·exact fC.no
 ·have vP:fC (lX p o.o):=⟨fun x hx=>hg x (bB.1 hx).1,fun x hx=>hw x (bB.1 hx).1⟩;split
  ·exact⟨vP.bC,vP.waits⟩
  ·exact vP
def j7(w:bu):Prop:=∀k,fC (w.part k)
theorem j7.new:j7 lW:=fun _=>fC.no
theorem j7.fX{w:bu}(h:j7 w)(o:df)(hu:o.user.size<=5000)(hp:o.pass.size<=5000):j7 (fX w o).1:=by
 cases hr:o.right
 ·rw[pQ hr];exact h
 ·by_cases hw:o.what=10
  ·rw[j0 hr hw];split
   ·exact h
   ·exact h
  ·rw[ni hr hw];intro k;by_cases hk:k=o.part.toNat
   ·subst hk;rw[bu.sS];exact(h _).nM _ _ hu hp
   ·rw[bu.pO _ _ hk];exact h k
theorem df.jl(o:df):o.right=(decide (1<=o.what)&&(decide (o.what<=10)&&(dM o.part o.method o.bo&&(dc o.bg&&(dc o.o&&(decide (o.path.size<=200)&&(o.path.data.toList.head?==some 47&&decide (o.text.size<=3000)))))))):=rfl
theorem ld(o:dK)(hs:List dP)(w:World)(h:dL w o hs) :
  Calls prog 18 #[.agg o.cells.toArray] w fun e w'=>e=.returned (.bool (o.cH hs).right)/\Fr aU w w':=by
 have hE:=O (show(o.cH hs).right=(decide (1<=o.what)&&(decide (o.what<=10)&&(dM o.ak.part o.ak.method hs&&(dc o.ak.bg&&(dc o.ak.o&&(decide (o.ak.path.size<=200)&&(o.ak.path.data.toList.head?==some 47&&decide (o.text.size<=3000))))))))from rfl);generalize (o.cH hs).right=res at hE ⊢;obtain⟨ah,ch,eK⟩:=cz.form h.bo;rw[ag]at eK
 have qG:o.cells=[.int .i64 o.what,.int .i64 o.ak.part,.bool o.ak.bg.ao,.string o.ak.bg.host,.int .i64 o.ak.bg.port,.bool o.ak.o.ao,.string o.ak.o.host,.int .i64 o.ak.o.port,.string o.ak.path,.string o.ak.query,.string o.ak.method,.slice ah hs.length ch,.bool o.ak.dB,.string o.ak.body,.bool o.proxy,.string o.text,.string o.user,.string o.pass,.string o.aW,.int .i64 o.cert,.bool o.all,.int .i64 o.n]:=by unfold dK.cells fe.cells;rw[eK];rfl
 have xu:o.ak.cells=[.int .i64 o.ak.part,.bool o.ak.bg.ao,.string o.ak.bg.host,.int .i64 o.ak.bg.port,.bool o.ak.o.ao,.string o.ak.o.host,.int .i64 o.ak.o.port,.string o.ak.path,.string o.ak.query,.string o.ak.method,.slice ah hs.length ch,.bool o.ak.dB,.string o.ak.body]:=by unfold fe.cells;rw[eK]
 obtain⟨w2,ks⟩:∃w2,w2=(w.alloc (.cells #[.int .i64 o.what,.int .i64 o.ak.part,.bool o.ak.bg.ao,.string o.ak.bg.host,.int .i64 o.ak.bg.port,.bool o.ak.o.ao,.string o.ak.o.host,.int .i64 o.ak.o.port,.string o.ak.path,.string o.ak.query,.string o.ak.method,.slice ah hs.length ch,.bool o.ak.dB,.string o.ak.body,.bool o.proxy,.string o.text,.string o.user,.string o.pass,.string o.aW,.int .i64 o.cert,.bool o.all,.int .i64 o.n] 35)).alloc (.cells #[.int .i64 o.ak.part,.bool o.ak.bg.ao,.string o.ak.bg.host,.int .i64 o.ak.bg.port,.bool o.ak.o.ao,.string o.ak.o.host,.int .i64 o.ak.o.port,.string o.ak.path,.string o.ak.query,.string o.ak.method,.slice ah hs.length ch,.bool o.ak.dB,.string o.ak.body] 31):=⟨_,rfl⟩
 have gB:Fr aU w w2:=by rw[ks];exact((Fr.refl aU w).alloc _).alloc _
 have k1:w2.heap[w.heap.size]?=some (.cells #[.int .i64 o.what,.int .i64 o.ak.part,.bool o.ak.bg.ao,.string o.ak.bg.host,.int .i64 o.ak.bg.port,.bool o.ak.o.ao,.string o.ak.o.host,.int .i64 o.ak.o.port,.string o.ak.path,.string o.ak.query,.string o.ak.method,.slice ah hs.length ch,.bool o.ak.dB,.string o.ak.body,.bool o.proxy,.string o.text,.string o.user,.string o.pass,.string o.aW,.int .i64 o.cert,.bool o.all,.int .i64 o.n] 35 (0,0)):=by rw[ks];exact((Fr.refl aU _).alloc _).keep (aB _ _) (fun h=>h)
 have k2:w2.heap[w.heap.size+1]?=some (.cells #[.int .i64 o.ak.part,.bool o.ak.bg.ao,.string o.ak.bg.host,.int .i64 o.ak.bg.port,.bool o.ak.o.ao,.string o.ak.o.host,.int .i64 o.ak.o.port,.string o.ak.path,.string o.ak.query,.string o.ak.method,.slice ah hs.length ch,.bool o.ak.dB,.string o.ak.body] 31 (0,0)):=by
  have h:=aB (w.alloc (.cells #[.int .i64 o.what,.int .i64 o.ak.part,.bool o.ak.bg.ao,.string o.ak.bg.host,.int .i64 o.ak.bg.port,.bool o.ak.o.ao,.string o.ak.o.host,.int .i64 o.ak.o.port,.string o.ak.path,.string o.ak.query,.string o.ak.method,.slice ah hs.length ch,.bool o.ak.dB,.string o.ak.body,.bool o.proxy,.string o.text,.string o.user,.string o.pass,.string o.aW,.int .i64 o.cert,.bool o.all,.int .i64 o.n] 35)) (.cells #[.int .i64 o.ak.part,.bool o.ak.bg.ao,.string o.ak.bg.host,.int .i64 o.ak.bg.port,.bool o.ak.o.ao,.string o.ak.o.host,.int .i64 o.ak.o.port,.string o.ak.path,.string o.ak.query,.string o.ak.method,.slice ah hs.length ch,.bool o.ak.dB,.string o.ak.body] 31)
  rw[World.size_alloc]at h;rw[ks];exact h
 have HC:=O (show∀U,Fr aU w2 U->U.cell? ⟨w.heap.size,0,none⟩=some (.int .i64 o.what)/\U.cell? ⟨w.heap.size,15,none⟩=some (.string o.text)/\U.cell? ⟨w.heap.size+1,0,none⟩=some (.int .i64 o.ak.part)/\U.cell? ⟨w.heap.size+1,1,none⟩=some (.bool o.ak.bg.ao)/\U.cell? ⟨w.heap.size+1,2,none⟩=some (.string o.ak.bg.host)/\U.cell? ⟨w.heap.size+1,3,none⟩=some (.int .i64 o.ak.bg.port)/\U.cell? ⟨w.heap.size+1,4,none⟩=some (.bool o.ak.o.ao)/\U.cell? ⟨w.heap.size+1,5,none⟩=some (.string o.ak.o.host)/\U.cell? ⟨w.heap.size+1,6,none⟩=some (.int .i64 o.ak.o.port)/\U.cell? ⟨w.heap.size+1,7,none⟩=some (.string o.ak.path)/\U.cell? ⟨w.heap.size+1,8,none⟩=some (.string o.ak.query)/\U.cell? ⟨w.heap.size+1,9,none⟩=some (.string o.ak.method)/\U.cell? ⟨w.heap.size+1,10,none⟩=some (.slice ah hs.length ch)/\U.cell? ⟨w.heap.size+1,11,none⟩=some (.bool o.ak.dB)/\U.cell? ⟨w.heap.size+1,12,none⟩=some (.string o.ak.body)from fun U hU=>by
  have j1:=hU.keep k1 (fun h=>h);have j2:=hU.keep k2 (fun h=>h);simp[World.cell?,j1,j2])
 have C1:=O (show∀U,Fr aU w2 U->Calls prog 9 #[.agg #[.int .i64 o.ak.part,.bool o.ak.bg.ao,.string o.ak.bg.host,.int .i64 o.ak.bg.port,.bool o.ak.o.ao,.string o.ak.o.host,.int .i64 o.ak.o.port,.string o.ak.path,.string o.ak.query,.string o.ak.method,.slice ah hs.length ch,.bool o.ak.dB,.string o.ak.body]] U fun e w'=>e=.returned (.bool (dM o.ak.part o.ak.method hs))/\Fr aU U w' from fun U hU=>by
  have:=j_ o.ak hs U (bK h.bo (gB.trans hU)) h.ak;rw[xu]at this;exact this)
 have C2:=O (show∀U,Calls prog 8 #[.agg #[.bool o.ak.bg.ao,.string o.ak.bg.host,.int .i64 o.ak.bg.port]] U fun e w'=>e=.returned (.bool (dc o.ak.bg))/\Fr aU U w' from fun U=>iR o.ak.bg U h.bg);have C3:=O (show∀U,Calls prog 8 #[.agg #[.bool o.ak.o.ao,.string o.ak.o.host,.int .i64 o.ak.o.port]] U fun e w'=>e=.returned (.bool (dc o.ak.o))/\Fr aU U w' from fun U=>iR o.ak.o U h.Gt);have KT:=h.path
 have KU:=h.text;have qH:=O ks;have gL:=O gB;rw[qG];clear h gB k1 k2 qG xu eK;obtain⟨a0,mA,b0,b1,b2,b3,b4,b5,b6,b7,b8,b9,xv,xx,yL⟩:=HC.o w2 (Fr.refl _ _);rw[ks]at a0 mA b0 b1 b2 b3 b4 b5 b6 b7 b8 b9 xv xx yL;clear ks;by_cases h1:o.what>=1
 rotate_left
 ·have HR:=O (show res=false by rw[hE.o,aN (show¬1<=o.what from ab)];rfl);clear hE;go_enter func18,ntmps18;go_wp2;go_ret;exact⟨by rw[HR.o];rfl,by rw[<-qH.o];exact gL.o⟩
 by_cases h2:o.what<=10
 rotate_left
 ·have HR:=O (show res=false by rw[hE.o,aN h2,Bool.false_and,Bool.and_false]);clear hE;go_enter func18,ntmps18;go_wp2;go_ret;exact⟨by rw[HR.o];rfl,by rw[<-qH.o];exact gL.o⟩
 have yJ:=O (show res=(dM o.ak.part o.ak.method hs&&(dc o.ak.bg&&(dc o.ak.o&&(decide (o.ak.path.size<=200)&&(o.ak.path.data.toList.head?==some 47&&decide (o.text.size<=3000))))))by rw[hE.o,aM h2,aM (show 1<=o.what from ab)];rfl);clear hE;go_enter func18,ntmps18;go_wp2_with fail
 rw[<-qH.o];refine(C1.o w2 (Fr.refl _ _)).mono ?_;rintro e u1⟨rfl,xy⟩;cases e1:dM o.ak.part o.ak.method hs
 ·have HR:=O (show res=false by rw[yJ.o,e1];rfl);clear yJ e1;go_wp2;go_ret;exact⟨by rw[HR.o];rfl,gL.o.trans xy⟩
 have pU:=O (show res=(dc o.ak.bg&&(dc o.ak.o&&(decide (o.ak.path.size<=200)&&(o.ak.path.data.toList.head?==some 47&&decide (o.text.size<=3000)))))by rw[yJ.o,e1];rfl);have vT:=O xy;clear yJ e1 xy a0 mA b0 b1 b2 b3 b4 b5 b6 b7 b8 b9 xv xx yL;obtain⟨a0,mA,b0,b1,b2,b3,b4,b5,b6,b7,b8,b9,xv,xx,yL⟩:=HC.o u1 vT.o;go_wp2_with fail
 refine(C2.o u1).mono ?_;rintro e u2⟨rfl,jB⟩;cases e1:dc o.ak.bg
 ·have HR:=O (show res=false by rw[pU.o,e1];rfl);clear pU e1;go_wp2;go_ret;exact⟨by rw[HR.o];rfl,gL.o.trans (vT.o.trans jB)⟩
 have xz:=O (show res=(dc o.ak.o&&(decide (o.ak.path.size<=200)&&(o.ak.path.data.toList.head?==some 47&&decide (o.text.size<=3000))))by rw[pU.o,e1];rfl);have s6:=O (vT.o.trans jB);clear pU e1 jB a0 mA b0 b1 b2 b3 b4 b5 b6 b7 b8 b9 xv xx yL;obtain⟨a0,mA,b0,b1,b2,b3,b4,b5,b6,b7,b8,b9,xv,xx,yL⟩:=HC.o u2 s6.o;go_wp2_with fail
 refine(C3.o u2).mono ?_;rintro e u3⟨rfl,yM⟩;cases e1:dc o.ak.o
 ·have HR:=O (show res=false by rw[xz.o,e1];rfl);clear xz e1;go_wp2;go_ret;exact⟨by rw[HR.o];rfl,gL.o.trans (s6.o.trans yM)⟩
 have xA:=O (show res=(decide (o.ak.path.size<=200)&&(o.ak.path.data.toList.head?==some 47&&decide (o.text.size<=3000)))by rw[xz.o,e1];rfl);have Gy:=O (s6.o.trans yM);clear xz e1 yM a0 mA b0 b1 b2 b3 b4 b5 b6 b7 b8 b9 xv xx yL;obtain⟨a0,mA,b0,b1,b2,b3,b4,b5,b6,b7,b8,b9,xv,xx,yL⟩:=HC.o u3 Gy.o;have De:=O (gL.o.trans Gy.o);by_cases h3:(o.ak.path.size:Int)<=200
 rotate_left
 ·have HR:=O (show res=false by rw[xA.o,aN (show¬o.ak.path.size<=200 from ab)];rfl);clear xA;go_wp2;go_ret;exact⟨by rw[HR.o];rfl,De.o⟩
 have Df:=O (show res=(o.ak.path.data.toList.head?==some 47&&decide (o.text.size<=3000))by rw[xA.o,aM (show o.ak.path.size<=200 from ab)];rfl);clear xA;by_cases h4:(o.ak.path.size:Int)>0
 rotate_left
 ·have HR:=O (show res=false by
   have e:o.ak.path.data.toList=[]:=aO (by have:o.ak.path.data.toList.length=o.ak.path.size:=by simp
                                           omega)
   rw[Df.o,e];rfl)
  clear Df;go_wp2;go_ret;exact⟨by rw[HR.o];rfl,De.o⟩
 have Jg:0<o.ak.path.size:=ab;have B_:=byte_at o.ak.path 0 Jg;have Gz:o.ak.path.data.toList.head?=some o.ak.path[0]:=by rw[List.head?_eq_getElem?];exact B_
 have Dg:=O (show res=(decide (o.ak.path[0]=47)&&decide (o.text.size<=3000))by
  rw[Df.o,Gz];by_cases q:o.ak.path[0]=47
  ·rw[q];rfl
  ·rw[aN q,beq_eq_false_iff_ne.2 (fun e=>q (Option.some.inj e))])
 clear Df Gz B_;by_cases q:o.ak.path[0]=47
 rotate_left
 ·have HR:=O (show res=false by rw[Dg.o,aN q];rfl);have q2:((o.ak.path[0].toNat:Int)==47)=false:=by
   rw[beq_eq_false_iff_ne];intro e;exact q (UInt8.toNat_inj.1 (by show o.ak.path[0].toNat=47;omega))
  clear Dg;go_wp2;go_ret;exact⟨by rw[HR.o];rfl,De.o⟩
 have HR:=O (show res=decide (o.text.size<=3000)by rw[Dg.o,aM q];rfl);have q2:((o.ak.path[0].toNat:Int)==47)=true:=by rw[q];rfl
 clear Dg q;go_wp2;go_ret;exact⟨by show Ending.returned (.bool (decide ((o.text.size:Int)<=3000)))=_;exact jF (by rw[HR.o];exact decide_eq_decide.2 ⟨fun h=>ab,fun h=>ab⟩),De.o⟩
theorem uj(base:Nat)(w:World)(B:Nat)(pv:Nat->bh)(x:bu)(h:aQ base w B pv x) :
  Calls prog 16 #[.pointer (some ⟨B,0,none⟩)] w fun e w'=>e=.returned (.int .i64 x.now)/\w'=w:=by
 have c:w.cell? ⟨B,12,none⟩=some (.int .i64 x.now):=by
  simp only[World.cell?,h.cR];rfl
 clear h;go_enter func16,ntmps16;go_wp2;go_ret;exact⟨rfl,rfl⟩
theorem qB{part:Int}(h0:0<=part)(h1:part<4)(w f:bu)(c:Nat):dH w f part c={part:=fun i=>if i=part.toNat then fP c (w.part i) (f.part i)else w.part i,now:=if c.testBit 3 then f.now else w.now}:=by
 unfold dH;rw[aq ⟨h0,h1⟩]
theorem kV{o:df}(hr:o.right=false):bd o=(0,false):=by unfold bd;rw[hr];rfl
def dI(p:cy):Prop:=∀x∈p.waits,x.path.size<=5000
theorem dI.no:dI jZ:=fun _ h=>by cases h
theorem dI.same{p q:cy}(h:dI p)(e:q.waits=p.waits):dI q:=by unfold dI;rw[e];exact h
theorem dI.sub{p q:cy}(h:dI p)(e:∀x∈q.waits,x∈p.waits):dI q:=fun x hx=>h x (e x hx)
theorem dI.nM{p:cy}(h:dI p)(now:Int)(o:df)(hp:o.path.size<=5000):dI (nM p now o).1:=by
 unfold Go.Proofs.YtpkkncoddhkfkaaGreatDoor.nM;by_cases h1:o.what=1
 ·rw[aq h1];unfold jy;split
  ·exact h.same rfl
  ·split
   ·exact h.same rfl
   ·exact h.same rfl
 rw[aj h1];by_cases h2:o.what=2
 ·rw[aq h2];unfold ij;split
  ·exact h
  ·split
   ·split
    ·exact h.same rfl
    ·intro x hx;rcases nw hx with hx|rfl
     ·exact h x hx
     ·exact hp
   ·exact h
 rw[aj h2];by_cases h3:o.what=3
 ·rw[aq h3];have hs:=eW o.o o.proxy p.waits;unfold gD;split
  ·rename_i ws e;rw[e]at hs;exact h.sub (fun x hx=>hs.subset hx)
  ·rename_i ws x e;rw[e]at hs;exact h.sub (fun x hx=>hs.subset hx)
 rw[aj h3];by_cases h4:o.what=4
 ·rw[aq h4];exact h
 rw[aj h4];by_cases h5:o.what=5
 ·rw[aq h5];unfold ik;split
  ·exact h
  ·split
   ·exact h.same rfl
   ·exact h.same rfl
 rw[aj h5];by_cases h6:o.what=6
 ·rw[aq h6];exact h
 rw[aj h6];by_cases h7:o.what=7
 ·rw[aq h7];unfold jz;split
  ·exact h
  ·exact h.same rfl
 rw[aj h7];unfold pN;split
 ·exact dI.no
 ·split
  ·exact h.sub (fun x hx=>(bB.1 hx).1)
  ·exact h.sub (fun x hx=>(bB.1 hx).1)
def j8(w:bu):Prop:=∀i,dI (w.part i)
theorem j8.new:j8 lW:=fun _=>dI.no
theorem j8.fX{w:bu}(h:j8 w)(o:df)(hp:o.path.size<=5000):j8 (fX w o).1:=by
 unfold Go.Proofs.YtpkkncoddhkfkaaGreatDoor.fX;split
 ·split
  ·split
   ·exact h
   ·exact h
  ·intro i;show dI ((w.set _ _).part i);unfold bu.set;simp only;split
   ·exact(h _).nM _ _ hp
   ·exact h i
 ·exact h
