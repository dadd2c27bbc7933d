/- Lemmas for the law's walk. -/
import Derived.Test.YtnckmcnffadjoaaGreatDoorPk1
import Derived.RangeFuncNested
import Derived.RangeFuncBound
import Derived.Shelf.Strings.SlTrimAscii
import Derived.Shelf.SlicesQ.Load
import Derived.Stop.LaidErr
import Derived.Lib.SmallJoins
import Derived.Lib.AppendIntMem
set_option maxRecDepth 100000
set_option maxHeartbeats 16000000
set_option linter.unusedSimpArgs false
namespace Go.Proofs.YtnckmcnffadjoaaGreatDoor
open Go.Proofs.Tryz
open Go.RowKit
variable {w w' a:World} {b i j k g:Nat} {s:aj} {S:Nat->Prop} {c x:UInt8} {l:aG} {p:UInt8->Bool} {v:Value} {ss:List aj}
def abz(n:Nat):Bool:=n==9||(decide (32<=n)&&n !=127)
def nx(c:UInt8):Bool:=abz c.toNat
theorem qf(c:UInt8)(w:World) :
  Calls prog 158 #[.int .u8 c.toNat] w fun e w'=>e=.returned (.bool (nx c))/\w=w':=by
 go_enter func158,ntmps158;go_wp2
 all_goals
  go_ret;refine⟨fx ?_,rfl⟩;rw[fa];simp[nx,abz];omega
def marks:aG:=[33,35,36,37,38,39,42,43,45,46,94,95,124,126,96]
def H9(c:UInt8):Bool:=decide (0<=Lib.indexByte marks c)
theorem T8(c:UInt8):0<=Lib.indexByte [33,35,36,37,38,39,42,43,45,46,94,95,124,126,96] c↔H9 c=true:=by
 unfold H9 marks;rw[decide_eq_true_iff]
def fY(c:UInt8):Bool:=oG c||H9 c
theorem zh(c:UInt8)(w:World) :
  Calls prog 152 #[.int .u8 c.toNat] w fun e w'=>e=.returned (.bool (fY c))/\w=w':=by
 go_enter func152,ntmps152;go_wp2_with (go_at_call 202;refine(strings_IndexByte _ _ _).mono ?_;rintro e w' ⟨rfl,rfl⟩)
 all_goals
  go_ret;refine⟨fx ?_,rfl⟩;rw[fa];simp[fY,oG,T8];cases H9 c<;>simp<;>omega
def du(w:World)(b:Nat)(s:aj)(i:Nat):Prop:=w.heap[b]?=some (.cells #[.string s,.int .i64 i] 245 (0,0))
theorem du.cell0(h:du w b s i):w.cell? ⟨b,0,none⟩=some (.string s):=by simp[World.cell?,show w.heap[b]?=_ from h]
theorem du.hZ(h:du w b s i):w.cell? ⟨b,1,none⟩=some (.int .i64 i):=by simp[World.cell?,show w.heap[b]?=_ from h]
theorem du.free(h:du w b s i)(k:Nat):w.frozen? ⟨b,k,none⟩=false:=by simp[World.frozen?,show w.heap[b]?=_ from h]
theorem T9(s:aj)(w:World) :
  Calls prog 110 #[.string s] w fun e w'=>e=.returned (.pointer (some ⟨w.heap.size,0,none⟩))/\w'=w.alloc (.cells #[.string s,.int .i64 0] 245 (0,0)):=by
 go_enter func110,ntmps110;go_wp2;go_ret;exact⟨rfl,rfl⟩
theorem AW(b:Nat)(s:aj)(i:Nat)(w:World)(h:du w b s i) :
  Calls prog 165 #[.pointer (some ⟨b,0,none⟩)] w fun e w'=>e=.returned (.int .i64 i)/\w=w':=by
 have h0:=h.cell0;have h1:=h.hZ;go_enter func165,ntmps165;go_wp2;go_ret;exact⟨rfl,rfl⟩
theorem xh(b:Nat)(s:aj)(i:Nat)(w:World)(h:du w b s i) :
  Calls prog 112 #[.pointer (some ⟨b,0,none⟩)] w fun e w'=>e=.returned (.bool (decide (s.size<=i)))/\∃n,w'=w.drewN n:=by
 have h0:=h.cell0;have h1:=h.hZ;go_enter func112,ntmps112;go_wp2;go_quiet (fail);go_wp2;go_ret;exact⟨rfl,_,rfl⟩
theorem du.setCell(h:du w b s i):du (w.setCell ⟨b,1,none⟩ (.int .i64 j)) b s j:=by
 unfold du at *
 simp[World.setCell,Array.getElem?_modify,h]
theorem du.drewN(h:du w b s i)(n:Nat):du (w.drewN n) b s i:=h
theorem du.lt(h:du w b s i):b<w.heap.size:=bj h
def qA(w:World)(b:Nat)(s:aj):Prop:=∃v,w.heap[b]?=some (.cells #[.string s,v] 245 (0,0))
theorem du.eI(h:du w b s i):qA w b s:=⟨_,h⟩
theorem qA.set{w:World}{b:Nat}{s:aj}{u:Value}(h:qA w b s):qA (w.setCell ⟨b,1,none⟩ u) b s:=by
 obtain⟨v,h⟩:=h;exact⟨u,by simp[World.setCell,Array.getElem?_modify,h]⟩
theorem qA.drewN{w:World}{b n:Nat}{s:aj}(h:qA w b s):qA (w.drewN n) b s:=h
theorem qA.at{w:World}{b j:Nat}{s:aj}(h:qA w b s):du (w.setCell ⟨b,1,none⟩ (.int .i64 j)) b s j:=by
 obtain⟨v,h⟩:=h;unfold du;simp[World.setCell,Array.getElem?_modify,h]
theorem du.alloc{o:Obj}(h:du w b s i):du (w.alloc o) b s i:=by
 have hb:=h.lt;unfold du at *
 rw[Below.heap_alloc _ _ _ hb];exact h
theorem du.fr(h:du w b s i)(hf:Fr S w w')(hn:¬S b):du w' b s i:=hf.keep h hn
def kn(s:aj)(i:Nat)(c:UInt8):Bool:=decide (s.data.toList[i]?=some c)
def Da(s:aj)(i:Nat)(c:UInt8):Nat:=if kn s i c then i+1 else i
theorem FZ(hi:i<s.size)(hc:s[i]=c):kn s i c=true:=by simp[kn,byte_at s i hi,hc]
theorem Kg(hi:i<s.size)(hc:¬s[i]=c):kn s i c=false:=by simp[kn,byte_at s i hi,hc]
theorem F0(hi:¬i<s.size):kn s i c=false:=by simp[kn,tY s i hi]
theorem pE(h:kn s i c=true):Da s i c=i+1:=by simp[Da,h]
theorem pF(h:kn s i c=false):Da s i c=i:=by simp[Da,h]
theorem YV{a:UInt8}(h:¬a=c):((a.toNat:Int)==(c.toNat:Int))=false:=by
 rw[aN];intro e;exact h (iX.1 ab)
theorem qg(b:Nat)(s:aj)(i:Nat)(c:UInt8)(w:World)(h:du w b s i)(hs:s.size<=maxLen) :
  Calls prog 164 #[.pointer (some ⟨b,0,none⟩),.int .u8 c.toNat] w fun e w'=>e=.returned (.bool (kn s i c))/\du w' b s (Da s i c)/\Fr (one b) w w':=by
 have h0:=h.cell0;have h1:=h.hZ;have hf:=h.free 1;unfold maxLen at hs;by_cases hi:i<s.size
 ·have hd:decide (i<s.size)=true:=by simp[hi]
  by_cases hc:s[i]=c
  ·rw[FZ hi hc,pE (FZ hi hc)];have hn:((s[i].toNat:Int)==(c.toNat:Int))=true:=by simp[hc]
   clear hc;go_enter func164,ntmps164;go_wp2;go_quiet (fail);go_wp2;go_ret;exact⟨rfl,(h.setCell (j:=i+1)).drewN _,mz w b _ _⟩
  ·rw[Kg hi hc,pF (Kg hi hc)];have hn:=YV hc;clear hc;go_enter func164,ntmps164;go_wp2;go_quiet (fail);go_wp2;go_ret;exact⟨rfl,h.drewN _,(ae _ _).drewN _⟩
 ·have hd:decide (i<s.size)=false:=bG;rw[F0 hi,pF (F0 hi)];go_enter func164,ntmps164;go_wp2;go_quiet (fail);go_wp2;go_ret;exact⟨rfl,h,(ae _ _).drewN _⟩
abbrev ko := @qA.at
abbrev jw := @qA.set
abbrev ig := @qA.drewN
def dZ(c:UInt8):aG->List (aG)
 |[]=>[[]]
 |x :: l=>if x=c then [] :: dZ c l else match dZ c l with
  |[]=>[[x]]
  |p :: ps=>(x :: p) :: ps
def v_(c:UInt8):List (aG)->aG
 |[]=>[]
 |[p]=>p
 |p :: q :: ps=>p++c :: v_ c (q :: ps)
theorem xk(c:UInt8):∀l,dZ c l≠ []
 |[]=>by simp[dZ]
 |x :: l=>by
  unfold dZ;split
  ·simp
  ·split<;>simp
theorem rF(c:UInt8)(l:aG):dZ c (c :: l)=[] :: dZ c l:=by rw[dZ,az rfl]
theorem ob{p:aG}{ps:List (aG)}(hx:¬x=c)(h:dZ c l=p :: ps):dZ c (x :: l)=(x :: p) :: ps:=by rw[dZ,aq hx,h]
theorem Dh(c:UInt8):∀(p l:aG),c∉p->dZ c (p++c :: l)=p :: dZ c l
 |[],l,_=>rF c l
 |x :: p,l,h=>by
  have hx:¬x=c:=fun e=>h (by rw[e];exact cQ ..);exact ob hx (Dh c p l (fun e=>h (bN _ e)))
theorem Di(c:UInt8):∀p:aG,c∉p->dZ c p=[p]
 |[],_=>rfl
 |x :: p,h=>by
  have hx:¬x=c:=fun e=>h (by rw[e];exact cQ ..);exact ob hx (Di c p (fun e=>h (bN _ e)))
def ac9:aG:=[46]
def Uk:aG:=[46,46]
def zo(l:List (aG)):List (aG):=if 1<l.length then l.dropLast else l
def ij(l:List (aG))(p:aG)(last:Bool):List (aG) :=
 if p=Uk then(if last then zo l++[[]]else zo l)
 else if p=ac9 then(if last then l++[[]]else l)
 else l++[p]
def pW:List (aG)->List (aG)->List (aG)
 |l,[]=>l
 |l,p :: ps=>pW (ij l p ps.isEmpty) ps
def BS(s:aG):aG:=if s.head?=some 47 then s else 47 :: s
def mD(s:aG):List (aG):=pW [] (dZ 47 (BS s))
def oM(s:aG):aG:=v_ 47 (mD s)
def wM(k:Nat)(A B:World):Prop:=∀j,k<=j->j<k+3->B.heap[j]?=A.heap[j]?
theorem wM.trans{A B C:World}(h:wM k A B)(g:wM k B C):wM k A C:=fun j h1 h2=>(g j h1 h2).trans (h j h1 h2)
def D0(k B:Nat):Nat->Prop:=fun j=>j=k\/j=B\/j=B+1
theorem Fr.putObj(h:Fr S a w){l:Nat}(hl:l<a.heap.size->S l)(o:Obj):Fr S a (w.putObj l o) :=
 ⟨h.os,h.tape,h.output,by rw[World.putObj_size];exact h.size,fun j hj hn=>(World.putObj_heap_other (fun e=>hn (by subst e;exact hl hj))).trans (h.block j hj hn)⟩
def NM{α:Type}(k:Nat)(I Ix:List α->World->Prop)(xs:List α)(W:World):Exit->Act->World->Prop
 | .normal,_,W'=>KeepsOthers W W'/\wM k W W'/\I xs W'
 | .ret,_,W'=>KeepsOthers W W'/\Ix xs W'
 |_,_,_=>False
def U3{α:Type}(F:Fence)(n:Nat)(P:Program)(g:Nat)(lb:Array Value)(enc:α->Value)(k:Nat)(ys:List α)(w:World):Prop :=
 ∀(l:Nat) (J Jx:List α->World->Prop) (W:World),Fr aR w W->(∀xs A B,J xs A->Fr (fun j=>j=k) A B->J xs B)->(∀xs A B,Jx xs A->Fr (fun j=>j=k) A B->Jx xs B) ->
  (∀xs x A,J xs A->xs++[x] <+: ys->YieldAt F (n-1) P l #[enc x] A fun e B=>(e=.returned (.bool true)/\J (xs++[x]) B/\wM k A B)\/(e=.returned (.bool false)/\Jx (xs++[x]) B)) ->
  J [] W ->
  CallsIn F n P g (#[.func (.yield l) #[] #[]]++lb) W fun e B=>(∃v,e=.returned v)/\(J ys B\/∃xs,xs <+: ys/\Jx xs B)
theorem Bh{F:Fence}{n:Nat}{P:Program}{α:Type}{g:Operand}{ps:Array Tmp}{assign body:Code}{Q:Exit->Act->World->Prop}{a:Act}{w:World}
  (ZF:F.round=none)(h1:1<=n){gf:Nat}{lb:Array Value}(hg:a.eval g=.func (.func gf) #[] lb)(hFg:F.fn gf)(eg:∀args w,(callFunc gf args).run P w=.ok (.enter gf args) w)
  {enc:α->Value}{k:Nat}{ys:List α}(hk:k+3<=w.heap.size)(anS:U3 F (n-1) P gf lb enc k ys w)(hps:ps.size=1)
  (I Ix:List α->World->Prop)(hI:∀xs A B,I xs A->Fr (D0 k w.heap.size) A B->I xs B)(hIx:∀xs A B,Ix xs A->Fr (D0 k w.heap.size) A B->Ix xs B)(h0:I [] w)(a₁:α->Act)
  (ZG:∀(l:Nat) (x:α) (W:World) (K:Act->World->Prop),K (a₁ x) W ->
   assign.wpIn (F.inRound l) (n-1-1) P (Exit.then K (fun _ _ _=>False)) {tmps:=(ps.zip #[enc x]).foldl (fun t (p,v)=>t.setIfInBounds p v) a.tmps,defers:=[]} W)
  (ah3:∀(l:Nat) (xs:List α) (x:α) (W:World),I xs W->xs++[x] <+: ys->body.wpIn (F.inRound l) (n-1-1) P (NM k I Ix (xs++[x]) W) (a₁ x) W)
  (ah4:∀(D:Nat) (W:World),D=w.heap.size->I ys W->W.heap[D]?=some (.deferred (some []))->Q .normal {a with defers:={target:=.collected D,args:= #[]} :: a.defers} W)
  (zi:∀(D:Nat) (xs:List α) (W:World),D=w.heap.size->xs <+: ys->Ix xs W->W.heap[D]?=some (.deferred (some []))->Code.ret.wpIn F n P Q {a with defers:={target:=.collected D,args:= #[]} :: a.defers} W) :
  (Code.rangeFunc g ps assign body).wpIn F n P Q a w:=by
 refine wpIn_rangeFunc ?_;intro fn Fk;rw[ZF];obtain⟨rec,IJ⟩:∃rec:LoopState->Option Code->Loop,rec=fun st pe=>{state:=st,pending:=pe,fn,tmps:=a.tmps,params:=ps,assign,body,defers:=w.heap.size}:=⟨_,rfl⟩;obtain⟨W1,Cy⟩:∃W1,(w.alloc (.deferred (some []))).alloc (.loop (rec .ready none))=W1:=⟨_,rfl⟩;have kZ:W1.heap.size=w.heap.size+2:=by rw[<-Cy];simp
 have hL1:W1.heap[w.heap.size+1]?=some (.loop (rec .ready none)):=by
  rw[<-Cy];have:=World.alloc_heap_new (w.alloc (.deferred (some []))) (.loop (rec .ready none));rwa [bM]at this
 have hK1:W1.heap[w.heap.size]?=some (.deferred (some [])):=by
  rw[<-Cy];exact(Below.heap_alloc _ _ _ aQ).trans (World.alloc_heap_new w _)
 have df:Fr aR w W1:=by rw[<-Cy];exact((ae aR w).alloc _).alloc _
 have hI1:I [] W1:=hI _ _ _ h0 (df.mono fun _ _ h=>h.elim);have ah5:∀ {A B:World},Fr (fun j=>j=k) A B->Fr (D0 k w.heap.size) A B:=fun h=>h.mono fun _ _ e=>Or.inl e;have D1:∀(A:World) (o:Obj),Fr (D0 k w.heap.size) A (A.putObj (w.heap.size+1) o):=fun A o=>(ae _ A).putObj (fun _=>Or.inr (Or.inr rfl)) o
 have Qj:∀ {A B:World} {j:Nat} {o:Obj},Fr (fun j=>j=k) A B->w.heap.size<=j->A.heap[j]?=some o->B.heap[j]?=some o:=fun h hj ho=>h.keep ho (fun e=>ab);refine⟨w.heap.size+1,[{target:=.collected w.heap.size,args:= #[]}],W1,{target:=.fn (.func gf) lb,args:= #[.func (.yield (w.heap.size+1)) #[] #[]]},W1,gf,
  #[.func (.yield (w.heap.size+1)) #[] #[]]++lb,W1,?_,?_,?_,?_,fun _=>h1,?_⟩
 ·rw[<-Cy,IJ];exact run_enterLoop_outer _ _ _ _ _
 ·simp only[resolve,hg];simp[go_sem]
 ·intro f' NN;simp[Target.leads]at NN;subst NN;exact hFg
 ·simp[invoke,go_sem,eg]
 refine(anS (w.heap.size+1)
  (fun xs W=>I xs W/\W.heap[w.heap.size+1]?=some (.loop (rec .ready none))/\W.heap[w.heap.size]?=some (.deferred (some [])))
  (fun xs W=>Ix xs W/\W.heap[w.heap.size+1]?=some (.loop (rec .done (some .ret)))/\W.heap[w.heap.size]?=some (.deferred (some [])))
  W1 df
  (fun xs A B h f=>⟨hI _ _ _ h.1 (ah5 f),Qj f ab h.2.1,Qj f ab h.2.2⟩)
  (fun xs A B h f=>⟨hIx _ _ _ h.1 (ah5 f),Qj f ab h.2.1,Qj f ab h.2.2⟩)
  ?_ ⟨hI1,hL1,hK1⟩).mono ?_
 ·rintro xs x W⟨hi,hl,hd⟩hxp;have sO:w.heap.size+1<W.heap.size:=(Array.getElem?_eq_some_iff.1 hl).1;have hy:=run_yield (P:=P) (args:= #[enc x]) hl (by rw[IJ,hps];rfl);rw[IJ]at hy;refine⟨fn,_,assign,body,hy,roundIn_of_wpIn Fk (ZG _ x W _ ⟨_,run_beginRound hl (by rw[IJ]),?_⟩)⟩;obtain⟨W2,hW2⟩:∃W2,W.putObj (w.heap.size+1) (.loop {rec .ready none with state:=.busy})=W2:=⟨_,rfl⟩;rw[hW2]
  have zb:W2.heap[w.heap.size+1]?=some (.loop {rec .ready none with state:=.busy}):=by rw[<-hW2];exact World.putObj_heap_same sO
  have sV:W2.heap[w.heap.size]?=some (.deferred (some [])):=by rw[<-hW2];exact(World.putObj_heap_other ab).trans hd
  have su:wM k W W2:=by rw[<-hW2];exact fun j h1 h2=>World.putObj_heap_other ab
  have NP:I xs W2:=by rw[<-hW2];exact hI _ _ _ hi (D1 _ _)
  refine wpIn_mono (ah3 _ xs x W2 NP hxp) ?_;have fin:∀(jump:Option Code) (W3:World),KeepsOthers W2 W3 ->
    (Instr.endRound (w.heap.size+1) jump).run P W3=.ok (.bool jump.isNone) (W3.putObj (w.heap.size+1) (.loop (rec (if jump.isNone then .ready else .done) jump))) /\
    (W3.putObj (w.heap.size+1) (.loop (rec (if jump.isNone then .ready else .done) jump))).heap[w.heap.size+1]?=some (.loop (rec (if jump.isNone then .ready else .done) jump)) /\
    (W3.putObj (w.heap.size+1) (.loop (rec (if jump.isNone then .ready else .done) jump))).heap[w.heap.size]?=some (.deferred (some [])):=fun jump W3 IA=>by
   have hl3:=IA.same _ _ zb rfl;have hr:=run_endRound (P:=P) jump hl3;rw[IJ]at hr ⊢;exact⟨hr,World.putObj_heap_same (Array.getElem?_eq_some_iff.1 hl3).1,(World.putObj_heap_other ab).trans (IA.same _ _ sV rfl)⟩
  rintro e a3 W3 hp;cases e with
  |normal =>
   obtain⟨yp,IA,Lf⟩:=hp;obtain⟨hr,hl4,hd4⟩:=fin none W3 yp;exact⟨_,_,hr,.inl ⟨rfl,⟨hI _ _ _ Lf (D1 _ _),hl4,hd4⟩,(su.trans IA).trans fun j h1 h2=>World.putObj_heap_other ab⟩⟩
  |ret =>
   obtain⟨yp,Lf⟩:=hp;obtain⟨hr,hl4,hd4⟩:=fin (some .ret) W3 yp;exact⟨_,_,hr,.inr ⟨rfl,hIx _ _ _ Lf (D1 _ _),hl4,hd4⟩⟩
  |exit id=>exact hp.elim
  |goto t=>exact hp.elim
  |panic ch=>exact hp.elim
  |outgrown=>exact hp.elim
 ·rintro e W2⟨⟨v,rfl⟩,(⟨hi,hl,hd⟩|⟨xs,vO,hi,hl,hd⟩)⟩
  ·exact⟨none,_,by have:=run_endLoop (P:=P) hl (by rw[IJ];simp);rw[IJ]at this;exact this,ah4 _ _ rfl (hI _ _ _ hi (D1 _ _)) ((World.putObj_heap_other ab).trans hd)⟩
  ·exact⟨some .ret,_,by have:=run_endLoop (P:=P) hl (by rw[IJ];simp);rw[IJ]at this;exact this,zi _ xs _ rfl vO (hIx _ _ _ hi (D1 _ _)) ((World.putObj_heap_other ab).trans hd)⟩
def H2(c:UInt8):UInt8:=if 65<=c.toNat/\c.toNat<=90 then c+32 else c
def nw(l:aG):aG:=l.map H2
theorem M9(c:UInt8):(H2 c).toNat=if 65<=c.toNat/\c.toNat<=90 then c.toNat+32 else c.toNat:=by
 unfold H2;split
 ·rename_i h;rw[UInt8.toNat_add];have:(32:UInt8).toNat=32:=rfl;rw[this];omega
 ·rfl
def tZ(w:World)(g:Nat)(l:aG):Prop:=∃t:List Value,w.heap[g]?=some (.cells (ux l++t).toArray 5 ((ux l++t).length,(ux l++t).length+1))
theorem tZ.cell(h:tZ w g l)(hj:l[j]?=some c):w.cell? ⟨g,j,none⟩=some (.int .u8 (c.toNat:Int)):=by
 obtain⟨t,h⟩:=h;obtain⟨hl,he⟩:=List.getElem?_eq_some_iff.1 hj;simp only[World.cell?,h];simp[ux,List.getElem?_append_left,hl,he]
theorem tZ.free(h:tZ w g l)(hj:j<l.length):w.frozen? ⟨g,j,none⟩=false:=by
 obtain⟨t,h⟩:=h;simp only[World.frozen?,h];simp[ux];omega
theorem tZ.set(h:tZ w g l)(hj:j<l.length)(c:UInt8):tZ (w.setCell ⟨g,j,none⟩ (.int .u8 (c.toNat:Int))) g (l.set j c):=by
 obtain⟨t,h⟩:=h;refine⟨t,?_⟩;simp only[World.setCell,Array.getElem?_modify,h];simp[ux,hj,List.map_set]
theorem tZ.new(w:World)(s:aj)(cap:Nat):tZ (w.drew.alloc (.cells (bytesRow s cap) 5 ((bytesRow s cap).size,(bytesRow s cap).size+1))) w.heap.size s.data.toList:=by
 refine⟨List.replicate (cap-s.size) (Value.int .u8 0),?_⟩;have e:bytesRow s cap=(ux s.data.toList++List.replicate (cap-s.size) (Value.int .u8 0)).toArray:=by
  apply Array.toList_inj.1;simp[bytesRow,ux]
 have h:=aB w.drew (.cells (bytesRow s cap) 5 ((bytesRow s cap).size,(bytesRow s cap).size+1));have h':(w.drew.alloc (.cells (bytesRow s cap) 5 ((bytesRow s cap).size,(bytesRow s cap).size+1))).heap[w.heap.size]?=some (.cells (bytesRow s cap) 5 ((bytesRow s cap).size,(bytesRow s cap).size+1)):=h;rw[h',e];simp
theorem tZ.text(h:tZ w g l)(n c:Nat)(hn:n=l.length) :
  (convert 177 9 (.slice (some ⟨g,0,none⟩) n c)).run prog w=.ok (.string ⟨l.toArray⟩) w:=by
 subst hn;refine run_convert_bytes_back (P:=prog) w 177 9 5 ⟨g,0,none⟩ c l underlying177 underlying5 underlying9 ?_;intro j hj;have ea:(Addr.add ⟨g,0,none⟩ j)=⟨g,j,none⟩:=by unfold Addr.add;split<;>simp_all
 rw[ea];exact h.cell (List.getElem?_eq_getElem hj)
def vq(l:aG)(k:Nat):aG:=nw (l.take k)++l.drop k
theorem AU(l:aG)(k:Nat):(vq l k).length=l.length:=by simp[vq,nw];omega
theorem J1(h:l[k]?=some x):(vq l k)[k]?=some x:=by
 have hk:=(List.getElem?_eq_some_iff.1 h).1;unfold vq;rw[List.getElem?_append_right (by simp[nw];omega)];have e:k-(nw (l.take k)).length=0:=by simp[nw];omega
 rw[e,drop_at h];rfl
theorem C9(h:l[k]?=some x):vq l (k+1)=(vq l k).set k (H2 x):=by
 have hk:=(List.getElem?_eq_some_iff.1 h).1;have el:(nw (l.take k)).length=k:=by simp[nw];omega
 unfold vq;rw[drop_at h,bZ,h,List.set_append];rw[aq ab,show k-(nw (l.take k)).length=0 from ab];simp[nw]
theorem C_(h:l[k]?=some x)(hx:H2 x=x):vq l (k+1)=vq l k:=by
 rw[C9 h,hx];apply jk;intro j;by_cases hj:k=j
 ·subst hj;rw[J1 h,List.getElem?_set_self (by rw[AU];exact(List.getElem?_eq_some_iff.1 h).1)]
 ·rw[List.getElem?_set_ne hj]
theorem QR(l:aG)(k:Nat)(h:l.length<=k):vq l k=nw l:=by
 unfold vq;rw[aC h,cO h];simp
def ac2(s:aj)(w:World)(i:Value)(wr:World):Prop :=
 ∃k:Nat,k<=s.size/\i=.int .i64 k/\tZ wr w.heap.size (vq s.data.toList k)/\Fr aR w wr
theorem ru(s:aj)(w:World)(hs:s.size<17592186044416) :
  Calls prog 131 #[.string s] w fun e w'=>e=.returned (.string ⟨(nw s.data.toList).toArray⟩)/\Fr aR w w':=by
 have kc:=fun(wx:World)=>run_bytes_of_string (P:=prog) wx 9 177 5 s underlying9 underlying177 underlying5;go_enter func131,ntmps131;go_wp2;go_loopw[10] (ac2 s w) (fun i _=>s.size-(intOf i).toNat)
 case atStart=>exact⟨0,aI _,rfl,tZ.new w s _,((ae _ w).drew).alloc _⟩
 case round =>
  obtain⟨k,hk,rfl,lZ,cK⟩:=hrel;by_cases eX:k<s.size
  ·have dN:=O (byte_at s k eX);generalize hx:s[k]=x at dN;have hc:=lZ.cell (J1 dN.o);have hf:=lZ.free (j:=k) (by rw[AU];simpa using eX);by_cases h1:65<=x.toNat
   ·by_cases h2:x.toNat<=90
    ·have qV:=O (lZ.set (j:=k) (by rw[AU];simpa using eX) (H2 x));have hsc:=O (C9 dN.o);have YF:=O (show((H2 x).toNat:Int)=(x.toNat:Int)+32 by rw[M9,az ⟨h1,h2⟩];omega);go_wp2;go_roundw
     case rel=>exact⟨k+1,ab,a_,by rw[hsc.o];have h:=qV.o;rw[YF.o]at h;exact h,cK.gI (p:=⟨w.heap.size,k,none⟩) (ay _) _⟩
     case measure=>simp[intOf];omega
    ·have pk:=O (C_ dN.o (by unfold H2;rw[aq ab]));go_wp2;go_roundw
     case rel=>exact⟨k+1,ab,a_,by rw[pk.o];exact lZ,cK⟩
     case measure=>simp[intOf];omega
   ·have pk:=O (C_ dN.o (by unfold H2;rw[aq ab]));go_wp2;go_roundw
    case rel=>exact⟨k+1,ab,a_,by rw[pk.o];exact lZ,cK⟩
    case measure=>simp[intOf];omega
  ·have abw:=lZ;rw[QR s.data.toList k bG]at abw;have BJ:=fun c=>abw.text s.size c (by simp[nw]);go_wp2;go_ret;exact⟨rfl,cK⟩
def dG(a b:aG):Bool:=nw a==nw b
theorem mA(a b:aj)(w:World)(ha:a.size<17592186044416)(hb:b.size<17592186044416) :
  Calls prog 106 #[.string a,.string b] w fun e w'=>e=.returned (.bool (dG a.data.toList b.data.toList))/\Fr aR w w':=by
 go_enter func106,ntmps106;go_wp2_with fail
 refine(ru a w ha).mono ?_;rintro e w1⟨rfl,df⟩;go_wp2_with fail
 refine(ru b w1 hb).mono ?_;rintro e w2⟨rfl,dy⟩;go_wp2;go_ret;exact⟨fx (by simp[dG]),df.trans dy⟩
def cL(p:UInt8->Bool)(l:aG)(i:Nat):Nat:=i+((l.drop i).takeWhile p).length
theorem oJ(h:l[i]?=some c)(hp:p c=true):cL p l i=cL p l (i+1):=by
 have hi:i<l.length:=by
  rcases eM i l.length with g|g
  ·exact g
  ·simp[List.getElem?_eq_none g]at h
 unfold cL;have e:l.drop i=c :: l.drop (i+1):=by
  rw[cR hi];rw[List.getElem?_eq_getElem hi]at h;simp at h;rw[h]
 rw[e,List.takeWhile_cons_of_pos hp];simp;omega
theorem lJ(h:∀c,l[i]?=some c->p c=false):cL p l i=i:=by
 unfold cL;rcases eM i l.length with g|g
 ·rw[cR g,List.takeWhile_cons_of_neg]
  ·rfl
  ·have:=h l[i] (List.getElem?_eq_getElem g);simp[this]
 ·simp[cO g]
theorem ia(h:i<=l.length):cL p l i<=l.length:=by
 unfold cL;have:=(List.takeWhile_prefix p (l:=l.drop i)).length_le;simp at this;omega
theorem lK:i<=cL p l i:=by unfold cL;omega
def pG(w:World)(b:Nat):Nat:=match w.cell? ⟨b,1,none⟩with|some (.int _ n)=>n.toNat|_=>0
theorem du.pos(h:du w b s i):pG w b=i:=by simp[pG,h.hZ]
theorem H_(h:du w b s (k+1))(hk:k<s.size):s.size-pG w b<s.size-k:=by rw[h.pos];omega
def dJ(c:UInt8):Bool:=c==32||c==9
theorem vr(n:Nat)(hn:n<256):((c.toNat:Int)==(n:Int))=(c==n.toUInt8):=by
 rw[fa,dT,dT, <-iX];have:(n.toUInt8).toNat=n:=bG;rw[this];omega
theorem mB(b:Nat)(s:aj)(i:Nat)(w:World)(h:du w b s i)(hs:s.size<=maxLen)(hi:i<=s.size) :
  Calls prog 163 #[.pointer (some ⟨b,0,none⟩)] w fun e w'=>e=.returned (.bool (decide (i<cL dJ s.data.toList i)))/\du w' b s (cL dJ s.data.toList i)/\Fr (one b) w w':=by
 have h0:=h.cell0;have h1:=h.hZ;unfold maxLen at hs;go_enter func163,ntmps163;go_wp2;clear h0 h1;go_loopw[] (fun wr=>∃k,i<=k/\k<=s.size/\du wr b s k/\cL dJ s.data.toList k=cL dJ s.data.toList i/\Fr (one b) w wr) (fun wr=>s.size-pG wr b)
 case atStart=>exact⟨i,ay _,hi,h,rfl,ae _ _⟩
 case round =>
  obtain⟨k,MW,eX,hc,qz,cK⟩:=hrel;have xi:=O qz;clear qz;have h0:=hc.cell0;have h1:=hc.hZ;have hf:=hc.free 1;have qh:=O hc.pos;by_cases hk:k<s.size
  ·have hd:decide (k<s.size)=true:=by simp[hk]
   have dN:=O (byte_at s k hk);generalize hx:s[k]=x at dN;have go:dJ x=true->cL dJ s.data.toList (k+1)=cL dJ s.data.toList i:=fun hb=>(oJ dN.o hb).symm.trans xi.o;have GO:=O go;clear go;cases e1:x==32
   ·have n1:((x.toNat:Int)==32)=false:=by rw[<-e1];exact vr 32 ag
    cases e2:x==9
    ·have n2:((x.toNat:Int)==9)=false:=by rw[<-e2];exact vr 9 ag
     have zi:=O (lJ (p:=dJ) (l:=s.data.toList) (i:=k) (fun c T_=>by rw[dN.o]at T_;cases T_;simp[dJ,e1,e2]));clear e1 e2;go_wp2;go_quiet (fail);go_wp2;go_ret;rw[<-xi.o,zi.o];exact⟨rfl,hc,by repeat(first|exact cK|apply dz)⟩
    ·have n2:((x.toNat:Int)==9)=true:=by rw[<-e2];exact vr 9 ag
     have hn:=O (GO.o (by simp[dJ,e2]));clear e1 e2;go_wp2;go_quiet (fail);go_wp2;go_roundw
     case rel=>exact⟨k+1,ab,ab,(hc.setCell (j:=k+1)).drewN _,hn.o,cK.trans (mz wr b _ _)⟩
     case measure=>rw[qh.o];exact H_ (hc.setCell (j:=k+1)) hk
   ·have n1:((x.toNat:Int)==32)=true:=by rw[<-e1];exact vr 32 ag
    have hn:=O (GO.o (by simp[dJ,e1]));clear e1;go_wp2;go_quiet (fail);go_wp2;go_roundw
    case rel=>exact⟨k+1,ab,ab,(hc.setCell (j:=k+1)).drewN _,hn.o,cK.trans (mz wr b _ _)⟩
    case measure=>rw[qh.o];exact H_ (hc.setCell (j:=k+1)) hk
  ·have hd:decide (k<s.size)=false:=bG;have zi:=O (lJ (p:=dJ) (l:=s.data.toList) (i:=k) (fun c T_=>by rw[tY s k hk]at T_;cases T_));go_wp2;go_quiet (fail);go_wp2;go_ret;rw[<-xi.o,zi.o];exact⟨rfl,hc,by repeat(first|exact cK|apply dz)⟩
theorem vY(b:Nat)(s:aj)(i:Nat)(w:World)(h:du w b s i)(hs:s.size<=maxLen)(hi:i<=s.size) :
  Calls prog 166 #[.pointer (some ⟨b,0,none⟩)] w fun e w'=>e=.returned (.string (s.extract i (cL fY s.data.toList i)))/\du w' b s (cL fY s.data.toList i)/\Fr (one b) w w':=by
 have h0:=h.cell0;have h1:=h.hZ;unfold maxLen at hs;go_enter func166,ntmps166;go_wp2;clear h0 h1;go_loopw[] (fun wr=>∃k,i<=k/\k<=s.size/\du wr b s k/\cL fY s.data.toList k=cL fY s.data.toList i/\Fr (one b) w wr) (fun wr=>s.size-pG wr b)
 case atStart=>exact⟨i,ay _,hi,h,rfl,ae _ _⟩
 case round =>
  obtain⟨k,MW,eX,hc,qz,cK⟩:=hrel;have xi:=O qz;clear qz;have h0:=hc.cell0;have h1:=hc.hZ;have hf:=hc.free 1;have qh:=O hc.pos;by_cases hk:k<s.size
  ·have hd:decide (k<s.size)=true:=by simp[hk]
   have dN:=O (byte_at s k hk);generalize hx:s[k]=x at dN;have go:fY x=true->cL fY s.data.toList (k+1)=cL fY s.data.toList i:=fun hb=>(oJ dN.o hb).symm.trans xi.o;have GO:=O go;clear go;cases e1:fY x
   ·have zi:=O (lJ (p:=fY) (l:=s.data.toList) (i:=k) (fun c T_=>by rw[dN.o]at T_;cases T_;exact e1));go_wp2;go_quiet ((go_at_call 152;exact tX (zh _ _)));go_wp2;go_quiet (fail);go_wp2;go_ret;rw[<-xi.o,zi.o];exact⟨rfl,hc,by repeat(first|exact cK|apply dz)⟩
   ·have hn:=O (GO.o e1);go_wp2;go_quiet ((go_at_call 152;exact tX (zh _ _)));go_wp2;go_roundw
    case rel=>exact⟨k+1,ab,ab,(hc.setCell (j:=k+1)).drewN _,hn.o,cK.trans (mz wr b _ _)⟩
    case measure=>rw[qh.o];exact H_ (hc.setCell (j:=k+1)) hk
  ·have hd:decide (k<s.size)=false:=bG;have zi:=O (lJ (p:=fY) (l:=s.data.toList) (i:=k) (fun c T_=>by rw[tY s k hk]at T_;cases T_));go_wp2;go_quiet (fail);go_wp2;go_quiet (fail);go_wp2;go_ret;rw[<-xi.o,zi.o];exact⟨rfl,hc,by repeat(first|exact cK|apply dz)⟩
theorem dropWhile_nil{α:Type}{p:α->Bool}:∀ {l:List α},l.dropWhile p=[]↔l.all p=true
 |[]=>aQ
 |a :: l=>by
  rw[List.dropWhile_cons,List.all_cons];cases h:p a
  ·simp
  ·simp only[eb,jL];exact dropWhile_nil
theorem xl(l cs:aG):Lib.trimS l cs=[]↔l.all (cs.contains ·)=true:=by
 unfold Lib.trimS Lib.trimLeftS Lib.trimRightS;rw[dropWhile_nil];constructor
 ·intro h;have h2:l.reverse.dropWhile (cs.contains ·)=[]:=by
   cases hq:l.reverse.dropWhile (cs.contains ·)with
   |nil=>rfl
   |cons a r =>
    exfalso;have hh:=List.head?_dropWhile_not (p:=(cs.contains ·)) l.reverse;rw[hq]at h hh;simp only[List.head?_cons,List.reverse_cons,j9,List.all_cons,List.all_nil,Bool.and_true,cD]at h hh;rw[h.2]at hh;simp at hh
  rw[dropWhile_nil]at h2;simpa using h2
 ·intro h;rw[gA]at h ⊢;intro x hx;refine h x ?_;have h1:=(List.dropWhile_sublist (cs.contains ·) (l:=l.reverse)).subset (List.mem_reverse.1 hx);exact List.mem_reverse.1 h1
theorem gW:s.data.toList=[]↔s.size=0:=by
 constructor
 ·intro h;have:s.data.toList.length=0:=by rw[h];rfl
  simpa using this
 ·intro h;apply cg;simpa using h
theorem sR(s cs:aj)(w:World)(hs:s.size<=9223372036854775807)(h2:2<=cs.size)(hcs:cs.size<4294967281)(Ni:∀b∈cs.data.toList,b.toNat<128) :
  Calls prog 128 #[.string s,.string cs] w fun e w'=>e=.returned (.string ⟨(Lib.trimS s.data.toList cs.data.toList).toArray⟩)/\Fr aR w w':=by
 by_cases h0:s.size=0
 ·refine(Any.strings_Trim_empty PB s cs w (Or.inl h0)).mono fun e w' ⟨he,hw⟩=>⟨?_,hw▸ae _ _⟩;have e0:=gW.2 h0;rw[he,e0]
  congr 2
  rw[show Lib.trimS [] cs.data.toList=[]from rfl];cases s with
  |mk d=>simp at e0;rw[e0]
 ·refine(Any.strings_Trim_set PB (fun w=>af) af s cs w h2 ab hs hcs (fun j b hj=>Ni b (bT hj))).mono fun e w' ⟨he,q,hw⟩=>⟨he,?_⟩;rw[hw];exact(((ae aR w).alloc _).alloc _).drewN q
def dV(k:Nat)(w:World)(v:Value)(xs:List (List Value)):Prop :=
 (∀x∈xs,x.length=k/\∀u∈x,u.oneCell'=true) /\
 ((∃a c,v=.slice a 0 c/\xs=[]/\(a=none->c=0)) \/
  ∃bk o c,v=.slice (some ⟨bk,o,none⟩) xs.length c/\xs.length<=c/\c<=maxLen/\bk<w.heap.size /\
   ∀(j:Nat) x,xs[j]?=some x->∀(i:Nat) u,x[i]?=some u->w.cell? ⟨bk,o+j*k+i,none⟩=some u)
section
variable {k : Nat} {w w' : World} {v : Value} {xs : List (List Value)}
theorem dV.nil(k:Nat)(w:World):dV k w (.slice none 0 0) []:=⟨aQ,Or.inl ⟨_,_,rfl,rfl,fun _=>rfl⟩⟩
theorem dV.form(h:dV k w v xs):∃a c,v=.slice a xs.length c:=by
 rcases h.2 with ⟨a,c,hv,hs,_⟩|⟨bk,o,c,hv,_⟩
 ·exact⟨a,c,by rw[hv,hs];rfl⟩
 ·exact⟨_,_,hv⟩
theorem dV.fr(h:dV k w v xs)(hf:Fr S w w')(hn:∀b,v.ownBlock=some b->¬S b):dV k w' v xs:=by
 refine⟨h.1,?_⟩;rcases h.2 with h|⟨bk,o,c,hv,h1,h2,h3,h4⟩
 ·exact Or.inl h
 ·refine Or.inr ⟨bk,o,c,hv,h1,h2,cN h3 hf.size,fun j x hj i u hi=>?_⟩;rw[hf.cell (p:=⟨bk,o+j*k+i,none⟩) h3 (hn bk (by rw[hv];rfl))];exact h4 j x hj i u hi
theorem dV.fH(h:dV k w v xs)(hf:Fr aR w w'):dV k w' v xs:=h.fr hf (fun _ _ h=>h)
end
def OwnRows(base:Nat)(e:TypeId)(k:Nat)(w:World)(v:Value)(xs:List (List Value)):Prop :=
 (∀x∈xs,x.length=k/\∀u∈x,u.oneCell'=true)/\w.ownsRow base e k v xs.length xs.flatten
theorem rH:∀ {k:Nat} {xs:List (List Value)} (_:∀x∈xs,x.length=k) {j:Nat} {x:List Value} (_:xs[j]?=some x) {i:Nat} {u:Value} (_:x[i]?=some u),xs.flatten[j*k+i]?=some u
 |k,[],_,j,x,hj,i,u,hi=>by simp at hj
 |k,y :: ys,hl,0,x,hj,i,u,hi=>by
  simp at hj;subst hj;have:=(List.getElem?_eq_some_iff.1 hi).1;simp only[List.flatten_cons,ik,bw];rw[List.getElem?_append_left this];exact hi
 |k,y :: ys,hl,j+1,x,hj,i,u,hi=>by
  have hy:=hl y aQ;have ih:=rH (k:=k) (xs:=ys) (fun z hz=>hl z (bN _ hz)) (j:=j) (by simpa using hj) hi;simp only[List.flatten_cons];rw[List.getElem?_append_right (by rw[hy,il];omega),hy,show(j+1)*k+i-k=j*k+i from by rw[il];omega];exact ih
theorem gC:∀ {k:Nat} {xs:List (List Value)} (_:∀x∈xs,x.length=k),xs.flatten.length=xs.length*k
 |k,[],_=>aQ
 |k,y :: ys,hl=>by
  have:=gC (k:=k) (xs:=ys) (fun z hz=>hl z (bN _ hz));simp only[List.flatten_cons,aM,this,hl y aQ,List.length_cons,il];omega
section
variable {base k : Nat} {e : TypeId} {w w' : World} {v : Value} {xs : List (List Value)}
theorem OwnRows.nil(base:Nat)(e:TypeId)(k:Nat)(w:World):OwnRows base e k w (.slice none 0 0) []:=⟨aQ,World.ownsRow_nil _ _ _ _⟩
theorem OwnRows.alloc(h:OwnRows base e k w v xs)(o:Obj):OwnRows base e k (w.alloc o) v xs:=⟨h.1,World.ownsRow.alloc h.2 o⟩
theorem OwnRows.drewN{n:Nat}(h:OwnRows base e k w v xs):OwnRows base e k (w.drewN n) v xs:=h
theorem OwnRows.form(h:OwnRows base e k w v xs):∃a c,v=.slice a xs.length c:=by
 rcases h.2.2 with ⟨hv,hn⟩|⟨g,cap,cur,hv,_⟩
 ·exact⟨none,0,by rw[hv,hn]⟩
 ·exact⟨_,_,hv⟩
theorem OwnRows.up{b':Nat}(h:OwnRows b' e k w v xs)(hb:base<=b'):OwnRows base e k w v xs:=by
 obtain⟨h0,h1,h2⟩:=h;refine⟨h0,h1,?_⟩;rcases h2 with h2|⟨g,cap,cur,hv,hg,r⟩
 ·exact Or.inl h2
 ·exact Or.inr ⟨g,cap,cur,hv,aD hb hg,r⟩
theorem OwnRows.fr(h:OwnRows base e k w v xs)(hf:Fr S w w')(hn:∀b,v.ownBlock=some b->¬S b):OwnRows base e k w' v xs:=by
 obtain⟨h0,h1,h2⟩:=h;refine⟨h0,h1,?_⟩;rcases h2 with h2|⟨g,cap,cur,hv,hg,hh,r⟩
 ·exact Or.inl h2
 ·exact Or.inr ⟨g,cap,cur,hv,hg,hf.keep hh (hn g (by rw[hv];rfl)),r⟩
theorem OwnRows.block(h:OwnRows base e k w v xs):∀b,v.ownBlock=some b->base<=b:=by
 intro b hb;rcases h.2.2 with ⟨hv,_⟩|⟨g,cap,cur,hv,hg,_⟩
 ·rw[hv]at hb;simp[Value.ownBlock]at hb
 ·rw[hv]at hb;simp[Value.ownBlock]at hb;omega
theorem OwnRows.lt(h:OwnRows base e k w v xs):∀b,v.ownBlock=some b->b<w.heap.size:=by
 intro b hb;rcases h.2.2 with ⟨hv,_⟩|⟨g,cap,cur,hv,hg,hh,_⟩
 ·rw[hv]at hb;simp[Value.ownBlock]at hb
 ·rw[hv]at hb;simp[Value.ownBlock]at hb;subst hb;exact bj hh
theorem OwnRows.at(h:OwnRows base e k w v xs):dV k w v xs:=by
 obtain⟨h0,h1,h2⟩:=h;refine⟨h0,?_⟩;rcases h2 with ⟨hv,hn⟩|⟨g,cap,cur,hv,hg,hh,h3,h4,h5,h6⟩
 ·exact Or.inl ⟨none,0,hv,cg hn,fun _=>rfl⟩
 ·refine Or.inr ⟨g,0,cap,hv,h3,h4,bj hh,fun j x hj i u hi=>?_⟩;have Gi:=h0 x (bT hj);have Gj:j*k+i<xs.length*k:=by
   have hj':=(List.getElem?_eq_some_iff.1 hj).1;have hi':=(List.getElem?_eq_some_iff.1 hi).1;have:(j+1)*k<=xs.length*k:=bO _ hj';rw[il]at this;omega
  have e1:(cur.toList.take (xs.length*k))[j*k+i]?=some u:=by rw[h6];exact rH (fun z hz=>(h0 z hz).1) hj hi
  rw[List.getElem?_take_of_lt Gj]at e1;have e2:cur[j*k+i]?=some u:=by simpa using e1
  simp[World.cell?,hh,e2]
end
theorem nQ{P:Program}{ops:Array Oper}{rest:List Oper}{o:Oper}{a:Act}{Q:Exit->Act->World->Prop}{w:World}(zd:o.guard=none)(s x:Operand)(t e:TypeId)
  (ho:o.op=.call {callee:=.builtin .append,args:= #[s,x],argTypes:= #[t,t]})(k bytes:Nat)(z:Value)(ht:P.underlying t=some (.slice e))
  (am6:(P.info? e).map (fun i=>(i.zero,i.size,i.bytes))=some (some z,k,bytes))(hz:z.cells.size=k)(hk:0<k)(hb:bytes<=1024)
  (base:Nat)(v:Value)(l:List (List Value))(hs:a.eval s=v)(cP:OwnRows base e k w v l)
  (ad:Nat)(c:Nat)(y:List Value)(hx:a.eval x=.slice (some ⟨ad,0,none⟩) 1 c)(Dm:y.length=k)(Fi:∀u∈y,u.oneCell'=true)(hy:∀(i:Nat) u,y[i]?=some u->w.cell? ⟨ad,i,none⟩=some u)
  (hlen:l.length<68719476736)(iD:base<=w.heap.size)
  (h:∀v' w',OwnRows base e k w' v' (l++[y])->w.grownBy w' v.ownBlock->wpList P ops Q rest (a.put o.dst v') w'):wpList P ops Q (o :: rest) a w:=by
 obtain⟨i0,hi,pq,kZ,lq⟩:=info_parts am6;refine wpList_append_own w zd s x t ho base e i0 z k bytes ht hi pq kZ lq hz hk v l.length l.flatten hs cP.2 ⟨ad,0,none⟩ 1 c y hx (by rw[Dm,Nat.one_mul]) ?_ Fi ?_ ?_ iD ?_
 ·intro j u hj;have ea:(Addr.add ⟨ad,0,none⟩ j)=⟨ad,j,none⟩:=by unfold Addr.add;split<;>simp_all
  rw[ea];exact hy j u hj
 ·unfold maxLen;omega
 ·have:(l.length+1)*bytes<=68719476736*1024:=Nat.mul_le_mul ab hb;omega
 ·intro v' w' h1 h2 _;refine h v' w' ⟨?_,?_⟩ h2
  ·intro q hq;rcases bK.1 hq with g|g
   ·exact cP.1 q g
   ·simp at g;subst g;exact⟨Dm,Fi⟩
  ·simpa using h1
abbrev bg := @dV.fH
abbrev dv := @OwnRows.nil
abbrev dQ := @dV.form
def abK:Go.Shelf.Ren:=⟨fun|167=>156|240=>157|276=>206|n=>n,fun|70=>176|9=>9|72=>179|37=>177|164=>275|20=>20|75=>56|80=>187|5=>5|79=>238|n=>n,fun|n=>n⟩
theorem adl:Go.Proofs.Lays.n167 prog abK:={
 mixed:=af
 f167:=func156.trans (ar some af)
 f240:=func157.trans (ar some af)
 f276:=func206.trans (ar some af)
 t0:=underlying0
 a0:=isAgg0
 z0:=sizeOf0
 v0:=zeroValue0
 t4:=underlying4
 a4:=isAgg4
 z4:=sizeOf4
 v4:=zeroValue4
 t5:=underlying5
 a5:=isAgg5
 z5:=sizeOf5
 v5:=zeroValue5
 t9:=underlying9
 a9:=isAgg9
 z9:=sizeOf9
 v9:=zeroValue9
 t20:=underlying20
 a20:=isAgg20
 z20:=sizeOf20
 v20:=zeroValue20
 t37:=underlying177
 a37:=isAgg177
 z37:=sizeOf177
 v37:=zeroValue177
 t70:=underlying176
 a70:=isAgg176
 z70:=sizeOf176
 v70:=zeroValue176
 t72:=underlying179
 a72:=isAgg179
 z72:=sizeOf179
 v72:=zeroValue179
 t75:=underlying56
 a75:=isAgg56
 z75:=sizeOf56
 v75:=zeroValue56
 t164:=underlying275
 a164:=isAgg275
 z164:=sizeOf275
 v164:=zeroValue275}
theorem Y6:Builder.Extra prog abK:={
 sizeBuilder:=af
 liesBuilder:=af
 t5:=underlying5
 a5:=isAgg5
 z5:=sizeOf5
 v5:=zeroValue5
 infoByte:=af
 cellsByte:=af
 sizeByte:=af
 neB5:=ag}
def Gn(B b:Nat)(l:aG)(w:World):Prop:=Lib.IsBuilder 179 5 B b (ux l) w
theorem kp(B b:Nat)(l:aG)(c:UInt8)(w:World)(h:Gn B b l w)(hlen:l.length+1<=140737488355328)(YH:B<=w.heap.size) :
  Calls prog 156 #[.pointer (some ⟨b,0,none⟩),.int .u8 c.toNat] w fun e w'=>e=.returned .nilIface/\Gn B b (l++[c]) w'/\Below B w w' :=
 (Any.Builder_WriteByte adl Y6 B b (ux l) c.toNat w h (by rw[yh];exact hlen) YH).mono fun e w' ⟨he,hb,hw⟩=>⟨he,by unfold Gn;rw[J0];exact Or.inr hb,hw⟩
theorem BV(B b:Nat)(l:aG)(w:World)(h:Gn B b l w)(YH:B<=w.heap.size) :
  Calls prog 105 #[.pointer (some ⟨b,0,none⟩)] w fun e w'=>e=.returned (.string ⟨l.toArray⟩)/\Below B w w' :=
 Builder_String_any B b l w h YH
theorem Fr.lY(h:Fr S a w)(g:Below a.heap.size w w'):Fr S a w' :=
 h.step (Fr.Pw (S:=fun k=>a.heap.size<=k) g (fun _ _ h=>h)) (fun k hk hT=>absurd hT ab)
theorem Gn.new(w:World):Gn w.heap.size w.heap.size [] (w.alloc (.cells #[.pointer none,.slice none 0 0] 179)) :=
 Or.inl ⟨ay _,_,aB w _,World.ownsRow_nil _ _ _ _,by simp[Value.ownBlock]⟩
theorem Lk{P:Program}{W:World}{x:String×DataW Unit}:∀ {laid:List (String×DataW Unit)},laidMet P laid W->x∈laid->∃r,laidMet P (x :: r) W
 |y :: l,h,hm=>by
  rcases bB.1 hm with rfl|hm
  ·exact⟨l,h⟩
  ·exact Lk (laidMet.tail h) hm
theorem Ll{P:Program}{W:World}{laid:List (String×DataW Unit)}{name:String}{k:IntKind}{zs:List Int}{g:Nat}{t e:TypeId}{n:Nat}
  (h:laidMet P laid W)(hm:(name,Lib.tabData k zs)∈laid)
  (hg:P.globalNamed name=some g)(TF:(P.globals[g]?).map (·.type)=some t)(ht:P.underlying t=some (.array n e))(he:P.underlying e=some (.int k))(hce:P.cellsOf e=1)(hct:P.cellsOf t=n):Lib.TabIs P W name k zs:=by
 obtain⟨r,hr⟩:=Lk h hm;exact Lib.tabIs_of_head hg TF ht he hce hct hr
def wO(w:World):Prop:=Lib.TabIs prog w "internal/strconv.uint64pow10" .u64 Lib.pow10Tab
theorem wO.fr(h:wO w)(hf:Fr aR w w'):wO w':=Go.Joins.tab_stays (g:=5) af h hf.pD (ay _)
theorem D5{W:World}{laid:List (String×DataW Unit)}(h:laidMet prog laid W)(hm:("internal/strconv.uint64pow10",Lib.tabData .u64 Lib.pow10Tab)∈laid/\True):wO W :=
 Ll h hm.1 (g:=5) af af underlying322 underlying301 af af
def fN(w:World)(v:Value)(ss:List aj):Prop :=
 (∃a c,v=.slice a 0 c/\ss=[]/\(a=none->c=0)) \/
 ∃bk o c,v=.slice (some ⟨bk,o,none⟩) ss.length c/\ss.length<=c/\c<=maxLen/\bk<w.heap.size/\∀(j:Nat) x,ss[j]?=some x->w.cell? ⟨bk,o+j,none⟩=some (.string x)
theorem fN.nil(w:World):fN w (.slice none 0 0) []:=Or.inl ⟨_,_,rfl,rfl,fun _=>rfl⟩
theorem fN.fr(h:fN w v ss)(hf:Fr S w w')(hn:∀k,v.ownBlock=some k->¬S k):fN w' v ss:=by
 rcases h with h|⟨bk,o,c,hv,h1,h2,h3,h4⟩
 ·exact Or.inl h
 ·refine Or.inr ⟨bk,o,c,hv,h1,h2,cN h3 hf.size,fun j x hj=>?_⟩;rw[hf.cell (p:=⟨bk,o+j,none⟩) h3 (hn bk (by rw[hv];rfl))];exact h4 j x hj
theorem fN.fH(h:fN w v ss)(hf:Fr aR w w'):fN w' v ss:=h.fr hf (fun _ _ h=>h)
theorem fN.form(h:fN w v ss):∃a c,v=.slice a ss.length c:=by
 rcases h with ⟨a,c,hv,hs,_⟩|⟨bk,o,c,hv,_⟩
 ·exact⟨a,c,by rw[hv,hs];rfl⟩
 ·exact⟨_,_,hv⟩
theorem zg:(prog.info? 9).map (fun i=>(i.zero,i.size,i.bytes))=some (some (.string ⟨#[]⟩),1,16):=af
def Strs(base:Nat)(w:World)(v:Value)(ss:List aj):Prop:=w.ownsRow base 9 1 v ss.length (ss.map Value.string)
section
variable {base : Nat} {w w' : World} {v : Value} {ss : List ByteArray}
theorem Strs.nil(base:Nat)(w:World):Strs base w (.slice none 0 0) []:=World.ownsRow_nil _ _ _ _
theorem Strs.alloc(h:Strs base w v ss)(o:Obj):Strs base (w.alloc o) v ss:=World.ownsRow.alloc h o
theorem Strs.drew(h:Strs base w v ss):Strs base w.drew v ss:=h
theorem Strs.form(h:Strs base w v ss):∃a c,v=.slice a ss.length c:=by
 rcases h.2 with ⟨hv,hn⟩|⟨g,cap,cur,hv,_⟩
 ·exact⟨none,0,by rw[hv,hn]⟩
 ·exact⟨_,_,hv⟩
theorem Strs.fr(h:Strs base w v ss)(hf:Fr S w w')(hS:∀k,S k->k<base):Strs base w' v ss:=by
 obtain⟨h1,h2⟩:=h;refine⟨h1,?_⟩;rcases h2 with h2|⟨g,cap,cur,hv,hg,hh,r⟩
 ·exact Or.inl h2
 ·exact Or.inr ⟨g,cap,cur,hv,hg,hf.keep hh (fun hs=>absurd (hS g hs) ab),r⟩
theorem Strs.block(h:Strs base w v ss):∀k,v.ownBlock=some k->base<=k:=by
 intro k hk;rcases h.2 with ⟨hv,_⟩|⟨g,cap,cur,hv,hg,_⟩
 ·rw[hv]at hk;simp[Value.ownBlock]at hk
 ·rw[hv]at hk;simp[Value.ownBlock]at hk;omega
theorem Strs.at(h:Strs base w v ss):fN w v ss:=by
 obtain⟨h1,h2⟩:=h;rcases h2 with ⟨hv,hn⟩|⟨g,cap,cur,hv,hg,hh,h3,h4,h5,h6⟩
 ·exact Or.inl ⟨none,0,hv,cg hn,fun _=>rfl⟩
 ·refine Or.inr ⟨g,0,cap,hv,h3,h4,bj hh,fun j x hj=>?_⟩;have hl:=(List.getElem?_eq_some_iff.1 hj).1;have e:(cur.toList.take (ss.length*1))[j]?=some (.string x):=by rw[h6];simp[hj]
  rw[List.getElem?_take_of_lt ab]at e;have e2:cur[j]?=some (.string x):=by simpa using e
  simp[World.cell?,hh,e2]
end
theorem nO{ops:Array Oper}{rest:List Oper}{o:Oper}{a:Act}{Q:Exit->Act->World->Prop}{w:World}(zd:o.guard=none)(s x:Operand)
  (ho:o.op=.call {callee:=.builtin .append,args:= #[s,x],argTypes:= #[110,110]})(base:Nat)(v:Value)(l:List aj)(hs:a.eval s=v)(cP:Strs base w v l)
  (ad:Addr)(c:Nat)(y:aj)(hx:a.eval x=.slice (some ad) 1 c)(hy:w.cell? ad=some (.string y))(hlen:l.length<4398046511104)(iD:base<=w.heap.size)
  (h:∀v' w',Strs base w' v' (l++[y])->w.grownBy w' v.ownBlock->wpList prog ops Q rest (a.put o.dst v') w'):wpList prog ops Q (o :: rest) a w:=by
 obtain⟨i0,hi,pq,kZ,lq⟩:=info_parts zg;refine wpList_append_own w zd s x 110 ho base 9 i0 (.string ⟨#[]⟩) 1 16 underlying110 hi pq kZ lq rfl ag v l.length (l.map Value.string) hs cP ad 1 c [.string y] hx rfl ?_ ?_ ?_ ?_ iD ?_
 ·intro j u hj
  match j,hj with
  |0,hj=>simp at hj;subst hj;simpa[Addr.add]using hy
 ·intro u hu;simp at hu;subst hu;rfl
 ·unfold maxLen;omega
 ·omega
 ·intro v' w' h1 h2 _;exact h v' w' (by unfold Strs;simpa using h1) h2
abbrev kT := @Strs.nil
abbrev iE := @Strs.alloc
