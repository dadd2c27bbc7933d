/- Lemmas for the law's walk. -/
import Derived.Test.YtnckmcnffadjoaaGreatDoorPk5
set_option maxRecDepth 100000
set_option maxHeartbeats 16000000
set_option linter.unusedSimpArgs false
namespace Go.Proofs.YtnckmcnffadjoaaGreatDoor
open Go.Proofs.Tryz
open Go.RowKit
variable {base:Nat} {w w':World} {v:Value} {gs:List (aP bD)} {S:Nat->Prop} {x:List Value} {p:List Value->Bool} {l:List (List Value)}
def f_(base:Nat)(w:World)(v:Value)(gs:List (aP bD)):Prop :=
 ∃rs:List (aP Value),OwnRows base 114 16 w v (rs.map aP.cells)/\lg (aP.Reads (dr base w)) rs gs
theorem f_.fr(h:f_ base w v gs)(hf:Fr S w w')(ho:sr base w S)(hn:∀k,v.ownBlock=some k->¬S k):f_ base w' v gs:=by
 obtain⟨rs,h1,h2⟩:=h;exact⟨rs,h1.fr hf hn,h2.mono (fun _ _ h=>h.mono (fun _ _ h=>h.fr hf ho))⟩
theorem f_.form(h:f_ base w v gs):∃a c,v=.slice a gs.length c:=by
 obtain⟨rs,h1,h2⟩:=h;obtain⟨a,c,hv⟩:=h1.form;exact⟨a,c,by rw[hv,ai,h2.len]⟩
def ZI(base:Nat)(w:World)(b:Nat)(o:Nat)(g:aP bD):Prop :=
 ∃r:aP Value,(∀u∈r.cells,u.oneCell'=true)/\r.Reads (dr base w) g/\∀(i:Nat) u,r.cells[i]?=some u->w.cell? ⟨b,o+i,none⟩=some u
theorem f_.at{base:Nat}{w:World}{v:Value}{gs:List (aP bD)}(h:f_ base w v gs){k:Nat}(hk:k<gs.length) :
  ∃b c,v=.slice (some ⟨b,0,none⟩) gs.length c/\gs.length<=maxLen/\ZI base w b (k*16) gs[k]:=by
 obtain⟨rs,h1,h2⟩:=h;have hl:=h2.len;obtain⟨x,hx⟩:∃x,rs[k]?=some x:=⟨_,List.getElem?_eq_getElem ab⟩;obtain⟨g,hg,hr⟩:=h2.get hx;rw[List.getElem?_eq_getElem hk]at hg;obtain rfl:=ka hg;have dN:=h1.at;rcases h1.2.2 with ⟨_,hn⟩|⟨bk,cap,cur,hv,_⟩
 ·rw[ai]at hn;omega
 rcases dN.2 with ⟨_,_,e1,e,_⟩|⟨IM,o,c,sH,q1,q2,q3,q4⟩
 ·simp at e;rw[e]at hl;simp at hl;omega
 ·rw[hv]at sH;cases sH;rw[ai]at q1;refine⟨bk,cap,by rw[hv,ai,hl],ab,x,(h1.1 x.cells (bV.2 ⟨x,bT hx,rfl⟩)).2,hr,?_⟩;intro i u hu;have:=q4 k x.cells (by rw[List.getElem?_map,hx];rfl) i u hu;rw[bw]at this;exact this
structure bI (D:Type) where
 o:gz
 proxy:Bool
 path:aj
 a:fK D
def bI.cells(g:bI Value):List Value :=
 [.bool g.o.aF,.string g.o.host,.int .i64 g.o.port,.bool g.proxy,.string g.path,
  .int .i64 g.a.scheme,.string g.a.aK,.string g.a.bq,.string g.a.cj,.bool g.a.cy,.string g.a.eE,.bool g.a.cM,g.a.dom]
def bI.Reads(R:Value->List aj->Prop)(r:bI Value)(g:bI (List aj)):Prop :=
 r.o=g.o/\r.proxy=g.proxy/\r.path=g.path/\r.a.Reads R g.a
theorem bI.Reads.mono{R S:Value->List aj->Prop}{r:bI Value}{g:bI (List aj)}(h:r.Reads R g)(hs:∀v l,R v l->S v l):r.Reads S g :=
 ⟨h.1,h.2.1,h.2.2.1,h.2.2.2.mono hs⟩
def kl(base:Nat)(w:World)(v:Value)(gs:List (bI bD)):Prop :=
 ∃rs:List (bI Value),OwnRows base 133 13 w v (rs.map bI.cells)/\lg (bI.Reads (dr base w)) rs gs
theorem kl.fr{gs:List (bI bD)}(h:kl base w v gs)(hf:Fr S w w')(ho:sr base w S)(hn:∀k,v.ownBlock=some k->¬S k):kl base w' v gs:=by
 obtain⟨rs,h1,h2⟩:=h;exact⟨rs,h1.fr hf hn,h2.mono (fun _ _ h=>h.mono (fun _ _ h=>h.fr hf ho))⟩
theorem kl.form{gs:List (bI bD)}(h:kl base w v gs):∃a c,v=.slice a gs.length c:=by
 obtain⟨rs,h1,h2⟩:=h;obtain⟨a,c,hv⟩:=h1.form;exact⟨a,c,by rw[hv,ai,h2.len]⟩
structure dB (base:Nat) (w:World) (b:Nat) (gv wv:Value) (gs:List (aP bD)) (ws:List (bI bD)):Prop where
 low:base<=b
 eI:w.heap[b]?=some (.cells #[gv,wv] 89 (0,0))
 bF:f_ base w gv gs
 waits:kl base w wv ws
section
variable {base : Nat} {w w' : World} {b : Nat} {gv wv : Value} {gs : List (aP bD)} {ws : List (bI bD)}
theorem dB.lt(h:dB base w b gv wv gs ws):b<w.heap.size:=bj h.eI
theorem dB.c0(h:dB base w b gv wv gs ws):w.cell? ⟨b,0,none⟩=some gv:=by simp[World.cell?,h.eI]
theorem dB.c1(h:dB base w b gv wv gs ws):w.cell? ⟨b,1,none⟩=some wv:=by simp[World.cell?,h.eI]
theorem dB.free(h:dB base w b gv wv gs ws)(k:Nat):w.frozen? ⟨b,k,none⟩=false:=by simp[World.frozen?,h.eI]
theorem dB.fr(h:dB base w b gv wv gs ws)(hf:Fr S w w')(ho:sr base w S)(hb:¬S b)(h1:∀k,gv.ownBlock=some k->¬S k)(h2:∀k,wv.ownBlock=some k->¬S k):dB base w' b gv wv gs ws :=
 ⟨h.low,hf.keep h.eI hb,h.bF.fr hf ho h1,h.waits.fr hf ho h2⟩
theorem dB.dh(h:dB base w b gv wv gs ws)(hf:Fr aR w w'):dB base w' b gv wv gs ws:=h.fr hf (fC _ _) (fun h=>h) (fun _ _ h=>h) (fun _ _ h=>h)
end
abbrev eS:Array Value:= #[.bool false,.string ⟨#[]⟩,.int .i64 0,.bool false,.string ⟨#[]⟩,.string ⟨#[]⟩,.int .i64 0,.string ⟨#[]⟩,.string ⟨#[]⟩,.string ⟨#[]⟩,.bool false,.string ⟨#[]⟩,.bool false,.slice none 0 0,.int .i64 0,.slice none 0 0]
def oW{α:Type}(f:α->Int):List α->Nat->Int×Int->Int×Int
 |[],_,acc=>acc
 |g :: l,i,acc=>oW f l (i+1) (if 0<=f g/\acc.1<=f g then(f g,(i:Int))else acc)
theorem D7{α:Type}(f:α->Int):∀(l:List α) (i:Nat) (acc:Int×Int) (x:α),
  oW f (l++[x]) i acc=(if 0<=f x/\(oW f l i acc).1<=f x then(f x,((i+l.length:Nat):Int))else oW f l i acc)
 |[],i,acc,x=>by simp only[List.nil_append,oW,List.length_nil,Nat.add_zero];rfl
 |g :: l,i,acc,x=>by
  rw[List.cons_append,oW,D7 f l (i+1) _ x,oW];simp only[List.length_cons,show i+1+l.length=i+(l.length+1)from ab]
def pS(o:gz)(proxy:Bool)(path:aj)(g:aP bD):Int:=uO g.o g.proxy g.paths o proxy path
def uh(gs:List (aP bD))(o:gz)(proxy:Bool)(path:aj):Int:=(oW (pS o proxy path) gs 0 (-1, -1)).2
def ZJ(w:World)(gs:List (aP bD))(o:gz)(proxy:Bool)(path:aj)(an6 at_ i:Value)(wr:World):Prop :=
 ∃k:Nat,k<=gs.length/\i=.int .i64 k/\an6=.int .i64 (oW (pS o proxy path) (gs.take k) 0 (-1, -1)).1/\at_=.int .i64 (oW (pS o proxy path) (gs.take k) 0 (-1, -1)).2/\Fr aR w wr
theorem Vi(base:Nat)(w:World)(b:Nat)(gv wv:Value)(gs:List (aP bD))(ws:List (bI bD))(o:gz)(proxy:Bool)(path:aj)(h:dB base w b gv wv gs ws) :
  Calls prog 94 #[.pointer (some ⟨b,0,none⟩),.agg o.cells.toArray,.bool proxy,.string path] w fun e w'=>e=.returned (.int .i64 (uh gs o proxy path))/\Fr aR w w':=by
 unfold gz.cells;have h0:=h.c0;obtain⟨av,cv,hv⟩:=h.bF.form;subst hv;have sO:=h.lt;go_enter func94,ntmps94;go_wp2;clear h0;have pg:Fr aR w (w.alloc (.cells #[.bool o.aF,.string o.host,.int .i64 o.port] 32)):=(ae aR w).alloc _;have hO:(w.alloc (.cells #[.bool o.aF,.string o.host,.int .i64 o.port] 32)).heap[w.heap.size]?=some (.cells #[.bool o.aF,.string o.host,.int .i64 o.port] 32 (0,0)):=aB w _
 have h1:=h.dh pg;generalize w.alloc (.cells #[.bool o.aF,.string o.host,.int .i64 o.port] 32)=W at pg hO h1;go_loopw[9,10,19] (ZJ W gs o proxy path) (fun _ _ i _=>gs.length-(intOf i).toNat)
 case atStart=>exact⟨0,aI _,rfl,rfl,rfl,ae _ _⟩
 case round =>
  obtain⟨k,hk,rfl,rfl,rfl,cK⟩:=hrel;by_cases eX:k<gs.length
  ·obtain⟨bk,c,df,sZ,r,dY,hr,hcell⟩:=(h1.dh cK).bF.at eX;cases df;unfold maxLen at sZ;have hO2:=cK.keep hO (fun h=>h);obtain⟨x,hx⟩:∃x,x=r.cells:=⟨_,rfl⟩;have lF:x.length=16:=by rw[hx];rfl
   have jq:=fun W=>run_storeCells_new (P:=prog) W 114 #[.bool false,.string ⟨#[]⟩,.int .i64 0,.bool false,.string ⟨#[]⟩,.string ⟨#[]⟩,.int .i64 0,.string ⟨#[]⟩,.string ⟨#[]⟩,.string ⟨#[]⟩,.bool false,.string ⟨#[]⟩,.bool false,.slice none 0 0,.int .i64 0,.slice none 0 0] x (by rw[lF];rfl) (by rw[hx];exact dY);rw[<-hx]at hcell;have HX:=O hx
   have D8:(prog.info? 114).map (·.size)=some x.toArray.size:=by rw[aW,lF];kernel_rfl
   have IP:=O D8;clear hx D8;have hO3:(wr.alloc (.cells x.toArray 114)).heap[w.heap.size]?=some (.cells #[.bool o.aF,.string o.host,.int .i64 o.port] 32 (0,0)):=by rw[Below.heap_alloc _ _ _ (bj hO2)];exact hO2
   have HO3:=O hO3;clear hO3 hO2
   go_wp2_with (first|((with_reducible refine cY 23 ?_);refine aU rfl 114 (.tmp 22) rfl bk (k*16) rfl x _ hcell underlying114 rfl (by have h:=IP.o;rw[aW]at h;exact h) ?_)|((with_reducible refine cY 24 ?_);refine aH rfl 114 (.tmp 12) rfl wr.heap.size rfl _ x.toArray (0,0) _ (aB wr _) underlying114 rfl IP.o ?_)|((with_reducible refine cY 25 ?_);refine aH rfl 32 (.tmp 5) rfl w.heap.size rfl _ _ (0,0) _ HO3.o underlying32 rfl af ?_)|fail)
   have gS:Fr aR wr (wr.alloc (.cells x.toArray 114)):=(ae aR wr).alloc _;have hps:=(hr.2.2.2.2.2.2.dh gS).rd;have hre:=O (show uO r.o r.proxy gs[k].paths o proxy path=pS o proxy path gs[k]by unfold pS;rw[hr.1,hr.2.1]);have dN:=List.getElem?_eq_getElem eX;have JL:=O (show oW (pS o proxy path) (gs.take (k+1)) 0 (-1, -1)=_ by rw[dW dN,D7,aJ,dK hk,bw]);have sx:=(cK.trans gS)
   have fA:=O (RF r o proxy path gs[k].paths _ hps);rw[<-HX.o]at fA;clear hr gS dN dY jq;generalize wr.alloc (.cells x.toArray 114)=W2 at *
   refine fA.o.mono ?_;rintro e w3⟨rfl,iv⟩;have ic:=sx.trans iv;rw[hre.o];clear hre fA hps hcell;generalize oW (pS o proxy path) (gs.take k) 0 (-1, -1)=acc at *
   generalize pS o proxy path gs[k]=n at *
   by_cases h0:0<=n
   ·by_cases IQ:acc.1<=n
    ·have hs:=O (show oW (pS o proxy path) (gs.take (k+1)) 0 (-1, -1)=(n,(k:Int))by rw[JL.o,az ⟨h0,IQ⟩]);go_wp2;go_roundw
     case rel=>exact⟨k+1,ab,a_,by rw[hs.o],by rw[hs.o],ic⟩
     case measure=>simp[intOf];omega
    ·have hs:=O (show oW (pS o proxy path) (gs.take (k+1)) 0 (-1, -1)=acc by rw[JL.o,aq (fun h=>IQ h.2)]);go_wp2;go_roundw
     case rel=>exact⟨k+1,ab,a_,by rw[hs.o],by rw[hs.o],ic⟩
     case measure=>simp[intOf];omega
   ·have hs:=O (show oW (pS o proxy path) (gs.take (k+1)) 0 (-1, -1)=acc by rw[JL.o,aq (fun h=>h0 h.1)]);go_wp2;go_roundw
    case rel=>exact⟨k+1,ab,a_,by rw[hs.o],by rw[hs.o],ic⟩
    case measure=>simp[intOf];omega
  ·have hs:=O (show(oW (pS o proxy path) (gs.take k) 0 (-1, -1)).2=uh gs o proxy path by rw[aC ab];rfl);go_wp2;go_ret;exact⟨by rw[<-hs.o];rfl,pg.trans cK⟩
abbrev ZK:Array Value:= #[.bool false,.string ⟨#[]⟩,.int .i64 0,.bool false,.string ⟨#[]⟩,.string ⟨#[]⟩,.int .i64 0,.string ⟨#[]⟩,.string ⟨#[]⟩,.string ⟨#[]⟩,.bool false,.string ⟨#[]⟩,.bool false,.slice none 0 0,.int .i64 0,.slice none 0 0]
theorem Ql:∀v∈ZK.toList,v.oneCell'=true:=dp
theorem IU(h:x.length=16):(prog.info? 114).map (·.size)=some x.length:=by rw[h];kernel_rfl
def adV(w:World)(p:List Value->Bool)(xs:List (List Value))(i:Value)(wr:World):Prop :=
 ∃k:Nat,k<=xs.length/\i=.int .i64 k/\(xs.take k).any p=false/\Fr aR w wr
theorem zR(g:Nat)(cap:Array Value)(p:List Value->Bool)(v:Value)(xs:List (List Value))(w:World)(eg:∀args w,(callFunc g args).run prog w=.ok (.enter g args) w)(hp:gO aR w g cap p xs)(hv:dV 16 w v xs) :
  Calls prog 162 #[v,.func (.func g) #[] cap] w fun e w'=>e=.returned (.int .i64 (lW p xs 0))/\Fr aR w w':=by
 obtain⟨av,cv,fI⟩:=hv.form;subst fI;have dY:=O hv.1;go_enter func162,ntmps162;go_wp2;go_loopw[8] (adV w p xs) (fun i _=>xs.length-(intOf i).toNat)
 case atStart=>exact⟨0,aI _,rfl,rfl,ae _ _⟩
 case round =>
  obtain⟨k,hk,rfl,hn,cK⟩:=hrel;have HN:=O hn;clear hn;by_cases eX:k<xs.length
  ·rcases(hv.fH cK).2 with ⟨_,_,_,e,_⟩|⟨bk,of,c,hf,h1,h2,h3,h4⟩
   ·rw[e]at eX;exact absurd eX (bS _)
   ·cases hf;unfold maxLen at h2;have dN:=O (List.getElem?_eq_getElem eX);have hcell:=h4 k _ dN.o;have g_:=O (bL eX);generalize xs[k]=x at dN hcell g_;have fA:=O (hp x g_.o wr cK);have lF:=(dY.o x g_.o).1;clear h4;cases qI:p x
    ·have qi:=O (any_take_succ dN.o HN.o qI);go_wp2_with (first|((with_reducible refine cY 15 ?_);refine aU rfl 114 (.tmp 14) rfl bk (of+k*16) rfl x _ hcell underlying114 rfl (IU lF) ?_)|fail)
     refine fA.o.mono ?_;rintro e w1⟨rfl,df⟩;rw[qI];go_wp2;go_roundw
     case rel=>exact⟨k+1,ab,a_,qi.o,cK.trans df⟩
     case measure=>simp[intOf];omega
    ·have fc:=O (oV (i:=0) dN.o qI HN.o);go_wp2_with (first|((with_reducible refine cY 15 ?_);refine aU rfl 114 (.tmp 14) rfl bk (of+k*16) rfl x _ hcell underlying114 rfl (IU lF) ?_)|fail)
     refine fA.o.mono ?_;rintro e w1⟨rfl,df⟩;rw[qI];go_wp2;go_ret;rw[fc.o,bw];exact⟨rfl,cK.trans df⟩
  ·have fc:=O (show lW p xs 0= -1 from ku (by have h:=HN.o;rw[aC ab]at h;exact h));go_wp2;go_ret;rw[fc.o];exact⟨rfl,cK⟩
def adW(b:Nat)(w:World)(bk cap:Nat)(p:List Value->Bool)(xs:List (List Value))(i j:Value)(wr:World):Prop :=
 ∃(m n:Nat) (ys:List (List Value)),i=.int .i64 m/\j=.int .i64 n/\m<n/\n<=xs.length/\ys.length=xs.length/\OwnRows b 114 16 wr (.slice (some ⟨bk,0,none⟩) xs.length cap) ys /\
  ys.take m=(xs.take n).filter (fun x=>!p x)/\ys.drop n=xs.drop n/\Fr (one bk) w wr
theorem zS{p:List Value->Bool}:∀ {l:List (List Value)} (i:Nat),l.any p=true->∃k x,l[k]?=some x/\p x=true/\(l.take k).any p=false/\lW p l i=((i+k:Nat):Int)
 |[],_,h=>by simp at h
 |a :: l,i,h=>by
  cases ha:p a
  ·rw[List.any_cons,ha,jN]at h;obtain⟨k,x,h1,h2,h3,h4⟩:=zS (i+1) h;refine⟨k+1,x,by simpa using h1,h2,by simp[ha,h3],?_⟩;rw[lW,ha];simp only[cG,eU];rw[h4];congr 1;omega
  ·exact⟨0,a,rfl,ha,rfl,by rw[lW,ha];simp⟩
theorem zT(h:l.any p=false):l.filter (fun x=>!p x)=l:=by
 rw[List.filter_eq_self];intro a ha;have:=eW.1 h a ha;simpa using this
theorem xX(b:Nat)(g:Nat)(cap:Array Value)(p:List Value->Bool)(v:Value)(xs:List (List Value))(w:World)(eg:∀args w,(callFunc g args).run prog w=.ok (.enter g args) w)(hp:gO (own v) w g cap p xs)(hv:OwnRows b 114 16 w v xs) :
  Calls prog 107 #[v,.func (.func g) #[] cap] w fun e w'=>∃a c,e=.returned (.slice a (xs.filter (fun x=>!p x)).length c)/\OwnRows b 114 16 w' (.slice a (xs.filter (fun x=>!p x)).length c) (xs.filter (fun x=>!p x))/\Fr (own v) w w'/\own (.slice a (xs.filter (fun x=>!p x)).length c)=own v:=by
 cases jn:xs.any p
 ·have rT:=O (ku (i:=0) jn);rw[zT jn];obtain⟨av,cv,fI⟩:=hv.form;subst fI;go_enter func107,ntmps107;go_wp2_with fail
  refine(zR g cap p _ xs w eg hp.none hv.at).mono ?_;rintro e w1⟨rfl,df⟩;rw[rT.o];go_wp2;go_ret;exact⟨_,_,rfl,hv.fr df (fun _ _ h=>h),df.mono (fun _ _ h=>absurd h (fun h=>h)),rfl⟩
 ·obtain⟨k0,x0,IL,Ec,vO,rT⟩:=zS 0 jn;rw[bw]at rT;have Nv:=(List.getElem?_eq_some_iff.1 IL).1;obtain⟨bk,cp,Lh⟩:∃bk cp,v=.slice (some ⟨bk,0,none⟩) xs.length cp:=by
   rcases hv.2.2 with ⟨_,hn⟩|⟨bk,cp,cur,hv,_⟩
   ·omega
   ·exact⟨bk,cp,hv⟩
  subst Lh;obtain⟨Cu,cur,sH,q1,q2,q3,q4,q5,q6⟩:=hv.open (g:=bk) rfl;cases sH;unfold maxLen at q4;have dY:=O hv.1;have Ed:=O (show xs.take k0=(xs.take (k0+1)).filter (fun x=>!p x)by
   rw[dW IL,cC,zT vO];simp[Ec])
  have HP:=O hp;have ZL:=O rT;clear jn vO IL Ec rT q2 q5 q6 hp;go_enter func107,ntmps107;go_wp2_with fail
  refine(zR g cap p _ xs w eg HP.o.none hv.at).mono ?_;rintro e w1⟨rfl,df⟩;rw[ZL.o];have Ft:=hv.fr df (fun _ _ h=>h);have JS:((k0:Int)== -1)=false:=by rw[aN];omega
  go_wp2;go_loopw[5,6] (adW b w bk cp p xs) (fun _ j _=>xs.length-(intOf j).toNat)
  case atStart=>exact⟨k0,k0+1,xs,rfl,a_,ab,ab,rfl,Ft,Ed.o,rfl,df.mono (fun _ _ h=>absurd h (fun h=>h))⟩
  case round =>
   obtain⟨m,n,ys,rfl,rfl,hmn,hn,hlen,cP,rI,td,cK⟩:=hrel;have HT:=O rI;have HD:=O td;have jW:=O hlen;clear rI td hlen;rw[<-jW.o]at cP;have rU:=cP.at;by_cases eX:n<xs.length
   ·rcases rU.2 with ⟨_,_,_,e,_⟩|⟨IM,of,c,hf,h1,h2,h3,h4⟩
    ·have hl:=jW.o;rw[e]at hl;simp at hl;omega
    ·cases hf;have dN:=O (List.getElem?_eq_getElem eX);have yF:ys[n]?=some xs[n]:=by
      have e:=ar (fun l:List (List Value)=>l[0]?) HD.o;simp only[List.getElem?_drop,Nat.add_zero]at e;rw[e,dN.o]
     have hcell:=h4 n _ yF;simp only[bw]at hcell;have g_:=O (bL eX);generalize xs[n]=x at dN hcell g_ yF;have lF:=(dY.o x g_.o).1;have mO:=O (dY.o x g_.o).2
     have jq:=fun W=>run_storeCells_new (P:=prog) W 114 #[.bool false,.string ⟨#[]⟩,.int .i64 0,.bool false,.string ⟨#[]⟩,.string ⟨#[]⟩,.int .i64 0,.string ⟨#[]⟩,.string ⟨#[]⟩,.string ⟨#[]⟩,.bool false,.string ⟨#[]⟩,.bool false,.slice none 0 0,.int .i64 0,.slice none 0 0] x (by rw[lF];rfl) mO.o;have gS:Fr aR wr (wr.alloc (.cells x.toArray 114)):=(ae aR wr).alloc _
     have fA:=O (HP.o x g_.o (wr.alloc (.cells x.toArray 114)) ((cK.alloc _).mono (fun k _ h=>by have e:k=bk:=h;rw[e];rfl)));have IV:=O (IU lF);have js:=cK.alloc (.cells x.toArray 114);have fy:=cP.fr gS (fun _ _ h=>h);have qp:(wr.alloc (.cells x.toArray 114)).heap[wr.heap.size]?=some (.cells x.toArray 114 (0,0)):=aB _ _;have ud:=O qp;clear h4 yF qp gS
     go_wp2_with (first|((with_reducible refine cY 25 ?_);refine aU rfl 114 (.tmp 24) rfl bk (n*16) rfl x _ hcell underlying114 rfl IV.o ?_)|((with_reducible refine cY 27 ?_);refine aH rfl 114 (.tmp 7) rfl wr.heap.size rfl _ x.toArray (0,0) _ ud.o underlying114 rfl (by rw[aW];exact IV.o) ?_)|fail)
     have hlw:wr.heap.size<(wr.alloc (.cells x.toArray 114)).heap.size:=aQ;clear jq hcell;generalize wr.alloc (.cells x.toArray 114)=W2 at *
     refine fA.o.mono ?_;rintro e w3⟨rfl,iv⟩;have qG:=js.trans (iv.mono (fun _ _ h=>absurd h (fun h=>h)));have fo:=fy.fr iv (fun _ _ h=>h);have tK:=O (iv.keep ud.o (fun h=>h));have N0:=O jW.o;cases qI:p x
     ·have Yg:=O (fo.there (g:=bk) (cap:=cp) (by rw[jW.o]) (o:=m*16) (n:=x.toArray.size) (by
       have hmc:(m+1)*16<=cp*16:=bO _ ab;rw[aW,lF];omega))
      have eY:=fo.store (i:=m) (y:=x) (by rw[jW.o];omega) lF mO.o (g:=bk) rfl;rw[jW.o]at eY;have oA:=qG.step (fF (ae (one bk) w3) (fun _=>rfl) x (m*16)) (fun _ _ h=>h)
      go_wp2_with (first|((with_reducible refine cY 32 ?_);refine aH rfl 114 (.tmp 7) rfl wr.heap.size rfl _ x.toArray (0,0) _ tK.o underlying114 rfl (by rw[aW];exact IV.o) ?_)|((with_reducible refine cV 114 ?_);refine iq rfl 114 (.tmp 33) (.tmp 32) rfl bk (m*16) x.toArray rfl rfl Yg.o (by rw[aW];exact IV.o) (bW mO.o) ?_)|fail)
      go_roundw
      case rel =>
       refine⟨m+1,n+1,ys.set m x,a_,a_,ab,ab,by rw[d_];exact N0.o,eY,?_,?_,oA⟩
       ·rw[dW (l:=ys.set m x) (List.getElem?_set_self (by rw[N0.o];omega)),gj (ay m),dW dN.o,cC,HT.o];simp[qI]
       ·rw[gl ab];have e:=ar (List.drop 1) HD.o;simpa[ey]using e
      case measure=>simp[intOf];omega
     ·rw[jW.o]at fo;go_wp2_with fail
      go_roundw
      case rel =>
       refine⟨m,n+1,ys,rfl,a_,ab,ab,N0.o,fo,?_,?_,qG⟩
       ·rw[dW dN.o,cC,HT.o];simp[qI]
       ·have e:=ar (List.drop 1) HD.o;simpa[ey]using e
      case measure=>simp[intOf];omega
   ·have rW:n=xs.length:=ab;subst rW;have fc:=O (show ys.take m=xs.filter (fun x=>!p x)by have h:=HT.o;rw[aC (ay _)]at h;exact h);have sZ:(ys.take m).length=m:=by rw[aJ,jW.o];omega
    have zU:=O (show(xs.filter (fun x=>!p x)).length=m by rw[<-fc.o];exact sZ);have hcut:=cP.cut (i:=m) (by rw[jW.o];omega) (g:=bk) (cap:=cp) (by rw[jW.o]);have hle:(xs.length-m)*16+m*16<=cp*16:=by rw[<-dC];exact bO _ ab
    have CA:(Builtin.zeroCells ZK (xs.length-m)).toList.length=(xs.length-m)*16:=by simp[Builtin.zeroCells]
    have vt:=fun ty=>jF (P:=prog) wr 77 114 ty ZK underlying77 (fun w=>af) ag Ql bk (m*16) (xs.length-m) (cp-m) ab (by
     have:=cP.there (g:=bk) (cap:=cp) (by rw[jW.o]) (o:=m*16) (n:=(xs.length-m)*16) ab;exact this)
    have yG:=hcut.behind (o:=m*16) (vs:=(Builtin.zeroCells ZK (xs.length-m)).toList) (by rw[sZ];exact ay _) (g:=bk) (cap:=cp) (by rw[sZ]) (by rw[CA];omega);have oA:=cK.step (fF (ae (one bk) wr) (fun _=>rfl) (Builtin.zeroCells ZK (xs.length-m)).toList (m*16)) (fun _ _ h=>h);clear cP rU hcut CA sZ hle jW;go_wp2_with fail
    go_ret;rw[zU.o, <-fc.o];exact⟨_,_,rfl,yG,oA.mono (fun k _ h=>by have e:k=bk:=h;rw[e];rfl),rfl⟩
theorem adX:∃i0:TypeInfo,prog.info? 114=some i0/\i0.size=16:=by
 have h:(prog.info? 114).map (·.size)=some 16:=af;cases hq:prog.info? 114 with
 |none=>rw[hq]at h;cases h
 |some i=>rw[hq]at h;exact⟨i,rfl,by simpa using h⟩
theorem GK(b:Nat)(bk cp i j:Nat)(xs:List (List Value))(w:World)(hv:OwnRows b 114 16 w (.slice (some ⟨bk,0,none⟩) xs.length cp) xs)(Q8:i<j)(hj:j<=xs.length) :
  Calls prog 95 #[.slice (some ⟨bk,0,none⟩) xs.length cp,.int .i64 i,.int .i64 j] w fun e w'=>e=.returned (.slice (some ⟨bk,0,none⟩) (i+(xs.length-j)) cp)/\OwnRows b 114 16 w' (.slice (some ⟨bk,0,none⟩) (i+(xs.length-j)) cp) (xs.take i++xs.drop j)/\Fr (one bk) w w':=by
 obtain⟨i0,qD,kZ⟩:=adX;obtain⟨Cu,cur,sH,q1,q2,q3,q4,q5,q6⟩:=hv.open (g:=bk) rfl;cases sH;unfold maxLen at q4;have dN:=hv.at;have dY:=hv.1;obtain⟨news,kL⟩:∃news,news=(xs.drop j).flatten:=⟨_,rfl⟩;have hdr:∀x∈xs.drop j,x.length=16/\∀u∈x,u.oneCell'=true:=fun x hx=>dY x (ez hx);have hlen:news.length=(xs.length-j)*16:=by rw[kL,gC (fun x hx=>(hdr x hx).1),bJ]
 obtain⟨A,hA,N1⟩:∃A:Addr,(if cp=j then some (⟨bk,0,none⟩:Addr)else some ⟨bk,j*16,none⟩)=some A/\Hid (∀t u,news[t]?=some u->w.drew.cell? (A.add t)=some u):=by
  by_cases h:cp=j
  ·refine⟨⟨bk,0,none⟩,by simp[h],fun t u hu=>?_⟩
   have h0:news.length=0:=by rw[hlen];have:xs.length-j=0:=by omega
                             rw[this,ik]
   rw[dF.1 h0]at hu;simp at hu
  ·refine⟨⟨bk,j*16,none⟩,by simp[h],fun t u hu=>?_⟩;have ht:t<(xs.length-j)*16:=by
    have:=(List.getElem?_eq_some_iff.1 hu).1;omega
   have nv:xs.flatten[j*16+t]?=some u:=by
    have e:xs.flatten=(xs.take j).flatten++(xs.drop j).flatten:=by rw[<-ed,fM]
    have hl:(xs.take j).flatten.length=j*16:=by rw[gC (fun x hx=>(dY x (dX hx)).1),aJ,dK hj]
    rw[e,List.getElem?_append_right ab,hl,show j*16+t-j*16=t from ab, <-kL];exact hu
   have hjt:j*16+t<xs.length*16:=by
    have:(xs.length-j)*16+j*16=xs.length*16:=by rw[<-dC];congr 1;omega
    omega
   rw[<-q6,List.getElem?_take_of_lt hjt]at nv;have zV:cur[j*16+t]?=some u:=by simpa using nv
   have ea:(Addr.add ⟨bk,j*16,none⟩ t)=⟨bk,j*16+t,none⟩:=by unfold Addr.add;split<;>simp_all
   rw[ea];show w.cell? _=some u;simp[World.cell?,q2,zV]
 have s1:=O hlen;have s2:=O (show∀u∈news,u.oneCell'=true by
  intro u hu;rw[kL]at hu;obtain⟨x,hx,GL⟩:=fL.1 hu;exact(hdr x hx).2 u GL)
 have s3:=O (show∀t,t<news.length->(w.drew.cell? ⟨bk,0+i*16+t,none⟩).isSome=true/\w.drew.frozen? ⟨bk,0+i*16+t,none⟩=false by
  intro t ht;rw[bw];have hle:i*16+(xs.length-j)*16<=cp*16:=by rw[<-dC];exact bO _ ab
  have:=hv.there (g:=bk) (cap:=cp) rfl (o:=i*16) (n:=(xs.length-j)*16) hle t ab;exact this)
 have Vn:OwnRows b 114 16 w.drew (.slice (some ⟨bk,0,none⟩) xs.length cp) xs:=hv;have qz:=Vn.Dw (i:=i) (ys:=xs.drop j) ab hdr (g:=bk) (cap:=cp) rfl (by rw[bJ];omega);rw[bJ, <-kL]at qz;have yH:Fr (one bk) w (w.drew.setCells bk (i*16) news):=((ae (one bk) w).drew).setCells (fun _=>rfl) _ _;obtain⟨W1,Cy⟩:∃W1,W1=w.drew.setCells bk (0+i*16) news:=⟨_,rfl⟩;have HW:=O Cy;rw[bw]at Cy;rw[<-Cy]at qz yH
 have rW:(xs.take i++xs.drop j).length=i+(xs.length-j):=by rw[aM,aJ,bJ];omega
 have hm:i+(xs.length-j)<xs.length:=ab;have CA:(Builtin.zeroCells ZK (xs.length-(i+(xs.length-j)))).toList.length=(xs.length-(i+(xs.length-j)))*16:=by simp[Builtin.zeroCells]
 have hle:(i+(xs.length-j))*16+(xs.length-(i+(xs.length-j)))*16<=cp*16:=by rw[<-dC];exact bO _ ab
 have vt:=fun ty=>jF (P:=prog) W1 77 114 ty ZK underlying77 (fun w=>af) ag Ql bk ((i+(xs.length-j))*16) (xs.length-(i+(xs.length-j))) (cp-(i+(xs.length-j))) ab (by
  have:=qz.there (g:=bk) (cap:=cp) (by rw[rW]) (o:=(i+(xs.length-j))*16) (n:=(xs.length-(i+(xs.length-j)))*16) hle;exact this)
 have yG:=qz.behind (o:=(i+(xs.length-j))*16) (vs:=(Builtin.zeroCells ZK (xs.length-(i+(xs.length-j)))).toList) (by rw[rW];exact ay _) (g:=bk) (cap:=cp) (by rw[rW]) (by rw[CA];omega);have oA:=yH.step (fF (ae (one bk) W1) (fun _=>rfl) (Builtin.zeroCells ZK (xs.length-(i+(xs.length-j)))).toList ((i+(xs.length-j))*16)) (fun _ _ h=>h);have hne:((i:Int)==(j:Int))=false:=by rw[aN];omega
 have adZ:i<=cp:=ab;have ad0:j<=cp:=ab;have HA:=O hA;clear Cy qz Vn yH kL hlen hdr dY dN rW CA hle q2 q5 q6 hv;go_enter func95,ntmps95;go_wp2_with fail
 have hA:=HA.o;go_region_law (refine step_append_room rfl (.tmp 22) (.tmp 25) 77 rfl 114 i0 16 underlying77 qD kZ bk 0 i cp (by simp[Act.eval,Act.put]) A (xs.length-j) (cp-j) news (by simp[Act.eval,Act.put]) s1.o N1.out s2.o ab s3.o ?_;rw[<-HW.o])
 all_goals
  go_wp2_with fail
  go_ret;exact⟨rfl,yG,oA⟩
abbrev wS:Array Value:= #[.bool false,.string ⟨#[]⟩,.int .i64 0,.bool false,.string ⟨#[]⟩,.int .i64 0,.string ⟨#[]⟩,.string ⟨#[]⟩,.string ⟨#[]⟩,.bool false,.string ⟨#[]⟩,.bool false,.slice none 0 0]
theorem Vw:wS.size=13:=rfl
theorem IY:∀v∈wS.toList,v.oneCell'=true:=dp
theorem Bl(h:x.length=13):(prog.info? 133).map (·.size)=some x.length:=by rw[h];kernel_rfl
def aeb(w:World)(p:List Value->Bool)(xs:List (List Value))(i:Value)(wr:World):Prop :=
 ∃k:Nat,k<=xs.length/\i=.int .i64 k/\(xs.take k).any p=false/\Fr aR w wr
theorem z_(g:Nat)(cap:Array Value)(p:List Value->Bool)(v:Value)(xs:List (List Value))(w:World)(eg:∀args w,(callFunc g args).run prog w=.ok (.enter g args) w)(hp:gO aR w g cap p xs)(hv:dV 13 w v xs) :
  Calls prog 199 #[v,.func (.func g) #[] cap] w fun e w'=>e=.returned (.int .i64 (lW p xs 0))/\Fr aR w w':=by
 obtain⟨av,cv,fI⟩:=hv.form;subst fI;have dY:=O hv.1;go_enter func199,ntmps199;go_wp2;go_loopw[8] (aeb w p xs) (fun i _=>xs.length-(intOf i).toNat)
 case atStart=>exact⟨0,aI _,rfl,rfl,ae _ _⟩
 case round =>
  obtain⟨k,hk,rfl,hn,cK⟩:=hrel;have HN:=O hn;clear hn;by_cases eX:k<xs.length
  ·rcases(hv.fH cK).2 with ⟨_,_,_,e,_⟩|⟨bk,of,c,hf,h1,h2,h3,h4⟩
   ·rw[e]at eX;exact absurd eX (bS _)
   ·cases hf;unfold maxLen at h2;have dN:=O (List.getElem?_eq_getElem eX);have hcell:=h4 k _ dN.o;have g_:=O (bL eX);generalize xs[k]=x at dN hcell g_;have fA:=O (hp x g_.o wr cK);have lF:=(dY.o x g_.o).1;clear h4;cases qI:p x
    ·have qi:=O (any_take_succ dN.o HN.o qI);go_wp2_with (first|((with_reducible refine cY 15 ?_);refine aU rfl 133 (.tmp 14) rfl bk (of+k*13) rfl x _ hcell underlying133 rfl (Bl lF) ?_)|fail)
     refine fA.o.mono ?_;rintro e w1⟨rfl,df⟩;rw[qI];go_wp2;go_roundw
     case rel=>exact⟨k+1,ab,a_,qi.o,cK.trans df⟩
     case measure=>simp[intOf];omega
    ·have fc:=O (oV (i:=0) dN.o qI HN.o);go_wp2_with (first|((with_reducible refine cY 15 ?_);refine aU rfl 133 (.tmp 14) rfl bk (of+k*13) rfl x _ hcell underlying133 rfl (Bl lF) ?_)|fail)
     refine fA.o.mono ?_;rintro e w1⟨rfl,df⟩;rw[qI];go_wp2;go_ret;rw[fc.o,bw];exact⟨rfl,cK.trans df⟩
  ·have fc:=O (show lW p xs 0= -1 from ku (by have h:=HN.o;rw[aC ab]at h;exact h));go_wp2;go_ret;rw[fc.o];exact⟨rfl,cK⟩
def aec(b:Nat)(w:World)(bk cap:Nat)(p:List Value->Bool)(xs:List (List Value))(i j:Value)(wr:World):Prop :=
 ∃(m n:Nat) (ys:List (List Value)),i=.int .i64 m/\j=.int .i64 n/\m<n/\n<=xs.length/\ys.length=xs.length/\OwnRows b 133 13 wr (.slice (some ⟨bk,0,none⟩) xs.length cap) ys /\
  ys.take m=(xs.take n).filter (fun x=>!p x)/\ys.drop n=xs.drop n/\Fr (one bk) w wr
theorem Aa{p:List Value->Bool}:∀ {l:List (List Value)} (i:Nat),l.any p=true->∃k x,l[k]?=some x/\p x=true/\(l.take k).any p=false/\lW p l i=((i+k:Nat):Int)
 |[],_,h=>by simp at h
 |a :: l,i,h=>by
  cases ha:p a
  ·rw[List.any_cons,ha,jN]at h;obtain⟨k,x,h1,h2,h3,h4⟩:=Aa (i+1) h;refine⟨k+1,x,by simpa using h1,h2,by simp[ha,h3],?_⟩;rw[lW,ha];simp only[cG,eU];rw[h4];congr 1;omega
  ·exact⟨0,a,rfl,ha,rfl,by rw[lW,ha];simp⟩
theorem Ab(h:l.any p=false):l.filter (fun x=>!p x)=l:=by
 rw[List.filter_eq_self];intro a ha;have:=eW.1 h a ha;simpa using this
theorem FI(b:Nat)(g:Nat)(cap:Array Value)(p:List Value->Bool)(v:Value)(xs:List (List Value))(w:World)(eg:∀args w,(callFunc g args).run prog w=.ok (.enter g args) w)(hp:gO (own v) w g cap p xs)(hv:OwnRows b 133 13 w v xs) :
  Calls prog 144 #[v,.func (.func g) #[] cap] w fun e w'=>∃a c,e=.returned (.slice a (xs.filter (fun x=>!p x)).length c)/\OwnRows b 133 13 w' (.slice a (xs.filter (fun x=>!p x)).length c) (xs.filter (fun x=>!p x))/\Fr (own v) w w'/\own (.slice a (xs.filter (fun x=>!p x)).length c)=own v:=by
 cases jn:xs.any p
 ·have rT:=O (ku (i:=0) jn);rw[Ab jn];obtain⟨av,cv,fI⟩:=hv.form;subst fI;go_enter func144,ntmps144;go_wp2_with fail
  refine(z_ g cap p _ xs w eg hp.none hv.at).mono ?_;rintro e w1⟨rfl,df⟩;rw[rT.o];go_wp2;go_ret;exact⟨_,_,rfl,hv.fr df (fun _ _ h=>h),df.mono (fun _ _ h=>absurd h (fun h=>h)),rfl⟩
 ·obtain⟨k0,x0,IL,Ec,vO,rT⟩:=Aa 0 jn;rw[bw]at rT;have Nv:=(List.getElem?_eq_some_iff.1 IL).1;obtain⟨bk,cp,Lh⟩:∃bk cp,v=.slice (some ⟨bk,0,none⟩) xs.length cp:=by
   rcases hv.2.2 with ⟨_,hn⟩|⟨bk,cp,cur,hv,_⟩
   ·omega
   ·exact⟨bk,cp,hv⟩
  subst Lh;obtain⟨Cu,cur,sH,q1,q2,q3,q4,q5,q6⟩:=hv.open (g:=bk) rfl;cases sH;unfold maxLen at q4;have dY:=O hv.1;have Ed:=O (show xs.take k0=(xs.take (k0+1)).filter (fun x=>!p x)by
   rw[dW IL,cC,Ab vO];simp[Ec])
  have HP:=O hp;have ZL:=O rT;clear jn vO IL Ec rT q2 q5 q6 hp;go_enter func144,ntmps144;go_wp2_with fail
  refine(z_ g cap p _ xs w eg HP.o.none hv.at).mono ?_;rintro e w1⟨rfl,df⟩;rw[ZL.o];have Ft:=hv.fr df (fun _ _ h=>h);have JS:((k0:Int)== -1)=false:=by rw[aN];omega
  go_wp2;go_loopw[5,6] (aec b w bk cp p xs) (fun _ j _=>xs.length-(intOf j).toNat)
  case atStart=>exact⟨k0,k0+1,xs,rfl,a_,ab,ab,rfl,Ft,Ed.o,rfl,df.mono (fun _ _ h=>absurd h (fun h=>h))⟩
  case round =>
   obtain⟨m,n,ys,rfl,rfl,hmn,hn,hlen,cP,rI,td,cK⟩:=hrel;have HT:=O rI;have HD:=O td;have jW:=O hlen;clear rI td hlen;rw[<-jW.o]at cP;have rU:=cP.at;by_cases eX:n<xs.length
   ·rcases rU.2 with ⟨_,_,_,e,_⟩|⟨IM,of,c,hf,h1,h2,h3,h4⟩
    ·have hl:=jW.o;rw[e]at hl;simp at hl;omega
    ·cases hf;have dN:=O (List.getElem?_eq_getElem eX);have yF:ys[n]?=some xs[n]:=by
      have e:=ar (fun l:List (List Value)=>l[0]?) HD.o;simp only[List.getElem?_drop,Nat.add_zero]at e;rw[e,dN.o]
     have hcell:=h4 n _ yF;simp only[bw]at hcell;have g_:=O (bL eX);generalize xs[n]=x at dN hcell g_ yF;have lF:=(dY.o x g_.o).1;have mO:=O (dY.o x g_.o).2;have jq:=fun W=>run_storeCells_new (P:=prog) W 133 #[.bool false,.string ⟨#[]⟩,.int .i64 0,.bool false,.string ⟨#[]⟩,.int .i64 0,.string ⟨#[]⟩,.string ⟨#[]⟩,.string ⟨#[]⟩,.bool false,.string ⟨#[]⟩,.bool false,.slice none 0 0] x (by rw[lF];rfl) mO.o
     have gS:Fr aR wr (wr.alloc (.cells x.toArray 133)):=(ae aR wr).alloc _;have fA:=O (HP.o x g_.o (wr.alloc (.cells x.toArray 133)) ((cK.alloc _).mono (fun k _ h=>by have e:k=bk:=h;rw[e];rfl)));have IV:=O (Bl lF);have js:=cK.alloc (.cells x.toArray 133);have fy:=cP.fr gS (fun _ _ h=>h);have qp:(wr.alloc (.cells x.toArray 133)).heap[wr.heap.size]?=some (.cells x.toArray 133 (0,0)):=aB _ _
     have ud:=O qp;clear h4 yF qp gS;go_wp2_with (first|((with_reducible refine cY 25 ?_);refine aU rfl 133 (.tmp 24) rfl bk (n*13) rfl x _ hcell underlying133 rfl IV.o ?_)|((with_reducible refine cY 27 ?_);refine aH rfl 133 (.tmp 7) rfl wr.heap.size rfl _ x.toArray (0,0) _ ud.o underlying133 rfl (by rw[aW];exact IV.o) ?_)|fail)
     have hlw:wr.heap.size<(wr.alloc (.cells x.toArray 133)).heap.size:=aQ;clear jq hcell;generalize wr.alloc (.cells x.toArray 133)=W2 at *
     refine fA.o.mono ?_;rintro e w3⟨rfl,iv⟩;have qG:=js.trans (iv.mono (fun _ _ h=>absurd h (fun h=>h)));have fo:=fy.fr iv (fun _ _ h=>h);have tK:=O (iv.keep ud.o (fun h=>h));have N0:=O jW.o;cases qI:p x
     ·have Yg:=O (fo.there (g:=bk) (cap:=cp) (by rw[jW.o]) (o:=m*13) (n:=x.toArray.size) (by
       have hmc:(m+1)*13<=cp*13:=bO _ ab;rw[aW,lF];omega))
      have eY:=fo.store (i:=m) (y:=x) (by rw[jW.o];omega) lF mO.o (g:=bk) rfl;rw[jW.o]at eY;have oA:=qG.step (fF (ae (one bk) w3) (fun _=>rfl) x (m*13)) (fun _ _ h=>h)
      go_wp2_with (first|((with_reducible refine cY 32 ?_);refine aH rfl 133 (.tmp 7) rfl wr.heap.size rfl _ x.toArray (0,0) _ tK.o underlying133 rfl (by rw[aW];exact IV.o) ?_)|((with_reducible refine cV 133 ?_);refine iq rfl 133 (.tmp 33) (.tmp 32) rfl bk (m*13) x.toArray rfl rfl Yg.o (by rw[aW];exact IV.o) (bW mO.o) ?_)|fail)
      go_roundw
      case rel =>
       refine⟨m+1,n+1,ys.set m x,a_,a_,ab,ab,by rw[d_];exact N0.o,eY,?_,?_,oA⟩
       ·rw[dW (l:=ys.set m x) (List.getElem?_set_self (by rw[N0.o];omega)),gj (ay m),dW dN.o,cC,HT.o];simp[qI]
       ·rw[gl ab];have e:=ar (List.drop 1) HD.o;simpa[ey]using e
      case measure=>simp[intOf];omega
     ·rw[jW.o]at fo;go_wp2_with fail
      go_roundw
      case rel =>
       refine⟨m,n+1,ys,rfl,a_,ab,ab,N0.o,fo,?_,?_,qG⟩
       ·rw[dW dN.o,cC,HT.o];simp[qI]
       ·have e:=ar (List.drop 1) HD.o;simpa[ey]using e
      case measure=>simp[intOf];omega
   ·have rW:n=xs.length:=ab;subst rW;have fc:=O (show ys.take m=xs.filter (fun x=>!p x)by have h:=HT.o;rw[aC (ay _)]at h;exact h);have sZ:(ys.take m).length=m:=by rw[aJ,jW.o];omega
    have zU:=O (show(xs.filter (fun x=>!p x)).length=m by rw[<-fc.o];exact sZ);have hcut:=cP.cut (i:=m) (by rw[jW.o];omega) (g:=bk) (cap:=cp) (by rw[jW.o]);have hle:(xs.length-m)*13+m*13<=cp*13:=by rw[<-dC];exact bO _ ab
    have CA:(Builtin.zeroCells wS (xs.length-m)).toList.length=(xs.length-m)*13:=by simp[Builtin.zeroCells]
    have vt:=fun ty=>jF (P:=prog) wr 87 133 ty wS underlying87 (fun w=>af) ag IY bk (m*13) (xs.length-m) (cp-m) ab (by
     have:=cP.there (g:=bk) (cap:=cp) (by rw[jW.o]) (o:=m*13) (n:=(xs.length-m)*13) ab;exact this)
    have yG:=hcut.behind (o:=m*13) (vs:=(Builtin.zeroCells wS (xs.length-m)).toList) (by rw[sZ];exact ay _) (g:=bk) (cap:=cp) (by rw[sZ]) (by rw[CA];omega);have oA:=cK.step (fF (ae (one bk) wr) (fun _=>rfl) (Builtin.zeroCells wS (xs.length-m)).toList (m*13)) (fun _ _ h=>h);clear cP rU hcut CA sZ hle jW;go_wp2_with fail
    go_ret;rw[zU.o, <-fc.o];exact⟨_,_,rfl,yG,oA.mono (fun k _ h=>by have e:k=bk:=h;rw[e];rfl),rfl⟩
theorem aed:∃i0:TypeInfo,prog.info? 133=some i0/\i0.size=13:=by
 have h:(prog.info? 133).map (·.size)=some 13:=af;cases hq:prog.info? 133 with
 |none=>rw[hq]at h;cases h
 |some i=>rw[hq]at h;exact⟨i,rfl,by simpa using h⟩
theorem GN(b:Nat)(bk cp i j:Nat)(xs:List (List Value))(w:World)(hv:OwnRows b 133 13 w (.slice (some ⟨bk,0,none⟩) xs.length cp) xs)(Q8:i<j)(hj:j<=xs.length) :
  Calls prog 116 #[.slice (some ⟨bk,0,none⟩) xs.length cp,.int .i64 i,.int .i64 j] w fun e w'=>e=.returned (.slice (some ⟨bk,0,none⟩) (i+(xs.length-j)) cp)/\OwnRows b 133 13 w' (.slice (some ⟨bk,0,none⟩) (i+(xs.length-j)) cp) (xs.take i++xs.drop j)/\Fr (one bk) w w':=by
 obtain⟨i0,qD,kZ⟩:=aed;obtain⟨Cu,cur,sH,q1,q2,q3,q4,q5,q6⟩:=hv.open (g:=bk) rfl;cases sH;unfold maxLen at q4;have dN:=hv.at;have dY:=hv.1;obtain⟨news,kL⟩:∃news,news=(xs.drop j).flatten:=⟨_,rfl⟩;have hdr:∀x∈xs.drop j,x.length=13/\∀u∈x,u.oneCell'=true:=fun x hx=>dY x (ez hx);have hlen:news.length=(xs.length-j)*13:=by rw[kL,gC (fun x hx=>(hdr x hx).1),bJ]
 obtain⟨A,hA,N1⟩:∃A:Addr,(if cp=j then some (⟨bk,0,none⟩:Addr)else some ⟨bk,j*13,none⟩)=some A/\Hid (∀t u,news[t]?=some u->w.drew.cell? (A.add t)=some u):=by
  by_cases h:cp=j
  ·refine⟨⟨bk,0,none⟩,by simp[h],fun t u hu=>?_⟩
   have h0:news.length=0:=by rw[hlen];have:xs.length-j=0:=by omega
                             rw[this,ik]
   rw[dF.1 h0]at hu;simp at hu
  ·refine⟨⟨bk,j*13,none⟩,by simp[h],fun t u hu=>?_⟩;have ht:t<(xs.length-j)*13:=by
    have:=(List.getElem?_eq_some_iff.1 hu).1;omega
   have nv:xs.flatten[j*13+t]?=some u:=by
    have e:xs.flatten=(xs.take j).flatten++(xs.drop j).flatten:=by rw[<-ed,fM]
    have hl:(xs.take j).flatten.length=j*13:=by rw[gC (fun x hx=>(dY x (dX hx)).1),aJ,dK hj]
    rw[e,List.getElem?_append_right ab,hl,show j*13+t-j*13=t from ab, <-kL];exact hu
   have hjt:j*13+t<xs.length*13:=by
    have:(xs.length-j)*13+j*13=xs.length*13:=by rw[<-dC];congr 1;omega
    omega
   rw[<-q6,List.getElem?_take_of_lt hjt]at nv;have zV:cur[j*13+t]?=some u:=by simpa using nv
   have ea:(Addr.add ⟨bk,j*13,none⟩ t)=⟨bk,j*13+t,none⟩:=by unfold Addr.add;split<;>simp_all
   rw[ea];show w.cell? _=some u;simp[World.cell?,q2,zV]
 have s1:=O hlen;have s2:=O (show∀u∈news,u.oneCell'=true by
  intro u hu;rw[kL]at hu;obtain⟨x,hx,GL⟩:=fL.1 hu;exact(hdr x hx).2 u GL)
 have s3:=O (show∀t,t<news.length->(w.drew.cell? ⟨bk,0+i*13+t,none⟩).isSome=true/\w.drew.frozen? ⟨bk,0+i*13+t,none⟩=false by
  intro t ht;rw[bw];have hle:i*13+(xs.length-j)*13<=cp*13:=by rw[<-dC];exact bO _ ab
  have:=hv.there (g:=bk) (cap:=cp) rfl (o:=i*13) (n:=(xs.length-j)*13) hle t ab;exact this)
 have Vn:OwnRows b 133 13 w.drew (.slice (some ⟨bk,0,none⟩) xs.length cp) xs:=hv;have qz:=Vn.Dw (i:=i) (ys:=xs.drop j) ab hdr (g:=bk) (cap:=cp) rfl (by rw[bJ];omega);rw[bJ, <-kL]at qz;have yH:Fr (one bk) w (w.drew.setCells bk (i*13) news):=((ae (one bk) w).drew).setCells (fun _=>rfl) _ _;obtain⟨W1,Cy⟩:∃W1,W1=w.drew.setCells bk (0+i*13) news:=⟨_,rfl⟩;have HW:=O Cy;rw[bw]at Cy;rw[<-Cy]at qz yH
 have rW:(xs.take i++xs.drop j).length=i+(xs.length-j):=by rw[aM,aJ,bJ];omega
 have hm:i+(xs.length-j)<xs.length:=ab;have CA:(Builtin.zeroCells wS (xs.length-(i+(xs.length-j)))).toList.length=(xs.length-(i+(xs.length-j)))*13:=by simp[Builtin.zeroCells]
 have hle:(i+(xs.length-j))*13+(xs.length-(i+(xs.length-j)))*13<=cp*13:=by rw[<-dC];exact bO _ ab
 have vt:=fun ty=>jF (P:=prog) W1 87 133 ty wS underlying87 (fun w=>af) ag IY bk ((i+(xs.length-j))*13) (xs.length-(i+(xs.length-j))) (cp-(i+(xs.length-j))) ab (by
  have:=qz.there (g:=bk) (cap:=cp) (by rw[rW]) (o:=(i+(xs.length-j))*13) (n:=(xs.length-(i+(xs.length-j)))*13) hle;exact this)
 have yG:=qz.behind (o:=(i+(xs.length-j))*13) (vs:=(Builtin.zeroCells wS (xs.length-(i+(xs.length-j)))).toList) (by rw[rW];exact ay _) (g:=bk) (cap:=cp) (by rw[rW]) (by rw[CA];omega);have oA:=yH.step (fF (ae (one bk) W1) (fun _=>rfl) (Builtin.zeroCells wS (xs.length-(i+(xs.length-j)))).toList ((i+(xs.length-j))*13)) (fun _ _ h=>h);have hne:((i:Int)==(j:Int))=false:=by rw[aN];omega
 have adZ:i<=cp:=ab;have ad0:j<=cp:=ab;have HA:=O hA;clear Cy qz Vn yH kL hlen hdr dY dN rW CA hle q2 q5 q6 hv;go_enter func116,ntmps116;go_wp2_with fail
 have hA:=HA.o;go_region_law (refine step_append_room rfl (.tmp 22) (.tmp 25) 87 rfl 133 i0 13 underlying87 qD kZ bk 0 i cp (by simp[Act.eval,Act.put]) A (xs.length-j) (cp-j) news (by simp[Act.eval,Act.put]) s1.o N1.out s2.o ab s3.o ?_;rw[<-HW.o])
 all_goals
  go_wp2_with fail
  go_ret;exact⟨rfl,yG,oA⟩
abbrev FJ:Array Value:= #[.bool false,.string ⟨#[]⟩,.int .i64 0,.bool false,.string ⟨#[]⟩,.int .i64 0,.string ⟨#[]⟩,.string ⟨#[]⟩,.bool false,.string ⟨#[]⟩,.string ⟨#[]⟩,.int .i64 0]
theorem Qq:∀v∈FJ.toList,v.oneCell'=true:=dp
theorem Bo(h:x.length=12):(prog.info? 155).map (·.size)=some x.length:=by rw[h];kernel_rfl
def aek(w:World)(p:List Value->Bool)(xs:List (List Value))(i:Value)(wr:World):Prop :=
 ∃k:Nat,k<=xs.length/\i=.int .i64 k/\(xs.take k).any p=false/\Fr aR w wr
theorem uQ(g:Nat)(cap:Array Value)(p:List Value->Bool)(v:Value)(xs:List (List Value))(w:World)(eg:∀args w,(callFunc g args).run prog w=.ok (.enter g args) w)(hp:gO aR w g cap p xs)(hv:dV 12 w v xs) :
  Calls prog 180 #[v,.func (.func g) #[] cap] w fun e w'=>e=.returned (.int .i64 (lW p xs 0))/\Fr aR w w':=by
 obtain⟨av,cv,fI⟩:=hv.form;subst fI;have dY:=O hv.1;go_enter func180,ntmps180;go_wp2;go_loopw[8] (aek w p xs) (fun i _=>xs.length-(intOf i).toNat)
 case atStart=>exact⟨0,aI _,rfl,rfl,ae _ _⟩
 case round =>
  obtain⟨k,hk,rfl,hn,cK⟩:=hrel;have HN:=O hn;clear hn;by_cases eX:k<xs.length
  ·rcases(hv.fH cK).2 with ⟨_,_,_,e,_⟩|⟨bk,of,c,hf,h1,h2,h3,h4⟩
   ·rw[e]at eX;exact absurd eX (bS _)
   ·cases hf;unfold maxLen at h2;have dN:=O (List.getElem?_eq_getElem eX);have hcell:=h4 k _ dN.o;have g_:=O (bL eX);generalize xs[k]=x at dN hcell g_;have fA:=O (hp x g_.o wr cK);have lF:=(dY.o x g_.o).1;clear h4;cases qI:p x
    ·have qi:=O (any_take_succ dN.o HN.o qI);go_wp2_with (first|((with_reducible refine cY 15 ?_);refine aU rfl 155 (.tmp 14) rfl bk (of+k*12) rfl x _ hcell underlying155 rfl (Bo lF) ?_)|fail)
     refine fA.o.mono ?_;rintro e w1⟨rfl,df⟩;rw[qI];go_wp2;go_roundw
     case rel=>exact⟨k+1,ab,a_,qi.o,cK.trans df⟩
     case measure=>simp[intOf];omega
    ·have fc:=O (oV (i:=0) dN.o qI HN.o);go_wp2_with (first|((with_reducible refine cY 15 ?_);refine aU rfl 155 (.tmp 14) rfl bk (of+k*12) rfl x _ hcell underlying155 rfl (Bo lF) ?_)|fail)
     refine fA.o.mono ?_;rintro e w1⟨rfl,df⟩;rw[qI];go_wp2;go_ret;rw[fc.o,bw];exact⟨rfl,cK.trans df⟩
  ·have fc:=O (show lW p xs 0= -1 from ku (by have h:=HN.o;rw[aC ab]at h;exact h));go_wp2;go_ret;rw[fc.o];exact⟨rfl,cK⟩
theorem CB(g:Nat)(cap:Array Value)(p:List Value->Bool)(v:Value)(xs:List (List Value))(w:World)(eg:∀args w,(callFunc g args).run prog w=.ok (.enter g args) w)(hp:gO aR w g cap p xs)(hv:dV 12 w v xs) :
  Calls prog 119 #[v,.func (.func g) #[] cap] w fun e w'=>e=.returned (.bool (xs.any p))/\Fr aR w w':=by
 have hb:=O (rP p xs 0);go_enter func119,ntmps119;go_wp2_with fail
 refine(uQ g cap p v xs w eg hp hv).mono ?_;rintro e w1⟨rfl,df⟩;go_wp2;go_ret;exact⟨fx hb.o,df⟩
