/- IdxPa, GrantFew, Sized, DigT, Waits, BankNew, Book2, AskParse, OpenV. -/
import Derived.Test.YtjdmjbdkdmbaiaaGreatDoorPk25
import Derived.Test.YtjdmjbdkdmbaiaaGreatDoorPk26
set_option maxRecDepth 100000
set_option maxHeartbeats 16000000
set_option linter.unusedSimpArgs false
namespace Go.Proofs.YtjdmjbdkdmbaiaaGreatDoor
open Go.RowKit
theorem LP(p q:bI)(w:World):(binOp .eql 65 (.agg p.cells.toArray) (.agg q.cells.toArray)).run Tryz.prog w=.ok (.bool (p.eN q)) w:=by
 obtain⟨⟨a,b,c⟩,⟨d,e,f⟩,g,i,j,k,l,m⟩:=p;obtain⟨⟨a',b',c'⟩,⟨d',e',f'⟩,g',i',j',k',l',m'⟩:=q;unfold bI.cells;go_simp;simp only[show∀(P:Prop) [Decidable P] (W:World) (b:Bool),(if P then(Result.ok (Value.bool b) W:Result Value)else .ok (.bool false) W)=.ok (.bool (decide P&&b)) W from fun P _ W b=>by by_cases h:P<;>simp[h]]
 congr 2
 rw[Bool.eq_iff_iff];simp only[bI.eN,cO.eN,Bool.and_eq_true,decide_eq_true_eq,beq_iff_eq,and_assoc,and_true]
def oH(w:World)(b o:Nat)(p:bI):Prop :=
 w.cell? ⟨b,o,none⟩=some (.bool p.aI.ae)/\w.cell? ⟨b,o+1,none⟩=some (.string p.aI.host)/\w.cell? ⟨b,o+2,none⟩=some (.int .i64 p.aI.port)/\w.cell? ⟨b,o+3,none⟩=some (.bool p.o.ae)/\w.cell? ⟨b,o+4,none⟩=some (.string p.o.host)/\w.cell? ⟨b,o+5,none⟩=some (.int .i64 p.o.port)/\w.cell? ⟨b,o+6,none⟩=some (.string p.path)/\w.cell? ⟨b,o+7,none⟩=some (.string p.query)/\w.cell? ⟨b,o+8,none⟩=some (.bool p.bP)/\w.cell? ⟨b,o+9,none⟩=some (.string p.method)/\w.cell? ⟨b,o+10,none⟩=some (.string p.head)/\w.cell? ⟨b,o+11,none⟩=some (.int .i64 p.kB)
theorem oH.of{w:World}{b o:Nat}{p:bI}(h:∀(i:Nat) u,p.cells[i]?=some u->w.cell? ⟨b,o+i,none⟩=some u):oH w b o p :=
 ⟨h 0 _ rfl,h 1 _ rfl,h 2 _ rfl,h 3 _ rfl,h 4 _ rfl,h 5 _ rfl,h 6 _ rfl,h 7 _ rfl,h 8 _ rfl,h 9 _ rfl,h 10 _ rfl,h 11 _ rfl⟩
theorem oH.cR{w:World}{b:Nat}{p:bI}(h:w.heap[b]?=some (.cells p.cells.toArray 65 (0,0))):oH w b 0 p :=
 oH.of fun i u hu=>by simp only[World.cell?,h];simpa using hu
theorem oV.lie{w:World}{a:Option Addr}{c n:Nat}{ps:List bI}(h:oV w (.slice a n c) ps)(hne:ps≠ []) :
  ∃bk of,a=some ⟨bk,of,none⟩/\n=ps.length/\n<=c/\n<=maxLen/\bk<w.heap.size/\∀(j:Nat) q,ps[j]?=some q->oH w bk (of+j*12) q:=by
 rcases h.2 with ⟨_,_,_,e,_⟩|⟨bk,of,c',hf,g1,g2,g3,g4⟩
 ·exact absurd (by simpa using e) hne
 ·cases hf;rw[List.length_map]at g1;exact⟨bk,of,rfl,by simp,by simpa using g1,by rw[List.length_map];have h1:ps.length<=c:=g1;exact Nat.le_trans h1 g2,g3,fun j q hq=>oH.of (g4 j q.cells (by rw[List.getElem?_map,hq];rfl))⟩
def ahs(w:World)(n:Nat)(f:Nat->Bool)(i:Value)(wr:World):Prop:=∃k:Nat,k<=n/\i=.int .i64 k/\f k=true/\Fr ay w wr
theorem Pz(v:Value)(ps:List bI)(p:bI)(w:World)(h:oV w v ps) :
  Calls Tryz.prog 196 #[v,.agg p.cells.toArray] w fun e w'=>e=.returned (.int .i64 (gT (fun q=>p.eN q) ps 0))/\Fr ay w w':=by
 obtain⟨av,cv,hv⟩:=aN.form h;subst hv;rw[List.length_map]at h ⊢;have HQ:=O (LP p);obtain⟨w1,jt⟩:∃w1,w1=w.alloc (.cells p.cells.toArray 65):=⟨_,rfl⟩;have bt:Fr ay w w1:=by rw[jt];exact(Fr.refl _ _).alloc _
 have gZ:w1.heap[w.heap.size]?=some (.cells p.cells.toArray 65 (0,0)):=by rw[jt];exact af _ _
 have HP:=O (show∀U,Fr ay w1 U->oH U w.heap.size 0 p from fun U hU=>oH.cR (hU.keep gZ (fun h=>h)));have HL:=O (show∀U,Fr ay w1 U->oV U (.slice av ps.length cv) ps from fun U hU=>aN.bu h (bt.trans hU));have gV:=O bt;have D3:=O jt;clear h bt gZ;unfold bI.cells at jt HQ ⊢;go_enter Tryz.func196,Tryz.ntmps196;go_wp2;rw[<-jt];clear jt
 go_loopw[8] (ahs w1 ps.length (fun k=>!(ps.take k).any (fun q=>p.eN q))) (fun i _=>ps.length-(intOf i).toNat)
 case atStart=>exact⟨0,Nat.zero_le _,rfl,rfl,Fr.refl _ _⟩
 case round =>
  obtain⟨k,hk,rfl,hn,aW⟩:=hrel;have HN:=O (show(ps.take k).any (fun q=>p.eN q)=false by simpa using hn);clear hn;by_cases cG:k<ps.length
  ·have lf:(k:Int)<(ps.length:Int):=by omega
   have U8:(0:Int)<=(k:Int):=by omega
   obtain⟨bk,of,rfl,g1,g2,g3,g4,g5⟩:=oV.lie (HL.out wr aW) (by intro e;rw[e]at cG;cases cG);unfold maxLen at g3;have bC:=O (List.getElem?_eq_getElem cG);generalize ps[k]=q at bC;obtain⟨c0,c1,c2,c3,c4,c5,c6,c7,c8,c9,FT,Xl⟩:=g5 k q bC.out;obtain⟨d0,d1,d2,d3,d4,d5,d6,d7,d8,d9,d10,d11⟩:=HP.out wr aW;simp only[Nat.zero_add]at d0 d1 d2 d3 d4 d5 d6 d7 d8 d9 d10 d11;have heq:=HQ.out q;unfold bI.cells at heq
   have hfd:=aW.drewN;clear g1 g5;cases he:p.eN q
   ·have kT:=O (any_take_succ bC.out HN.out he);rw[he]at heq;clear he;go_wp2;go_quiet (fail);go_wp2;go_roundw
    case rel=>exact⟨k+1,by omega,by go_num,by show(!(ps.take (k+1)).any (fun q=>p.eN q))=true;rw[kT.out];rfl,aW.drewN _⟩
    case measure=>simp[intOf];omega
   ·have bR:=O (kL (i:=0) bC.out he HN.out);rw[he]at heq;clear he;go_wp2;go_quiet (fail);go_wp2;go_ret;rw[bR.out,Nat.zero_add];exact⟨rfl,gV.out.trans (aW.drewN _)⟩
  ·have lf:¬(k:Int)<(ps.length:Int):=by omega
   have bR:=O (show gT (fun q=>p.eN q) ps 0= -1 from fD (by have h:=HN.out;rw[List.take_of_length_le (by omega)]at h;exact h));go_wp2;go_ret;rw[bR.out];exact⟨rfl,gV.out.trans aW⟩
theorem EM(v:Value)(ps:List bI)(p:bI)(w:World)(h:oV w v ps) :
  Calls Tryz.prog 130 #[v,.agg p.cells.toArray] w fun e w'=>e=.returned (.bool (ps.any (fun q=>p.eN q)))/\Fr ay w w':=by
 have hb:=O (lX (fun q=>p.eN q) ps 0);have bt:Fr ay w (w.alloc (.cells p.cells.toArray 65)):=(Fr.refl _ _).alloc _;have gZ:(w.alloc (.cells p.cells.toArray 65)).heap[w.heap.size]?=some (.cells p.cells.toArray 65 (0,0)):=af _ _;have HC:=O (Pz v ps p _ (aN.bu h bt));obtain⟨av,cv,hv⟩:=aN.form h;subst hv;rw[List.length_map]at HC ⊢;have gV:=O bt;have G:=O gZ;clear h bt gZ;unfold bI.cells at *
 go_enter Tryz.func130,Tryz.ntmps130;go_wp2_with (first|((with_reducible refine ag ⟨some 6,_,_,_,_,_⟩ ?_);go_must(refine wpList_load_row rfl 65 (.tmp 3) rfl w.heap.size rfl _ _ (0,0) _ G.out Tryz.underlying65 rfl (by kernel_rfl) ?_))|fail)
 refine HC.out.mono ?_;rintro e w2⟨rfl,bq⟩;go_wp2;go_ret;exact⟨cJ hb.out,gV.out.trans bq⟩
def vp(w:World)(b:Nat)(r:dp Value):Prop :=
 w.cell? ⟨b,0,none⟩=some (.int .i64 r.part)/\w.cell? ⟨b,1,none⟩=some (.bool r.aI.ae)/\w.cell? ⟨b,2,none⟩=some (.string r.aI.host)/\w.cell? ⟨b,3,none⟩=some (.int .i64 r.aI.port)/\w.cell? ⟨b,4,none⟩=some (.bool r.o.ae)/\w.cell? ⟨b,5,none⟩=some (.string r.o.host)/\w.cell? ⟨b,6,none⟩=some (.int .i64 r.o.port)/\w.cell? ⟨b,7,none⟩=some (.string r.path)/\w.cell? ⟨b,8,none⟩=some (.string r.query)/\w.cell? ⟨b,9,none⟩=some (.string r.method)/\w.cell? ⟨b,10,none⟩=some r.cU/\w.cell? ⟨b,11,none⟩=some (.bool r.bP)/\w.cell? ⟨b,12,none⟩=some (.string r.body)
theorem vp.cR{w:World}{b:Nat}{r:dp Value}(h:w.heap[b]?=some (.cells r.cells.toArray 29 (0,0))):vp w b r:=by
 have hc:∀i u,r.cells[i]?=some u->w.cell? ⟨b,i,none⟩=some u:=fun i u hu=>by simp only[World.cell?,h];simpa using hu
 exact⟨hc 0 _ rfl,hc 1 _ rfl,hc 2 _ rfl,hc 3 _ rfl,hc 4 _ rfl,hc 5 _ rfl,hc 6 _ rfl,hc 7 _ rfl,hc 8 _ rfl,hc 9 _ rfl,hc 10 _ rfl,hc 11 _ rfl,hc 12 _ rfl⟩
theorem Mj(ps:List bI)(p:bI):(kJ ps p).length<=ps.length+1:=by
 unfold kJ;split
 ·omega
 ·simp
theorem sK:∀(l ps:List bI),(l.foldl kJ ps).length<=ps.length+l.length
 |[],ps=>by simp
 |p :: l,ps=>by
  rw[List.foldl_cons];have h1:=sK l (kJ ps p);have h2:=Mj ps p;rw[List.length_cons];omega
theorem yW{ps:List ew}{n:Bs}{l:List Bs}(h:fL ps n=some l):l.length<=40:=by
 unfold fL at h;split at h
 ·cases h
 ·split at h
  ·cases h
  ·cases h;omega
theorem Mk{r:lu}{t:Bs}{ps:List ew}{now:Int}{m:List bI}(h:oc r t ps now=.ok m):m.length<=81:=by
 unfold oc at h;cases e1:fL ps DI with
 |none=>rw[e1]at h;cases h
 |some ms =>
  cases e2:fL ps rT with
  |none=>rw[e1,e2]at h;cases h
  |some hs =>
   rw[e1,e2]at h;simp only at h;split at h
   ·cases h
   ·split at h
    ·cases h
    ·cases h;have h1:=yW e1;have h2:=yW e2;unfold lu.aH;refine Nat.le_trans (sK _ _) ?_;rw[List.length_map];have h3:=sK ((r.methods ms).map fun m=>r.xF (now+iB ps) m (bA [])) [];rw[List.length_map]at h3;have h4:(r.methods ms).length<=40:=by
      unfold lu.methods;split
      ·simp
      ·rw[List.length_map];exact h1
     simp only[List.length_nil,Nat.zero_add]at h3;omega
def dp.Ft{D:Type}(r:dp D):Prop:=r.method.size<=140737488351232/\r.path.size<=140737488351232/\r.query.size<=140737488351232/\r.o.host.size<=140737488351232/\r.aI.host.size<=140737488351232
theorem Ao:∀(l:List (ew×Bs)) (p:ew×Bs),rp (l++[p])=rp l++((if l.isEmpty then []else [44,32])++KB p.1 p.2)
 |[],p=>rfl
 |[a],p=>by simp[rp]
 |a :: b :: l,p=>by
  have ih:=Ao (b :: l) p;simp only[List.cons_append,rp]at ih ⊢;rw[ih];simp
abbrev Item:=Bs×Bs×Bool
def Item.par(i:Item):ew×Bs:=((i.1,i.2.1),uU i.2.2 i.2.1)
def BV(l:List (ew×Bs)):Bs:=TT++32 :: rp l
def pT(l:List Item):Bs:=BV (l.map Item.par)
def rZ(l:List Item):Bool:=l.any fun i=>uV i.2.2 i.2.1
theorem KP(p:ew×Bs)(l:List (ew×Bs)):0<(rp (p :: l)).length:=by
 cases l with
 |nil=>simp[rp,KB];omega
 |cons q l=>simp[rp,KB];omega
theorem DU(l:List Item)(nm v:Bs)(q:Bool):kW (pT l) nm (uU q v)=pT (l++[(nm,v,q)]):=by
 unfold kW pT;rw[List.map_append];show _=BV (l.map Item.par++[((nm,v),uU q v)]);unfold BV;rw[Ao];cases l with
 |nil=>rfl
 |cons a l =>
  have h:=KP a.par (l.map Item.par);rw[if_pos (by simp[TT]at h ⊢; omega)];simp[KB]
theorem KQ(l:List Item)(nm v:Bs)(q:Bool):(rZ l||uV q v)=rZ (l++[(nm,v,q)]):=by unfold rZ;simp
theorem N2(q:Bool)(v:Bs):(uU q v).length<=2*v.length+2:=by
 have:=DT v;unfold uU;split
 ·split
  ·exact this
  ·simp
 ·omega
theorem N3(l nm x:Bs):(kW l nm x).length<=l.length+nm.length+x.length+3:=by
 unfold kW;split<;>simp<;>omega
def pU(user ar aE uri KC name:Bs):List Item:=[(I_,user,true),(pH,ar,true),(pI,aE,true),(TS,uri,true),(I',KC,true),(sY,name,false)]
def xR(bU count:Bs):List Item:=if bU.isEmpty then []else [(Dt,bU,false),(nNc,count,false)]
def N4(bU:Bs)(aL:Bool)(aB:Bs):List Item:=if !bU.isEmpty||aL then [(xd,aB,true)]else []
def xS(aK:Bs):List Item:=if aK.isEmpty then []else [(gP,aK,true)]
def cE.items(d:cE):List Item:=pU d.user d.ar d.aE d.uri d.KC (kd d.scheme d.aL)++(xR d.bU d.count++(N4 d.bU d.aL d.aB++xS d.aK))
theorem cE.qF{d:cE}(h:rZ d.items=false):d.fair=true:=by
 unfold cE.items pU xR N4 xS rZ at h;unfold cE.fair;simp only[List.any_append,List.any_cons,List.any_nil,Bool.or_false,Bool.or_eq_false_iff,uV,Bool.true_and,Bool.false_and,Bool.not_eq_false']at h;obtain⟨⟨h1,h2,h3,h4,h5⟩,_,h6,h7⟩:=h;rw[h1,h2,h3,h4,h5];simp only[Bool.true_and];have g6:(!(!d.bU.isEmpty||d.aL)||jk d.aB)=true:=by
  cases hc:(!d.bU.isEmpty||d.aL)
  ·rfl
  ·rw[hc]at h6;simpa[uV]using h6
 have g7:(d.aK.isEmpty||jk d.aK)=true:=by
  cases hc:d.aK.isEmpty
  ·rw[hc]at h7;simpa[uV]using h7
  ·rfl
 rw[g6,g7];rfl
theorem cE.qG(d:cE):rZ d.items=!d.fair:=by
 unfold cE.items pU xR N4 xS rZ cE.fair;cases d.bU.isEmpty<;>cases d.aL<;>cases d.aK.isEmpty<;>simp[uV]
theorem xT{n v:Bs}(h:jk v=true):Item.par (n,v,true)=qP n v:=by unfold Item.par qP uU;simp[h]
theorem afQ(n v:Bs):Item.par (n,v,false)=pP n v:=rfl
theorem cE.qH{d:cE}(h:d.fair=true):pT d.items=d.text:=by
 unfold cE.fair at h;simp only[Bool.and_eq_true]at h;obtain⟨f1,f2,f3,f4,f5,f6,f7⟩:=h;unfold pT BV cE.text
 congr 2
 have e1:(pU d.user d.ar d.aE d.uri d.KC (kd d.scheme d.aL)).map Item.par=d.head:=by
  unfold pU cE.head;simp only[List.map_cons,List.map_nil,xT f1,xT f2,xT f3,xT f4,xT f5,afQ]
 have e2:(xR d.bU d.count).map Item.par=d.two:=by
  unfold xR cE.two;split<;>rfl
 have e3:(N4 d.bU d.aL d.aB).map Item.par=d.cn:=by
  unfold N4 cE.cn;cases hc:(!d.bU.isEmpty||d.aL)
  ·rfl
  ·rw[hc]at f6;simp only[if_true,List.map_cons,List.map_nil,xT (show jk d.aB=true by simpa using f6)]
 have e4:(xS d.aK).map Item.par=d.op:=by
  unfold xS cE.op;cases hc:d.aK.isEmpty
  ·rw[hc]at f7;simp only[Bool.false_eq_true,if_false,List.map_cons,List.map_nil,xT (show jk d.aK=true by simpa using f7)]
  ·rfl
 unfold cE.items cE.tB;rw[List.map_append,List.map_append,List.map_append,e1,e2,e3,e4]
theorem DV(cH:Int)(ar aE aK bU:ByteArray)(aL aX:Bool)(dom:Value)(w:World) :
  Calls Tryz.prog 96 #[.agg #[.int .i64 cH,.string ar,.string aE,.string aK,.bool aL,.string bU,.bool aX,dom]] w fun e w'=>e=.returned (.string (bA (kd cH aL)))/\Fr ay w w':=by
 by_cases h3:cH=3
 ·cases aL with
  |false =>
   have E:bA (kd cH false)=⟨#[83,72,65,45,50,53,54]⟩:=by unfold kd;rw[if_pos h3];rfl
   have HE:=O E;clear E;go_enter Tryz.func96,Tryz.ntmps96;go_wp2;go_ret;exact⟨by rw[HE.out];rfl,(Fr.refl ay w).alloc _⟩
  |true =>
   have E:bA (kd cH true)=⟨#[83,72,65,45,50,53,54,45,115,101,115,115]⟩:=by unfold kd;rw[if_pos h3];rfl
   have HE:=O E;clear E;go_enter Tryz.func96,Tryz.ntmps96;go_wp2;go_ret;exact⟨by rw[HE.out];rfl,(Fr.refl ay w).alloc _⟩
 ·cases aL with
  |false =>
   have E:bA (kd cH false)=⟨#[77,68,53]⟩:=by unfold kd;rw[if_neg h3];rfl
   have HE:=O E;clear E;go_enter Tryz.func96,Tryz.ntmps96;go_wp2;go_ret;exact⟨by rw[HE.out];rfl,(Fr.refl ay w).alloc _⟩
  |true =>
   have E:bA (kd cH true)=⟨#[77,68,53,45,115,101,115,115]⟩:=by unfold kd;rw[if_neg h3];rfl
   have HE:=O E;clear E;go_enter Tryz.func96,Tryz.ntmps96;go_wp2;go_ret;exact⟨by rw[HE.out];rfl,(Fr.refl ay w).alloc _⟩
theorem Ls:(Tryz.prog.info? 144).map (fun i=>(i.zero,i.size,i.bytes))=some (some (.agg rB),13,168):=by kernel_rfl
def Z5(base:Nat)(w:World)(b:Nat)(o:Nat)(g:aG aF):Prop :=
 ∃r:aG Value,(∀u∈r.cells,u.oneCell'=true)/\r.Reads (aS base w) g/\∀(i:Nat) u,r.cells[i]?=some u->w.cell? ⟨b,o+i,none⟩=some u
theorem fq.at{base:Nat}{w:World}{v:Value}{gs:List (aG aF)}(h:fq base w v gs){k:Nat}(hk:k<gs.length) :
  ∃b c,v=.slice (some ⟨b,0,none⟩) gs.length c/\gs.length<=maxLen/\Z5 base w b (k*13) gs[k]:=by
 obtain⟨rs,h1,h2⟩:=h;have hl:=h2.len;obtain⟨x,hx⟩:∃x,rs[k]?=some x:=⟨_,List.getElem?_eq_getElem (by omega)⟩;obtain⟨g,hg,hr⟩:=h2.get hx;rw[List.getElem?_eq_getElem hk]at hg;obtain rfl:=Option.some.inj hg;have bC:=h1.at;rcases h1.2.2 with ⟨_,hn⟩|⟨bk,cap,cur,hv,_⟩
 ·rw[List.length_map]at hn;omega
 rcases bC.2 with ⟨_,_,e1,e,_⟩|⟨ZE,o,c,nu,q1,q2,q3,q4⟩
 ·simp at e;rw[e]at hl;simp at hl;omega
 ·rw[hv]at nu;cases nu;rw[List.length_map]at q1;refine⟨bk,cap,by rw[hv,List.length_map,hl],by omega,x,(h1.1 x.cells (List.mem_map.2 ⟨x,List.mem_of_getElem? hx,rfl⟩)).2,hr,?_⟩;intro i u hu;have:=q4 k x.cells (by rw[List.getElem?_map,hx];rfl) i u hu;rw[Nat.zero_add]at this;exact this
def aG.oz(r:aG Value)(d:Value):aG Value:={r with a:={r.a with dom:=d}}
theorem aS.aoi(base:Nat)(w:World)(x:ByteArray):aS base (w.alloc (.cells #[.string x] 9)) (.slice (some ⟨w.heap.size,0,none⟩) 1 1) [x]:=by
 refine⟨Or.inr ⟨w.heap.size,0,1,rfl,Nat.le_refl _,by simp[maxLen],by simp,fun j z hj=>?_⟩,fun k hk _=>?_,by simp⟩
 ·rw[Nat.zero_add,World.cell?_alloc_mark]
  match j,hj with
  |0,hj=>simp at hj;subst hj;rfl
 ·simp[Value.ownBlock]at hk;subst hk;exact⟨by simp,Or.inr ⟨_,_,af _ _⟩⟩
theorem OZ(p q:bI)(w:World) :
  Calls Tryz.prog 183 #[.agg p.cells.toArray,.agg q.cells.toArray] w fun e w'=>e=.returned (.bool (p.like q))/\Fr ay w w':=by
 have heq:=Es {p with kB:=q.kB} q;have HR:=O (show p.like q=({p with kB:=q.kB}:bI).eN q from rfl);obtain⟨W0,hW0⟩:∃W0,W0=(w.alloc (.cells p.cells.toArray 65)).alloc (.cells q.cells.toArray 65):=⟨_,rfl⟩;have iJ:Fr ay w W0:=by rw[hW0];exact((Fr.refl ay w).alloc _).alloc _
 have h0:W0.heap[w.heap.size]?=some (.cells p.cells.toArray 65 (0,0)):=by rw[hW0];exact((Fr.refl ay _).alloc _).keep (af _ _) (fun h=>h)
 have h1:W0.heap[w.heap.size+1]?=some (.cells q.cells.toArray 65 (0,0)):=by
  have h:=af (w.alloc (.cells p.cells.toArray 65)) (.cells q.cells.toArray 65);rw[World.size_alloc]at h;rw[hW0];exact h
 have Xl:W0.cell? ⟨w.heap.size+1,11,none⟩=some (.int .i64 q.kB):=by simp only[World.cell?,h1];rfl
 have d11:W0.cell? ⟨w.heap.size,11,none⟩=some (.int .i64 p.kB):=by simp only[World.cell?,h0];rfl
 have e11:W0.frozen? ⟨w.heap.size,11,none⟩=false:=by simp[World.frozen?,h0]
 clear h0 h1 iJ;rw[hW0]at Xl d11 e11;clear hW0;have hF:Fr ay w ((w.alloc (.cells ({p with kB:=q.kB}:bI).cells.toArray 65)).alloc (.cells q.cells.toArray 65)):=((Fr.refl ay w).alloc _).alloc _
 have g0:((w.alloc (.cells ({p with kB:=q.kB}:bI).cells.toArray 65)).alloc (.cells q.cells.toArray 65)).heap[w.heap.size]?=some (.cells ({p with kB:=q.kB}:bI).cells.toArray 65 (0,0)):=((Fr.refl ay _).alloc _).keep (af _ _) (fun h=>h);have g1:((w.alloc (.cells ({p with kB:=q.kB}:bI).cells.toArray 65)).alloc (.cells q.cells.toArray 65)).heap[w.heap.size+1]?=some (.cells q.cells.toArray 65 (0,0)):=by
  have h:=af (w.alloc (.cells ({p with kB:=q.kB}:bI).cells.toArray 65)) (.cells q.cells.toArray 65);rw[World.size_alloc]at h;exact h
 unfold bI.cells at *
 dsimp only at heq hF g0 g1;have G:=O (And.intro g0 g1);have HF:=O hF;clear g0 g1 hF;go_enter Tryz.func183,Tryz.ntmps183
 go_wp2_with (first|((with_reducible refine ag ⟨some 8,_,_,_,_,_⟩ ?_);go_must(refine wpList_load_row rfl 65 (.tmp 2) rfl w.heap.size rfl _ _ (0,0) _ G.out.1 Tryz.underlying65 rfl (by kernel_rfl) ?_))|((with_reducible refine ag ⟨some 9,_,_,_,_,_⟩ ?_);go_must(refine wpList_load_row rfl 65 (.tmp 3) rfl (w.heap.size+1) rfl _ _ (0,0) _ G.out.2 Tryz.underlying65 rfl (by kernel_rfl) ?_))|fail)
 go_ret;exact⟨by rw[HR.out];rfl,HF.out⟩
theorem AU(p:bI)(now:Int)(w:World) :
  Calls Tryz.prog 179 #[.agg p.cells.toArray,.int .i64 now] w fun e w'=>e=.returned (.bool (p.alive now))/\Fr ay w w':=by
 have HR:=O (show p.alive now=decide (now<p.kB)from rfl);have dF:Fr ay w _:=(Fr.refl ay w).alloc (.cells p.cells.toArray 65);have h0:(w.alloc (.cells p.cells.toArray 65)).heap[w.heap.size]?=some (.cells p.cells.toArray 65 (0,0)):=af _ _;have Xl:(w.alloc (.cells p.cells.toArray 65)).cell? ⟨w.heap.size,11,none⟩=some (.int .i64 p.kB):=by simp only[World.cell?,h0];rfl
 clear h0;unfold bI.cells at *
 go_enter Tryz.func179,Tryz.ntmps179;go_wp2;go_ret;exact⟨by rw[HR.out];rfl,dF⟩
theorem bI.nL(p:bI):∀u∈p.cells,u.oneCell'=true:=by
 unfold bI.cells;simp[Value.oneCell']
theorem O0(p q:bI)(bp:Nat)(w:World)(hp:w.heap[bp]?=some (.cells p.cells.toArray 65 (0,0))) :
  Calls Tryz.prog 182 #[.agg q.cells.toArray,.pointer (some ⟨bp,0,none⟩)] w fun e w'=>e=.returned (.bool (p.like q))/\Fr ay w w':=by
 have dF:Fr ay w (w.alloc (.cells q.cells.toArray 65)):=(Fr.refl ay w).alloc _;have g0:=dF.keep hp (fun h=>h);have g1:(w.alloc (.cells q.cells.toArray 65)).heap[w.heap.size]?=some (.cells q.cells.toArray 65 (0,0)):=af _ _;have HL:=O (OZ p q (w.alloc (.cells q.cells.toArray 65)));have G:=O (And.intro g0 g1);have HF:=O dF;clear hp g0 g1 dF;unfold bI.cells at *
 go_enter Tryz.func182,Tryz.ntmps182
 go_wp2_with (first|((with_reducible refine ag ⟨some 4,_,_,_,_,_⟩ ?_);go_must(refine wpList_load_row rfl 65 (.tmp 1) rfl bp rfl _ _ (0,0) _ G.out.1 Tryz.underlying65 rfl (by kernel_rfl) ?_))|((with_reducible refine ag ⟨some 5,_,_,_,_,_⟩ ?_);go_must(refine wpList_load_row rfl 65 (.tmp 2) rfl w.heap.size rfl _ _ (0,0) _ G.out.2 Tryz.underlying65 rfl (by kernel_rfl) ?_))|fail)
 refine HL.out.mono ?_;rintro e u⟨rfl,hf⟩;go_wp2;go_ret;exact⟨rfl,HF.out.trans hf⟩
theorem O2(q:bI)(now:Int)(bn:Nat)(w:World)(hn:w.heap[bn]?=some (.cells #[.int .i64 now] 3 (0,0))) :
  Calls Tryz.prog 184 #[.agg q.cells.toArray,.pointer (some ⟨bn,0,none⟩)] w fun e w'=>e=.returned (.bool (!q.alive now))/\Fr ay w w':=by
 have dF:Fr ay w (w.alloc (.cells q.cells.toArray 65)):=(Fr.refl ay w).alloc _;have g0:=dF.keep hn (fun h=>h);have g1:(w.alloc (.cells q.cells.toArray 65)).heap[w.heap.size]?=some (.cells q.cells.toArray 65 (0,0)):=af _ _;have cn:(w.alloc (.cells q.cells.toArray 65)).cell? ⟨bn,0,none⟩=some (.int .i64 now):=by simp only[World.cell?,g0];rfl
 have HL:=O (AU q now (w.alloc (.cells q.cells.toArray 65)));have G:=O g1;have HF:=O dF;clear hn g0 g1 dF;unfold bI.cells at *
 go_enter Tryz.func184,Tryz.ntmps184;go_wp2_with (first|((with_reducible refine ag ⟨some 4,_,_,_,_,_⟩ ?_);go_must(refine wpList_load_row rfl 65 (.tmp 2) rfl w.heap.size rfl _ _ (0,0) _ G.out Tryz.underlying65 rfl (by kernel_rfl) ?_))|fail)
 refine HL.out.mono ?_;rintro e u⟨rfl,hf⟩;go_wp2;go_ret;exact⟨rfl,HF.out.trans hf⟩
def Po(n:Nat)(er:Value)(w':World):Prop :=
 er=.iface 116 (.int .i64 n)\/∃g p,er=.iface 122 (.pointer (some ⟨g,0,none⟩))/\w'.heap[g]?=some (.cells #[.int .i64 n,.int .i64 p] 124 (0,0))
def ju(s:ByteArray)(w:World)(e:Ending)(w':World):Prop :=
 Fr ay w w'/\match g_ s.data.toList with
  | .error n=>∃er,e=.returned (.tuple #[.slice none 0 0,er])/\Po n er w'
  | .ok l=>∃v,e=.returned (.tuple #[v,.nilIface])/\fP w.heap.size w' v l
theorem ju.bad{s:ByteArray}{w w':World}{n:Nat}{er:Value}(h:g_ s.data.toList=.error n)(hf:Fr ay w w')(he:Po n er w'):ju s w (.returned (.tuple #[.slice none 0 0,er])) w':=by
 refine⟨hf,?_⟩;rw[h];exact⟨er,rfl,he⟩
theorem ju.ok{s:ByteArray}{w w':World}{v:Value}{l:List iI}(h:g_ s.data.toList=.ok l)(hf:Fr ay w w')(hv:fP w.heap.size w' v l):ju s w (.returned (.tuple #[v,.nilIface])) w':=by
 refine⟨hf,?_⟩;rw[h];exact⟨v,rfl,hv⟩
theorem EC(acc:List iI)(r:Bs):eP (r.length+1) acc r=if(dN r).isEmpty then .ok acc else
  match j9 acc.length (dN r)with
  | .error e=>.error e
  | .ok q=>eP (q.2.length+1) (acc++[q.1]) q.2:=by
 rw[eP];split
 ·rfl
 ·cases ho:j9 acc.length (dN r)with
  |error e=>rfl
  |ok q =>
   obtain⟨x,r1⟩:=q;have h1:=w_ ho;have h2:=jJ r;simp only;rw[kH r.length _ _ (by omega)]
def ahj(s:ByteArray)(w:World)(wr:World):Prop :=
 ∃acc v j,j<=s.size/\dQ wr (w.heap.size+1) w.heap.size s v/\aU wr w.heap.size s j/\fP w.heap.size wr v acc/\Fr ay w wr/\acc.length<=8/\dN (s.data.toList.drop j)=s.data.toList.drop j /\
  g_ s.data.toList=eP ((s.data.toList.drop j).length+1) acc (s.data.toList.drop j)
theorem LC(s:ByteArray)(w:World)(hs:s.size<=140737488351232) :
  Calls Tryz.prog 45 #[.string s] w (ju s w):=by
 by_cases h3:3000<s.size
 ·have h3':(3000:Int)<(s.size:Int):=by omega
  have HE:=O (show g_ s.data.toList=.error 4 by unfold g_;rw[if_pos (by simpa using h3)]);go_enter Tryz.func45,Tryz.ntmps45;go_wp2;go_ret2;exact ju.bad HE.out (Fr.refl _ _) (Or.inl rfl)
 ·have h3':¬(3000:Int)<(s.size:Int):=by omega
  have hm:s.size<=maxLen:=by unfold maxLen;omega
  have HC:=O (show g_ s.data.toList=eP (s.data.toList.length+1) [] s.data.toList by unfold g_;rw[if_neg (by simpa using h3)]);go_enter Tryz.func45,Tryz.ntmps45;go_wp2_with fail
  refine(Nj s w).mono ?_;rintro e w1⟨rfl,jt⟩;have kS:aU w1 w.heap.size s 0:=by rw[jt];exact af _ _
  have zo:w1.heap.size=w.heap.size+1:=by rw[jt];simp
  have bt:Fr ay w w1:=by rw[jt];exact(Fr.refl _ _).alloc _
  clear jt;obtain⟨w2,bK⟩:∃w2,w2=w1.alloc (.cells #[.pointer (some ⟨w.heap.size,0,none⟩),.string s,.slice none 0 0] 167):=⟨_,rfl⟩;have kR:dQ w2 (w.heap.size+1) w.heap.size s (.slice none 0 0):=by rw[bK, <-zo];exact af _ _
  have tA:Fr ay w1 w2:=by rw[bK];exact(Fr.refl _ _).alloc _
  have nW:=kS.fr tA (fun h=>h);have dk:=O (bt.trans tA);have ka:=O bK;clear bK bt tA kS;go_wp2_with fail
  rw[<-ka.out];refine(xK _ _ 0 s _ w2 kR nW hm (Nat.zero_le _)).mono ?_;rintro e w3⟨rfl,nX,dv⟩;have M1:aQ jA s.data.toList 0<=s.size:=by simpa using dC (p:=jA) (l:=s.data.toList) (i:=0) (Nat.zero_le _)
  have HGD:=O (show s.data.toList.drop (aQ jA s.data.toList 0)=dN s.data.toList by rw[eO,List.drop_zero];rfl);generalize aQ jA s.data.toList 0=j0 at *
  have oT:=kR.one nW dv;have dV:=O (dk.out.rJ dv (Nat.le_refl _));have SV:=O (show g_ s.data.toList=eP ((s.data.toList.drop j0).length+1) [] (s.data.toList.drop j0)by
   rw[HC.out,vN _ _ (show dN s.data.toList=dN (s.data.toList.drop j0)by rw[HGD.out,mJ])];exact kH _ _ _ (by rw[HGD.out];have:=jJ s.data.toList;omega))
  have Pp:=O (show dN (s.data.toList.drop j0)=s.data.toList.drop j0 by rw[HGD.out,mJ]);clear dv kR nW zo ka;go_wp2;go_loopw[] (ahj s w) (fun wr=>s.size-ki wr w.heap.size)
  case atStart=>exact⟨[],_,j0,M1,oT,nX,fP.nil _ _,dV.out,by simp,Pp.out,SV.out⟩
  case round =>
   obtain⟨acc,v,j,hj,qX,nU,SJ,aW,hl8,hgj,uF⟩:=hrel;have JC:=O uF;have HGJ:=O hgj;clear uF hgj SV Pp HGD oT nX;have mA:=O nU.pos;have q0:=qX.cell0;have jn:=O (EC acc (s.data.toList.drop j));rw[HGJ.out]at jn;go_wp2_with fail
   refine(qz _ s j wr nU).mono ?_;rintro e w5⟨rfl,n5,rfl⟩;by_cases uO:s.size<=j
   ·have hd:decide (s.size<=j)=true:=decide_eq_true uO;have HE:=O (show g_ s.data.toList=.ok acc by
     rw[JC.out,jn.out,List.drop_eq_nil_of_le (by simpa using uO)];rfl)
    have q2:=qX.ir;rw[hd];go_wp2;go_ret2;exact ju.ok HE.out (aW.drewN _) (SJ.fr ((Fr.refl ay wr).drewN n5) (Ch.none _))
   ·have hd:decide (s.size<=j)=false:=decide_eq_false uO;rw[hd];have hne:(s.data.toList.drop j).isEmpty=false:=by
     cases e:s.data.toList.drop j with
     |nil =>
      have:=congrArg List.length e;simp at this;omega
     |cons a l=>rfl
    rw[hne]at jn;have FK:=qX.drewN (n:=n5);have nV:=nU.drewN n5;have hv5:=SJ.fr ((Fr.refl ay wr).drewN n5) (Ch.none _);have sD:=aW.drewN n5;have hbw:w.heap.size<=(wr.drewN n5).heap.size:=sD.size;generalize wr.drewN n5=w5 at *
    go_wp2_with fail
    refine(UX w.heap.size _ _ j s acc v w5 FK nV hv5 hbw (by omega) hj hl8).mono ?_;intro e w6 hp;obtain⟨jz,hm6⟩:=hp;have Of:∀k,v.ownBlock=some k->w.heap.size<=k:=by
     obtain⟨rs,h1,_⟩:=hv5;exact h1.block
    have uE:=O (show Fr ay w w6 from sD.step jz (fun k hk hh=>by
     rcases hh with hh|hh|hh
     ·omega
     ·omega
     ·have:=Of k hh;omega))
    cases ho:j9 acc.length (s.data.toList.drop j)with
    |error n =>
     rw[ho]at hm6;obtain⟨p,g,rfl,hg⟩:=hm6;have HE:=O (show g_ s.data.toList=.error n by rw[JC.out,jn.out,ho];rfl);clear ho;go_wp2;go_ret2;exact ju.bad HE.out uE.out (Or.inr ⟨g,p,rfl,hg⟩)
    |ok q =>
     obtain⟨x,z⟩:=q;rw[ho]at hm6;obtain⟨rfl,j1,v',Xn,FN,hd6,CW,hv6⟩:=hm6;simp only at hd6 hv6;have hole:=w_ ho;have hk8:=(I9 ho).2;have hjj:j<j1:=by
      have e1:z.length=s.size-j1:=by rw[<-hd6];simp
      have e2:(s.data.toList.drop j).length=s.size-j:=by simp
      omega
     have BD:=O (show g_ s.data.toList=eP (z.length+1) (acc++[x]) z by rw[JC.out,jn.out,ho];rfl);clear ho hole;go_wp2_with fail
     refine(xK _ _ j1 s v' w6 CW FN hm Xn).mono ?_;rintro e w7⟨rfl,T5,jC⟩;have aoy:aQ jA s.data.toList j1<=s.size:=by simpa using dC (p:=jA) (l:=s.data.toList) (i:=j1) (by simpa using Xn)
     have SR:j1<=aQ jA s.data.toList j1:=f_;have HG7:=O (show s.data.toList.drop (aQ jA s.data.toList j1)=dN z by rw[eO,hd6];rfl);generalize aQ jA s.data.toList j1=j2 at *
     have MV:=CW.one FN jC;have hv7:=hv6.fr jC (Ch.cur FN);have zv:=O (uE.out.rJ jC (Nat.le_refl _));have HS7:=O (show g_ s.data.toList=eP ((s.data.toList.drop j2).length+1) (acc++[x]) (s.data.toList.drop j2)by
      rw[BD.out,vN _ _ (show dN z=dN (s.data.toList.drop j2)by rw[HG7.out,mJ])];exact kH _ _ _ (by rw[HG7.out];have:=jJ z;omega))
     have Xo:=O (show dN (s.data.toList.drop j2)=s.data.toList.drop j2 by rw[HG7.out,mJ]);go_wp2;go_roundw
     case rel=>exact⟨acc++[x],v',j2,aoy,MV,T5,hv7,zv.out,by simp;omega,Xo.out,HS7.out⟩
     case measure=>rw[mA.out,T5.pos];omega
open Go.ChangeShapes Go.WideShapes Go.ChangeAt Go.RowKit Go.Deep
variable {H : Type} {enc : TypeId × Value → H} {W : World}
theorem Bj:Tryz.prog.cellsOf 26=5:=by kernel_rfl
theorem Bk:Tryz.prog.cellsOf 29=13:=by kernel_rfl
theorem Hz:Tryz.prog.cellsOf 27=1:=by kernel_rfl
theorem aqb{α:Type}{l:List α}(h:l.length=5):∃a b c d e,l=[a,b,c,d,e]:=by
 match l,h with
 |[a,b,c,d,e],_=>exact⟨a,b,c,d,e,rfl⟩
theorem aiW{α:Type}{l:List α}(h:l.length=13):∃a b c d e f g i j k m n o,l=[a,b,c,d,e,f,g,i,j,k,m,n,o]:=by
 match l,h with
 |[a,b,c,d,e,f,g,i,j,k,m,n,o],_=>exact⟨a,b,c,d,e,f,g,i,j,k,m,n,o,rfl⟩
theorem Qm{fuel:Nat}{cs:List Value}{x:DataW H×List MemPlace}(h:DataW.trod enc Tryz.prog W 0 (fun _=>true) true fuel 26 cs=some x) :
  ∃(o:cO) (pa qu:ByteArray),cs=o.cells++[.string pa,.string qu]/\(Lit.int .i64 o.port).wf=true/\(kf Tryz.prog 26 x.1->o.Ft/\pa.size<=reachBytes/\qu.size<=reachBytes):=by
 obtain⟨hl,n,hf⟩:=ky Tryz.underlying26 h;rw[Bj]at hl;obtain⟨c0,c1,c2,c3,c4,rfl⟩:=aqb hl;obtain⟨y0,h0,l0⟩:=hf 0 24 0 _ rfl vy;obtain⟨y1,h1,l1⟩:=hf 1 9 3 _ rfl dT;obtain⟨y2,h2,l2⟩:=hf 2 9 4 _ rfl dT;simp only[List.drop,List.take]at h0 h1 h2;obtain⟨o,e0,w0,s0⟩:=Fu h0;obtain⟨b1,e1,w1⟩:=b_ Tryz.underlying9 h1;obtain⟨b2,e2,w2⟩:=b_ Tryz.underlying9 h2;unfold cO.cells at e0
 simp only[List.cons.injEq,and_true]at e0 e1 e2;obtain⟨rfl,rfl,rfl⟩:=e0;subst e1 e2;exact⟨o,b1,b2,rfl,w0,fun hL=>⟨s0 (l0 hL),w1 (l1 hL),w2 (l2 hL)⟩⟩
def aqc:bI:=⟨⟨false,.empty,0⟩,⟨false,.empty,0⟩,.empty,.empty,false,.empty,.empty,0⟩
instance:Inhabited bI:=⟨aqc⟩
end Go.Proofs.YtjdmjbdkdmbaiaaGreatDoor
