/- Lemmas for the law's walk. -/
import Derived.Test.YtnckmcnffadjoaaGreatDoorPk15
set_option maxRecDepth 100000
set_option maxHeartbeats 16000000
set_option linter.unusedSimpArgs false
namespace Go.Proofs.YtnckmcnffadjoaaGreatDoor
open Go.Proofs.Tryz
open Go.RowKit
variable {s:aj} {w w' w2 W:World} {n b d:Nat}
theorem Gv:∀(l:List (jy×Bs)) (p:jy×Bs),xQ (l++[p])=xQ l++((if l.isEmpty then []else [44,32])++Q9 p.1 p.2)
 |[],p=>rfl
 |[a],p=>by simp[xQ]
 |a :: b :: l,p=>by
  have ih:=Gv (b :: l) p;simp only[List.cons_append,xQ]at ih ⊢;rw[ih];simp
abbrev Item:=Bs×Bs×Bool
def Item.par(i:Item):jy×Bs:=((i.1,i.2.1),Bc i.2.2 i.2.1)
def ID(l:List (jy×Bs)):Bs:=adn++32 :: xQ l
def wH(l:List Item):Bs:=ID (l.map Item.par)
def yw(l:List Item):Bool:=l.any fun i=>Bd i.2.2 i.2.1
theorem Ri(p:jy×Bs)(l:List (jy×Bs)):0<(xQ (p :: l)).length:=by
 cases l with
 |nil=>simp[xQ,Q9];omega
 |cons q l=>simp[xQ,Q9];omega
theorem KS(l:List Item)(nm v:Bs)(q:Bool):qE (wH l) nm (Bc q v)=wH (l++[(nm,v,q)]):=by
 unfold qE wH;rw[bH];show _=ID (l.map Item.par++[((nm,v),Bc q v)]);unfold ID;rw[Gv];cases l with
 |nil=>rfl
 |cons a l =>
  have h:=Ri a.par (l.map Item.par);rw[az (by simp[adn]at h ⊢; omega)];simp[Q9]
theorem Rj(l:List Item)(nm v:Bs)(q:Bool):(yw l||Bd q v)=yw (l++[(nm,v,q)]):=by unfold yw;simp
theorem UL(q:Bool)(v:Bs):(Bc q v).length<=2*v.length+2:=by
 have:=KQ v;unfold Bc;split
 ·split
  ·exact this
  ·simp
 ·omega
theorem UM(l nm x:Bs):(qE l nm x).length<=l.length+nm.length+x.length+3:=by
 unfold qE;split<;>simp<;>omega
def wI(user aK bq uri Q_ name:Bs):List Item:=[(PU,user,true),(wa,aK,true),(wh,bq,true),(Y_,uri,true),(PV,Q_,true),(zp,name,false)]
def DG(eE count:Bs):List Item:=if eE.isEmpty then []else [(Kn,eE,false),(nNc,count,false)]
def UN(eE:Bs)(cy:Bool)(bP:Bs):List Item:=if !eE.isEmpty||cy then [(CR,bP,true)]else []
def DH(cj:Bs):List Item:=if cj.isEmpty then []else [(mi,cj,true)]
def i_.items(d:i_):List Item:=wI d.user d.aK d.bq d.uri d.Q_ (pz d.scheme d.cy)++(DG d.eE d.count++(UN d.eE d.cy d.bP++DH d.cj))
theorem i_.Zo{d:i_}(h:yw d.items=false):d.fair=true:=by
 unfold i_.items wI DG UN DH yw at h;unfold i_.fair;simp only[List.any_append,List.any_cons,List.any_nil,Bool.or_false,eJ,Bd,jL,kB,Bool.not_eq_false']at h;obtain⟨⟨h1,h2,h3,h4,h5⟩,_,h6,h7⟩:=h;rw[h1,h2,h3,h4,h5];simp only[jL];have g6:(!(!d.eE.isEmpty||d.cy)||n_ d.bP)=true:=by
  cases hc:(!d.eE.isEmpty||d.cy)
  ·rfl
  ·rw[hc]at h6;simpa[Bd]using h6
 have g7:(d.cj.isEmpty||n_ d.cj)=true:=by
  cases hc:d.cj.isEmpty
  ·rw[hc]at h7;simpa[Bd]using h7
  ·rfl
 rw[g6,g7];rfl
theorem i_.Zp(d:i_):yw d.items=!d.fair:=by
 unfold i_.items wI DG UN DH yw i_.fair;cases d.eE.isEmpty<;>cases d.cy<;>cases d.cj.isEmpty<;>simp[Bd]
theorem DI{n v:Bs}(h:n_ v=true):Item.par (n,v,true)=qP n v:=by unfold Item.par qP Bc;simp[h]
theorem ahy(n v:Bs):Item.par (n,v,false)=pP n v:=rfl
theorem i_.Zq{d:i_}(h:d.fair=true):wH d.items=d.text:=by
 unfold i_.fair at h;simp only[cD]at h;obtain⟨f1,f2,f3,f4,f5,f6,f7⟩:=h;unfold wH ID i_.text
 congr 2
 have e1:(wI d.user d.aK d.bq d.uri d.Q_ (pz d.scheme d.cy)).map Item.par=d.head:=by
  unfold wI i_.head;simp only[cA,dn,DI f1,DI f2,DI f3,DI f4,DI f5,ahy]
 have e2:(DG d.eE d.count).map Item.par=d.two:=by
  unfold DG i_.two;split<;>rfl
 have e3:(UN d.eE d.cy d.bP).map Item.par=d.cn:=by
  unfold UN i_.cn;cases hc:(!d.eE.isEmpty||d.cy)
  ·rfl
  ·rw[hc]at f6;simp only[eb,cA,dn,DI (show n_ d.bP=true by simpa using f6)]
 have e4:(DH d.cj).map Item.par=d.op:=by
  unfold DH i_.op;cases hc:d.cj.isEmpty
  ·rw[hc]at f7;simp only[cG,eU,cA,dn,DI (show n_ d.cj=true by simpa using f7)]
  ·rfl
 unfold i_.items i_.zz;rw[bH,bH,bH,e1,e2,e3,e4]
theorem KT(fP:Int)(aK bq cj eE:aj)(cy cM:Bool)(dom:Value)(w:World) :
  Calls prog 103 #[.agg #[.int .i64 fP,.string aK,.string bq,.string cj,.bool cy,.string eE,.bool cM,dom]] w fun e w'=>e=.returned (.string (bA (pz fP cy)))/\Fr aR w w':=by
 by_cases h3:fP=3
 ·cases cy with
  |false =>
   have E:bA (pz fP false)=⟨#[83,72,65,45,50,53,54]⟩:=by unfold pz;rw[az h3];rfl
   have HE:=O E;clear E;go_enter func103,ntmps103;go_wp2;go_ret;exact⟨by rw[HE.o];rfl,(ae aR w).alloc _⟩
  |true =>
   have E:bA (pz fP true)=⟨#[83,72,65,45,50,53,54,45,115,101,115,115]⟩:=by unfold pz;rw[az h3];rfl
   have HE:=O E;clear E;go_enter func103,ntmps103;go_wp2;go_ret;exact⟨by rw[HE.o];rfl,(ae aR w).alloc _⟩
 ·cases cy with
  |false =>
   have E:bA (pz fP false)=⟨#[77,68,53]⟩:=by unfold pz;rw[aq h3];rfl
   have HE:=O E;clear E;go_enter func103,ntmps103;go_wp2;go_ret;exact⟨by rw[HE.o];rfl,(ae aR w).alloc _⟩
  |true =>
   have E:bA (pz fP true)=⟨#[77,68,53,45,115,101,115,115]⟩:=by unfold pz;rw[aq h3];rfl
   have HE:=O E;clear E;go_enter func103,ntmps103;go_wp2;go_ret;exact⟨by rw[HE.o];rfl,(ae aR w).alloc _⟩
abbrev jO := @i_.Zp
abbrev jP := @i_.Zo
abbrev jQ := @i_.Zq
theorem GQ:(prog.info? 133).map (fun i=>(i.zero,i.size,i.bytes))=some (some (.agg wS),13,168):=af
def aef(base:Nat)(w:World)(b:Nat)(o:Nat)(g:bI bD):Prop :=
 ∃r:bI Value,(∀u∈r.cells,u.oneCell'=true)/\r.Reads (dr base w) g/\∀(i:Nat) u,r.cells[i]?=some u->w.cell? ⟨b,o+i,none⟩=some u
theorem kl.at{base:Nat}{w:World}{v:Value}{gs:List (bI bD)}(h:kl base w v gs){k:Nat}(hk:k<gs.length) :
  ∃b c,v=.slice (some ⟨b,0,none⟩) gs.length c/\gs.length<=maxLen/\aef base w b (k*13) gs[k]:=by
 obtain⟨rs,h1,h2⟩:=h;have hl:=h2.len;obtain⟨x,hx⟩:∃x,rs[k]?=some x:=⟨_,List.getElem?_eq_getElem ab⟩;obtain⟨g,hg,hr⟩:=h2.get hx;rw[List.getElem?_eq_getElem hk]at hg;obtain rfl:=ka hg;have dN:=h1.at;rcases h1.2.2 with ⟨_,hn⟩|⟨bk,cap,cur,hv,_⟩
 ·rw[ai]at hn;omega
 rcases dN.2 with ⟨_,_,e1,e,_⟩|⟨IM,o,c,sH,q1,q2,q3,q4⟩
 ·simp at e;rw[e]at hl;simp at hl;omega
 ·rw[hv]at sH;cases sH;rw[ai]at q1;refine⟨bk,cap,by rw[hv,ai,hl],ab,x,(h1.1 x.cells (bV.2 ⟨x,bT hx,rfl⟩)).2,hr,?_⟩;intro i u hu;have:=q4 k x.cells (by rw[List.getElem?_map,hx];rfl) i u hu;rw[bw]at this;exact this
def Vy(base:Nat)(w:World)(gs:List (bI bD))(v:Value)(w':World):Prop:=kl base w' v gs/\∀k,v.ownBlock=some k->w.heap.size<=k
def GU(base:Nat)(w:World)(gs:List (bI bD))(e:Ending)(w':World):Prop :=
 ∃v,e=.returned v/\Vy base w gs v w'/\Fr aR w w'
def aiz(base:Nat)(w:World)(gs:List (bI bD))(v i:Value)(wr:World):Prop :=
 ∃(k:Nat) (rs:List (bI Value)),k<=gs.length/\i=.int .i64 k/\OwnRows w.heap.size 133 13 wr v (rs.map bI.cells)/\lg (bI.Reads (dr base wr)) rs (gs.take k)/\Fr aR w wr
def bI.mV(r:bI Value)(d:Value):bI Value:={r with a:={r.a with dom:=d}}
theorem GV(base:Nat)(w:World)(b:Nat)(gv wv:Value)(gs:List (aP bD))(ws:List (bI bD))(h:dB base w b gv wv gs ws)(NY:ws.length<68719476736) :
  Calls prog 147 #[.pointer (some ⟨b,0,none⟩)] w (GU base w ws):=by
 have h0:=h.c1;obtain⟨av,cv,hv⟩:=h.waits.form;subst hv;have sO:=h.lt;have iD:base<=w.heap.size:=by have:=h.low;omega
 go_enter func147,ntmps147;go_wp2;clear h0;go_loopw[3,11] (aiz base w ws) (fun _ i _=>ws.length-(intOf i).toNat)
 case atStart=>exact⟨0,[],aI _,rfl,dv _ _ _ _,.nil,ae _ _⟩
 case round =>
  obtain⟨k,rs,hk,rfl,cP,wP,cK⟩:=hrel;by_cases eX:k<ws.length
  ·obtain⟨bk,c,df,sZ,r,dY,hr,hcell⟩:=(h.dh cK).waits.at eX;cases df;unfold maxLen at sZ;obtain⟨ad,cd,xV⟩:=hr.2.2.2.2.2.2.2.2.2.2.rd.form;obtain⟨x,hx⟩:∃x,x=r.cells:=⟨_,rfl⟩;have lF:x.length=13:=by rw[hx];rfl
   have jq:=fun W=>run_storeCells_new (P:=prog) W 133 wS x (by rw[lF];rfl) (by rw[hx];exact dY);rw[<-hx]at hcell;have HX:=O hx;have IP:=O (Bl lF);have aeg:x[12]?=some (.slice ad ws[k].a.dom.length cd):=by rw[hx, <-xV];rfl
   clear hx;obtain⟨av,cv,Vl⟩:=cP.form;subst Vl;rw[ai,wP.len,aJ,dK hk]at cP ⊢;have gS:Fr aR wr (wr.alloc (.cells x.toArray 133)):=(ae aR wr).alloc _;have JQ:(wr.alloc (.cells x.toArray 133)).heap[wr.heap.size]?=some (.cells x.toArray 133 (0,0)):=aB _ _
   have c12:(wr.alloc (.cells x.toArray 133)).cell? ⟨wr.heap.size,12,none⟩=some (.slice ad ws[k].a.dom.length cd):=by simp only[World.cell?,JQ];simpa using aeg
   have ox:=hr.mono (fun _ _ h=>h.dh gS);have xY:=ox.2.2.2.2.2.2.2.2.2.2;rw[xV]at xY;have CL:=O (rR base _ _ _ xY);go_wp2_with (first|((with_reducible refine cY 14 ?_);refine aU rfl 133 (.tmp 13) rfl bk (k*13) rfl x _ hcell underlying133 rfl IP.o ?_)|fail)
   have sD:=O (cK.trans gS);have fy:=cP.alloc (.cells x.toArray 133);have D':=wP.mono (fun _ _ h=>h.mono (fun _ _ h=>h.dh gS));have j_:w.heap.size<=wr.heap.size:=cK.size;have aoj:=cP.lt;clear jq hcell hr cP wP cK xY gS;generalize wr.alloc (.cells x.toArray 133)=W2 at *
   refine CL.o.mono ?_;rintro e u1⟨a2,c2,rfl,Cp,df⟩;have qj:=df.keep JQ id;have rJ:=ox.mono (fun _ _ h=>h.dh df);have fo:=fy.fr df (fun _ _ h=>h);have Ea:=D'.mono (fun _ _ h=>h.mono (fun _ _ h=>h.dh df));have RM:=sD.o.trans df;have aiA:u1.cell? ⟨wr.heap.size,12,none⟩=some (.slice ad ws[k].a.dom.length cd):=by simp only[World.cell?,qj];simpa using aeg
   have f12:u1.frozen? ⟨wr.heap.size,12,none⟩=false:=by simp[World.frozen?,qj]
   have kC:=b_ qj 12 (.slice a2 ws[k].a.dom.length c2);have hye:x.toArray.setIfInBounds 12 (.slice a2 ws[k].a.dom.length c2)=(r.mV (.slice a2 ws[k].a.dom.length c2)).cells.toArray:=by rw[HX.o];rfl
   rw[hye]at kC;have rS:sr base u1 (one wr.heap.size):=by
    rintro j rfl hj;exact⟨ab,fun c f e=>by rw[qj]at e;cases e⟩
   have kJ:Fr (one wr.heap.size) u1 (u1.setCell ⟨wr.heap.size,12,none⟩ (.slice a2 ws[k].a.dom.length c2)):=(ae (one wr.heap.size) u1).setCell (p:=⟨wr.heap.size,12,none⟩) (fun _=>rfl) _;have AO:∀j,(Value.slice av k cv).ownBlock=some j->¬one wr.heap.size j:=by
    rintro j hj rfl;have:=aoj _ hj;omega
   have fO:=RM.gI (p:=⟨wr.heap.size,12,none⟩) j_ (.slice a2 ws[k].a.dom.length c2);have vX:(r.mV (.slice a2 ws[k].a.dom.length c2)).Reads (dr base (u1.setCell ⟨wr.heap.size,12,none⟩ (.slice a2 ws[k].a.dom.length c2))) ws[k] :=
    ⟨rJ.1,rJ.2.1,rJ.2.2.1,rJ.2.2.2.1,rJ.2.2.2.2.1,rJ.2.2.2.2.2.1,rJ.2.2.2.2.2.2.1,rJ.2.2.2.2.2.2.2.1,rJ.2.2.2.2.2.2.2.2.1,rJ.2.2.2.2.2.2.2.2.2.1,Cp.fr kJ rS⟩
   have eY:=fo.fr kJ AO;have N9:=Ea.mono (fun _ _ h=>h.mono (fun _ _ h=>h.fr kJ rS));have Ek:∀u∈(r.mV (.slice a2 ws[k].a.dom.length c2)).cells,u.oneCell'=true:=by
    intro u hu;simp only[bI.cells,bI.mV,bB,cq,dU]at hu;rcases hu with rfl|rfl|rfl|rfl|rfl|rfl|rfl|rfl|rfl|rfl|rfl|rfl|rfl<;>rfl
   obtain⟨y,hy⟩:∃y,y=(r.mV (.slice a2 ws[k].a.dom.length c2)).cells:=⟨_,rfl⟩;have Dm:y.length=13:=by rw[hy];rfl
   rw[<-hy]at Ek kC;have HY:=O hy;have pZ:=O kC;have HYI:=O (Bl Dm);have Eb:=O eY;have GJ:=wD y wS (by rw[Dm];rfl);have hbw:w.heap.size<=(u1.setCell ⟨wr.heap.size,12,none⟩ (.slice a2 ws[k].a.dom.length c2)).heap.size:=fO.size;have Vz:=O (show(u1.setCell ⟨wr.heap.size,12,none⟩ (.slice a2 ws[k].a.dom.length c2)).heap.size=u1.heap.size by simp[World.setCell]);have ave:w.heap.size<=u1.heap.size:=RM.size
   have vI:=N9.len;rw[aJ,dK hk]at vI;have NU:(rs.map bI.cells).length<68719476736:=by rw[ai,vI];omega
   have Yj:=O vX;have aiC:=O N9;have aok:=O fO;clear vI rJ ox fy fo D' Ea JQ qj rS kJ AO Cp hye hy aeg c12 CL eY N9 vX fO RM df kC sD xV
   go_wp2_with (first|((with_reducible refine cY 22 ?_);refine aH rfl 133 (.tmp 5) rfl wr.heap.size rfl _ y.toArray (0,0) _ pZ.o underlying133 rfl (by rw[aW];exact HYI.o) ?_)|(at_builtin;refine nQ rfl _ _ 87 133 rfl 13 168 (.agg wS) underlying87 GQ rfl ag ag w.heap.size (.slice av k cv) (rs.map bI.cells) rfl (Eb.o.alloc _) u1.heap.size 1 y rfl Dm Ek (fun i u hi=>by rw[<-Vz.o,World.cell?_alloc_mark];simpa using hi) NU bG ?_;intro v' w4 eY Ct))
   have Fl:=Fr.PW _ Ct;have mU:=Eb.o.off (base:=base) iD ag;rw[HY.o]at eY;refine⟨⟨k+1,rs++[r.mV (.slice a2 ws[k].a.dom.length c2)],ab,a_,by rw[bH];exact eY,?_,aok.o.step Fl (fun j hj hS=>by have h2:=Eb.o.block j hS;omega)⟩,by simp[intOf];omega⟩;rw[dW (List.getElem?_eq_getElem eX)];exact(aiC.o.mono (fun _ _ h=>h.mono (fun _ _ h=>h.fr Fl mU))).app (.cons (Yj.o.mono (fun _ _ h=>h.fr Fl mU)) .nil)
  ·rw[aC ab]at wP;obtain⟨av,cv,Vl⟩:=cP.form;subst Vl;go_wp2;go_ret;exact⟨_,rfl,⟨⟨rs,cP.up iD,wP⟩,cP.block⟩,cK⟩
def Lw(base:Nat)(w:World)(gs:List (aP bD))(ws:List (bI bD))(e:Ending)(w':World):Prop :=
 ∃b gv wv,e=.returned (.pointer (some ⟨b,0,none⟩))/\dB base w' b gv wv gs ws/\Fr aR w w'/\∀k,dt b gv wv k->w.heap.size<=k
theorem VA(base:Nat)(w:World)(b:Nat)(gv wv:Value)(gs:List (aP bD))(ws:List (bI bD))(h:dB base w b gv wv gs ws)(NY:gs.length<68719476736)(Fh:ws.length<68719476736) :
  Calls prog 79 #[.pointer (some ⟨b,0,none⟩)] w (Lw base w gs ws):=by
 have sO:=h.lt;have lp:=h.low;go_enter func79,ntmps79;go_wp2_with fail
 refine(D_ base w b gv wv gs ws h NY).mono ?_;intro e u1 hp;obtain⟨v1,rfl,⟨F8,JS⟩,df⟩:=hp;go_wp2_with fail
 refine(GV base u1 b gv wv gs ws (h.dh df) Fh).mono ?_;intro e u2 hp;obtain⟨v2,rfl,⟨xN,CX⟩,dy⟩:=hp;obtain⟨a1,c1,Ft⟩:=F8.form;obtain⟨a2,c2,hv2⟩:=xN.form;subst Ft hv2;have Cp:=df.size;have MX:=dy.size;have gS:Fr aR u2 (u2.alloc (.cells #[.slice a1 gs.length c1,.slice a2 ws.length c2] 89)):=(ae aR u2).alloc _
 have HB:=O (show dB base (u2.alloc (.cells #[.slice a1 gs.length c1,.slice a2 ws.length c2] 89)) u2.heap.size (.slice a1 gs.length c1) (.slice a2 ws.length c2) gs ws from
  ⟨ab,aB _ _,(F8.fr dy (fC _ _) (fun _ _ h=>h)).fr gS (fC _ _) (fun _ _ h=>h),xN.fr gS (fC _ _) (fun _ _ h=>h)⟩)
 have HF:=O ((df.trans dy).trans gS);have HN:=O (show∀k,dt u2.heap.size (.slice a1 gs.length c1) (.slice a2 ws.length c2) k->w.heap.size<=k from fun k hk=>by
  rcases hk with rfl|hk|hk
  ·omega
  ·exact JS k hk
  ·have:=CX k hk;omega)
 clear F8 xN JS CX gS h;go_wp2;go_ret;exact⟨_,_,_,rfl,HB.o,HF.o,HN.o⟩
theorem dr.aoo(base:Nat)(w:World)(x:aj):dr base (w.alloc (.cells #[.string x] 9)) (.slice (some ⟨w.heap.size,0,none⟩) 1 1) [x]:=by
 refine⟨Or.inr ⟨w.heap.size,0,1,rfl,ay _,by simp[maxLen],aQ,fun j z hj=>?_⟩,fun k hk _=>?_,aQ⟩
 ·rw[bw,World.cell?_alloc_mark]
  match j,hj with
  |0,hj=>simp at hj;subst hj;rfl
 ·simp[Value.ownBlock]at hk;subst hk;exact⟨aQ,Or.inr ⟨_,_,aB _ _⟩⟩
theorem VF(p q:ef)(w:World) :
  Calls prog 138 #[.agg p.cells.toArray,.agg q.cells.toArray] w fun e w'=>e=.returned (.bool (p.like q))/\Fr aR w w':=by
 have heq:=LA {p with pX:=q.pX} q;have HR:=O (show p.like q=({p with pX:=q.pX}:ef).ll q from rfl);obtain⟨W0,hW0⟩:∃W0,W0=(w.alloc (.cells p.cells.toArray 155)).alloc (.cells q.cells.toArray 155):=⟨_,rfl⟩;have pg:Fr aR w W0:=by rw[hW0];exact((ae aR w).alloc _).alloc _
 have h0:W0.heap[w.heap.size]?=some (.cells p.cells.toArray 155 (0,0)):=by rw[hW0];exact((ae aR _).alloc _).keep (aB _ _) id
 have h1:W0.heap[w.heap.size+1]?=some (.cells q.cells.toArray 155 (0,0)):=by
  have h:=aB (w.alloc (.cells p.cells.toArray 155)) (.cells q.cells.toArray 155);rw[bM]at h;rw[hW0];exact h
 have TP:W0.cell? ⟨w.heap.size+1,11,none⟩=some (.int .i64 q.pX):=by simp only[World.cell?,h1];rfl
 have d11:W0.cell? ⟨w.heap.size,11,none⟩=some (.int .i64 p.pX):=by simp only[World.cell?,h0];rfl
 have e11:W0.frozen? ⟨w.heap.size,11,none⟩=false:=by simp[World.frozen?,h0]
 clear h0 h1 pg;rw[hW0]at TP d11 e11;clear hW0;have hF:Fr aR w ((w.alloc (.cells ({p with pX:=q.pX}:ef).cells.toArray 155)).alloc (.cells q.cells.toArray 155)):=((ae aR w).alloc _).alloc _
 have g0:((w.alloc (.cells ({p with pX:=q.pX}:ef).cells.toArray 155)).alloc (.cells q.cells.toArray 155)).heap[w.heap.size]?=some (.cells ({p with pX:=q.pX}:ef).cells.toArray 155 (0,0)):=((ae aR _).alloc _).keep (aB _ _) id;have g1:((w.alloc (.cells ({p with pX:=q.pX}:ef).cells.toArray 155)).alloc (.cells q.cells.toArray 155)).heap[w.heap.size+1]?=some (.cells q.cells.toArray 155 (0,0)):=by
  have h:=aB (w.alloc (.cells ({p with pX:=q.pX}:ef).cells.toArray 155)) (.cells q.cells.toArray 155);rw[bM]at h;exact h
 unfold ef.cells at *
 dsimp only at heq hF g0 g1;have G:=O (And.intro g0 g1);have HF:=O hF;clear g0 g1 hF;go_enter func138,ntmps138;go_wp2_with (first|((with_reducible refine cY 8 ?_);refine aH rfl 155 (.tmp 2) rfl w.heap.size rfl _ _ (0,0) _ G.o.1 underlying155 rfl af ?_)|((with_reducible refine cY 9 ?_);refine aH rfl 155 (.tmp 3) rfl (w.heap.size+1) rfl _ _ (0,0) _ G.o.2 underlying155 rfl af ?_)|fail)
 go_ret;exact⟨by rw[HR.o];rfl,HF.o⟩
theorem G3(p:ef)(now:Int)(w:World) :
  Calls prog 124 #[.agg p.cells.toArray,.int .i64 now] w fun e w'=>e=.returned (.bool (p.alive now))/\Fr aR w w':=by
 have HR:=O (show p.alive now=decide (now<p.pX)from rfl);have gS:Fr aR w _:=(ae aR w).alloc (.cells p.cells.toArray 155);have h0:(w.alloc (.cells p.cells.toArray 155)).heap[w.heap.size]?=some (.cells p.cells.toArray 155 (0,0)):=aB _ _;have TP:(w.alloc (.cells p.cells.toArray 155)).cell? ⟨w.heap.size,11,none⟩=some (.int .i64 p.pX):=by simp only[World.cell?,h0];rfl
 clear h0;unfold ef.cells at *
 go_enter func124,ntmps124;go_wp2;go_ret;exact⟨by rw[HR.o];rfl,gS⟩
theorem ef.uk(p:ef):∀u∈p.cells,u.oneCell'=true:=by
 unfold ef.cells;simp[Value.oneCell']
theorem VG(p q:ef)(bp:Nat)(w:World)(hp:w.heap[bp]?=some (.cells p.cells.toArray 155 (0,0))) :
  Calls prog 137 #[.agg q.cells.toArray,.pointer (some ⟨bp,0,none⟩)] w fun e w'=>e=.returned (.bool (p.like q))/\Fr aR w w':=by
 have gS:Fr aR w (w.alloc (.cells q.cells.toArray 155)):=(ae aR w).alloc _;have g0:=gS.keep hp id;have g1:(w.alloc (.cells q.cells.toArray 155)).heap[w.heap.size]?=some (.cells q.cells.toArray 155 (0,0)):=aB _ _;have HL:=O (VF p q (w.alloc (.cells q.cells.toArray 155)));have G:=O (And.intro g0 g1);have HF:=O gS;clear hp g0 g1 gS;unfold ef.cells at *
 go_enter func137,ntmps137;go_wp2_with (first|((with_reducible refine cY 4 ?_);refine aH rfl 155 (.tmp 1) rfl bp rfl _ _ (0,0) _ G.o.1 underlying155 rfl af ?_)|((with_reducible refine cY 5 ?_);refine aH rfl 155 (.tmp 2) rfl w.heap.size rfl _ _ (0,0) _ G.o.2 underlying155 rfl af ?_)|fail)
 refine HL.o.mono ?_;rintro e u⟨rfl,hf⟩;go_wp2;go_ret;exact⟨rfl,HF.o.trans hf⟩
theorem VH(q:ef)(now:Int)(bn:Nat)(w:World)(hn:w.heap[bn]?=some (.cells #[.int .i64 now] 3 (0,0))) :
  Calls prog 139 #[.agg q.cells.toArray,.pointer (some ⟨bn,0,none⟩)] w fun e w'=>e=.returned (.bool (!q.alive now))/\Fr aR w w':=by
 have gS:Fr aR w (w.alloc (.cells q.cells.toArray 155)):=(ae aR w).alloc _;have g0:=gS.keep hn id;have g1:(w.alloc (.cells q.cells.toArray 155)).heap[w.heap.size]?=some (.cells q.cells.toArray 155 (0,0)):=aB _ _;have cn:(w.alloc (.cells q.cells.toArray 155)).cell? ⟨bn,0,none⟩=some (.int .i64 now):=by simp only[World.cell?,g0];rfl
 have HL:=O (G3 q now (w.alloc (.cells q.cells.toArray 155)));have G:=O g1;have HF:=O gS;clear hn g0 g1 gS;unfold ef.cells at *
 go_enter func139,ntmps139;go_wp2_with (first|((with_reducible refine cY 4 ?_);refine aH rfl 155 (.tmp 2) rfl w.heap.size rfl _ _ (0,0) _ G.o underlying155 rfl af ?_)|fail)
 refine HL.o.mono ?_;rintro e u⟨rfl,hf⟩;go_wp2;go_ret;exact⟨rfl,HF.o.trans hf⟩
def VS(n:Nat)(er:Value)(w':World):Prop :=
 er=.iface 105 (.int .i64 n)\/∃g p,er=.iface 211 (.pointer (some ⟨g,0,none⟩))/\w'.heap[g]?=some (.cells #[.int .i64 n,.int .i64 p] 213 (0,0))
def oq(s:aj)(w:World)(e:Ending)(w':World):Prop :=
 Fr aR w w'/\match mC s.data.toList with
  | .error n=>∃er,e=.returned (.tuple #[.slice none 0 0,er])/\VS n er w'
  | .ok l=>∃v,e=.returned (.tuple #[v,.nilIface])/\lr w.heap.size w' v l
theorem oq.bad{er:Value}(h:mC s.data.toList=.error n)(hf:Fr aR w w')(he:VS n er w'):oq s w (.returned (.tuple #[.slice none 0 0,er])) w':=by
 refine⟨hf,?_⟩;rw[h];exact⟨er,rfl,he⟩
theorem oq.ok{v:Value}{l:List nu}(h:mC s.data.toList=.ok l)(hf:Fr aR w w')(hv:lr w.heap.size w' v l):oq s w (.returned (.tuple #[v,.nilIface])) w':=by
 refine⟨hf,?_⟩;rw[h];exact⟨v,rfl,hv⟩
theorem LL(acc:List nu)(r:Bs):ki (r.length+1) acc r=if(iG r).isEmpty then .ok acc else
  match pn acc.length (iG r)with
  | .error e=>.error e
  | .ok q=>ki (q.2.length+1) (acc++[q.1]) q.2:=by
 rw[ki];split
 ·rfl
 ·cases ho:pn acc.length (iG r)with
  |error e=>rfl
  |ok q =>
   obtain⟨x,r1⟩:=q;have h1:=CP ho;have h2:=oL r;simp only;rw[ql r.length _ _ ab]
def ai2(s:aj)(w:World)(wr:World):Prop :=
 ∃acc v j,j<=s.size/\iI wr (w.heap.size+1) w.heap.size s v/\du wr w.heap.size s j/\lr w.heap.size wr v acc/\Fr aR w wr/\acc.length<=8/\iG (s.data.toList.drop j)=s.data.toList.drop j /\
  mC s.data.toList=ki ((s.data.toList.drop j).length+1) acc (s.data.toList.drop j)
theorem RX(s:aj)(w:World)(hs:s.size<=140737488351232) :
  Calls prog 54 #[.string s] w (oq s w):=by
 by_cases h3:3000<s.size
 ·have h3':(3000:Int)<(s.size:Int):=ab;have HE:=O (show mC s.data.toList=.error 4 by unfold mC;rw[az (by simpa using h3)]);go_enter func54,ntmps54;go_wp2;go_ret2;exact oq.bad HE.o (ae _ _) (Or.inl rfl)
 ·have h3':¬(3000:Int)<(s.size:Int):=ab;have hm:s.size<=maxLen:=fq;have HC:=O (show mC s.data.toList=ki (s.data.toList.length+1) [] s.data.toList by unfold mC;rw[aq (by simpa using h3)]);go_enter func54,ntmps54;go_wp2_with fail
  refine(T9 s w).mono ?_;rintro e w1⟨rfl,oB⟩;have px:du w1 w.heap.size s 0:=by rw[oB];exact aB _ _
  have Cp:w1.heap.size=w.heap.size+1:=by rw[oB];simp
  have df:Fr aR w w1:=by rw[oB];exact(ae _ _).alloc _
  clear oB;obtain⟨w2,eB⟩:∃w2,w2=w1.alloc (.cells #[.pointer (some ⟨w.heap.size,0,none⟩),.string s,.slice none 0 0] 195):=⟨_,rfl⟩;have ox:iI w2 (w.heap.size+1) w.heap.size s (.slice none 0 0):=by rw[eB, <-Cp];exact aB _ _
  have zy:Fr aR w1 w2:=by rw[eB];exact(ae _ _).alloc _
  have sN:=px.fr zy id;have fO:=O (df.trans zy);have nJ:=O eB;clear eB df zy px;go_wp2_with fail
  rw[<-nJ.o];refine(Dx _ _ 0 s _ w2 ox sN hm (aI _)).mono ?_;rintro e w3⟨rfl,uB,iv⟩;have NY:cL ow s.data.toList 0<=s.size:=by simpa using ia (p:=ow) (l:=s.data.toList) (i:=0) (aI _)
  have HGD:=O (show s.data.toList.drop (cL ow s.data.toList 0)=iG s.data.toList by rw[kh,eD];rfl);generalize cL ow s.data.toList 0=j0 at *
  have rJ:=ox.one sN iv;have ic:=O (fO.o.yi iv (ay _));have Yd:=O (show mC s.data.toList=ki ((s.data.toList.drop j0).length+1) [] (s.data.toList.drop j0)by
   rw[HC.o,BQ _ _ (show iG s.data.toList=iG (s.data.toList.drop j0)by rw[HGD.o,sQ])];exact ql _ _ _ (by rw[HGD.o];have:=oL s.data.toList;omega))
  have VT:=O (show iG (s.data.toList.drop j0)=s.data.toList.drop j0 by rw[HGD.o,sQ]);clear iv ox sN Cp nJ;go_wp2;go_loopw[] (ai2 s w) (fun wr=>s.size-pG wr w.heap.size)
  case atStart=>exact⟨[],_,j0,NY,rJ,uB,lr.nil _ _,ic.o,aQ,VT.o,Yd.o⟩
  case round =>
   obtain⟨acc,v,j,hj,vX,uy,PJ,cK,hl8,hgj,vt⟩:=hrel;have zO:=O vt;have HGJ:=O hgj;clear vt hgj Yd VT HGD rJ uB;have qh:=O uy.pos;have q0:=vX.cell0;have lH:=O (LL acc (s.data.toList.drop j));rw[HGJ.o]at lH;go_wp2_with fail
   refine(xh _ s j wr uy).mono ?_;rintro e w5⟨rfl,n5,rfl⟩;by_cases AZ:s.size<=j
   ·have hd:decide (s.size<=j)=true:=bf AZ;have HE:=O (show mC s.data.toList=.ok acc by
     rw[zO.o,lH.o,cO (by simpa using AZ)];rfl)
    have q2:=vX.lV;rw[hd];go_wp2;go_ret2;exact oq.ok HE.o (cK.drewN _) (PJ.fr ((ae aR wr).drewN n5) (I2.none _))
   ·have hd:decide (s.size<=j)=false:=bh AZ;rw[hd];have hne:(s.data.toList.drop j).isEmpty=false:=by
     cases e:s.data.toList.drop j with
     |nil =>
      have:=ar List.length e;simp at this;omega
     |cons a l=>rfl
    rw[hne]at lH;have BZ:=vX.drewN (n:=n5);have uz:=uy.drewN n5;have hv5:=PJ.fr ((ae aR wr).drewN n5) (I2.none _);have yI:=cK.drewN n5;have hbw:w.heap.size<=(wr.drewN n5).heap.size:=yI.size;generalize wr.drewN n5=w5 at *
    go_wp2_with fail
    refine(Z_ w.heap.size _ _ j s acc v w5 BZ uz hv5 hbw ab hj hl8).mono ?_;intro e w6 hp;obtain⟨nF,hm6⟩:=hp;have U2:∀k,v.ownBlock=some k->w.heap.size<=k:=by
     obtain⟨rs,h1,_⟩:=hv5;exact h1.block
    have yX:=O (show Fr aR w w6 from yI.step nF (fun k hk hh=>by
     rcases hh with hh|hh|hh
     ·omega
     ·omega
     ·have:=U2 k hh;omega))
    cases ho:pn acc.length (s.data.toList.drop j)with
    |error n =>
     rw[ho]at hm6;obtain⟨p,g,rfl,hg⟩:=hm6;have HE:=O (show mC s.data.toList=.error n by rw[zO.o,lH.o,ho];rfl);clear ho;go_wp2;go_ret2;exact oq.bad HE.o yX.o (Or.inr ⟨g,p,rfl,hg⟩)
    |ok q =>
     obtain⟨x,z⟩:=q;rw[ho]at hm6;obtain⟨rfl,j1,v',hj1,M0,hd6,JO,hv6⟩:=hm6;simp only at hd6 hv6;have hole:=CP ho;have hk8:=(PT ho).2;have hjj:j<j1:=by
      have e1:z.length=s.size-j1:=by rw[<-hd6];simp
      have e2:(s.data.toList.drop j).length=s.size-j:=aQ;omega
     have Y0:=O (show mC s.data.toList=ki (z.length+1) (acc++[x]) z by rw[zO.o,lH.o,ho];rfl);clear ho hole;go_wp2_with fail
     refine(Dx _ _ j1 s v' w6 JO M0 hm hj1).mono ?_;rintro e w7⟨rfl,Zf,nI⟩;have aoB:cL ow s.data.toList j1<=s.size:=by simpa using ia (p:=ow) (l:=s.data.toList) (i:=j1) (by simpa using hj1)
     have Ya:j1<=cL ow s.data.toList j1:=lK;have HG7:=O (show s.data.toList.drop (cL ow s.data.toList j1)=iG z by rw[kh,hd6];rfl);generalize cL ow s.data.toList j1=j2 at *
     have TB:=JO.one M0 nI;have hv7:=hv6.fr nI (I2.cur M0);have Gt:=O (yX.o.yi nI (ay _));have HS7:=O (show mC s.data.toList=ki ((s.data.toList.drop j2).length+1) (acc++[x]) (s.data.toList.drop j2)by
      rw[Y0.o,BQ _ _ (show iG z=iG (s.data.toList.drop j2)by rw[HG7.o,sQ])];exact ql _ _ _ (by rw[HG7.o];have:=oL z;omega))
     have HGG:=O (show iG (s.data.toList.drop j2)=s.data.toList.drop j2 by rw[HG7.o,sQ]);go_wp2;go_roundw
     case rel=>exact⟨acc++[x],v',j2,aoB,TB,Zf,hv7,Gt.o,bG,HGG.o,HS7.o⟩
     case measure=>rw[qh.o,Zf.pos];omega
open Go.ChangeShapes Go.WideShapes Go.ChangeAt Go.RowKit Go.Deep
variable {H : Type} {enc : TypeId × Value → H} {W : World}
theorem Hx:prog.cellsOf 34=5:=af
theorem Hy:prog.cellsOf 37=13:=af
theorem Pm:prog.cellsOf 35=1:=af
theorem aqC{α:Type}{l:List α}(h:l.length=5):∃a b c d e,l=[a,b,c,d,e]:=by
 match l,h with
 |[a,b,c,d,e],_=>exact⟨a,b,c,d,e,rfl⟩
theorem akT{α:Type}{l:List α}(h:l.length=13):∃a b c d e f g i j k m n o,l=[a,b,c,d,e,f,g,i,j,k,m,n,o]:=by
 match l,h with
 |[a,b,c,d,e,f,g,i,j,k,m,n,o],_=>exact⟨a,b,c,d,e,f,g,i,j,k,m,n,o,rfl⟩
theorem XE{fuel:Nat}{cs:List Value}{x:DataW H×List MemPlace}(h:DataW.trod enc prog W 0 (fun _=>true) true fuel 34 cs=some x) :
  ∃(o:gz) (pa qu:aj),cs=o.cells++[.string pa,.string qu]/\(Lit.int .i64 o.port).wf=true/\(pC prog 34 x.1->o.MF/\pa.size<=reachBytes/\qu.size<=reachBytes):=by
 obtain⟨hl,n,hf⟩:=n9 underlying34 h;rw[Hx]at hl;obtain⟨c0,c1,c2,c3,c4,rfl⟩:=aqC hl;obtain⟨y0,h0,l0⟩:=hf 0 32 0 _ rfl BH;obtain⟨y1,h1,l1⟩:=hf 1 9 3 _ rfl iW;obtain⟨y2,h2,l2⟩:=hf 2 9 4 _ rfl iW;simp only[List.drop,List.take]at h0 h1 h2;obtain⟨o,e0,w0,s0⟩:=MG h0;obtain⟨b1,e1,w1⟩:=fl underlying9 h1;obtain⟨b2,e2,w2⟩:=fl underlying9 h2;unfold gz.cells at e0;simp only[fE,iL]at e0 e1 e2
 obtain⟨rfl,rfl,rfl⟩:=e0;subst e1 e2;exact⟨o,b1,b2,rfl,w0,fun hL=>⟨s0 (l0 hL),w1 (l1 hL),w2 (l2 hL)⟩⟩
def aqD:ef:=⟨⟨false,.empty,0⟩,⟨false,.empty,0⟩,.empty,.empty,false,.empty,.empty,0⟩
instance:Inhabited ef:=⟨aqD⟩
def ov(r:gq Value)(hs:List gZ):Bool:=MN hs&&decide ((r.method.size:Int)+(r.path.size:Int)+(r.query.size:Int)+(r.o.host.size:Int)+(r.dm.host.size:Int)<=600)
theorem JG(r:gq Value)(hs:List gZ)(w:World)(hr:oO w r.eo hs)(hl:hs.length<=140737488355328)(hzs:∀p∈hs,p.1.size<=140737488351232/\p.2.size<=140737488351232)(hz:r.MF) :
  Calls prog 41 #[.agg r.cells.toArray] w fun e w'=>e=.returned (.bool (ov r hs))/\Fr aR w w':=by
 obtain⟨z1,z2,z3,z4,z5⟩:=hz;obtain⟨wb,j_⟩:∃wb,wb=w.alloc (.cells r.cells.toArray 37):=⟨_,rfl⟩;have ks:Fr aR w wb:=by rw[j_];exact(ae aR w).alloc _
 have mf:wb.heap[w.heap.size]?=some (.cells r.cells.toArray 37 (0,0)):=by rw[j_];exact aB _ _
 obtain⟨ah,ch,gV⟩:=dQ hr;rw[ai]at gV;have uS:r.cells=[.int .i64 r.part,.bool r.dm.aF,.string r.dm.host,.int .i64 r.dm.port,.bool r.o.aF,.string r.o.host,.int .i64 r.o.port,.string r.path,.string r.query,.string r.method,.slice ah hs.length ch,.bool r.fU,.string r.body]:=by unfold gq.cells;rw[gV]
 have HC:=O (show∀U,Fr aR wb U->U.cell? ⟨w.heap.size,2,none⟩=some (.string r.dm.host)/\U.cell? ⟨w.heap.size,5,none⟩=some (.string r.o.host)/\U.cell? ⟨w.heap.size,7,none⟩=some (.string r.path)/\U.cell? ⟨w.heap.size,8,none⟩=some (.string r.query)/\U.cell? ⟨w.heap.size,9,none⟩=some (.string r.method)/\U.cell? ⟨w.heap.size,10,none⟩=some (.slice ah hs.length ch)from fun U hU=>by
  have j:=hU.keep mf id;rw[uS]at j;simp[World.cell?,j])
 have rO:=O (abp (.slice ah hs.length ch) hs wb (by rw[<-gV];exact bg hr ks) hl hzs);rw[uS]at j_ ⊢;have mr:=O ks;have qY:=O j_;obtain⟨k2,k5,k7,k8,k9,k10⟩:=HC.o wb (ae _ _);rw[j_]at k10;clear hr hl hzs ks mf gV uS j_ k2 k5 k7 k8 k9;cases M3:MN hs
 ·have HR:=O (show ov r hs=false by unfold ov;rw[M3];rfl);rw[M3]at rO;clear M3;go_enter func41,ntmps41;go_wp2_with fail
  rw[<-qY.o];refine rO.o.mono ?_;rintro e u⟨rfl,hf⟩;go_wp2;go_ret;exact⟨by rw[HR.o];rfl,mr.o.trans hf⟩
 ·have HR:=O (show ov r hs=decide ((r.method.size:Int)+(r.path.size:Int)+(r.query.size:Int)+(r.o.host.size:Int)+(r.dm.host.size:Int)<=600)by unfold ov;rw[M3];rfl);rw[M3]at rO;clear M3;go_enter func41,ntmps41;go_wp2_with fail
  rw[<-qY.o];refine rO.o.mono ?_;rintro e u⟨rfl,hf⟩;obtain⟨k2,k5,k7,k8,k9,_⟩:=HC.o u hf;go_wp2;go_ret;exact⟨by rw[HR.o];rfl,mr.o.trans hf⟩
def zM(fP:Int)(cj:aj)(x:nU):i_:=⟨fP,x.aK.data.toList,x.bq.data.toList,cj.data.toList,x.cy,x.eE.data.toList,x.user.data.toList,x.target.data.toList,(oo x).data.toList,x.bP.data.toList,jD x.n⟩
theorem DV(x:nU):(oo x).size<=64:=by unfold oo;split<;>exact lN _ _
def IH(fP:Int)(cj:aj)(x:nU)(n:Int)(w:World)(e:Ending)(w':World):Prop :=
 Fr aR w w'/\(((zM fP cj x).fair=false/\∃t v,e=.returned (.tuple #[.string ⟨#[]⟩,.iface t v]))\/((fP=2\/fP=3)/\n=(x.n:Int)/\1<=x.n/\x.n<=4294967295/\(zM fP cj x).fair=true/\e=.returned (.tuple #[.string (bA (zM fP cj x).text),.nilIface])))
structure St (b d n:Nat) (w2:World) (L:List Item) (W:World):Prop where
 hb:wA b b (wH L) W
 hd:zG W d (yw L)
 rh:Below w2.heap.size w2 W
 sz:b<=W.heap.size
 cnt:L.length<=n
 len:(wH L).length<=7+10100*n
theorem Rq(l:List Item)(nm v:Bs)(q:Bool){M:Nat}(h:(wH l).length<=M)(hn:nm.length<=20)(hv:v.length<=5000):(wH (l++[(nm,v,q)])).length<=M+10100:=by
 rw[<-KS];have h1:=UM (wH l) nm (Bc q v);have h2:=UL q v;omega
theorem St.Lc{W':World}{L:List Item}(h:St b d n w2 L W)(hf:Fr aR W W')(hB:b=w2.heap.size):St b d n w2 L W' :=
 ⟨h.hb.fH hf,hf.keep h.hd id,h.rh.trans ((oH hf).mono (hB▸h.sz)),aD h.sz hf.size,h.cnt,h.len⟩
theorem St.named{L:List Item}(h:St b d n w2 L W):∃M,M=L/\St b d n w2 M W:=⟨L,rfl,h⟩
theorem lO(b d n:Nat)(w2:World)(L:List Item)(W:World)(nm:Bs)(nb:aj)(v:aj)(q:Bool)(AO:nb=bA nm)(hB:b=w2.heap.size)(NI:b<d)(hn:n<=20)(Ye:nm.length<=20)(hv:v.size<=5000)(h:St b d n w2 L W) :
  Calls prog 99 #[.string nb,.string v,.bool q,.pointer (some ⟨d,0,none⟩),.pointer (some ⟨b,0,none⟩)] W (fun e w'=>e=.returned (.tuple #[])/\St b d (n+1) w2 (L++[(nm,v.data.toList,q)]) w'):=by
 subst AO;have hl:=h.len;have sH:v.data.toList.length<=5000:=by simpa using hv
 have:=Zl b b d (wH L) nm v.data.toList (yw L) q W h.hb h.hd ab ab ab ab ab h.sz;rw[Ul]at this;refine this.mono ?_;rintro e w'⟨rfl,h1,h2,h3⟩;rw[KS]at h1;rw[Rj]at h2;refine⟨rfl,h1,h2,h.rh.trans (hB▸h3),aD h.sz h3.size,by simp;exact h.cnt,?_⟩;exact aD (Rq L nm v.data.toList q hl Ye sH) (by rw[Nat.mul_add];omega)
theorem pR{x:Bool}(h:zG w d x):w.cell? ⟨d,0,none⟩=some (.bool x):=by simp[World.cell?,show w.heap[d]?=_ from h]
def Bm(o:gz)(proxy:Bool)(g:bI bD):Bool:=g.o.ll o&&g.proxy==proxy
def mj(o:gz)(proxy:Bool):List (bI bD)->List (bI bD)×Option (bI bD)
 |[]=>([],none)
 |g :: l=>if Bm o proxy g then(l,some g)else(g :: (mj o proxy l).1,(mj o proxy l).2)
theorem El{o:gz}{proxy:Bool}:∀ {l:List (bI bD)},l.any (Bm o proxy)=false->mj o proxy l=(l,none)
 |[],_=>rfl
 |g :: l,h=>by
  rw[List.any_cons,eJ]at h;rw[mj,h.1,El h.2];rfl
theorem GW{o:gz}{proxy:Bool}:∀ {l:List (bI bD)} {k:Nat} {g:bI bD},(l.take k).any (Bm o proxy)=false->l[k]?=some g->Bm o proxy g=true->mj o proxy l=(l.take k++l.drop (k+1),some g)
 |[],k,g,_,h,_=>by simp at h
 |a :: l,0,g,_,h,hg=>by
  simp at h;subst h;rw[mj,hg];rfl
 |a :: l,k+1,g,ha,h,hg=>by
  rw[List.take_succ_cons,List.any_cons,eJ]at ha;rw[mj,ha.1,GW ha.2 (by simpa using h) hg];rfl
theorem GX(o:gz)(proxy:Bool):∀(l:List (bI bD)),(mj o proxy l).1.length<=l.length
 |[]=>ay _
 |g :: l=>by
  rw[mj];split
  ·simp
  ·have:=GX o proxy l;simp;omega
def nC(base:Nat)(w:World)(b:Nat)(gv wv:Value)(gs:List (aP bD))(u:List (bI bD)×Option (bI bD))(e:Ending)(w':World):Prop :=
 kF base w b gv wv gs u.1 w'/\match u.2 with
 |none=>e=.returned (.tuple #[.agg wS,.bool false])
 |some g=>∃r:bI Value,e=.returned (.tuple #[.agg r.cells.toArray,.bool true])/\r.Reads (dr base w') g/\∀u∈r.cells,u.oneCell'=true
theorem Qp:(wS:Array Value).all (·.oneCell')=true:=bW IY
theorem GY{base:Nat}{w5 w6:World}{b gg cap i n:Nat}{gv:Value}{gs:List (aP bD)}{ls:List (bI bD)}{rs:List (bI Value)}(h5:dB base w5 b gv (.slice (some ⟨gg,0,none⟩) ls.length cap) gs ls)
  (hb:lg (bI.Reads (dr base w5)) rs ls)(zF:OwnRows base 133 13 w6 (.slice (some ⟨gg,0,none⟩) (i+(ls.length-n)) cap) ((rs.map bI.cells).take i++(rs.map bI.cells).drop n))(nF:Fr (one gg) w5 w6) :
  dB base (w6.setCell ⟨b,1,none⟩ (.slice (some ⟨gg,0,none⟩) (i+(ls.length-n)) cap)) b gv (.slice (some ⟨gg,0,none⟩) (i+(ls.length-n)) cap) gs (ls.take i++ls.drop n) /\
  Fr (dt b gv (.slice (some ⟨gg,0,none⟩) ls.length cap)) w5 (w6.setCell ⟨b,1,none⟩ (.slice (some ⟨gg,0,none⟩) (i+(ls.length-n)) cap))/\w6.cell? ⟨b,1,none⟩=some (.slice (some ⟨gg,0,none⟩) ls.length cap)/\w6.frozen? ⟨b,1,none⟩=false:=by
 have lp:=h5.low;have dY:∀k,one gg k->own (.slice (some ⟨gg,0,none⟩) ls.length cap) k:=fun k hk=>by have e:k=gg:=hk;rw[e];rfl
 have mU:sr base w5 (one gg):=fun k hk hl=>h5.off k (Or.inr (Or.inr (dY k hk))) hl;have tC:=nF.keep h5.eI (fun h=>h5.wb (dY _ h));have zY:f_ base w6 gv gs:=h5.bF.fr nF mU (fun k hk hg=>h5.gw hk (dY _ hg));have hm:=hb.mono (fun _ _ h=>h.mono (fun _ _ h=>h.fr nF mU));have hg6:kl base w6 (.slice (some ⟨gg,0,none⟩) (i+(ls.length-n)) cap) (ls.take i++ls.drop n):=by
  refine⟨rs.take i++rs.drop n,?_,(hm.take i).app (hm.drop n)⟩;rw[bH,List.map_take,List.map_drop];exact zF
 have UH:Fr (dt b gv (.slice (some ⟨gg,0,none⟩) ls.length cap)) w5 w6:=nF.mono (fun k _ hk=>Or.inr (Or.inr (dY k hk)));exact⟨dB.ad1 lp tC zY hg6,UH.setCell (p:=⟨b,1,none⟩) (fun _=>Or.inl rfl) _,by simp[World.cell?,tC],by simp[World.frozen?,tC]⟩
theorem kF.aiD{base:Nat}{gv wv:Value}{gs:List (aP bD)}{ws:List (bI bD)}(h:dB base w b gv wv gs ws)(hf:Fr aR w w'):kF base w b gv wv gs ws w' :=
 ⟨gv,wv,h.dh hf,hf.mono (fun _ _ h=>absurd h id),fun _ hk=>Or.inl hk⟩
def aiE(w:World)(ws:List (bI bD))(o:gz)(proxy:Bool)(i:Value)(wr:World):Prop :=
 ∃k:Nat,k<=ws.length/\i=.int .i64 k/\(ws.take k).any (Bm o proxy)=false/\Fr aR w wr
theorem Lx(base:Nat)(w:World)(b:Nat)(gv wv:Value)(gs:List (aP bD))(ws:List (bI bD))(o:gz)(proxy:Bool)(h:dB base w b gv wv gs ws)(Fh:ws.length<34359738368) :
  Calls prog 59 #[.pointer (some ⟨b,0,none⟩),.agg o.cells.toArray,.bool proxy] w (nC base w b gv wv gs (mj o proxy ws)):=by
 unfold gz.cells;have sO:=h.lt;have lp:=h.low;obtain⟨aw,cw,FA⟩:=h.waits.form;subst FA;have pg:Fr aR w _:=((ae aR w).alloc (.cells #[.bool o.aF,.string o.host,.int .i64 o.port] 32)).alloc (.cells wS 133);have b1:=aB (w.alloc (.cells #[.bool o.aF,.string o.host,.int .i64 o.port] 32)) (.cells wS 133)
 rw[show(w.alloc (.cells #[.bool o.aF,.string o.host,.int .i64 o.port] 32)).heap.size=w.heap.size+1 from aQ]at b1;have b0:=Below.heap_alloc (w.alloc (.cells #[.bool o.aF,.string o.host,.int .i64 o.port] 32)) (.cells wS 133) w.heap.size aQ;rw[aB]at b0;have h1:=h.dh pg;have c1:=h1.c1;have ZB:=O b0;have Qn:=O b1;clear b0 b1;go_enter func59,ntmps59;go_wp2_with fail
 clear c1;generalize (w.alloc (.cells _ 32)).alloc _=W at *
 go_loopw[15] (aiE W ws o proxy) (fun i _=>ws.length-(intOf i).toNat)
 case atStart=>exact⟨0,aI _,rfl,rfl,ae _ _⟩
 case round =>
  obtain⟨k,hk,rfl,jn,cK⟩:=hrel;have ZT:=O jn;clear jn;by_cases eX:k<ws.length
  ·obtain⟨bk,c,df,sZ,r,dY,hr,hcell⟩:=(h1.dh cK).waits.at eX;cases df;unfold maxLen at sZ;have dN:=O (List.getElem?_eq_getElem eX);obtain⟨x,hx⟩:∃x,x=r.cells:=⟨_,rfl⟩;have lF:x.length=13:=by rw[hx];rfl
   have jq:=fun W=>run_storeCells_new (P:=prog) W 133 wS x (by rw[lF];rfl) (by rw[hx];exact dY);rw[<-hx]at hcell;have IP:=O (Bl lF);have gS:Fr aR wr (wr.alloc (.cells x.toArray 133)):=(ae aR wr).alloc _;have qp:(wr.alloc (.cells x.toArray 133)).heap[wr.heap.size]?=some (.cells x.toArray 133 (0,0)):=aB _ _
   have np:∀i u,r.cells[i]?=some u->(wr.alloc (.cells x.toArray 133)).cell? ⟨wr.heap.size,i,none⟩=some u:=fun i u hu=>by
    rw[<-hx]at hu;simp only[World.cell?,qp];simpa using hu
   have c0:=np 0 _ rfl;have c1:=np 1 _ rfl;have c2:=np 2 _ rfl;have c3:=np 3 _ rfl;have heq:=jz r.o o;have hO3:=O (gS.keep (cK.keep ZB.o id) id);have sD:=cK.trans gS;have h3:=h1.dh sD;have rJ:=O (hr.mono (fun _ _ h=>h.dh gS));have hq:=O (show Bm o proxy ws[k]=(r.o.ll o&&r.proxy==proxy)by unfold Bm;rw[hr.1,hr.2.1]);have HX:=O hx;have ud:=O qp;have xE:=O dY
   have hlw:wr.heap.size<(wr.alloc (.cells x.toArray 133)).heap.size:=aQ;clear hx hr gS qp np dY;cases e1:r.o.ll o
   ·have Ly:=O (any_take_succ dN.o ZT.o (by rw[hq.o,e1];rfl));go_wp2_with (first|((with_reducible refine cY 19 ?_);refine aU rfl 133 (.tmp 18) rfl bk (k*13) rfl x _ hcell underlying133 rfl IP.o ?_)|((with_reducible refine cY 22 ?_);refine aH rfl 32 (.tmp 4) rfl w.heap.size rfl _ _ (0,0) _ hO3.o underlying32 rfl af ?_)|fail)
    go_roundw
    case rel=>exact⟨k+1,ab,a_,Ly.o,sD⟩
    case measure=>simp[intOf];omega
   ·cases e2:r.proxy==proxy
    ·have Ly:=O (any_take_succ dN.o ZT.o (by rw[hq.o,e1,e2];rfl));go_wp2_with (first|((with_reducible refine cY 19 ?_);refine aU rfl 133 (.tmp 18) rfl bk (k*13) rfl x _ hcell underlying133 rfl IP.o ?_)|((with_reducible refine cY 22 ?_);refine aH rfl 32 (.tmp 4) rfl w.heap.size rfl _ _ (0,0) _ hO3.o underlying32 rfl af ?_)|fail)
     go_roundw
     case rel=>exact⟨k+1,ab,a_,Ly.o,sD⟩
     case measure=>simp[intOf];omega
    ·have htk:=O (GW ZT.o dN.o (by rw[hq.o,e1,e2];rfl));obtain⟨rs,ho,hb⟩:=h3.waits;have vI:=O (show(rs.map bI.cells).length=ws.length by rw[ai,hb.len]);have qJ:=O (GN base bk cw k (k+1) (rs.map bI.cells) _ (by rw[vI.o];exact ho) ab (by rw[vI.o];omega));rw[vI.o,show((k+1:Nat):Int)=(k:Int)+1 from ab]at qJ;have aod:bk<w.heap.size:=by obtain⟨cc,e⟩:=h.wQ (k:=bk) rfl;exact bj e
     have d1:=h3.c1;have RM:=pg.trans sD;have b1v:=O (sD.keep Qn.o id);have avf:w.heap.size+1<W.heap.size:=bj Qn.o;have xD:W.heap.size<=wr.heap.size:=cK.size;have hne:∀j,dt b gv (.slice (some ⟨bk,0,none⟩) ws.length cw) j->j<w.heap.size:=fun j hj=>by
      rcases hj with hj|hj|hj
      ·omega
      ·obtain⟨cc,e⟩:=h.uj hj;exact bj e
      ·obtain⟨cc,e⟩:=h.wQ hj;exact bj e
     have hxz:=O (show(wS:Array Value).size=x.toArray.size from Vw.trans (by simp[lF]));have mO:=O (show x.toArray.all (·.oneCell')=true from bW (by rw[HX.o];exact xE.o));have hxa:=O (show(prog.info? 133).map (·.size)=some x.toArray.size by rw[aW];exact IP.o);clear sD
     go_wp2_with (first|((with_reducible refine cY 19 ?_);refine aU rfl 133 (.tmp 18) rfl bk (k*13) rfl x _ hcell underlying133 rfl IP.o ?_)|((with_reducible refine cY 22 ?_);refine aH rfl 32 (.tmp 4) rfl w.heap.size rfl _ _ (0,0) _ hO3.o underlying32 rfl af ?_)|fail)
     clear jq hcell c0 c1 c2 c3 d1 hO3 heq;generalize wr.alloc (.cells x.toArray 133)=V at *
     refine qJ.o.mono ?_;rintro e w2⟨rfl,q_,dy⟩;obtain⟨h4,TL,d2,e2'⟩:=GY h3 hb (by exact q_) dy;obtain⟨l,hl⟩:∃l,l=ws.take k++ws.drop (k+1):=⟨_,rfl⟩;have hm:k+(ws.length-(k+1))=l.length:=by rw[hl,aM,aJ,bJ];omega
     rw[<-hl]at h4;rw[<-hl]at htk;rw[hm]at h4 TL ⊢;clear hl hm;have Lt:sr base V (own (.slice (some ⟨bk,0,none⟩) ws.length cw)):=ho.off (ay _) ag;have Lu:sr base V (one bk):=fun j hj hl=>Lt j (by have e:j=bk:=hj;rw[e];rfl) hl;have zZ:=dy.keep ud.o (fun h=>by have e:wr.heap.size=bk:=h;omega);have Vr:=dy.keep b1v.o (fun hh=>by have e:w.heap.size+1=bk:=hh;omega);have vX:=rJ.o.mono (fun _ _ h=>h.fr dy Lu)
     have Vs:w2.heap[b]?=some (.cells #[gv,.slice (some ⟨bk,0,none⟩) ws.length cw] 89 (0,0)):=dy.keep h3.eI (fun h=>h3.wb (by have e:b=bk:=h;rw[e];rfl));have ks:Fr (one b) w2 (w2.setCell ⟨b,1,none⟩ (.slice (some ⟨bk,0,none⟩) l.length cw)):=(ae (one b) w2).setCell (p:=⟨b,1,none⟩) (fun _=>rfl) _;have Vt:sr base w2 (one b):=by
      rintro j rfl _;exact⟨lp,fun cc f e=>by rw[Vs]at e;cases e⟩
     have Eh:=O (ks.keep zZ (fun h=>by have e:wr.heap.size=b:=h;omega));have RN:=O (ks.keep Vr (fun h=>by have e:w.heap.size+1=b:=h;omega));have BZ:=O (vX.mono (fun _ _ h=>h.fr ks Vt));have hFw:=O (show Fr (dt b gv (.slice (some ⟨bk,0,none⟩) ws.length cw)) w (w2.setCell ⟨b,1,none⟩ (.slice (some ⟨bk,0,none⟩) l.length cw))from fX (RM.mono (fun _ _ h=>absurd h id)) TL (fun _ _ h=>h))
     have ln:∀j,dt b gv (.slice (some ⟨bk,0,none⟩) l.length cw) j->dt b gv (.slice (some ⟨bk,0,none⟩) ws.length cw) j:=fun j hj=>by
      rcases hj with h|h|h
      ·exact Or.inl h
      ·exact Or.inr (Or.inl h)
      ·exact Or.inr (Or.inr h)
     have H4:=O h4;clear qJ q_ ho hb Vs ks Vt zZ Vr vX TL Lu Lt h3 RM ud rJ b1v h4;go_wp2_with (first|((with_reducible refine cY 41 ?_);refine aH rfl 133 (.tmp 9) rfl wr.heap.size rfl _ x.toArray (0,0) _ Eh.o underlying133 rfl hxa.o ?_)|((with_reducible refine cV 133 ?_);refine aE rfl 133 (.tmp 6) (.tmp 41) rfl (w.heap.size+1) x.toArray rfl rfl _ wS RN.o hxa.o hxz.o mO.o ?_)|fail)
     refine aS (results_cell_tmp bC _ _ (w.heap.size+1) 133 x.toArray (0,0) _ rfl (aX _ (w.heap.size+1) _ _ _ _ RN.o) underlying133 rfl hxa.o) rfl ?_;unfold nC;rw[htk.o]
     have hFr:Fr (one (w.heap.size+1)) (w2.setCell ⟨b,1,none⟩ (.slice (some ⟨bk,0,none⟩) l.length cw)) ((w2.setCell ⟨b,1,none⟩ (.slice (some ⟨bk,0,none⟩) l.length cw)).setRow (w.heap.size+1) x.toArray):=(ae (one (w.heap.size+1)) _).setRow (fun _=>rfl) _;have rS:sr base (w2.setCell ⟨b,1,none⟩ (.slice (some ⟨bk,0,none⟩) l.length cw)) (one (w.heap.size+1)):=by
      rintro j rfl _;exact⟨ab,fun cc f e=>by rw[RN.o]at e;cases e⟩
     refine⟨⟨_,_,H4.o.fr hFr rS ?_ ?_ ?_,hFw.o.step hFr ?_,fun j hj=>Or.inl (ln j hj)⟩,r,by rw[HX.o];rfl,BZ.o.mono (fun _ _ h=>h.fr hFr rS),xE.o⟩
     ·intro hh;have e:b=w.heap.size+1:=hh;omega
     ·intro j hj hh;have e:j=w.heap.size+1:=hh;have:=hne j (ln j (Or.inr (Or.inl hj)));omega
     ·intro j hj hh;have e:j=w.heap.size+1:=hh;have:=hne j (ln j (Or.inr (Or.inr hj)));omega
     ·intro j hj hh;have e:j=w.heap.size+1:=hh;omega
  ·have hs:=O (El (o:=o) (proxy:=proxy) (l:=ws) (by have h:=ZT.o;rw[aC ab]at h;exact h));have qj:=O (cK.keep Qn.o id);have HF:=pg.trans cK;have hp:=kF.aiD h (HF.setRow (g:=w.heap.size+1) (fun h=>absurd h ab) wS);go_wp2_with (first|((with_reducible refine cV 133 ?_);refine aE rfl 133 (.tmp 6) (.tmp 43) rfl (w.heap.size+1) wS rfl rfl _ wS qj.o af rfl Qp ?_)|fail)
   refine aS (results_cell_tmp bC _ _ (w.heap.size+1) 133 wS (0,0) _ rfl (aX wr (w.heap.size+1) _ _ _ _ qj.o) underlying133 rfl af) rfl ?_;unfold nC;rw[hs.o];exact⟨hp,rfl⟩
def ZW(p:aj):aj:=p.extract 0 (Lib.lastIndexByte p 47+1).toNat
theorem lastIndexByte_bounds(s:aj)(c:Int): -1<=Lib.lastIndexByte s c/\Lib.lastIndexByte s c+1<=s.size:=by
 rcases Lib.lastIndexByte_spec s c with ⟨e,_⟩|⟨i,hi,e,_⟩
 ·rw[e];omega
 ·rw[e];omega
theorem ZX(p:aj)(w:World)(hs:p.size<4611686018427387904):Calls prog 117 #[.string p] w fun e w'=>e=.returned (.string (ZW p))/\w=w':=by
 have hbd:=lastIndexByte_bounds p 47;have hd:=O (show ZW p=p.extract 0 (Lib.lastIndexByte p 47+1).toNat from rfl);go_enter func117,ntmps117;go_wp2_with fail
 refine(strings_LastIndexByte p 47 hs w).mono ?_;rintro e w1⟨rfl,rfl⟩;generalize Lib.lastIndexByte p 47=k at *
 have h1:(0:Int)<=k+1:=ab;have h2:k+1<=(p.size:Int):=ab;go_wp2;go_ret;exact⟨by rw[hd.o];rfl,rfl⟩
theorem dr.lit{k:Nat}(base:Nat)(w:World)(x:aj)(hk:k=w.heap.size):dr base (w.alloc (.cells #[.string x] 9)) (.slice (some ⟨k,0,none⟩) 1 1) [x]:=by
 subst hk;exact dr.aoo base w x
def nX(a:fK bD)(proxy:Bool)(path:aj):bD :=
 if proxy then [⟨#[47]⟩]else if a.scheme≠1/\a.dom.length=0 then [⟨#[47]⟩]else if a.scheme=1 then [ZW path]else a.dom
def rA(base:Nat)(w:World)(l:bD)(e:Ending)(w':World):Prop:=∃v,e=.returned v/\dr base w' v l/\Fr aR w w'
theorem RP(base:Nat)(r:fK Value)(a:fK bD)(proxy:Bool)(path:aj)(w:World)(hr:r.Reads (dr base w) a)(hs:path.size<4611686018427387904) :
  Calls prog 60 #[.agg r.cells.toArray,.bool proxy,.string path] w (rA base w (nX a proxy path)):=by
 obtain⟨e1,e2,e3,e4,e5,e6,e7,Bn⟩:=hr;obtain⟨ad,cd,xV⟩:=Bn.rd.form;have hAC:r.cells=[.int .i64 a.scheme,.string r.aK,.string r.bq,.string r.cj,.bool r.cy,.string r.eE,.bool r.cM,.slice ad a.dom.length cd]:=by unfold fK.cells;rw[e1,xV]
 rw[xV]at Bn;have gS:Fr aR w (w.alloc (.cells #[.int .i64 a.scheme,.string r.aK,.string r.bq,.string r.cj,.bool r.cy,.string r.eE,.bool r.cM,.slice ad a.dom.length cd] 112)):=(ae aR w).alloc _;have sV:=Bn.dh gS;rw[hAC];clear hAC e1 e2 e3 e4 e5 e6 e7 Bn xV;cases proxy with
 |true =>
  have qz:=O (show nX a true path=[⟨#[47]⟩]from rfl);go_enter func60,ntmps60;go_wp2;go_ret;unfold rA;rw[qz.o];exact⟨_,rfl,dr.lit base _ _ aQ,((ae aR w).alloc _).alloc _⟩
 |false =>
  by_cases h1:a.scheme=1
  ·have qz:=O (show nX a false path=[ZW path]by unfold nX;simp[h1]);go_enter func60,ntmps60;go_wp2_with fail
   refine(ZX path _ hs).mono ?_;rintro e w1⟨rfl,rfl⟩;go_wp2;go_ret;unfold rA;rw[qz.o];exact⟨_,rfl,dr.lit base _ _ aQ,((ae aR w).alloc _).alloc _⟩
  ·by_cases h2:a.dom.length=0
   ·have qz:=O (show nX a false path=[⟨#[47]⟩]by unfold nX;rw[aq ag,az ⟨h1,h2⟩]);have h2':((a.dom.length:Nat):Int)=0:=ab;go_enter func60,ntmps60;go_wp2;go_ret;unfold rA;rw[qz.o];exact⟨_,rfl,dr.lit base _ _ aQ,((ae aR w).alloc _).alloc _⟩
   ·have qz:=O (show nX a false path=a.dom by unfold nX;rw[aq ag,aq (fun h=>h2 h.2),aq h1]);have qj:(a.scheme !=1)=true:=by simp[h1]
    have kC:(((a.dom.length:Nat):Int)==0)=false:=by simp;intro h;exact h2 (by rw[h];rfl)
    have CL:=O (rR base _ _ _ sV);go_enter func60,ntmps60;go_wp2_with fail
    refine CL.o.mono ?_;rintro e w1⟨a',c',rfl,X6,hf⟩;go_wp2;go_ret;unfold rA;rw[qz.o];exact⟨_,rfl,X6,gS.trans hf⟩
