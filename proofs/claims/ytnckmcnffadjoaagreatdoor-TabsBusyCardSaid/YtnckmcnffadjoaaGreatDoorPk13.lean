/- Lemmas for the law's walk. -/
import Derived.Test.YtnckmcnffadjoaaGreatDoorPk12
import Derived.Deep.AppendLies
set_option maxRecDepth 100000
set_option maxHeartbeats 16000000
set_option linter.unusedSimpArgs false
namespace Go.Proofs.YtnckmcnffadjoaaGreatDoor
open Go.Proofs.Tryz
open Go.RowKit
variable {c i base k g:Nat} {t:aj} {v:Value} {e:TypeId} {w:World} {xs:List (List Value)} {ps:List jy} {n W z l:Bs}
def xS(n p:Nat)(e:Ending)(w':World):Prop :=
 ∃g,e=.returned (.iface 211 (.pointer (some ⟨g,0,none⟩)))/\w'.heap[g]?=some (.cells #[.int .i64 n,.int .i64 p] 213 (0,0))
theorem xS.new(n p:Nat)(w:World):xS n p (.returned (.iface 211 (.pointer (some ⟨w.heap.size,0,none⟩)))) (w.alloc (.cells #[.int .i64 n,.int .i64 p] 213 (0,0))):=⟨_,rfl,aB _ _⟩
theorem ub(b c i n:Nat)(s:aj)(v:Value)(w:World)(hr:iI w b c s v)(h:du w c s i) :
  Calls prog 167 #[.pointer (some ⟨b,0,none⟩),.int .i64 n] w fun e w'=>xS n i e w'/\Fr aR w w':=by
 have q0:=hr.cell0;go_enter func167,ntmps167;go_wp2_with fail
 refine(AW c s i w h).mono ?_;rintro e w1⟨rfl,rfl⟩;go_wp2;go_ret;exact⟨xS.new n i w,(ae _ _).alloc _⟩
theorem mS(l:Bs):(bA l).toList=l:=toList_mk l
def oy(p:jy):List Value:=[.string (bA p.1),.string (bA p.2)]
def kM(w:World)(x:Nat)(sc tok:aj)(pv:Value):Prop:=w.heap[x]?=some (.cells #[.string sc,.string tok,pv] 198 (0,0))
section
variable {w w' : World} {x : Nat} {sc tok : ByteArray} {pv : Value}
theorem kM.cell0(h:kM w x sc tok pv):w.cell? ⟨x,0,none⟩=some (.string sc):=by simp[World.cell?,show w.heap[x]?=_ from h]
theorem kM.hZ(h:kM w x sc tok pv):w.cell? ⟨x,1,none⟩=some (.string tok):=by simp[World.cell?,show w.heap[x]?=_ from h]
theorem kM.lV(h:kM w x sc tok pv):w.cell? ⟨x,2,none⟩=some pv:=by simp[World.cell?,show w.heap[x]?=_ from h]
theorem kM.free(h:kM w x sc tok pv)(k:Nat):w.frozen? ⟨x,k,none⟩=false:=by simp[World.frozen?,show w.heap[x]?=_ from h]
theorem kM.fr{S:Nat->Prop}(h:kM w x sc tok pv)(hf:Fr S w w')(hn:¬S x):kM w' x sc tok pv:=hf.keep h hn
theorem kM.lt(h:kM w x sc tok pv):x<w.heap.size:=bj h
theorem kM.ne(h:kM w x sc tok pv)(g:du w c t i):x≠c:=by
 intro e;subst e;have h':w.heap[x]?=_:=h;have g':w.heap[x]?=_:=g;rw[h']at g';simp at g'
theorem kM.neR{b:Nat}(h:kM w x sc tok pv)(g:iI w b c t v):x≠b:=by
 intro e;subst e;have h':w.heap[x]?=_:=h;have g':w.heap[x]?=_:=g;rw[h']at g';simp at g'
end
theorem OwnRows.BX(h:OwnRows base e k w v xs)(hg:v.ownBlock=some g):∃cur,w.heap[g]?=some (.cells cur e (0,0)):=by
 rcases h.2.2 with ⟨hv,_⟩|⟨g',cap,cur,hv,_,hh,_⟩
 ·rw[hv]at hg;simp[Value.ownBlock]at hg
 ·rw[hv]at hg;simp[Value.ownBlock]at hg;subst hg;exact⟨cur,hh⟩
theorem OwnRows.not{t:TypeId}{cs:Array Value}{f:Nat×Nat}(h:OwnRows base e k w v xs)(hb:w.heap[g]?=some (.cells cs t f))(ht:t≠e):v.ownBlock≠some g:=by
 intro hg;obtain⟨cur,hc⟩:=h.BX hg;rw[hc]at hb;cases hb;exact ht rfl
def xT(w:World)(x:Nat)(a b:aj):Prop:=w.heap[x]?=some (.cells #[.string a,.string b] 171 (0,0))
def Iy(c x:Nat)(pv:Value):Nat->Prop:=fun k=>k=c\/k=x\/pv.ownBlock=some k
def od(base c x i:Nat)(s:aj)(ps:List jy)(sc tok:aj)(pv:Value)(w:World)(e:Ending)(w':World):Prop :=
 Fr (Iy c x pv) w w'/\match ld ps (s.data.toList.drop i)with
  | .error n=>∃p,xS n p e w'
  | .ok q=>e=.returned .nilIface/\∃j yZ,j<=s.size/\du w' c s j/\s.data.toList.drop j=q.2/\kM w' x sc tok yZ/\OwnRows base 171 2 w' yZ ((ps++[q.1]).map oy)
theorem od.bad{x n p:Nat}{s:aj}{sc tok:aj}{pv:Value}{w':World}{e:Ending}(h:ld ps (s.data.toList.drop i)=.error n)(hf:Fr (Iy c x pv) w w')(he:xS n p e w'):od base c x i s ps sc tok pv w e w':=by
 refine⟨hf,?_⟩;rw[h];exact⟨p,he⟩
theorem Iz(s:aj)(i:Nat):s.data.toList.drop (eI s (eI s (JN s i)+1))=nH (s.data.toList.drop i):=by
 unfold nH;rw[<-wE, <-oP s (JN s i),ey,oP]
def adq(base b c x P i:Nat)(s:aj)(v:Value)(ps:List jy)(sc tok:aj)(pv:Value)(W:Bs)(w wx:World):Prop :=
 ∃val j,j<=s.size/\du wx c s j/\xT wx P (bA W) (bA val)/\iI wx b c s v/\kM wx x sc tok pv/\OwnRows base 171 2 wx pv (ps.map oy)/\Fr (Iy c x pv) w wx /\
  ld ps (s.data.toList.drop i)=(if uC ps W then .error 9 else if ps.length=16 then .error 4 else .ok ((W,val),s.data.toList.drop j))
theorem Rb(l:Bs)(k:Nat):gM l k=(A1 (l.drop k)).map fun q=>(q.1,l.length-q.2.length):=by
 unfold gM;rcases eM k l.length with h|h
 ·rw[List.getElem?_eq_getElem h,cR h];show _=Option.map _ (if l[k]==34 then vV (l.drop (k+1))else none);by_cases hq:l[k]=34
  ·rw[hq,az rfl,az bC];unfold tD;simp
  ·rw[aq (by simpa using hq),aq (by simpa using hq)];rfl
 ·rw[List.getElem?_eq_none h,cO h,aq aQ];rfl
theorem PZ(l:Bs):(bA l).size=l.length:=rfl
def ahr(ps:List jy)(W:Bs)(w:World)(t:Value)(wr:World):Prop:=∃k:Nat,k<=ps.length/\t=.int .i64 k/\(ps.take k).any (fun q=>dG q.1 W)=false/\Fr aR w wr
theorem wF{v:Bs}(h:ps[k]?=some (n,v))(hn:(ps.take k).any (fun q=>dG q.1 W)=false)(hp:dG n W=false):(ps.take (k+1)).any (fun q=>dG q.1 W)=false:=by
 rw[bZ,h];simp only[List.any_append,hn,Option.toList_some,List.any_cons,hp,List.any_nil,Bool.or_false]
theorem UC{v:Bs}(h:ps[k]?=some (n,v))(hp:dG n W=true):uC ps W=true:=by
 unfold uC;rw[List.any_eq_true];exact⟨_,bT h,hp⟩
theorem KK:(prog.info? 171).map (fun i=>(i.zero,i.size,i.bytes))=some (some (.agg #[.string ⟨#[]⟩,.string ⟨#[]⟩]),2,32):=af
theorem P1(p:jy):∀u∈oy p,u.oneCell'=true:=by
 intro u hu;simp only[oy,bB,cq,dU]at hu;rcases hu with rfl|rfl<;>rfl
theorem UD(ps:List jy):∀x∈ps.map oy,x.length=2/\∀u∈x,u.oneCell'=true:=by
 intro x hx;obtain⟨p,_,rfl⟩:=bV.1 hx;exact⟨rfl,P1 p⟩
theorem yu:∀(f:Nat) (r a z:Bs),r.length<=f->vV r=some (a,z)->z <:+ r
 |0,r,a,z,hf,h=>by
  have:r=[]:=cg ab;subst this;rw[vV.eq_def]at h;simp at h
 |f+1,[],a,z,hf,h=>by rw[vV.eq_def]at h;simp at h
 |f+1,x :: r,a,z,hf,h=>by
  rw[vV.eq_def]at h;simp only at h;by_cases h1:(x==34)=true
  ·rw[az h1]at h;cases h;exact jB _ _
  ·rw[aq h1]at h;by_cases h2:(x==92)=true
   ·rw[az h2]at h;cases r with
    |nil=>simp at h
    |cons y r' =>
     simp only at h;by_cases h3:nx y=true
     ·rw[az h3]at h;cases hq:vV r' with
      |none=>rw[hq]at h;simp at h
      |some p =>
       rw[hq]at h;simp at h;obtain⟨rfl,rfl⟩:=h;have:=yu f r' p.1 p.2 (by simp at hf;omega) hq;exact(this.trans (jB _ _)).trans (jB _ _)
     ·rw[aq h3]at h;simp at h
   ·rw[aq h2]at h;by_cases h3:nx x=true
    ·rw[az h3]at h;cases hq:vV r with
     |none=>rw[hq]at h;simp at h
     |some p =>
      rw[hq]at h;simp at h;obtain⟨rfl,rfl⟩:=h;have:=yu f r p.1 p.2 (by simp at hf;omega) hq;exact this.trans (jB _ _)
    ·rw[aq h3]at h;simp at h
theorem KL(h:z <:+ l):l.drop (l.length-z.length)=z:=by
 obtain⟨t,rfl⟩:=h;rw[aM,Nat.add_sub_cancel,List.drop_left'];rfl
theorem KM{a:Bs}(h:A1 (l.drop k)=some (a,z)):l.drop (l.length-z.length)=z:=by
 refine KL (List.IsSuffix.trans ?_ (List.drop_suffix k l));cases hd:l.drop k with
 |nil=>rw[hd]at h;cases h
 |cons c t =>
  rw[hd]at h;have h':(if c==34 then vV t else none)=some (a,z):=h;by_cases hc:(c==34)=true
  ·rw[az hc]at h';exact(yu _ t a z (ay _) h').trans (jB _ _)
  ·rw[aq hc]at h';cases h'
theorem Rc(base b c x i:Nat)(s:aj)(v:Value)(ps:List jy)(sc tok:aj)(pv:Value)(w:World)(hr:iI w b c s v)(h:du w c s i)(hx:kM w x sc tok pv)(ho:OwnRows base 171 2 w pv (ps.map oy))(hb:base<=w.heap.size)
  (hs:s.size<100000)(hi:i<=s.size)(hl:ps.length<=16)(hz:∀p∈ps,p.1.length<100000) :
  Calls prog 170 #[.pointer (some ⟨b,0,none⟩),.pointer (some ⟨x,0,none⟩)] w (od base c x i s ps sc tok pv w):=by
 have hm:s.size<=maxLen:=fq;have hbc:=hr.ne h;have hxc:=hx.ne h;have Zc:=hx.neR hr;have CU:pv.ownBlock≠some c:=ho.not h ag;have DA:pv.ownBlock≠some x:=ho.not hx ag;have hob:pv.ownBlock≠some b:=ho.not hr ag;have q0:=hr.cell0;have HN:=O (KJ s i);have HV:=O (Iz s i);have hw:=Iv hi;have hk:=yt hw;have Re:=(show ld ps (s.data.toList.drop i)=if !lL (s.data.toList.drop i)then .error 3 else
   match pL (nH (s.data.toList.drop i))with
   |none=>.error 3
   |some q=>if uC ps (h_ (s.data.toList.drop i))then .error 9 else if ps.length=16 then .error 4 else .ok ((h_ (s.data.toList.drop i),q.1),q.2)from rfl)
 have hPR:=O Re;clear Re;have Fh:(h_ (s.data.toList.drop i)).length<=s.size:=by
  have:=ry (s.data.toList.drop i);simp at this;omega
 go_enter func170,ntmps170;go_wp2_with fail
 refine(AW c s i w h).mono ?_;rintro e w0⟨rfl,rfl⟩;go_wp2_with fail
 refine(vY c s i w h hm hi).mono ?_;rintro e w1⟨rfl,px,df⟩;replace px:du w1 c s (JN s i):=px;rw[show s.extract i (cL fY s.data.toList i)=bA (h_ (s.data.toList.drop i))from zC s i];generalize h_ (s.data.toList.drop i)=W at *
 generalize JN s i=K1 at *
 have yY:=hr.one h df;have mO:=hx.fr df hxc;have Bb:=ho.fr df (fun k hk e=>CU (by rw[hk];exact ar some e));have k_:=O (show Fr (Iy c x pv) w w1 from df.mono (fun k _ e=>Or.inl e));have q1:=yY.cell0;have q1a:∀o:Obj,(w1.alloc o).cell? ⟨b,0,none⟩=some (.pointer (some ⟨c,0,none⟩)):=fun o=>(yY.fr ((ae aR w1).alloc o) (fun h=>h)).cell0;clear q0 df;go_wp2_with fail
 obtain⟨wp,hwp⟩:∃wp,wp=w1.alloc (.cells #[.string (bA W),.string ⟨#[]⟩] 171):=⟨_,rfl⟩;have hpp:xT wp w1.heap.size (bA W) ⟨#[]⟩:=by rw[hwp];exact aB _ _
 have dy:Fr aR w1 wp:=by rw[hwp];exact(ae _ _).alloc _
 have ox:=yY.fr dy (fun h=>h);have sN:=px.fr dy (fun h=>h);have P2:=mO.fr dy (fun h=>h);have q_:=Bb.fr dy (fun _ _ h=>h);have fO:=O (k_.o.trans dy.nj);have q2:=ox.cell0;rw[<-hwp];generalize hP:w1.heap.size=P at *
 have Zd:P≠c:=by intro e;have:=px.lt;omega
 have hPx:P≠x:=by intro e;have:=mO.lt;omega
 have hPb:P≠b:=by intro e;have:=yY.lt;omega
 have hPw:w.heap.size<=P:=by have:=k_.o.size;omega
 have auF:P<wp.heap.size:=bj hpp;have hoP:pv.ownBlock≠some P:=fun e=>by have:=Bb.lt P e;omega
 clear q1 q1a hwp dy;refine(mB c s K1 wp sN hm hw).mono ?_;rintro e w3⟨rfl,uB,iv⟩;replace uB:du w3 c s (eI s K1):=uB;generalize eI s K1=K2 at *
 have rJ:=ox.one sN iv;have xU:=P2.fr iv hxc;have yp:=q_.fr iv (fun k hk e=>CU (by rw[hk];exact ar some e));have hp3:xT w3 P (bA W) ⟨#[]⟩:=iv.keep hpp Zd;have ic:=O (fO.o.trans (iv.mono (fun k _ e=>Or.inl e)));have q3:=rJ.cell0;have p0:w3.cell? ⟨P,0,none⟩=some (.string (bA W)):=by simp[World.cell?,show w3.heap[P]?=_ from hp3]
 clear q2 iv yY mO Bb ox P2 q_ hpp px sN;cases P3:W.isEmpty
 case true =>
  have DB:(bA W).toList=[]:=by rw[mS];exact gD.1 P3
  have AO:((bA W).toList== [])=true:=dT.2 DB;rw[P3]at HN;have HE:=O (show ld ps (s.data.toList.drop i)=.error 3 by rw[hPR.o,HN.o];rfl);go_wp2_with fail
  refine(ub b c K2 3 s v w3 rJ uB).mono ?_;rintro e w4⟨⟨g,rfl,hg⟩,kK⟩;go_wp2;go_ret;exact od.bad HE.o (ic.o.trans kK.nj) ⟨g,rfl,hg⟩
 case false =>
  have DB:¬(bA W).toList=[]:=by rw[mS];intro e;rw[e]at P3;cases P3
  have AO:((bA W).toList== [])=false:=aN.2 DB;have HN2:=O (show lL (s.data.toList.drop i)=kn s K2 61 by rw[HN.o,P3];rfl);clear HN P3;go_wp2_with fail
  refine(qg c s K2 61 w3 uB hm).mono ?_;rintro e w4⟨rfl,uy,kK⟩;have vX:=rJ.one uB kK;have Ze:=xU.fr kK hxc;have Ty:=yp.fr kK (fun k hk e=>CU (by rw[hk];exact ar some e));have hp4:xT w4 P (bA W) ⟨#[]⟩:=kK.keep hp3 Zd;have jV:=O (ic.o.trans (kK.mono (fun k _ e=>Or.inl e)));have q4:=vX.cell0;have p0:w4.cell? ⟨P,0,none⟩=some (.string (bA W)):=by simp[World.cell?,show w4.heap[P]?=_ from hp4]
  clear q3 kK rJ xU yp hp3 uB;cases PQ:kn s K2 61
  ·have HE:=O (show ld ps (s.data.toList.drop i)=.error 3 by rw[hPR.o,HN2.o,PQ];rfl);rw[pF PQ]at uy;go_wp2_with fail
   refine(ub b c K2 3 s v w4 vX uy).mono ?_;rintro e w5⟨⟨g,rfl,hg⟩,lG⟩;go_wp2;go_ret;exact od.bad HE.o (jV.o.trans lG.nj) ⟨g,rfl,hg⟩
  ·rw[pE PQ]at uy;rw[HN2.o,PQ]at hPR;have su:K2+1<=s.size:=by
    have:=(List.getElem?_eq_some_iff.1 ((xn s K2 61).1 PQ)).1;have h2:K2<s.size:=by simpa using this
    omega
   go_wp2_with fail
   refine(mB c s (K2+1) w4 uy hm su).mono ?_;rintro e w5⟨rfl,uz,lG⟩;replace uz:du w5 c s (eI s (K2+1)):=uz;have IA:=yt su;generalize eI s (K2+1)=K3 at *
   rw[<-HV.o]at hPR;have BZ:=vX.one uy lG;have hx5:=Ze.fr lG hxc;have MZ:=Ty.fr lG (fun k hk e=>CU (by rw[hk];exact ar some e));have hp5:xT w5 P (bA W) ⟨#[]⟩:=lG.keep hp4 Zd;have tU:=O (jV.o.trans (lG.mono (fun k _ e=>Or.inl e)));have q5:=BZ.cell0;clear q4 p0 lG vX Ze Ty hp4 uy;go_wp2_with fail
   refine(vY c s K3 w5 uz hm IA).mono ?_;rintro e w6⟨rfl,M0,nF⟩;replace M0:du w6 c s (JN s K3):=M0;rw[show s.extract K3 (cL fY s.data.toList K3)=bA (h_ (s.data.toList.drop K3))from zC s K3];have KP:=Iv IA
   have HVR:=O (show pL (s.data.toList.drop K3)=if(h_ (s.data.toList.drop K3)).isEmpty then A1 (s.data.toList.drop K3)else some (h_ (s.data.toList.drop K3),s.data.toList.drop (JN s K3))by unfold pL;rw[wE]);have TA:=O (show(h_ (s.data.toList.drop K3)).isEmpty=true->JN s K3=K3 from fun e=>by
    unfold JN cL;have e2:(List.takeWhile fY (s.data.toList.drop K3))=[]:=gD.1 e;rw[e2];rfl)
   generalize h_ (s.data.toList.drop K3)=V at *
   generalize JN s K3=K4 at *
   have JO:=BZ.one uz nF;have hx6:=hx5.fr nF hxc;have zF:=MZ.fr nF (fun k hk e=>CU (by rw[hk];exact ar some e));have hp6:xT w6 P (bA W) ⟨#[]⟩:=nF.keep hp5 Zd;have yX:=O (tU.o.trans (nF.mono (fun k _ e=>Or.inl e)));have p1:w6.cell? ⟨P,1,none⟩=some (.string ⟨#[]⟩):=by simp[World.cell?,show w6.heap[P]?=_ from hp6]
   have f1:w6.frozen? ⟨P,1,none⟩=false:=by simp[World.frozen?,show w6.heap[P]?=_ from hp6]
   clear q5 nF BZ hx5 MZ hp5 uz
   go_upto_if 52 with fail
   have Ny:∀u:aj,xT (w6.setCell ⟨P,1,none⟩ (.string u)) P (bA W) u:=fun u=>b_ hp6 1 (.string u);have Gs:∀u:Value,Fr (one P) w6 (w6.setCell ⟨P,1,none⟩ u):=fun u=>(ae (one P) w6).setCell (p:=⟨P,1,none⟩) (fun _=>rfl) u;have Gt:=O (show∀u:Value,Fr (Iy c x pv) w (w6.setCell ⟨P,1,none⟩ u)from fun u=>yX.o.step (Gs u) (fun k hk e=>by have e':k=P:=e;omega))
   have HS:=O (show∀u:Value,iI (w6.setCell ⟨P,1,none⟩ u) b c s v/\du (w6.setCell ⟨P,1,none⟩ u) c s K4/\kM (w6.setCell ⟨P,1,none⟩ u) x sc tok pv/\OwnRows base 171 2 (w6.setCell ⟨P,1,none⟩ u) pv (ps.map oy)from fun u =>
    ⟨JO.fr (Gs u) (fun e=>hPb (show b=P from e).symm),M0.fr (Gs u) (fun e=>Zd (show c=P from e).symm),hx6.fr (Gs u) (fun e=>hPx (show x=P from e).symm),zF.fr (Gs u) (fun k hk e=>hoP (by rw[hk];exact ar some e))⟩)
   go_cut [] (fun wx=>adq base b c x P i s v ps sc tok pv W w wx)
   case first =>
    obtain⟨TB,Zf,hx7,Zg⟩:=HS.o (.string (bA V));have Zh:=Ny (bA V);cases hVe:V.isEmpty
    case false =>
     have Ft:¬(bA V).toList=[]:=by rw[mS];intro e;rw[e]at hVe;cases hVe
     have hv2:((bA V).toList== [])=false:=aN.2 Ft;have BO:(bA V).toList.isEmpty=false:=by rw[mS];exact hVe
     have UE:=O (show pL (s.data.toList.drop K3)=some (V,s.data.toList.drop K4)by rw[HVR.o,hVe];rfl);rw[BO];go_wp2_with fail
     go_meet
     refine⟨V,K4,KP,Zf,Zh,TB,hx7,Zg,Gt.o _,?_⟩;rw[hPR.o,UE.o];rfl
    case true =>
     have BO:(bA V).toList.isEmpty=true:=by rw[mS];exact hVe
     have hK4:=TA.o hVe;subst hK4;have q7:=TB.cell0;have p71:(w6.setCell ⟨P,1,none⟩ (.string (bA V))).cell? ⟨P,1,none⟩=some (.string (bA V)):=by simp[World.cell?,show(w6.setCell ⟨P,1,none⟩ (.string (bA V))).heap[P]?=_ from Zh]
     rw[BO];go_wp2_with fail
     refine(Nc c s K4 _ Zf ab).mono ?_;intro e w8 hq;have HQA:=O (Rb s.data.toList K4);cases hqr:A1 (s.data.toList.drop K4)with
     |none =>
      have hqa:gM s.data.toList K4=none:=by rw[HQA.o,hqr];rfl
      obtain⟨rfl,hc8,rK⟩:=hq.isNone hqa;have UE:=O (show pL (s.data.toList.drop K4)=none by rw[HVR.o,hVe];exact hqr);have UF:=TB.one Zf rK;have hp8:xT w8 P (bA W) (bA V):=rK.keep Zh Zd;have Nz:=O ((Gt.o (.string (bA V))).trans (rK.mono (fun k _ e=>Or.inl e)));have DC:Fr (one P) w8 (w8.setCell ⟨P,1,none⟩ (.string ⟨#[]⟩)):=(ae (one P) w8).setCell (p:=⟨P,1,none⟩) (fun _=>rfl) _
      have hr9:=UF.fr DC (fun e=>hPb (show b=P from e).symm);have hc9:=hc8.fr DC (fun e=>Zd (show c=P from e).symm);have X9:=O (show Fr (Iy c x pv) w (w8.setCell ⟨P,1,none⟩ (.string ⟨#[]⟩))from Nz.o.step DC (fun k hk e=>by have e':k=P:=e;omega));have q8:=UF.cell0;have q9:=hr9.cell0;have p8:w8.cell? ⟨P,1,none⟩=some (.string (bA V)):=by simp[World.cell?,show w8.heap[P]?=_ from hp8]
      have f8:w8.frozen? ⟨P,1,none⟩=false:=by simp[World.frozen?,show w8.heap[P]?=_ from hp8]
      clear q7 p71 hq rK DC;go_wp2_with fail
      refine(ub b c K4 3 s v _ hr9 hc9).mono ?_;rintro e w10⟨⟨g,rfl,hg⟩,NA⟩;go_wp2;go_ret;exact od.bad (by rw[hPR.o,UE.o];rfl) (X9.o.trans NA.nj) ⟨g,rfl,hg⟩
     |some q =>
      obtain⟨a,z⟩:=q;have hqa:gM s.data.toList K4=some (a,s.data.toList.length-z.length):=by rw[HQA.o,hqr];rfl
      obtain⟨rfl,hc8,rK⟩:=hq.isOk hqa;have UE:=O (show pL (s.data.toList.drop K4)=some (a,z)by rw[HVR.o,hVe];exact hqr);have hzd:=O (KM hqr);have UF:=TB.one Zf rK;have hx8:=hx7.fr rK hxc;have TC:=Zg.fr rK (fun k hk e=>CU (by rw[hk];exact ar some e));have hp8:xT w8 P (bA W) (bA V):=rK.keep Zh Zd;have Nz:=O ((Gt.o (.string (bA V))).trans (rK.mono (fun k _ e=>Or.inl e)))
      have DC:Fr (one P) w8 (w8.setCell ⟨P,1,none⟩ (.string (bA a))):=(ae (one P) w8).setCell (p:=⟨P,1,none⟩) (fun _=>rfl) _;have hr9:=UF.fr DC (fun e=>hPb (show b=P from e).symm);have hc9:=hc8.fr DC (fun e=>Zd (show c=P from e).symm);have hx9:=hx8.fr DC (fun e=>hPx (show x=P from e).symm);have Zi:=TC.fr DC (fun k hk e=>hoP (by rw[hk];exact ar some e))
      have hp9:xT (w8.setCell ⟨P,1,none⟩ (.string (bA a))) P (bA W) (bA a):=b_ hp8 1 (.string (bA a));have X9:=O (show Fr (Iy c x pv) w (w8.setCell ⟨P,1,none⟩ (.string (bA a)))from Nz.o.step DC (fun k hk e=>by have e':k=P:=e;omega));have p8:w8.cell? ⟨P,1,none⟩=some (.string (bA V)):=by simp[World.cell?,show w8.heap[P]?=_ from hp8]
      have f8:w8.frozen? ⟨P,1,none⟩=false:=by simp[World.frozen?,show w8.heap[P]?=_ from hp8]
      clear q7 p71 hq rK DC;go_wp2_with fail
      go_meet
      refine⟨a,_,?_,hc9,hp9,hr9,hx9,Zi,X9.o,?_⟩
      ·simp
      ·rw[hPR.o,UE.o,show s.data.toList.drop (s.data.toList.length-z.length)=z from hzd.o];rfl
   case rest =>
   obtain⟨val,j,hj,Zf,Zh,TB,hx7,Zg,nI,y_⟩:=hcut;have JP:=O y_;have Zj:=O nI;clear hPR y_ nI HVR TA Ny Gs Gt HS JO hx6 zF hp6 M0 p1 f1;have UG:w.heap.size<=wc.heap.size:=Zj.o.size;have iD:base<=wc.heap.size:=aD hb UG;have Tw:=Zg.form;obtain⟨av,cv,ahv⟩:=Tw;rw[ai]at ahv;subst ahv;have lZ:=Zg.at;have x2:=hx7.lV;have xf2:=hx7.free 2
   have p0:wc.cell? ⟨P,0,none⟩=some (.string (bA W)):=by simp[World.cell?,show wc.heap[P]?=_ from Zh]
   have p1:wc.cell? ⟨P,1,none⟩=some (.string (bA val)):=by simp[World.cell?,show wc.heap[P]?=_ from Zh]
   have HPA:=O (show∀U,Fr aR wc U->U.cell? ⟨P,0,none⟩=some (.string (bA W))/\U.cell? ⟨P,1,none⟩=some (.string (bA val))/\U.cell? ⟨x,2,none⟩=some (.slice av ps.length cv)/\U.frozen? ⟨x,2,none⟩=false from fun U hU=>by
    have j1:=hU.keep Zh (fun h=>h);have j2:=hx7.fr hU (fun h=>h);exact⟨by simp[World.cell?,j1],by simp[World.cell?,j1],j2.lV,j2.free 2⟩)
   go_wp2_with fail
   go_loopw[71] (ahr ps W wc) (fun t _=>ps.length-(intOf t).toNat)
   case atStart=>exact⟨0,aI _,rfl,rfl,ae _ _⟩
   case round =>
    obtain⟨k,UA,rfl,hn,cK⟩:=hrel;have HN:=O hn;clear hn p0 p1 x2 xf2;obtain⟨p0,p1,x2,xf2⟩:=HPA.o wr cK;by_cases eX:k<ps.length
    ·have py:(k:Int)<(ps.length:Int):=ab;have dN:=O (List.getElem?_eq_getElem eX);have X_:=hz _ (bL eX);generalize ps[k]=q at dN X_;obtain⟨nm,vl⟩:=q;rcases(bg lZ cK).2 with ⟨_,_,_,e,_⟩|⟨bk,of,c',df,h1,h2,h3,h4⟩
     ·have:ps.length=0:=by have:=ar List.length e;simpa using this
      omega
     rw[ai]at df h1;cases df;unfold maxLen at h2;have hcell:=h4 k (oy (nm,vl)) (by rw[List.getElem?_map,dN.o];rfl);have c0:wr.cell? ⟨bk,of+k*2,none⟩=some (.string (bA nm)):=hcell 0 _ rfl;have c1:wr.cell? ⟨bk,of+k*2+1,none⟩=some (.string (bA vl)):=hcell 1 _ rfl;clear hcell h4;obtain⟨wb,j_⟩:∃wb,wb=wr.alloc (.cells #[.string (bA nm),.string (bA vl)] 171):=⟨_,rfl⟩
     have ks:Fr aR wr wb:=by rw[j_];exact(ae aR wr).alloc _
     have p0a:∀o:Obj,(wr.alloc o).cell? ⟨P,0,none⟩=some (.string (bA W)):=fun o=>(HPA.o _ (cK.alloc o)).1;have qY:=O j_;have mr:=O (cK.trans ks);clear j_ ks;go_wp2_with fail
     rw[<-qY.o];refine(mA (bA nm) (bA W) wb (by rw[PZ];have auK:nm.length<100000:=X_;omega) (by rw[PZ];omega)).mono ?_;rintro e w8⟨rfl,rK⟩;rw[fT,fT];have Nz:=O (mr.o.trans rK);cases pk:dG nm W
     ·have qi:=O (show(ps.take (k+1)).any (fun q=>dG q.1 W)=false from wF dN.o HN.o pk);go_wp2;go_roundw
      case rel=>exact⟨k+1,ab,a_,qi.o,Nz.o⟩
      case measure=>simp[intOf];omega
     ·have HE:=O (show ld ps (s.data.toList.drop i)=.error 9 by rw[JP.o,az (UC dN.o pk)]);go_wp2;go_ret;exact od.bad HE.o ((Zj.o.trans Nz.o.nj).alloc _) (xS.new 9 i w8)
    ·have py:¬(k:Int)<(ps.length:Int):=ab;have HT:=O (show uC ps W=false by have h:=HN.o;rw[aC ab]at h;exact h);rw[HT.o]at JP;by_cases h16:ps.length=16
     ·have ahw:((ps.length:Int)==16)=true:=by rw[h16];rfl
      have HE:=O (show ld ps (s.data.toList.drop i)=.error 4 by rw[JP.o,az h16];rfl);clear h16;go_wp2;go_ret;exact od.bad HE.o ((Zj.o.trans cK.nj).alloc _) (xS.new 4 i wr)
     ·have ahw:((ps.length:Int)==16)=false:=aN.2 ab;have HE:=O (show ld ps (s.data.toList.drop i)=.ok ((W,val),s.data.toList.drop j)by rw[JP.o,aq h16];rfl);have UH:=Zj.o.trans (cK.nj (S:=Iy c x (.slice av ps.length cv)));have hcr:=Zf.fr cK (fun h=>h);have hxr:=hx7.fr cK (fun h=>h);have hor:=Zg.fr cK (fun _ _ h=>h);have hbr:base<=wr.heap.size:=aD iD cK.size
      have cP:wr.ownsRow base 171 2 (.slice av ps.length cv) ps.length (ps.map oy).flatten:=by
       have hh:=hor.2;rw[ai]at hh;exact hh
      have hPl:P<wr.heap.size:=cN (bj Zh) cK.size;have oz:x<wr.heap.size:=hxr.lt;have vt:c<wr.heap.size:=hcr.lt;obtain⟨i0,qD,pq,kZ,lq⟩:=info_parts KK;have xE:=O (show∀u∈oy (W,val),u.oneCell'=true from P1 _);have hps:ps.length<16:=ab;clear ahw lZ hz HN;go_wp2_with fail
      go_region_law ((with_reducible refine mR ⟨some 102,_,_,_,_,_⟩ ?_)
                     refine step_append_lies _ bC _ _ _ bC base 171 i0 _ 2 32 underlying35 qD pq kZ lq rfl ab (.slice av ps.length cv) ps.length _ bC (by repeat(first|exact cP|apply World.ownsRow.alloc|apply World.ownsRow.drew)) ⟨wr.heap.size,0,none⟩ 1 1 (oy (W,val)) bC bC (kQ wr (oy (W,val)) _) xE.o ab fq ab bG (wr.heap.size+1) aQ ?_
                     intro gg cap w5 wG jC UI adv
                     have rf:Fr (fun k=>(Value.slice av ps.length cv).ownBlock=some k) wr w5:=fk (by repeat(first|exact ae _ _|apply aA|apply bz)) jC (fun _ hk _=>hk)
                     have k4:w5.cell? ⟨x,2,none⟩=some (.slice av ps.length cv):=(rf.cell (p:=⟨x,2,none⟩) oz DA).trans x2
                     have e4:w5.frozen? ⟨x,2,none⟩=false:=(rf.frozen (p:=⟨x,2,none⟩) oz DA).trans xf2)
      all_goals
       have hx5:kM w5 x sc tok (.slice av ps.length cv):=hxr.fr rf DA;have uz:du w5 c s j:=hcr.fr rf CU;have Ki:Fr (one x) w5 (w5.setCell ⟨x,2,none⟩ (.slice (some ⟨gg,0,none⟩) (ps.length+1) cap)):=(ae (one x) w5).setCell (p:=⟨x,2,none⟩) (fun _=>rfl) _;have hx6:kM (w5.setCell ⟨x,2,none⟩ (.slice (some ⟨gg,0,none⟩) (ps.length+1) cap)) x sc tok (.slice (some ⟨gg,0,none⟩) (ps.length+1) cap):=b_ hx5 2 _
       have M0:=uz.fr Ki (fun e=>hxc (show c=x from e).symm);have hgx:gg≠x:=by
        rintro rfl;rcases UI with e|e
        ·exact DA e
        ·omega
       have MZ:OwnRows base 171 2 w5 (.slice (some ⟨gg,0,none⟩) (ps.length+1) cap) ((ps++[(W,val)]).map oy):=by
        refine⟨UD _,?_⟩;have e1:((ps++[(W,val)]).map oy).length=ps.length+1:=aQ;have e2:((ps++[(W,val)]).map oy).flatten=(ps.map oy).flatten++oy (W,val):=aQ;rw[e1,e2];exact wG
       have zF:=MZ.fr Ki (fun k hk e=>hgx (by
        simp only[Value.ownBlock,en]at hk;rw[hk];exact e))
       have NB:=O (show Fr (Iy c x (.slice av ps.length cv)) w (w5.setCell ⟨x,2,none⟩ (.slice (some ⟨gg,0,none⟩) (ps.length+1) cap))from
        (UH.trans (rf.mono (fun k _ e=>Or.inr (Or.inr e)))).trans (Ki.mono (fun k _ e=>Or.inr (Or.inl e))))
       clear k4 e4 jC wG cP rf;go_wp2;go_ret;refine⟨NB.o,?_⟩;rw[HE.o];exact⟨rfl,j,_,hj,M0,rfl,hx6,zF⟩
theorem NW(o:gz)(path query:aj)(w:World)(h1:path.size<100000)(h2:query.size<100000) :
  Calls prog 52 #[.agg #[.bool o.aF,.string o.host,.int .i64 o.port,.string path,.string query]] w fun e w'=>e=.returned (.string (nK path query))/\Fr aR w w':=by
 by_cases h0:query.size=0
 ·have HT:=O (show nK path query=path by unfold nK;rw[az h0]);have t1:query.toList=[]:=by rw[aO];exact gW.2 h0
  have t2:query.toList.isEmpty=true:=by rw[t1];rfl
  go_enter func52,ntmps52;go_wp2;go_ret;exact⟨by rw[HT.o];rfl,(ae aR w).alloc _⟩
 ·have HT:=O (show nK path query=(path++⟨#[63]⟩)++query by unfold nK;rw[aq h0]);have t1:¬query.toList=[]:=by rw[aO];exact fun h=>h0 (gW.1 h)
  have t2:query.toList.isEmpty=false:=by simpa using t1
  go_enter func52,ntmps52;go_wp2;go_ret;exact⟨by rw[HT.o];rfl,(ae aR w).alloc _⟩
def vP(gs:List (aP bD))(g:aP bD):List (aP bD) :=
 let l:=gs.filter (fun x=>!mZ g.o g.proxy g.a.aK x)++[g]
 l.drop (l.length-8)
def IW(base:Nat)(w:World)(b:Nat)(gv wv:Value)(gs:List (aP bD))(ws:List (bI bD))(e:Ending)(w':World):Prop :=
 e=.returned (.tuple #[])/\kF base w b gv wv gs ws w'
theorem GM{base:Nat}{w2 w3 w4:World}{b:Nat}{gv wv:Value}{fs:List (aP bD)}{ws:List (bI bD)}{m:aP bD}{r3:aP Value}{rs:List (aP Value)}{gg cap:Nat}(h2:dB base w2 b gv wv fs ws)
  (ho:OwnRows base 114 16 w2 gv (rs.map aP.cells))(kC:lg (aP.Reads (dr base w2)) rs fs)(iv:Fr aR w2 w3)(rJ:aP.Reads (dr base w3) r3 m)(qO:∀u∈r3.cells,u.oneCell'=true)(kK:Fr (own gv) w3 w4)
  (eY:w4.ownsRow base 114 16 (.slice (some ⟨gg,0,none⟩) (fs.length+1) cap) (fs.length+1) ((rs.map aP.cells).flatten++r3.cells))(dN:gv.ownBlock=some gg\/w2.heap.size<=gg) :
  dB base (w4.setCell ⟨b,0,none⟩ (.slice (some ⟨gg,0,none⟩) (fs.length+1) cap)) b (.slice (some ⟨gg,0,none⟩) (fs.length+1) cap) wv (fs++[m]) ws /\
  Fr (dt b gv wv) w2 (w4.setCell ⟨b,0,none⟩ (.slice (some ⟨gg,0,none⟩) (fs.length+1) cap))/\∀k,dt b (.slice (some ⟨gg,0,none⟩) (fs.length+1) cap) wv k->dt b gv wv k\/w2.heap.size<=k:=by
 have lp:=h2.low;have vI:=kC.len;have yp:=ho.fr iv (fun _ _ h=>h);have Ef:sr base w3 (own gv):=yp.off (ay _) ag;have vL:lg (aP.Reads (dr base w4)) (rs++[r3]) (fs++[m]) :=
  (kC.mono (fun _ _ h=>h.mono (fun _ _ h=>(h.dh iv).fr kK Ef))).app (.cons (rJ.mono (fun _ _ h=>h.fr kK Ef)) .nil)
 have Ct:f_ base w4 (.slice (some ⟨gg,0,none⟩) (fs.length+1) cap) (fs++[m]):=by
  refine⟨rs++[r3],⟨?_,?_⟩,vL⟩
  ·intro x hx;rw[bH]at hx;rcases bK.1 hx with hx|hx
   ·exact ho.1 x hx
   ·simp at hx;subst hx;exact⟨rfl,qO⟩
  ·rw[bH,ed,aM,ai,vI];simpa using eY
 have h3:=h2.dh iv;have tC:=kK.keep h3.eI h3.gb;have qF:kl base w4 wv ws:=h3.waits.fr kK Ef (fun k hk hg=>h3.gw hg hk);have UH:Fr (dt b gv wv) w2 w4:=fX (iv.mono (fun _ _ h=>absurd h (fun h=>h))) kK (fun _ _ hk=>Or.inr (Or.inl hk));refine⟨nL lp tC Ct qF,UH.setCell (p:=⟨b,0,none⟩) (fun _=>Or.inl rfl) _,?_⟩;rintro k(hk|hk|hk)
 ·exact Or.inl (Or.inl hk)
 ·have e:gg=k:=by simpa[own,Value.ownBlock]using hk
  subst e;rcases dN with dN|dN
  ·exact Or.inl (Or.inr (Or.inl dN))
  ·exact Or.inr dN
 ·exact Or.inl (Or.inr (Or.inr hk))
theorem Lq{base:Nat}{w5 w6:World}{b gg cap n:Nat}{wv:Value}{ls:List (aP bD)}{ws:List (bI bD)}{rs:List (aP Value)}(h5:dB base w5 b (.slice (some ⟨gg,0,none⟩) ls.length cap) wv ls ws)
  (hb:lg (aP.Reads (dr base w5)) rs ls)(zF:OwnRows base 114 16 w6 (.slice (some ⟨gg,0,none⟩) (0+(ls.length-n)) cap) ((rs.map aP.cells).take 0++(rs.map aP.cells).drop n))(nF:Fr (one gg) w5 w6) :
  dB base (w6.setCell ⟨b,0,none⟩ (.slice (some ⟨gg,0,none⟩) (0+(ls.length-n)) cap)) b (.slice (some ⟨gg,0,none⟩) (0+(ls.length-n)) cap) wv (ls.drop n) ws /\
  Fr (dt b (.slice (some ⟨gg,0,none⟩) ls.length cap) wv) w5 (w6.setCell ⟨b,0,none⟩ (.slice (some ⟨gg,0,none⟩) (0+(ls.length-n)) cap))/\w6.cell? ⟨b,0,none⟩=some (.slice (some ⟨gg,0,none⟩) ls.length cap)/\w6.frozen? ⟨b,0,none⟩=false:=by
 have lp:=h5.low;have dY:∀k,one gg k->own (.slice (some ⟨gg,0,none⟩) ls.length cap) k:=fun k hk=>by have e:k=gg:=hk;rw[e];rfl
 have mU:sr base w5 (one gg):=fun k hk hl=>h5.off k (Or.inr (Or.inl (dY k hk))) hl;have tC:=nF.keep h5.eI (fun h=>h5.gb (dY _ h));have zY:kl base w6 wv ws:=h5.waits.fr nF mU (fun k hk hg=>h5.gw (dY _ hg) hk);have hg6:f_ base w6 (.slice (some ⟨gg,0,none⟩) (0+(ls.length-n)) cap) (ls.drop n):=by
  refine⟨rs.drop n,?_,(hb.mono (fun _ _ h=>h.mono (fun _ _ h=>h.fr nF mU))).drop n⟩;rw[List.take_zero,List.nil_append]at zF;rw[List.map_drop];exact zF
 have UH:Fr (dt b (.slice (some ⟨gg,0,none⟩) ls.length cap) wv) w5 w6:=nF.mono (fun k _ hk=>Or.inr (Or.inl (dY k hk)));exact⟨nL lp tC hg6 zY,UH.setCell (p:=⟨b,0,none⟩) (fun _=>Or.inl rfl) _,by simp[World.cell?,tC],by simp[World.frozen?,tC]⟩
theorem Qm(base:Nat)(w:World)(b:Nat)(gv wv:Value)(gs:List (aP bD))(ws:List (bI bD))(g:aP Value)(m:aP bD)(h:dB base w b gv wv gs ws)(hg:g.Reads (dr base w) m)(NY:gs.length<34359738368) :
  Calls prog 57 #[.pointer (some ⟨b,0,none⟩),.agg g.cells.toArray] w (IW base w b gv wv (vP gs m) ws):=by
 obtain⟨x,hx⟩:∃x,x=g.cells:=⟨_,rfl⟩;have lF:x.length=16:=by rw[hx];rfl
 have sO:=h.lt;have lp:=h.low;have pg:Fr aR w (w.alloc (.cells x.toArray 114)):=(ae aR w).alloc _;have h1:=h.dh pg;have F8:=hg.mono (fun _ _ h=>h.dh pg);have qp:(w.alloc (.cells x.toArray 114)).heap[w.heap.size]?=some (.cells x.toArray 114 (0,0)):=aB _ _;have np:∀i u,g.cells[i]?=some u->(w.alloc (.cells x.toArray 114)).cell? ⟨w.heap.size,i,none⟩=some u:=fun i u hu=>by
  rw[<-hx]at hu;simp only[World.cell?,qp];simpa using hu
 have c0:=np 0 _ rfl;have c1:=np 1 _ rfl;have c2:=np 2 _ rfl;have c3:=np 3 _ rfl;have c7:=np 7 _ rfl;have td:=O (zX base _ b gv wv gs ws g.o g.proxy g.a.aK h1);have ud:=O qp;have HG:=O F8;have HX:=O hx;rw[<-hx];clear hg F8 qp np hx;go_enter func57,ntmps57;go_wp2_with fail
 clear c0 c1 c2 c3 c7;have Fh:w.heap.size<(w.alloc (.cells x.toArray 114)).heap.size:=aQ;generalize w.alloc (.cells x.toArray 114)=W at *
 refine td.o.mono ?_;intro e w2 hpd;obtain⟨rfl,gv2,wv2,h2,dy,Lr⟩:=hpd;have mU:=h1.off;have qi:¬dt b gv wv w.heap.size:=by
  rintro(e|hk|hk)
  ·omega
  ·obtain⟨c,e⟩:=h.uj hk;have:=bj e;omega
  ·obtain⟨c,e⟩:=h.wQ hk;have:=bj e;omega
 have zZ:=O (dy.keep ud.o qi);have xN:=O (HG.o.mono (fun _ _ h=>h.fr dy mU));have ZM:(gs.filter (fun g_1=>!mZ g.o g.proxy g.a.aK g_1)).length<=gs.length:=bQ _ _;obtain⟨fs,kJ⟩:∃fs,fs=gs.filter (fun g_1=>!mZ g.o g.proxy g.a.aK g_1):=⟨_,rfl⟩;rw[<-kJ]at h2 ZM ⊢;have Vp:=O kJ;have js:Fr (dt b gv wv) w w2:=fX (pg.mono (fun _ _ h=>absurd h (fun h=>h))) dy (fun _ _ h=>h);clear td pg dy mU kJ h1 h ud HG
 have D1:=O (show vP gs m=(fs++[m]).drop (fs.length+1-8)by
  have hr:=xN.o;unfold vP;rw[<-hr.1, <-hr.2.1, <-hr.2.2.2.2.1.2.1, <-Vp.o];simp)
 obtain⟨av,cv,Vl⟩:=h2.bF.form;subst Vl;have d0:=h2.c0;have e0:=h2.free 0;obtain⟨rs,ho,kC⟩:=h2.bF;have cP:=ho.2;have oz:∀i u,g.cells[i]?=some u->w2.cell? ⟨w.heap.size,i,none⟩=some u:=fun i u hu=>by
  have e:=HX.o;rw[<-e]at hu;simp only[World.cell?,zZ.o];simpa using hu
 have x0:=oz 0 _ rfl;have x1:=oz 1 _ rfl;have x2:=oz 2 _ rfl;have x3:=oz 3 _ rfl;have x4:=oz 4 _ rfl;have x5:=oz 5 _ rfl;have x6:=oz 6 _ rfl;have x7:=oz 7 _ rfl;have x8:=oz 8 _ rfl;have x9:=oz 9 _ rfl;have ZN:=oz 10 _ rfl;have ZO:=oz 11 _ rfl;have x12:=oz 12 _ rfl;have x13:=oz 13 _ rfl;have x14:=oz 14 _ rfl;have x15:=oz 15 _ rfl;have RI:¬own (.slice av fs.length cv) w.heap.size:=fun hk=>by
  rcases Lr _ (Or.inr (Or.inl hk))with h|h
  ·exact qi h
  ·omega
 have fA:=O (show∀U,Fr aR w2 U->Calls prog 93 #[.agg #[.bool g.o.aF,.string g.o.host,.int .i64 g.o.port,.bool g.proxy,.string g.user,.string g.pass,.int .i64 g.a.scheme,.string g.a.aK,.string g.a.bq,.string g.a.cj,.bool g.a.cy,.string g.a.eE,.bool g.a.cM,g.a.dom,.int .i64 g.count,g.paths]] U (Vj base m U)from fun U hU=>by
  exact uP base g m U (by have:=h2.lt;have:=hU.size;omega) (xN.o.mono (fun _ _ h=>h.dh hU)))
 obtain⟨i0,qD,pq,kZ,lq⟩:=info_parts yD;have HO:=O ho;have pZ:=O kC;have vI:=kC.len;have UA:=O (show(rs.map aP.cells).length=fs.length by rw[ai,vI]);have au':base<=w2.heap.size:=by have:=h2.lt;omega
 have AO:¬own (.slice av fs.length cv) b:=h2.gb
 have Eg:=O (show∀U,Fr (own (.slice av fs.length cv)) w2 U->U.cell? ⟨b,0,none⟩=some (.slice av fs.length cv)/\U.cell? ⟨w.heap.size,0,none⟩=some (.bool g.o.aF)/\U.cell? ⟨w.heap.size,1,none⟩=some (.string g.o.host)/\U.cell? ⟨w.heap.size,2,none⟩=some (.int .i64 g.o.port)/\U.cell? ⟨w.heap.size,3,none⟩=some (.bool g.proxy)/\U.cell? ⟨w.heap.size,4,none⟩=some (.string g.user)/\U.cell? ⟨w.heap.size,5,none⟩=some (.string g.pass)/\U.cell? ⟨w.heap.size,6,none⟩=some (.int .i64 g.a.scheme)/\U.cell? ⟨w.heap.size,7,none⟩=some (.string g.a.aK)/\U.cell? ⟨w.heap.size,8,none⟩=some (.string g.a.bq)/\U.cell? ⟨w.heap.size,9,none⟩=some (.string g.a.cj)/\U.cell? ⟨w.heap.size,10,none⟩=some (.bool g.a.cy)/\U.cell? ⟨w.heap.size,11,none⟩=some (.string g.a.eE)/\U.cell? ⟨w.heap.size,12,none⟩=some (.bool g.a.cM)/\U.cell? ⟨w.heap.size,13,none⟩=some (g.a.dom)/\U.cell? ⟨w.heap.size,14,none⟩=some (.int .i64 g.count)/\U.cell? ⟨w.heap.size,15,none⟩=some (g.paths)from fun U hU=>by
  have hc:∀i u,g.cells[i]?=some u->U.cell? ⟨w.heap.size,i,none⟩=some u:=fun i u hu=>(hU.cell (p:=⟨w.heap.size,i,none⟩) (bj zZ.o) RI).trans (oz i u hu);exact⟨(hU.cell (p:=⟨b,0,none⟩) h2.lt AO).trans d0,hc 0 _ rfl,hc 1 _ rfl,hc 2 _ rfl,hc 3 _ rfl,hc 4 _ rfl,hc 5 _ rfl,hc 6 _ rfl,hc 7 _ rfl,hc 8 _ rfl,hc 9 _ rfl,hc 10 _ rfl,hc 11 _ rfl,hc 12 _ rfl,hc 13 _ rfl,hc 14 _ rfl,hc 15 _ rfl⟩)
 clear ho kC vI cP oz;go_wp2_with fail
 go_region_law (first
   |((with_reducible refine mR ⟨some 20,_,_,_,_,_⟩ ?_)
     refine Ba rfl 93 _ (by go_simp) (fA.o _ (by repeat(first|exact ae _ _|apply aA))) ?_
     intro e w3 NZ
     obtain⟨r3,rfl,rJ,qO,iv⟩:=NZ
     refine⟨_,rfl,?_⟩
     have ic:Fr aR w2 w3:=bE (by repeat(first|exact ae _ _|apply aA)) iv
     have hk:=Eg.o w3 (ic.mono (fun _ _ h=>absurd h (fun h=>h)))
     have k3:=hk.1
     have hbl:b<w3.heap.size:=cN h2.lt ic.size
     obtain⟨y,hy⟩:∃y,y=r3.cells:=⟨_,rfl⟩
     have Dm:y.length=16:=by rw[hy];rfl
     have HY:=O hy
     rw[<-hy]at qO ⊢
     have GJ:=wD y #[.bool false,.string ⟨#[]⟩,.int .i64 0,.bool false,.string ⟨#[]⟩,.string ⟨#[]⟩,.int .i64 0,.string ⟨#[]⟩,.string ⟨#[]⟩,.string ⟨#[]⟩,.bool false,.string ⟨#[]⟩,.bool false,.slice none 0 0,.int .i64 0,.slice none 0 0] (by rw[Dm];rfl)
     have fo:w3.ownsRow base 114 16 (.slice av fs.length cv) fs.length (rs.map aP.cells).flatten:=by
       have h:=(HO.o.fr ic (fun _ _ h=>h)).2
       rw[UA.o]at h
       exact h
     have tK:base<=w3.heap.size:=by have:=ic.size;omega
     clear hy iv)
   |((with_reducible refine mR ⟨some 22,_,_,_,_,_⟩ ?_)
     refine step_append_lies _ bC _ _ _ bC base 114 i0 _ 16 216 underlying77 qD pq kZ lq rfl ab (.slice av fs.length cv) fs.length _ bC (by repeat(first|exact fo|apply World.ownsRow.alloc|apply World.ownsRow.drew)) ⟨w3.heap.size,0,none⟩ 1 1 y bC (by rw[Dm]) (kQ w3 y _) qO ab fq ab bG (w3.heap.size+1) aQ ?_
     intro gg cap w4 eY jC dN Ls
     have aio:Fr (own (.slice av fs.length cv)) w2 w3:=ic.mono (fun _ _ h=>absurd h (fun h=>h))
     have jV:Fr (own (.slice av fs.length cv)) w2 w4:=fk (by repeat(first|exact aio|apply aA|apply bz)) jC (fun _ hk _=>hk)
     have IX:Fr (own (.slice av fs.length cv)) w3 w4:=fk (by repeat(first|exact ae _ _|apply aA|apply bz)) jC (fun _ hk _=>hk)
     have hk:=Eg.o w4 jV
     have k4:=hk.1
     have e4:w4.frozen? ⟨b,0,none⟩=false:=(jV.frozen (p:=⟨b,0,none⟩) h2.lt AO).trans e0))
 all_goals
  rw[HY.o]at eY qO;obtain⟨h5,sy,RJ⟩:=GM h2 HO.o pZ.o ic rJ qO IX eY (dN.imp (fun h=>h) (fun h=>by have:=ic.size;omega));have d5:=h5.c0;have e5:=h5.free 0;clear fA Eg eY jC jV IX fo aio k4 e4 hk k3 x0 x1 x2 x3 x4 x5 x6 x7 x8 x9 ZN ZO x12 x13 x14 x15 d0 e0 GJ rJ qO;generalize w4.setCell ⟨b,0,none⟩ (.slice (some ⟨gg,0,none⟩) (fs.length+1) cap)=w5 at *
  have Bj:(fs++[m]).length=fs.length+1:=aQ;have TJ:=O Bj;have yI:Fr (dt b gv wv) w w5:=js.step sy (fun k hk hb=>by
   rcases Lr k hb with h|h
   ·exact h
   ·omega)
  have FG:∀k,dt b (.slice (some ⟨gg,0,none⟩) (fs.length+1) cap) wv2 k->dt b gv wv k\/w.heap.size<=k:=fun k hk=>by
   rcases RJ k hk with h|h
   ·rcases Lr k h with h|h
    ·exact Or.inl h
    ·exact Or.inr ab
   ·exact Or.inr (by have:=js.size;omega)
  by_cases h8:8<=fs.length
  ·have h8':(8:Int)<(fs.length:Int)+1:=ab;obtain⟨n,hn⟩:∃n:Nat,fs.length+1=n+8:=⟨fs.length+1-8,ab⟩;rw[<-Bj]at h5;obtain⟨rs5,MZ,FH⟩:=h5.bF;have N2:=O (show(rs5.map aP.cells).length=fs.length+1 by rw[ai,FH.len,Bj]);have qJ:=O (GK base gg cap 0 n (rs5.map aP.cells) w5 (by rw[N2.o, <-Bj];exact MZ) ab (by rw[N2.o];omega));have RL:=O hn;rw[N2.o]at qJ;clear hn Bj;go_wp2_with fail
   rw[show((fs.length:Int)+1-8)=(n:Int)from by have:=RL.o;omega];refine qJ.o.mono ?_;rintro e w6⟨rfl,zF,nF⟩;obtain⟨h7,TK,d7,e7⟩:=Lq (n:=n) h5 FH (by rw[TJ.o];exact zF) nF;rw[TJ.o,bw]at h7 TK;rw[TJ.o]at d7;have H7:=O h7;have Gt:=O TK;clear h7 TK qJ zF FH MZ;go_wp2_with fail
   go_end0;refine⟨rfl,_,_,by rw[D1.o,show fs.length+1-8=n from by have:=RL.o;omega];exact H7.o,yI.step Gt.o (fun k hk hb=>by
    rcases FG k hb with h|h
    ·exact h
    ·omega),fun k hk=>FG k ?_⟩
   rcases hk with h|h|h
   ·exact Or.inl h
   ·exact Or.inr (Or.inl h)
   ·exact Or.inr (Or.inr h)
  ·have h8':¬(8:Int)<(fs.length:Int)+1:=ab;go_wp2_with fail
   go_end0;exact⟨rfl,_,_,by rw[D1.o,show fs.length+1-8=0 from ab,eD];exact h5,yI,FG⟩
