/- Lemmas for the law's walk. -/
import Derived.Test.YtnckmcnffadjoaaGreatDoorPk17
set_option maxRecDepth 100000
set_option maxHeartbeats 16000000
set_option linter.unusedSimpArgs false
namespace Go.Proofs.YtnckmcnffadjoaaGreatDoor
open Go.Proofs.Tryz
open Go.RowKit
theorem tkN{P:Program}{ops:Array Oper}{Q:Exit->Act->World->Prop}{md:Region.Mode}{S:World->Prop}{fuel:Nat}{listed:Array Bool}{a:Act}{w:World}(i d:Nat){c1 c2 c3 c4 c5}{v:Value}{l':Array Bool}{a':Act}(hi:ops[i]?=some ⟨some d,c1,c2,c3,c4,c5⟩)(h:wpAnyH P md ops Q S fuel l' a' w)(hz:Region.wanted ⟨some d,c1,c2,c3,c4,c5⟩ (yielded ops a.tmps)=true:=by rfl)(hy:∀w,S w->(execOp a.eval ⟨some d,c1,c2,c3,c4,c5⟩).run P w=.ok (.value v) w:=by intro w hSw;(try dsimp only at hSw);go_simp<;>with_reducible rfl)(hl:listed.setIfInBounds i true=l':=by first|(simp only[sA,sB,sC];rfl)|simp only[sA,sB,sC]|rfl)(ha:a.put (some d) v=a':=by first|(simp only[Act.put,sA,sB,sC];rfl)|simp only[Act.put,sA,sB,sC]|rfl)(hs:Region.noSelect ops=true:=by kernel_rfl)(hf:Region.free md ops listed i=true:=by kernel_rfl)(hr:(Region.ready md ops listed).contains i=true:=by kernel_rfl)(hQ:∀c a w,Q (.panic c) (a.put (some d) v) w->Q (.panic c) a w:=by exact fun _ _ _ h=>h)(hS:S w:=by assumption):wpAnyH P md ops Q S (fuel+1) listed a w:=wpAnyH_take hi hs hf hr hQ (Or.inl ⟨hz,hy⟩) hS (by subst hl ha;exact h)
variable {ps:List jy} {n:Bs} {k:Nat} {p:jy}
theorem Strs.up{base b':Nat}{w:World}{v:Value}{ss:List aj}(h:Strs b' w v ss)(hb:base<=b'):Strs base w v ss:=by
 obtain⟨h1,h2⟩:=h;refine⟨h1,?_⟩;rcases h2 with h2|⟨g,cap,cur,hv,hg,r⟩
 ·exact Or.inl h2
 ·exact Or.inr ⟨g,cap,cur,hv,aD hb hg,r⟩
def lB(ps:List jy):Prop:=ps.length<=1000/\∀p∈ps,p.1.length<=100000/\p.2.length<=100000
def pB(ps:List jy)(n:Bs):List aj:=(yq ps n).map bA
theorem R9(ps:List jy)(n:Bs):(pB ps n).map (·.data.toList)=yq ps n:=by
 unfold pB;rw[im]
 conv=>rhs;rw[<-List.map_id (yq ps n)]
 exact List.map_congr_left (fun x _=>by simp[bA])
theorem Ey(ps:List jy)(n:Bs):(yq ps n).length<=ps.length:=by unfold yq;rw[ai];exact bQ _ _
theorem V1{x:Bs}(h:x∈yq ps n):∃p∈ps,x=p.2:=by
 unfold yq at h;obtain⟨p,hp,rfl⟩:=bV.1 h;exact⟨p,(fb.1 hp).1,rfl⟩
theorem V2(h:ps[k]?=some p)(hs:dG p.1 n=true):pB (ps.take (k+1)) n=pB (ps.take k) n++[bA p.2]:=by
 unfold pB yq;rw[dW h,cC];simp[hs]
theorem R_(h:ps[k]?=some p)(hs:dG p.1 n=false):pB (ps.take (k+1)) n=pB (ps.take k) n:=by
 unfold pB yq;rw[dW h,cC];simp[hs]
theorem LR{sep:Bs}(ai9:sep.length=2):∀(l:List Bs) (M:Nat),(∀x∈l,x.length+2<=M)->(Lib.join l sep).length<=l.length*M
 |[],M,_=>by simp[Lib.join]
 |[x],M,h=>by have:=h x aQ;simp[Lib.join];omega
 |x :: y :: l,M,h=>by
  have ih:=LR ai9 (y :: l) M (fun z hz=>h z (bN _ hz));have hx:=h x (cQ ..);rw[Y5];simp only[aM,List.length_cons,ai9]at ih ⊢;rw[il (l.length+1)];omega
theorem Ha(n:Bs)(hz:lB ps):(lu ps n).length<=100002000:=by
 unfold lu;have h:=LR (sep:=[44,32]) rfl (yq ps n) 100002 (fun x hx=>by obtain⟨p,hp,rfl⟩:=V1 hx;have:=(hz.2 p hp).2;omega);have h2:=Ey ps n;have h3:=hz.1;have h4:(yq ps n).length*100002<=1000*100002:=bO _ ab;omega
theorem Sa(base:Nat)(v:Value)(ss:List aj)(w:World)(hv:Strs base w v ss)(hn:ss.length<=1000)(hlen:(Lib.join (ss.map (·.data.toList)) [44,32]).length<=140737488355328) :
  Calls prog 207 #[v,.string ⟨#[44,32]⟩] w fun e w'=>e=.returned (.string (bA (Lib.join (ss.map (·.data.toList)) [44,32])))/\Fr aR w w':=by
 rcases hv.at with ⟨a,c,rfl,rfl,_⟩|⟨bk,o,c,rfl,h1,h2,h3,h4⟩
 ·exact(strings_Join_none _ _ _ _).mono (by rintro e w1 ⟨rfl,rfl⟩;exact⟨rfl,ae _ _⟩)
 ·exact(strings_Join bk o c ss ⟨#[44,32]⟩ w h4 h3 ab h1 hlen).mono (by rintro e w1 ⟨rfl,hb⟩;exact⟨rfl,fj hb⟩)
def ai_(ps:List jy)(n:Bs)(w:World)(out t:Value)(wr:World):Prop :=
 ∃k:Nat,k<=ps.length/\t=.int .i64 k/\Strs w.heap.size wr out (pB (ps.take k) n)/\Fr aR w wr
def Ol(ps:List jy)(n:Bs):Value:=.tuple #[.string (bA (lu ps n)),.bool (qC ps n)]
theorem Sb(v:Value)(ps:List jy)(name:aj)(w:World)(h:lQ w v ps)(hz:lB ps)(hn:name.size<17592186044416) :
  Calls prog 194 #[v,.string name] w fun e w'=>e=.returned (Ol ps name.data.toList)/\Fr aR w w':=by
 obtain⟨av,cv,hv⟩:=h.form;subst hv;have HZ:=O hz;have M1:=hz.1;clear hz;go_enter func194,ntmps194;go_wp2;go_loopw[6,11] (ai_ ps name.data.toList w) (fun _ t _=>ps.length-(intOf t).toNat)
 case atStart=>exact⟨0,aI _,rfl,kT _ _,ae _ _⟩
 case round =>
  obtain⟨k,hk,rfl,ho,cK⟩:=hrel;obtain⟨ao,co,MY⟩:=ho.form;by_cases eX:k<ps.length
  ·have py:(k:Int)<(ps.length:Int):=ab;have dN:=O (List.getElem?_eq_getElem eX);have X_:=O (HZ.o.2 _ (bL eX));generalize ps[k]=q at dN X_;obtain⟨nm,vl⟩:=q;obtain⟨bk,of,rfl,h1,h2,c0,c1⟩:=lQ.cells (bg h cK) dN.o;unfold maxLen at h2;simp only at c0 c1;obtain⟨wb,j_⟩:∃wb,wb=wr.alloc (.cells #[.string (bA nm),.string (bA vl)] 171):=⟨_,rfl⟩;have ks:Fr aR wr wb:=by rw[j_];exact(ae aR wr).alloc _
   have xW:wb.heap[wr.heap.size]?=some (.cells #[.string (bA nm),.string (bA vl)] 171 (0,0)):=by rw[j_];exact aB _ _
   have qY:=O j_;clear j_;go_wp2_with fail
   rw[<-qY.o];refine(mA (bA nm) name wb (by have h:=X_.o.1;show nm.length<_;omega) hn).mono ?_;rintro e w8⟨rfl,rK⟩;rw[fT];have Nz:=O ((cK.trans ks).trans rK);have TC:=ho.fr (ks.trans rK) (fun _ h=>h.elim);rw[MY]at TC;have Tw:=O (show(pB (ps.take k) name.data.toList).length<=1000 from by
    unfold pB;rw[ai];have:=Ey (ps.take k) name.data.toList;rw[aJ]at this;omega)
   have avF:w.heap.size<=w8.heap.size:=Nz.o.size;cases pk:dG nm name.data.toList
   ·have qi:=O (R_ dN.o pk);go_wp2;go_roundw
    case rel=>exact⟨k+1,ab,a_,by rw[qi.o];exact TC,Nz.o⟩
    case measure=>simp[intOf];omega
   ·have qi:=O (V2 dN.o pk);have hb8:=rK.keep xW id;have k1:w8.cell? ⟨wr.heap.size,1,none⟩=some (.string (bA vl)):=by simp[World.cell?,hb8]
    generalize pB (ps.take k) name.data.toList=vs at *
    clear pk;go_wp2_with (at_builtin;refine nO rfl _ _ rfl w.heap.size (.slice ao vs.length co) vs rfl (by apply iE;exact TC) ⟨w8.heap.size,0,none⟩ 1 (bA vl) rfl (jv _ _ _ _) (by have:=Tw.o;omega) bG ?_;intro v' w9 vy hg9)
    have X9:=O ((Nz.o.alloc (.cells #[.string (bA vl)] 9)).fQ hg9 (fun j hj=>TC.block j hj));go_roundw
    case rel=>exact⟨k+1,ab,a_,by rw[qi.o];exact vy,X9.o⟩
    case measure=>simp[intOf];omega
  ·have py:¬(k:Int)<(ps.length:Int):=ab;have Q3:ps.take k=ps:=aC ab;rw[Q3]at ho MY;subst MY;have Tw:=Ey ps name.data.toList;have Tx:(pB ps name.data.toList).length=(yq ps name.data.toList).length:=by unfold pB;rw[ai]
   have HJ:=O (show Lib.join ((pB ps name.data.toList).map (·.data.toList)) [44,32]=lu ps name.data.toList by rw[R9];rfl);have HB:=O (show decide (0<(pB ps name.data.toList).length)=qC ps name.data.toList by
    unfold qC;rw[Tx];cases yq ps name.data.toList with
    |nil=>rfl
    |cons a l=>simp)
   have hJ:=O (Sa w.heap.size _ (pB ps name.data.toList) wr ho ab (by rw[HJ.o];have:=Ha name.data.toList HZ.o;omega));rw[HJ.o]at hJ;clear Tx Tw;generalize hvs:pB ps name.data.toList=vs at *
   have HVS:=O hvs;clear hvs;go_wp2_with fail
   refine hJ.o.mono ?_;rintro e u⟨rfl,yC⟩;go_wp2;go_ret2;refine⟨?_,cK.trans yC⟩;unfold Ol;rw[<-HB.o];rfl
theorem wU(v:Value)(ps:List jy)(n:Bs)(w:World)(h:lQ w v ps)(hz:lB ps)(hn:n.length<1000)(s:aj)(b:Bool)(hs:lu ps n=s.data.toList)(hb:qC ps n=b) :
  Calls prog 194 #[v,.string (bA n)] w fun e w'=>e=.returned (.tuple #[.string s,.bool b])/\Fr aR w w':=by
 refine(Sb v ps (bA n) w h hz (by show n.length<_;omega)).mono ?_;rintro e u⟨rfl,hf⟩;refine⟨?_,hf⟩;unfold Ol;rw[fT,hs,hb,Ul]
theorem uq(ps:List jy)(n:Bs)(hz:lB ps):∃s:aj,lu ps n=s.data.toList/\s.size<=100002000:=⟨bA (lu ps n),by rw[fT],by show(lu ps n).length<=_;exact Ha n hz⟩
theorem aah(v:Value)(ps:List jy)(w:World)(h:lQ w v ps)(hz:lB ps) :
  Calls prog 133 #[v] w fun e w'=>e=.returned (.int .i64 (ni ps))/\Fr aR w w':=by
 obtain⟨s,hs,xM⟩:=uq ps Iq hz;cases hb:qC ps Iq
 ·have HA:=O (show ni ps=5 by unfold ni;rw[hb];rfl);have hG:=O (wU v ps Iq w h hz ag s false hs hb);clear hb hs;go_enter func133,ntmps133;go_wp2_with fail
  refine hG.o.mono ?_;rintro e u⟨rfl,yC⟩;go_wp2;go_ret;exact⟨by rw[HA.o];rfl,yC⟩
 ·have hG:=O (wU v ps Iq w h hz ag s true hs hb);have HS:=O (fun u=>Kt s u ab);cases hd:oN s.data.toList
  ·have HA:=O (show ni ps=5 by unfold ni;rw[hb,hs,hd];rfl);have HD:=O hd;clear hb hs hd;go_enter func133,ntmps133;go_wp2_with fail
   refine hG.o.mono ?_;rintro e u⟨rfl,yC⟩;go_wp2_with fail
   refine(HS.o u).mono ?_;intro e u2 hp;obtain⟨rfl,dy⟩:=hp.no HD.o;go_wp2;go_ret;exact⟨by rw[HA.o];rfl,yC.trans dy⟩
  ·have HA:=O (show ni ps=min (zt s.data.toList) 600 by unfold ni;rw[hb,hs,hd];rfl);have HD:=O hd;have hE:=O (fun u=>HS.o u);clear hb hs hd;go_enter func133,ntmps133;go_wp2_with fail
   refine hG.o.mono ?_;rintro e u⟨rfl,yC⟩;go_wp2_with fail
   refine(HS.o u).mono ?_;intro e u2 hp;obtain⟨rfl,dy⟩:=hp.ok HD.o;go_wp2;go_ret;exact⟨by rw[HA.o];rfl,yC.trans dy⟩
def Hb(ps:List jy)(n:Bs)(w:World)(e:Ending)(w':World):Prop :=
 Fr aR w w'/\match lf ps n with
 |some ws=>∃v,e=.returned (.tuple #[v,.nilIface])/\Strs w.heap.size w' v (dP ws)
 |none=>e=.returned (.tuple #[.slice none 0 0,.iface 105 (.int .i64 3)])
theorem Sc(v:Value)(ps:List jy)(n:Bs)(w:World)(h:lQ w v ps)(hz:lB ps)(hn:n.length<1000) :
  Calls prog 129 #[v,.string (bA n)] w (Hb ps n w):=by
 obtain⟨s,hs,xM⟩:=uq ps n hz;have hG:=O (wU v ps n w h hz hn s _ hs rfl);have HW:=O (show lf ps n=match gY s.data.toList with| .error _=>none| .ok l=>if 40<l.length then none else some l by unfold lf;rw[hs];cases gY s.data.toList<;>rfl);have HL:=O (fun u=>Km s u ab);clear hs;generalize qC ps n=b at hG;go_enter func129,ntmps129;go_wp2_with fail
 refine hG.o.mono ?_;rintro e u⟨rfl,yC⟩;go_wp2_with fail
 refine(HL.o u).mono ?_;rintro e u2⟨v2,er,rfl,dy,hm⟩;have V3:=O (yC.trans dy);cases hl:gY s.data.toList with
 |error m =>
  rw[hl]at hm;obtain⟨rfl,g,rfl,hg⟩:=hm;have HN:=O (show lf ps n=none by rw[HW.o,hl]);clear hl;go_wp2;go_ret2;refine⟨V3.o,?_⟩;rw[HN.o];exact rfl
 |ok ws =>
  rw[hl]at hm;by_cases H':40<ws.length
  ·have HN:=O (show lf ps n=none by rw[HW.o,hl];show(if _ then _ else _)=_;rw[az H']);have Cr:if 40<ws.length then v2=.slice none 0 0/\F9 u2 er (some (4,none))else Strs u.heap.size u2 v2 (dP ws)/\er=.nilIface:=hm
   rw[az H']at Cr;obtain⟨rfl,rfl⟩:=Cr;clear hl hm;go_wp2;go_ret2;refine⟨V3.o,?_⟩;rw[HN.o];exact rfl
  ·have HN:=O (show lf ps n=some ws by rw[HW.o,hl];show(if _ then _ else _)=_;rw[aq H']);have Cr:if 40<ws.length then v2=.slice none 0 0/\F9 u2 er (some (4,none))else Strs u.heap.size u2 v2 (dP ws)/\er=.nilIface:=hm
   rw[aq H']at Cr;obtain⟨jq,rfl⟩:=Cr;clear hl hm;have xD:=yC.size;go_wp2;go_ret2;refine⟨V3.o,?_⟩;rw[HN.o];exact⟨_,rfl,jq.up xD⟩
theorem V_(fP:Int)(aK bq cj eE user pass method target body bP:aj)(cy cM:Bool)(dom:Value)(k:Nat)(w:World)(dY:dom.oneCell'=true)
  (hq:eE=⟨#[]⟩)(hs:fP=2\/fP=3)(mf:1<=k)(su:k<=4294967295)
  (x1:aK.size<=5000)(x2:bq.size<=5000)(x3:cj.size<=5000)(x4:user.size<=5000)(x5:pass.size<=5000)(x6:method.size<=5000)(x7:target.size<=5000)(x8:body.size<=5000)(x9:bP.size<=5000)
  (NI:om w 9 .u8 Rl)(hh:tM fP w) :
  Calls prog 50 #[.agg #[.int .i64 fP,.string aK,.string bq,.string cj,.bool cy,.string eE,.bool cM,dom],.agg #[.string user,.string pass],.string method,.string target,.string body,.string bP,.int .i64 (k:Int)] w (IH fP cj ⟨decide (fP=3),cy,aK,bq,eE,user,pass,method,target,body,bP,k⟩ k w):=by
 obtain⟨x,hx⟩:∃x:nU,x=⟨decide (fP=3),cy,aK,bq,eE,user,pass,method,target,body,bP,k⟩:=⟨_,rfl⟩;have xq:eE.size<=5000:=by rw[hq];decide
 have pk:x.Small:=by rw[hx];exact⟨by show aK.size<=_;omega,by show bq.size<=_;omega,by show eE.size<=_;omega,by show user.size<=_;omega,by show pass.size<=_;omega,by show method.size<=_;omega,by show target.size<=_;omega,by show body.size<=_;omega,by show bP.size<=_;omega,by show k<_;omega⟩
 rw[<-hx];have aeC:=O (show∀U,Fr aR w U->Calls prog 102 #[.agg #[.int .i64 fP,.string aK,.string bq,.string cj,.bool cy,.string eE,.bool cM,dom],.agg #[.string user,.string pass],.string method,.string target,.string body,.string bP,.int .i64 (k:Int)] U fun e w'=>e=.returned (.string (oo x))/\Fr aR U w' from fun U hU=>by
  have:=zL ⟨fP,aK,bq,cj,cy,eE,cM,dom⟩ x U pk (by rw[hx]) (by rw[hx]) (by rw[hx]) (by rw[hx]) (by rw[hx]) dY (NI.fr hU) (hh.fr hU);rw[hx]at this ⊢;exact this)
 have acq:=O (show∀U,Fr aR w U->Calls prog 104 #[.int .i64 (k:Int)] U fun e w'=>e=.returned (.string (bA (jD k)))/\Fr aR U w' from fun U hU=>rz k U ab (NI.fr hU));have NAME:=O (fun U=>KT fP aK bq cj eE cy cM dom U);have hrs:=DV x;have HX:=O hx;have HQ:=O hq;have HS:=O hs;clear NI hh pk
 obtain⟨w2,eB⟩:∃w2,w2=(w.alloc (.cells #[.int .i64 fP,.string aK,.string bq,.string cj,.bool cy,.string eE,.bool cM,dom] 112)).alloc (.cells #[.string user,.string pass] 39):=⟨_,rfl⟩;have dy:Fr aR w w2:=by rw[eB];exact((ae aR w).alloc _).alloc _
 have xD:w2.heap.size=w.heap.size+2:=by rw[eB];simp
 have k1:w2.heap[w.heap.size]?=some (.cells #[.int .i64 fP,.string aK,.string bq,.string cj,.bool cy,.string eE,.bool cM,dom] 112 (0,0)):=by rw[eB];exact((ae aR _).alloc _).keep (aB _ _) id
 have k2:w2.heap[w.heap.size+1]?=some (.cells #[.string user,.string pass] 39 (0,0)):=by
  have h:=aB (w.alloc (.cells #[.int .i64 fP,.string aK,.string bq,.string cj,.bool cy,.string eE,.bool cM,dom] 112)) (.cells #[.string user,.string pass] 39);rw[bM]at h;rw[eB];exact h
 have HC:=O (show∀U,Below w2.heap.size w2 U->(U.cell? ⟨w.heap.size,0,none⟩=some (.int .i64 fP)/\U.cell? ⟨w.heap.size,1,none⟩=some (.string aK)/\U.cell? ⟨w.heap.size,2,none⟩=some (.string bq)/\U.cell? ⟨w.heap.size,3,none⟩=some (.string cj)/\U.cell? ⟨w.heap.size,4,none⟩=some (.bool cy)/\U.cell? ⟨w.heap.size,5,none⟩=some (.string eE)/\U.cell? ⟨w.heap.size,6,none⟩=some (.bool cM)/\U.cell? ⟨w.heap.size,7,none⟩=some dom)/\U.cell? ⟨w.heap.size+1,0,none⟩=some (.string user)/\U.cell? ⟨w.heap.size+1,1,none⟩=some (.string pass)from fun U hU=>by
  have j1:=(hU.block w.heap.size ab).trans k1;have j2:=(hU.block (w.heap.size+1) ab).trans k2;exact⟨by simp[World.cell?,j1],by simp[World.cell?,j2]⟩)
 have rO:=O (show∀U,Below w2.heap.size w2 U->Fr aR w U from fun U hU=>dy.trans (fj hU));obtain⟨b,hb⟩:∃b,b=w2.heap.size:=⟨_,rfl⟩;obtain⟨w4,qF⟩:∃w4,w4=w2.alloc (.cells #[.pointer none,.slice none 0 0] 179):=⟨_,rfl⟩;have vL:wA b b [] w4:=by rw[qF,hb];exact Lib.IsBuilderF.of (Gn.new w2)
 have hB4:Below w2.heap.size w2 w4:=by rw[qF];exact(Below.refl _ w2).alloc (ay _) _
 have hs4:w4.heap.size=b+1:=by rw[qF,hb];simp
 have nJ:=O eB;have Oq:=O qF;have hkk:(k:Int)<=4294967295:=ab;have Nv:¬(k:Int)<1:=ab;have Yh:¬(4294967295:Int)<(k:Int):=ab;obtain⟨⟨c0,c1,c2,c3,c4,c5,c6,c7⟩,d0,d1⟩:=HC.o w2 (Below.refl _ _);rw[eB]at c0 c1 c2 c3 c4 c5 c6 c7 d0 d1;clear qF hx hq dy k1 k2;have uY:=O hb;have rm:=O (show b=w.heap.size+1+1 from ab);have HB:=O hb.symm;have ZS:=O vL;have Wa:=O hB4
 have HNL:=O (show(bA (pz fP cy)).size<=12 by
  show(pz fP cy).length<=12;unfold pz;split<;>cases cy<;>decide)
 have zO:=O (show(bA (jD k)).size<=8 by show(jD k).length<=8;unfold jD;rw[nS];exact ay _);clear vL hB4;obtain⟨dg,hdg⟩:∃dg,dg=zM fP cj x:=⟨_,rfl⟩;have AP:=O hdg;clear hdg;obtain rfl:=HQ.o;rcases HS.o with hs0|hs0<;>subst hs0
 all_goals
  go_enter func50,ntmps50;go_wp2_with fail
  rw[<-nJ.o, <-Oq.o];rw[<-rm.o];refine(ec b b [] ⟨#[68,105,103,101,115,116,32]⟩ w4 ZS.o ag ab).mono ?_;rintro e w5⟨rfl,FH,Bj,_⟩;have hs5:=Bj.size;obtain⟨d,hd⟩:∃d,d=w5.heap.size:=⟨_,rfl⟩;obtain⟨w6,zY⟩:∃w6,w6=w5.alloc (.cells #[.bool false] 4):=⟨_,rfl⟩;have CT:=O (show b<d from ab);have aeD:Below w2.heap.size w2 w6:=by rw[zY];exact(Wa.o.trans (uY.o▸Bj)).alloc (by have:=Wa.o.size;omega) _
  have S0:=O (show St b d 0 w2 [] w6 from⟨by rw[zY];exact FH.fH ((ae aR w5).alloc _),by rw[zY,hd];exact aB _ _,aeD,by rw[zY];simp;omega,ay _,ag⟩);have Ro:=O zY;have Cj:=O hd;clear c0 c1 c2 c3 c4 c5 c6 c7 d0 d1 FH Bj zY;obtain⟨⟨c0,c1,c2,c3,c4,c5,c6,c7⟩,d0,d1⟩:=HC.o w6 S0.o.rh;rw[Ro.o]at c0 c1 c2 c3 c4 c5 c6 c7 d0 d1;go_wp2_with fail
  rw[<-Cj.o, <-Ro.o, <-rm.o];refine(lO b d 0 w2 _ _ PU _ user true rfl uY.o CT.o ag ag ab S0.o).mono ?_;rintro e W1⟨rfl,s1⟩;obtain⟨L1,l1,s1⟩:=s1.named;have S1:=O s1;have E1:=O l1;clear c0 c1 c2 c3 c4 c5 c6 c7 d0 d1 s1 l1;obtain⟨⟨c0,c1,c2,c3,c4,c5,c6,c7⟩,d0,d1⟩:=HC.o W1 S1.o.rh;go_wp2_with fail
  rw[<-Cj.o, <-rm.o];refine(lO b d 1 w2 _ _ wa _ aK true rfl uY.o CT.o ag ag ab S1.o).mono ?_;rintro e W2⟨rfl,s2⟩;obtain⟨L2,l2,s2⟩:=s2.named;have S2:=O s2;have E2:=O l2;clear c0 c1 c2 c3 c4 c5 c6 c7 d0 d1 s2 l2;obtain⟨⟨c0,c1,c2,c3,c4,c5,c6,c7⟩,d0,d1⟩:=HC.o W2 S2.o.rh;go_wp2_with fail
  rw[<-Cj.o, <-rm.o];refine(lO b d 2 w2 _ _ wh _ bq true rfl uY.o CT.o ag ag ab S2.o).mono ?_;rintro e W3⟨rfl,s3⟩;obtain⟨L3,l3,s3⟩:=s3.named;have S3:=O s3;have E3:=O l3;clear c0 c1 c2 c3 c4 c5 c6 c7 d0 d1 s3 l3;obtain⟨⟨c0,c1,c2,c3,c4,c5,c6,c7⟩,d0,d1⟩:=HC.o W3 S3.o.rh;go_wp2_with fail
  rw[<-Cj.o, <-rm.o];refine(lO b d 3 w2 _ _ Y_ _ target true rfl uY.o CT.o ag ag ab S3.o).mono ?_;rintro e W4⟨rfl,s4⟩;obtain⟨L4,l4,s4⟩:=s4.named;have S4:=O s4;have E4:=O l4;clear c0 c1 c2 c3 c4 c5 c6 c7 d0 d1 s4 l4;obtain⟨⟨c0,c1,c2,c3,c4,c5,c6,c7⟩,d0,d1⟩:=HC.o W4 S4.o.rh;go_wp2_with fail
  refine(aeC.o W4 (rO.o _ S4.o.rh)).mono ?_;rintro e wr⟨rfl,cK⟩;have S5:=O (S4.o.Lc cK uY.o);clear c0 c1 c2 c3 c4 c5 c6 c7 d0 d1 cK;obtain⟨⟨c0,c1,c2,c3,c4,c5,c6,c7⟩,d0,d1⟩:=HC.o wr S5.o.rh;go_wp2_with fail
  rw[<-Cj.o, <-rm.o];refine(lO b d 4 w2 _ _ PV _ (oo x) true rfl uY.o CT.o ag ag ab S5.o).mono ?_;rintro e W6⟨rfl,s6⟩;obtain⟨L6,l6,s6⟩:=s6.named;have S6:=O s6;have E6:=O l6;clear c0 c1 c2 c3 c4 c5 c6 c7 d0 d1 s6 l6;obtain⟨⟨c0,c1,c2,c3,c4,c5,c6,c7⟩,d0,d1⟩:=HC.o W6 S6.o.rh;go_wp2_with fail
  refine(NAME.o W6).mono ?_;rintro e wn⟨rfl,Fk⟩;have S7:=O (S6.o.Lc Fk uY.o);clear c0 c1 c2 c3 c4 c5 c6 c7 d0 d1 Fk;obtain⟨⟨c0,c1,c2,c3,c4,c5,c6,c7⟩,d0,d1⟩:=HC.o wn S7.o.rh;go_wp2_with fail
  rw[<-Cj.o, <-rm.o];refine(lO b d 5 w2 _ _ zp _ _ false rfl uY.o CT.o ag ag (by have:=HNL.o;omega) S7.o).mono ?_;rintro e W8⟨rfl,s8⟩;obtain⟨L8,l8,s8⟩:=s8.named;have S8:=O s8;have E8:=O l8;clear c0 c1 c2 c3 c4 c5 c6 c7 d0 d1 s8 l8;obtain⟨⟨c0,c1,c2,c3,c4,c5,c6,c7⟩,d0,d1⟩:=HC.o W8 S8.o.rh;cases cy with
  |false =>
   by_cases ho:cj.data.toList.isEmpty=true
   ·have o1:cj.toList=[]:=by rw[aO];exact gD.1 ho
    have JV:DH cj.data.toList=[]:=by unfold DH;rw[az ho]
    have o2:(cj.toList== [])=true:=by rw[o1];rfl
    have o3:cj.toList.isEmpty=true:=by rw[o1];rfl
    skip
    have EA:=pR S8.o.hd;rw[Cj.o]at EA;have Cc:=O (show dg.items=L8 by rw[AP.o,E8.o,E6.o,E4.o,E3.o,E2.o,E1.o,HX.o];exact(show wI _ _ _ _ _ _++(DG _ _++(UN _ _ _++DH cj.data.toList))=_ by rw[JV];rfl));cases o7:yw L8 with
    |true =>
     have CZ:=O (show dg.fair=false by have hb:=jO dg;rw[Cc.o,o7]at hb;simpa using hb.symm);rw[o7]at EA;go_wp2;go_ret2;exact⟨rO.o _ S8.o.rh,Or.inl ⟨AP.o▸CZ.o,_,_,rfl⟩⟩
    |false =>
     rw[o7]at EA;have sD:=O (jP (d:=dg) (by rw[Cc.o];exact o7));have Wb:=O (jQ sD.o);go_wp2_with fail
     rw[<-rm.o];refine(Builder_String_any_k b b (wH L8) W8 (by have h:=S8.o.hb;exact h) (S8.o.sz)).mono ?_;rintro e wz⟨rfl,_,M1,_⟩;go_wp2;go_ret2;refine⟨rO.o _ ((S8.o.rh).trans (uY.o▸M1)),Or.inr ⟨ag,by rw[HX.o],by rw[HX.o];exact mf,by rw[HX.o];exact su,AP.o▸sD.o,?_⟩⟩;rw[<-AP.o, <-Wb.o,Cc.o];rfl
   ·have Fj:cj.data.toList.isEmpty=false:=by simpa using ho
    have JV:DH cj.data.toList=[(mi,cj.data.toList,true)]:=by unfold DH;rw[aq ho]
    have o1:¬cj.toList=[]:=by rw[aO];intro h;rw[h]at Fj;cases Fj
    have o2:(cj.toList== [])=false:=aN.2 o1;have o3:cj.toList.isEmpty=false:=by rw[aO];exact Fj
    go_wp2_with fail
    rw[<-Cj.o, <-rm.o];refine(lO b d 6 w2 _ _ mi _ cj true rfl uY.o CT.o ag ag ab S8.o).mono ?_;rintro e W9⟨rfl,s9⟩;obtain⟨L9,l9,s9⟩:=s9.named;have S9:=O s9;have E9:=O l9;clear c0 c1 c2 c3 c4 c5 c6 c7 d0 d1 s9 l9;obtain⟨⟨c0,c1,c2,c3,c4,c5,c6,c7⟩,d0,d1⟩:=HC.o W9 S9.o.rh;have EA:=pR S9.o.hd;rw[Cj.o]at EA
    have Cc:=O (show dg.items=L9 by rw[AP.o,E9.o,E8.o,E6.o,E4.o,E3.o,E2.o,E1.o,HX.o];exact(show wI _ _ _ _ _ _++(DG _ _++(UN _ _ _++DH cj.data.toList))=_ by rw[JV];rfl));cases o7:yw L9 with
    |true =>
     have CZ:=O (show dg.fair=false by have hb:=jO dg;rw[Cc.o,o7]at hb;simpa using hb.symm);rw[o7]at EA;go_wp2;go_ret2;exact⟨rO.o _ S9.o.rh,Or.inl ⟨AP.o▸CZ.o,_,_,rfl⟩⟩
    |false =>
     rw[o7]at EA;have sD:=O (jP (d:=dg) (by rw[Cc.o];exact o7));have Wb:=O (jQ sD.o);go_wp2_with fail
     rw[<-rm.o];refine(Builder_String_any_k b b (wH L9) W9 (by have h:=S9.o.hb;exact h) (S9.o.sz)).mono ?_;rintro e wz⟨rfl,_,M1,_⟩;go_wp2;go_ret2;refine⟨rO.o _ ((S9.o.rh).trans (uY.o▸M1)),Or.inr ⟨ag,by rw[HX.o],by rw[HX.o];exact mf,by rw[HX.o];exact su,AP.o▸sD.o,?_⟩⟩;rw[<-AP.o, <-Wb.o,Cc.o];rfl
  |true =>
   go_wp2_with fail
   rw[<-Cj.o, <-rm.o];refine(lO b d 6 w2 _ _ CR _ bP true rfl uY.o CT.o ag ag ab S8.o).mono ?_;rintro e W10⟨rfl,s10⟩;obtain⟨L10,l10,s10⟩:=s10.named;have Yr:=O s10;have E10:=O l10;clear c0 c1 c2 c3 c4 c5 c6 c7 d0 d1 s10 l10;obtain⟨⟨c0,c1,c2,c3,c4,c5,c6,c7⟩,d0,d1⟩:=HC.o W10 Yr.o.rh;by_cases ho:cj.data.toList.isEmpty=true
   ·have o1:cj.toList=[]:=by rw[aO];exact gD.1 ho
    have JV:DH cj.data.toList=[]:=by unfold DH;rw[az ho]
    have o2:(cj.toList== [])=true:=by rw[o1];rfl
    have o3:cj.toList.isEmpty=true:=by rw[o1];rfl
    skip
    have EA:=pR Yr.o.hd;rw[Cj.o]at EA;have Cc:=O (show dg.items=L10 by rw[AP.o,E10.o,E8.o,E6.o,E4.o,E3.o,E2.o,E1.o,HX.o];exact(show wI _ _ _ _ _ _++(DG _ _++(UN _ _ _++DH cj.data.toList))=_ by rw[JV];rfl));cases o7:yw L10 with
    |true =>
     have CZ:=O (show dg.fair=false by have hb:=jO dg;rw[Cc.o,o7]at hb;simpa using hb.symm);rw[o7]at EA;go_wp2;go_ret2;exact⟨rO.o _ Yr.o.rh,Or.inl ⟨AP.o▸CZ.o,_,_,rfl⟩⟩
    |false =>
     rw[o7]at EA;have sD:=O (jP (d:=dg) (by rw[Cc.o];exact o7));have Wb:=O (jQ sD.o);go_wp2_with fail
     rw[<-rm.o];refine(Builder_String_any_k b b (wH L10) W10 (by have h:=Yr.o.hb;exact h) (Yr.o.sz)).mono ?_;rintro e wz⟨rfl,_,M1,_⟩;go_wp2;go_ret2;refine⟨rO.o _ ((Yr.o.rh).trans (uY.o▸M1)),Or.inr ⟨ag,by rw[HX.o],by rw[HX.o];exact mf,by rw[HX.o];exact su,AP.o▸sD.o,?_⟩⟩;rw[<-AP.o, <-Wb.o,Cc.o];rfl
   ·have Fj:cj.data.toList.isEmpty=false:=by simpa using ho
    have JV:DH cj.data.toList=[(mi,cj.data.toList,true)]:=by unfold DH;rw[aq ho]
    have o1:¬cj.toList=[]:=by rw[aO];intro h;rw[h]at Fj;cases Fj
    have o2:(cj.toList== [])=false:=aN.2 o1;have o3:cj.toList.isEmpty=false:=by rw[aO];exact Fj
    go_wp2_with fail
    rw[<-Cj.o, <-rm.o];refine(lO b d 7 w2 _ _ mi _ cj true rfl uY.o CT.o ag ag ab Yr.o).mono ?_;rintro e W11⟨rfl,s11⟩;obtain⟨L11,l11,s11⟩:=s11.named;have S11:=O s11;have E11:=O l11;clear c0 c1 c2 c3 c4 c5 c6 c7 d0 d1 s11 l11;obtain⟨⟨c0,c1,c2,c3,c4,c5,c6,c7⟩,d0,d1⟩:=HC.o W11 S11.o.rh;have EA:=pR S11.o.hd;rw[Cj.o]at EA
    have Cc:=O (show dg.items=L11 by rw[AP.o,E11.o,E10.o,E8.o,E6.o,E4.o,E3.o,E2.o,E1.o,HX.o];exact(show wI _ _ _ _ _ _++(DG _ _++(UN _ _ _++DH cj.data.toList))=_ by rw[JV];rfl));cases o7:yw L11 with
    |true =>
     have CZ:=O (show dg.fair=false by have hb:=jO dg;rw[Cc.o,o7]at hb;simpa using hb.symm);rw[o7]at EA;go_wp2;go_ret2;exact⟨rO.o _ S11.o.rh,Or.inl ⟨AP.o▸CZ.o,_,_,rfl⟩⟩
    |false =>
     rw[o7]at EA;have sD:=O (jP (d:=dg) (by rw[Cc.o];exact o7));have Wb:=O (jQ sD.o);go_wp2_with fail
     rw[<-rm.o];refine(Builder_String_any_k b b (wH L11) W11 (by have h:=S11.o.hb;exact h) (S11.o.sz)).mono ?_;rintro e wz⟨rfl,_,M1,_⟩;go_wp2;go_ret2;refine⟨rO.o _ ((S11.o.rh).trans (uY.o▸M1)),Or.inr ⟨ag,by rw[HX.o],by rw[HX.o];exact mf,by rw[HX.o];exact su,AP.o▸sD.o,?_⟩⟩;rw[<-AP.o, <-Wb.o,Cc.o];rfl
theorem LV(fP:Int)(aK bq cj eE user pass method target body bP:aj)(cy cM:Bool)(dom:Value)(k:Nat)(w:World)(dY:dom.oneCell'=true)
  (hq:eE=⟨#[97,117,116,104]⟩\/eE=⟨#[97,117,116,104,45,105,110,116]⟩)(hs:fP=2\/fP=3)(mf:1<=k)(su:k<=4294967295)
  (x1:aK.size<=5000)(x2:bq.size<=5000)(x3:cj.size<=5000)(x4:user.size<=5000)(x5:pass.size<=5000)(x6:method.size<=5000)(x7:target.size<=5000)(x8:body.size<=5000)(x9:bP.size<=5000)
  (NI:om w 9 .u8 Rl)(hh:tM fP w) :
  Calls prog 50 #[.agg #[.int .i64 fP,.string aK,.string bq,.string cj,.bool cy,.string eE,.bool cM,dom],.agg #[.string user,.string pass],.string method,.string target,.string body,.string bP,.int .i64 (k:Int)] w (IH fP cj ⟨decide (fP=3),cy,aK,bq,eE,user,pass,method,target,body,bP,k⟩ k w):=by
 obtain⟨x,hx⟩:∃x:nU,x=⟨decide (fP=3),cy,aK,bq,eE,user,pass,method,target,body,bP,k⟩:=⟨_,rfl⟩;have xq:eE.size<=5000:=by rcases hq with h|h<;>rw[h]<;>decide
 have pk:x.Small:=by rw[hx];exact⟨by show aK.size<=_;omega,by show bq.size<=_;omega,by show eE.size<=_;omega,by show user.size<=_;omega,by show pass.size<=_;omega,by show method.size<=_;omega,by show target.size<=_;omega,by show body.size<=_;omega,by show bP.size<=_;omega,by show k<_;omega⟩
 rw[<-hx];have aeC:=O (show∀U,Fr aR w U->Calls prog 102 #[.agg #[.int .i64 fP,.string aK,.string bq,.string cj,.bool cy,.string eE,.bool cM,dom],.agg #[.string user,.string pass],.string method,.string target,.string body,.string bP,.int .i64 (k:Int)] U fun e w'=>e=.returned (.string (oo x))/\Fr aR U w' from fun U hU=>by
  have:=zL ⟨fP,aK,bq,cj,cy,eE,cM,dom⟩ x U pk (by rw[hx]) (by rw[hx]) (by rw[hx]) (by rw[hx]) (by rw[hx]) dY (NI.fr hU) (hh.fr hU);rw[hx]at this ⊢;exact this)
 have acq:=O (show∀U,Fr aR w U->Calls prog 104 #[.int .i64 (k:Int)] U fun e w'=>e=.returned (.string (bA (jD k)))/\Fr aR U w' from fun U hU=>rz k U ab (NI.fr hU));have NAME:=O (fun U=>KT fP aK bq cj eE cy cM dom U);have hrs:=DV x;have HX:=O hx;have HQ:=O hq;have HS:=O hs;clear NI hh pk
 obtain⟨w2,eB⟩:∃w2,w2=(w.alloc (.cells #[.int .i64 fP,.string aK,.string bq,.string cj,.bool cy,.string eE,.bool cM,dom] 112)).alloc (.cells #[.string user,.string pass] 39):=⟨_,rfl⟩;have dy:Fr aR w w2:=by rw[eB];exact((ae aR w).alloc _).alloc _
 have xD:w2.heap.size=w.heap.size+2:=by rw[eB];simp
 have k1:w2.heap[w.heap.size]?=some (.cells #[.int .i64 fP,.string aK,.string bq,.string cj,.bool cy,.string eE,.bool cM,dom] 112 (0,0)):=by rw[eB];exact((ae aR _).alloc _).keep (aB _ _) id
 have k2:w2.heap[w.heap.size+1]?=some (.cells #[.string user,.string pass] 39 (0,0)):=by
  have h:=aB (w.alloc (.cells #[.int .i64 fP,.string aK,.string bq,.string cj,.bool cy,.string eE,.bool cM,dom] 112)) (.cells #[.string user,.string pass] 39);rw[bM]at h;rw[eB];exact h
 have HC:=O (show∀U,Below w2.heap.size w2 U->(U.cell? ⟨w.heap.size,0,none⟩=some (.int .i64 fP)/\U.cell? ⟨w.heap.size,1,none⟩=some (.string aK)/\U.cell? ⟨w.heap.size,2,none⟩=some (.string bq)/\U.cell? ⟨w.heap.size,3,none⟩=some (.string cj)/\U.cell? ⟨w.heap.size,4,none⟩=some (.bool cy)/\U.cell? ⟨w.heap.size,5,none⟩=some (.string eE)/\U.cell? ⟨w.heap.size,6,none⟩=some (.bool cM)/\U.cell? ⟨w.heap.size,7,none⟩=some dom)/\U.cell? ⟨w.heap.size+1,0,none⟩=some (.string user)/\U.cell? ⟨w.heap.size+1,1,none⟩=some (.string pass)from fun U hU=>by
  have j1:=(hU.block w.heap.size ab).trans k1;have j2:=(hU.block (w.heap.size+1) ab).trans k2;exact⟨by simp[World.cell?,j1],by simp[World.cell?,j2]⟩)
 have rO:=O (show∀U,Below w2.heap.size w2 U->Fr aR w U from fun U hU=>dy.trans (fj hU));obtain⟨b,hb⟩:∃b,b=w2.heap.size:=⟨_,rfl⟩;obtain⟨w4,qF⟩:∃w4,w4=w2.alloc (.cells #[.pointer none,.slice none 0 0] 179):=⟨_,rfl⟩;have vL:wA b b [] w4:=by rw[qF,hb];exact Lib.IsBuilderF.of (Gn.new w2)
 have hB4:Below w2.heap.size w2 w4:=by rw[qF];exact(Below.refl _ w2).alloc (ay _) _
 have hs4:w4.heap.size=b+1:=by rw[qF,hb];simp
 have nJ:=O eB;have Oq:=O qF;have hkk:(k:Int)<=4294967295:=ab;have Nv:¬(k:Int)<1:=ab;have Yh:¬(4294967295:Int)<(k:Int):=ab;obtain⟨⟨c0,c1,c2,c3,c4,c5,c6,c7⟩,d0,d1⟩:=HC.o w2 (Below.refl _ _);rw[eB]at c0 c1 c2 c3 c4 c5 c6 c7 d0 d1;clear qF hx hq dy k1 k2;have uY:=O hb;have rm:=O (show b=w.heap.size+1+1 from ab);have HB:=O hb.symm;have ZS:=O vL;have Wa:=O hB4
 have HNL:=O (show(bA (pz fP cy)).size<=12 by
  show(pz fP cy).length<=12;unfold pz;split<;>cases cy<;>decide)
 have zO:=O (show(bA (jD k)).size<=8 by show(jD k).length<=8;unfold jD;rw[nS];exact ay _);clear vL hB4;obtain⟨dg,hdg⟩:∃dg,dg=zM fP cj x:=⟨_,rfl⟩;have AP:=O hdg;clear hdg;rcases HQ.o with hq0|hq0<;>rcases HS.o with hs0|hs0<;>subst hq0<;>subst hs0
 all_goals
  go_enter func50,ntmps50;go_wp2_with fail
  rw[<-nJ.o, <-Oq.o];rw[<-rm.o];refine(ec b b [] ⟨#[68,105,103,101,115,116,32]⟩ w4 ZS.o ag ab).mono ?_;rintro e w5⟨rfl,FH,Bj,_⟩;have hs5:=Bj.size;obtain⟨d,hd⟩:∃d,d=w5.heap.size:=⟨_,rfl⟩;obtain⟨w6,zY⟩:∃w6,w6=w5.alloc (.cells #[.bool false] 4):=⟨_,rfl⟩;have CT:=O (show b<d from ab);have aeD:Below w2.heap.size w2 w6:=by rw[zY];exact(Wa.o.trans (uY.o▸Bj)).alloc (by have:=Wa.o.size;omega) _
  have S0:=O (show St b d 0 w2 [] w6 from⟨by rw[zY];exact FH.fH ((ae aR w5).alloc _),by rw[zY,hd];exact aB _ _,aeD,by rw[zY];simp;omega,ay _,ag⟩);have Ro:=O zY;have Cj:=O hd;clear c0 c1 c2 c3 c4 c5 c6 c7 d0 d1 FH Bj zY;obtain⟨⟨c0,c1,c2,c3,c4,c5,c6,c7⟩,d0,d1⟩:=HC.o w6 S0.o.rh;rw[Ro.o]at c0 c1 c2 c3 c4 c5 c6 c7 d0 d1;go_wp2_with fail
  rw[<-Cj.o, <-Ro.o, <-rm.o];refine(lO b d 0 w2 _ _ PU _ user true rfl uY.o CT.o ag ag ab S0.o).mono ?_;rintro e W1⟨rfl,s1⟩;obtain⟨L1,l1,s1⟩:=s1.named;have S1:=O s1;have E1:=O l1;clear c0 c1 c2 c3 c4 c5 c6 c7 d0 d1 s1 l1;obtain⟨⟨c0,c1,c2,c3,c4,c5,c6,c7⟩,d0,d1⟩:=HC.o W1 S1.o.rh;go_wp2_with fail
  rw[<-Cj.o, <-rm.o];refine(lO b d 1 w2 _ _ wa _ aK true rfl uY.o CT.o ag ag ab S1.o).mono ?_;rintro e W2⟨rfl,s2⟩;obtain⟨L2,l2,s2⟩:=s2.named;have S2:=O s2;have E2:=O l2;clear c0 c1 c2 c3 c4 c5 c6 c7 d0 d1 s2 l2;obtain⟨⟨c0,c1,c2,c3,c4,c5,c6,c7⟩,d0,d1⟩:=HC.o W2 S2.o.rh;go_wp2_with fail
  rw[<-Cj.o, <-rm.o];refine(lO b d 2 w2 _ _ wh _ bq true rfl uY.o CT.o ag ag ab S2.o).mono ?_;rintro e W3⟨rfl,s3⟩;obtain⟨L3,l3,s3⟩:=s3.named;have S3:=O s3;have E3:=O l3;clear c0 c1 c2 c3 c4 c5 c6 c7 d0 d1 s3 l3;obtain⟨⟨c0,c1,c2,c3,c4,c5,c6,c7⟩,d0,d1⟩:=HC.o W3 S3.o.rh;go_wp2_with fail
  rw[<-Cj.o, <-rm.o];refine(lO b d 3 w2 _ _ Y_ _ target true rfl uY.o CT.o ag ag ab S3.o).mono ?_;rintro e W4⟨rfl,s4⟩;obtain⟨L4,l4,s4⟩:=s4.named;have S4:=O s4;have E4:=O l4;clear c0 c1 c2 c3 c4 c5 c6 c7 d0 d1 s4 l4;obtain⟨⟨c0,c1,c2,c3,c4,c5,c6,c7⟩,d0,d1⟩:=HC.o W4 S4.o.rh;go_wp2_with fail
  refine(aeC.o W4 (rO.o _ S4.o.rh)).mono ?_;rintro e wr⟨rfl,cK⟩;have S5:=O (S4.o.Lc cK uY.o);clear c0 c1 c2 c3 c4 c5 c6 c7 d0 d1 cK;obtain⟨⟨c0,c1,c2,c3,c4,c5,c6,c7⟩,d0,d1⟩:=HC.o wr S5.o.rh;go_wp2_with fail
  rw[<-Cj.o, <-rm.o];refine(lO b d 4 w2 _ _ PV _ (oo x) true rfl uY.o CT.o ag ag ab S5.o).mono ?_;rintro e W6⟨rfl,s6⟩;obtain⟨L6,l6,s6⟩:=s6.named;have S6:=O s6;have E6:=O l6;clear c0 c1 c2 c3 c4 c5 c6 c7 d0 d1 s6 l6;obtain⟨⟨c0,c1,c2,c3,c4,c5,c6,c7⟩,d0,d1⟩:=HC.o W6 S6.o.rh;go_wp2_with fail
  refine(NAME.o W6).mono ?_;rintro e wn⟨rfl,Fk⟩;have S7:=O (S6.o.Lc Fk uY.o);clear c0 c1 c2 c3 c4 c5 c6 c7 d0 d1 Fk;obtain⟨⟨c0,c1,c2,c3,c4,c5,c6,c7⟩,d0,d1⟩:=HC.o wn S7.o.rh;go_wp2_with fail
  rw[<-Cj.o, <-rm.o];refine(lO b d 5 w2 _ _ zp _ _ false rfl uY.o CT.o ag ag (by have:=HNL.o;omega) S7.o).mono ?_;rintro e W8⟨rfl,s8⟩;obtain⟨L8,l8,s8⟩:=s8.named;have S8:=O s8;have E8:=O l8;clear c0 c1 c2 c3 c4 c5 c6 c7 d0 d1 s8 l8;obtain⟨⟨c0,c1,c2,c3,c4,c5,c6,c7⟩,d0,d1⟩:=HC.o W8 S8.o.rh;go_wp2_with fail
  rw[<-Cj.o, <-rm.o];refine(lO b d 6 w2 _ _ Kn _ _ false rfl uY.o CT.o ag ag ag S8.o).mono ?_;rintro e W9⟨rfl,s9⟩;obtain⟨L9,l9,s9⟩:=s9.named;have S9:=O s9;have E9:=O l9;clear c0 c1 c2 c3 c4 c5 c6 c7 d0 d1 s9 l9;obtain⟨⟨c0,c1,c2,c3,c4,c5,c6,c7⟩,d0,d1⟩:=HC.o W9 S9.o.rh;go_wp2_with fail
  refine(acq.o W9 (rO.o _ S9.o.rh)).mono ?_;rintro e wc⟨rfl,hfc⟩;have Yr:=O (S9.o.Lc hfc uY.o);clear c0 c1 c2 c3 c4 c5 c6 c7 d0 d1 hfc;obtain⟨⟨c0,c1,c2,c3,c4,c5,c6,c7⟩,d0,d1⟩:=HC.o wc Yr.o.rh;go_wp2_with fail
  rw[<-Cj.o, <-rm.o];refine(lO b d 7 w2 _ _ nNc _ (bA (jD k)) false rfl uY.o CT.o ag ag (by have:=zO.o;omega) Yr.o).mono ?_;rintro e W11⟨rfl,s11⟩;obtain⟨L11,l11,s11⟩:=s11.named;have S11:=O s11;have E11:=O l11;clear c0 c1 c2 c3 c4 c5 c6 c7 d0 d1 s11 l11;obtain⟨⟨c0,c1,c2,c3,c4,c5,c6,c7⟩,d0,d1⟩:=HC.o W11 S11.o.rh;go_wp2_with fail
  rw[<-Cj.o, <-rm.o];refine(lO b d 8 w2 _ _ CR _ bP true rfl uY.o CT.o ag ag ab S11.o).mono ?_;rintro e W12⟨rfl,s12⟩;obtain⟨L12,l12,s12⟩:=s12.named;have S12:=O s12;have E12:=O l12;clear c0 c1 c2 c3 c4 c5 c6 c7 d0 d1 s12 l12;obtain⟨⟨c0,c1,c2,c3,c4,c5,c6,c7⟩,d0,d1⟩:=HC.o W12 S12.o.rh;by_cases ho:cj.data.toList.isEmpty=true
  ·have o1:cj.toList=[]:=by rw[aO];exact gD.1 ho
   have JV:DH cj.data.toList=[]:=by unfold DH;rw[az ho]
   have o2:(cj.toList== [])=true:=by rw[o1];rfl
   have o3:cj.toList.isEmpty=true:=by rw[o1];rfl
   skip
   have EA:=pR S12.o.hd;rw[Cj.o]at EA;have Cc:=O (show dg.items=L12 by rw[AP.o,E12.o,E11.o,E9.o,E8.o,E6.o,E4.o,E3.o,E2.o,E1.o,HX.o];exact(show wI _ _ _ _ _ _++(DG _ _++(UN _ _ _++DH cj.data.toList))=_ by rw[JV];rfl));cases o7:yw L12 with
   |true =>
    have CZ:=O (show dg.fair=false by have hb:=jO dg;rw[Cc.o,o7]at hb;simpa using hb.symm);rw[o7]at EA;go_wp2;go_ret2;exact⟨rO.o _ S12.o.rh,Or.inl ⟨AP.o▸CZ.o,_,_,rfl⟩⟩
   |false =>
    rw[o7]at EA;have sD:=O (jP (d:=dg) (by rw[Cc.o];exact o7));have Wb:=O (jQ sD.o);go_wp2_with fail
    rw[<-rm.o];refine(Builder_String_any_k b b (wH L12) W12 (by have h:=S12.o.hb;exact h) (S12.o.sz)).mono ?_;rintro e wz⟨rfl,_,M1,_⟩;go_wp2;go_ret2;refine⟨rO.o _ ((S12.o.rh).trans (uY.o▸M1)),Or.inr ⟨ag,by rw[HX.o],by rw[HX.o];exact mf,by rw[HX.o];exact su,AP.o▸sD.o,?_⟩⟩;rw[<-AP.o, <-Wb.o,Cc.o];rfl
  ·have Fj:cj.data.toList.isEmpty=false:=by simpa using ho
   have JV:DH cj.data.toList=[(mi,cj.data.toList,true)]:=by unfold DH;rw[aq ho]
   have o1:¬cj.toList=[]:=by rw[aO];intro h;rw[h]at Fj;cases Fj
   have o2:(cj.toList== [])=false:=aN.2 o1;have o3:cj.toList.isEmpty=false:=by rw[aO];exact Fj
   go_wp2_with fail
   rw[<-Cj.o, <-rm.o];refine(lO b d 9 w2 _ _ mi _ cj true rfl uY.o CT.o ag ag ab S12.o).mono ?_;rintro e W13⟨rfl,s13⟩;obtain⟨L13,l13,s13⟩:=s13.named;have S13:=O s13;have E13:=O l13;clear c0 c1 c2 c3 c4 c5 c6 c7 d0 d1 s13 l13;obtain⟨⟨c0,c1,c2,c3,c4,c5,c6,c7⟩,d0,d1⟩:=HC.o W13 S13.o.rh;have EA:=pR S13.o.hd;rw[Cj.o]at EA
   have Cc:=O (show dg.items=L13 by rw[AP.o,E13.o,E12.o,E11.o,E9.o,E8.o,E6.o,E4.o,E3.o,E2.o,E1.o,HX.o];exact(show wI _ _ _ _ _ _++(DG _ _++(UN _ _ _++DH cj.data.toList))=_ by rw[JV];rfl));cases o7:yw L13 with
   |true =>
    have CZ:=O (show dg.fair=false by have hb:=jO dg;rw[Cc.o,o7]at hb;simpa using hb.symm);rw[o7]at EA;go_wp2;go_ret2;exact⟨rO.o _ S13.o.rh,Or.inl ⟨AP.o▸CZ.o,_,_,rfl⟩⟩
   |false =>
    rw[o7]at EA;have sD:=O (jP (d:=dg) (by rw[Cc.o];exact o7));have Wb:=O (jQ sD.o);go_wp2_with fail
    rw[<-rm.o];refine(Builder_String_any_k b b (wH L13) W13 (by have h:=S13.o.hb;exact h) (S13.o.sz)).mono ?_;rintro e wz⟨rfl,_,M1,_⟩;go_wp2;go_ret2;refine⟨rO.o _ ((S13.o.rh).trans (uY.o▸M1)),Or.inr ⟨ag,by rw[HX.o],by rw[HX.o];exact mf,by rw[HX.o];exact su,AP.o▸sD.o,?_⟩⟩;rw[<-AP.o, <-Wb.o,Cc.o];rfl
def Ov(s:Bs):Value:=match Um s with
 |some (k,b)=>.tuple #[.int .i64 k,.bool b,.bool true]
 |none=>.tuple #[.int .i64 0,.bool false,.bool false]
theorem FO(s:aj)(w:World)(hs:s.size<17592186044416) :
  Calls prog 173 #[.string s] w fun e w'=>e=.returned (Ov s.data.toList)/\Fr aR w w':=by
 have S1:=O (show∀U,Calls prog 106 #[.string s,.string ⟨#[77,68,53]⟩] U fun e w'=>e=.returned (.bool (dG s.data.toList yl))/\Fr aR U w' from fun U=>mA s _ U hs ag);have S2:=O (show∀U,Calls prog 106 #[.string s,.string ⟨#[77,68,53,45,115,101,115,115]⟩] U fun e w'=>e=.returned (.bool (dG s.data.toList (yl++zq)))/\Fr aR U w' from fun U=>mA s _ U hs ag)
 have S3:=O (show∀U,Calls prog 106 #[.string s,.string ⟨#[83,72,65,45,50,53,54]⟩] U fun e w'=>e=.returned (.bool (dG s.data.toList Ig))/\Fr aR U w' from fun U=>mA s _ U hs ag);have S4:=O (show∀U,Calls prog 106 #[.string s,.string ⟨#[83,72,65,45,50,53,54,45,115,101,115,115]⟩] U fun e w'=>e=.returned (.bool (dG s.data.toList (Ig++zq)))/\Fr aR U w' from fun U=>mA s _ U hs ag)
 have HV:=O (show Ov s.data.toList=if dG s.data.toList yl then .tuple #[.int .i64 2,.bool false,.bool true]else if dG s.data.toList (yl++zq)then .tuple #[.int .i64 2,.bool true,.bool true]
   else if dG s.data.toList Ig then .tuple #[.int .i64 3,.bool false,.bool true]else if dG s.data.toList (Ig++zq)then .tuple #[.int .i64 3,.bool true,.bool true]else .tuple #[.int .i64 0,.bool false,.bool false]by
  unfold Ov Um;split
  ·rename_i k b h;split at h
   ·rename_i h1;cases h;rw[az h1]
   rename_i h1;rw[aq h1];split at h
   ·rename_i h2;cases h;rw[az h2]
   rename_i h2;rw[aq h2];split at h
   ·rename_i h3;cases h;rw[az h3]
   rename_i h3;rw[aq h3];split at h
   ·rename_i h4;cases h;rw[az h4]
   ·cases h
  ·rename_i h;split at h
   ·cases h
   rename_i h1;rw[aq h1];split at h
   ·cases h
   rename_i h2;rw[aq h2];split at h
   ·cases h
   rename_i h3;rw[aq h3];split at h
   ·cases h
   rename_i h4;rw[aq h4])
 generalize dG s.data.toList yl=b1 at *
 generalize dG s.data.toList (yl++zq)=b2 at *
 generalize dG s.data.toList Ig=b3 at *
 generalize dG s.data.toList (Ig++zq)=b4 at *
 obtain⟨w1,oB⟩:∃w1,w1=w.alloc (.cells #[.string ⟨#[77,68,53]⟩,.string ⟨#[83,72,65,45,50,53,54]⟩] 9):=⟨_,rfl⟩;have df:Fr aR w w1:=by rw[oB];exact(ae _ _).alloc _
 have qj:w1.heap[w.heap.size]?=some (.cells #[.string ⟨#[77,68,53]⟩,.string ⟨#[83,72,65,45,50,53,54]⟩] 9 (0,0)):=by rw[oB];exact aB _ _
 have HC:=O (show∀U,Fr aR w1 U->U.cell? ⟨w.heap.size,0,none⟩=some (.string ⟨#[77,68,53]⟩)/\U.cell? ⟨w.heap.size,1,none⟩=some (.string ⟨#[83,72,65,45,50,53,54]⟩)from fun U hU=>by
  have j1:=hU.keep qj id;simp[World.cell?,j1])
 have IG:=O oB;clear oB qj;go_enter func173,ntmps173;go_wp2;rw[<-IG.o];obtain⟨c0,c1⟩:=HC.o w1 (ae _ _);refine wp_loop_rounds 3 ?_;rw[rounds_succ];go_wp2_with fail
 refine(S1.o w1).mono ?_;rintro e u1⟨rfl,uA⟩;clear c0 c1;cases b1
 case true =>
  go_wp2
  go_ret3
  exact⟨by rw[HV.o];rfl,df.trans uA⟩
 case false =>
  go_wp2_with fail
  refine(S2.o u1).mono ?_;rintro e u2⟨rfl,nv⟩;have fO:=O (uA.trans nv);cases b2
  case true =>
   go_wp2
   go_ret3
   exact⟨by rw[HV.o];rfl,df.trans fO.o⟩
  case false =>
   obtain⟨c0,c1⟩:=HC.o u2 fO.o;go_wp2_with fail
   rw[rounds_succ];go_wp2_with fail
   refine(S3.o u2).mono ?_;rintro e u3⟨rfl,zV⟩;have ic:=O (fO.o.trans zV);clear c0 c1;cases b3
   case true =>
    go_wp2
    go_ret3
    exact⟨by rw[HV.o];rfl,df.trans ic.o⟩
   case false =>
    go_wp2_with fail
    refine(S4.o u3).mono ?_;rintro e u4⟨rfl,C4⟩;have jV:=O (ic.o.trans C4);cases b4
    case true =>
     go_wp2
     go_ret3
     exact⟨by rw[HV.o];rfl,df.trans jV.o⟩
    case false =>
     go_wp2_with fail
     rw[rounds_succ];go_wp2
     go_ret3
     exact⟨by rw[HV.o];rfl,df.trans jV.o⟩
def Jb(w:World)(b:Nat)(n:aj):Prop:=w.heap[b]?=some (.cells #[.string n] 9 (0,0))
theorem Ow(s n:aj)(b:Nat)(w:World)(h:Jb w b n)(hs:s.size<17592186044416)(hn:n.size<17592186044416) :
  Calls prog 176 #[.string s,.pointer (some ⟨b,0,none⟩)] w fun e w'=>e=.returned (.bool (dG s.data.toList n.data.toList))/\Fr aR w w':=by
 have c0:w.cell? ⟨b,0,none⟩=some (.string n):=by simp[World.cell?,show w.heap[b]?=_ from h]
 go_enter func176,ntmps176;go_wp2_with fail
 refine(mA s n w hs hn).mono ?_;rintro e w1⟨rfl,hf⟩;go_wp2;go_ret;exact⟨rfl,hf⟩
theorem aau(n:aj)(b:Nat)(v:Value)(ss:List aj)(w:World)(hv:fN w v ss)(hl:ss.length<=1000)(hb:Jb w b n)(hn:n.size<17592186044416)(hz:∀x∈ss,x.size<17592186044416) :
  Calls prog 175 #[v,.func (.func 176) #[] #[.pointer (some ⟨b,0,none⟩)]] w fun e w'=>e=.returned (.bool (ss.any fun x=>dG x.data.toList n.data.toList))/\Fr aR w w':=by
 refine(Ao (fun u=>Jb u b n) 176 #[.pointer (some ⟨b,0,none⟩)] (fun x=>dG x.data.toList n.data.toList) v ss w call176 hb ?_ hv fq).mono ?_
 ·intro x hx u hu;refine(Ow x n b u hu (hz x hx) hn).mono ?_;rintro e u'⟨he,hf⟩;exact⟨he,hf,hf.keep hu id⟩
 ·rintro e w'⟨he,hf,_⟩;exact⟨he,hf⟩
structure dM where
 bF:List (aP bD)
 waits:List (bI bD)
 book:List ef
 dE:List (gz×Int)
structure dx where
 part:Nat->dM
 now:Int
structure iz where
 what:Int
 part:Int
 dm:gz
 o:gz
 path:aj
 query:aj
 method:aj
 eo:List gZ
 fU:Bool
 body:aj
 proxy:Bool
 text:aj
 user:aj
 pass:aj
 bP:aj
 cert:Int
 all:Bool
 n:Int
structure kx where
 what:Int
 head:aj
 cert:Int
def iz.aL(o:iz):ra:=⟨o.dm,o.o,o.path,o.query,o.method,o.eo,o.fU⟩
def yM:dM:=⟨[],[],[],[]⟩
def yN:dx:=⟨fun _=>yM,0⟩
def dx.set(w:dx)(k:Nat)(p:dM):dx:={w with part:=fun i=>if i=k then p else w.part i}
def rep(n:Int):kx:=⟨n,.empty,0⟩
def iz.Z3(o:iz)(g:aP bD):nU:=⟨decide (g.a.scheme=3),g.a.cy,g.a.aK,g.a.bq,g.a.eE,g.user,g.pass,jM o.method,nK o.path o.query,o.body,o.bP,g.count.toNat⟩
def qL(g:aP bD)(o:iz):Option aj :=
 if g.a.scheme=1 then
  (if 0<=Lib.indexByte g.user.data.toList 58 then none else if lI g.user&&lI g.pass then some (DZ g.user g.pass)else none)
 else if((g.a.scheme=2\/g.a.scheme=3)/\(g.a.eE.data.toList=[]\/g.a.eE.data.toList=mh\/g.a.eE.data.toList=qm))/\(1<=g.count/\g.count<=4294967295)/\(zM g.a.scheme g.a.cj (o.Z3 g)).fair=true then
  some (bA (zM g.a.scheme g.a.cj (o.Z3 g)).text)
 else none
def vw(gs:List (aP bD))(o:gz)(proxy:Bool)(aK:aj):List (aP bD):=gs.filter (fun x=>!mZ o proxy aK x)
def iw(p:dM)(o:iz):dM×kx :=
 match vQ p.bF o.o o.proxy o.path with
 |(gs,.error _)=>({p with bF:=gs},rep 2)
 |(gs,.ok g) =>
  match qL g o with
  |none=>({p with bF:=vw gs g.o g.proxy g.a.aK},rep 2)
  |some s=>({p with bF:=gs},⟨1,s,0⟩)
def Z4(gs:List (aP bD))(o:gz)(proxy:Bool)(aK:aj):Option (aP bD):=gs.find? (mZ o proxy aK)
def Es(a:fK bD)(g:Option (aP bD)):Option (aP bD) :=
 match g with
 |some g=>if a.cM&&(a.scheme==g.a.scheme&&a.bq.toList !=g.a.bq.toList)then some {g with a:=a,count:=0}else none
 |none=>none
def fJ(p:dM)(o:iz):dM×kx :=
 match mC o.text.data.toList with
 | .error _=>(p,rep 7)
 | .ok l =>
  if 0<(jm l).scheme then
   match Es (jm l) (Z4 p.bF o.o o.proxy (jm l).aK)with
   |some g=>({p with bF:=vP p.bF g},rep 1)
   |none=>({p with bF:=vw p.bF o.o o.proxy (jm l).aK,waits:=Ac p.waits ⟨o.o,o.proxy,o.path,jm l⟩},rep 3)
  else(p,rep 2)
def fV(p:dM)(o:iz):dM×kx :=
 match mj o.o o.proxy p.waits with
 |(ws,none)=>({p with waits:=ws},rep 2)
 |(ws,some x)=>({p with waits:=ws,bF:=vP p.bF ⟨x.o,x.proxy,o.user,o.pass,x.a,0,nX x.a x.proxy x.path⟩},rep 1)
def gP(p:dM)(now:Int)(o:iz):dM×kx :=
 match mQ o.text.data.toList with
 | .error _=>(p,rep 7)
 | .ok l =>
  match uI o.aL (Ge o.dm.dS) l now with
  | .error _=>({p with book:=p.book.filter (fun q=>!q.vu o.aL)},rep 2)
  | .ok m=>({p with book:=uH p.book m now},rep 1)
def LH(o:gz)(l:List (gz×Int)):List (gz×Int):=l.filter (fun c=>!c.1.ll o)
def xZ(l:List (gz×Int))(o:gz)(n:Int):List (gz×Int) :=
 (LH o l++[(o,n)]).drop ((LH o l++[(o,n)]).length-8)
def jR(p:dM)(o:iz):dM×kx :=
 if o.cert<0 then(p,rep 7)else({p with dE:=xZ p.dE o.o o.cert},rep 1)
def G5(p:dM)(o:iz):kx :=
 match p.dE.find? (fun c=>c.1.ll o.o)with
 |some c=>⟨1,.empty,c.2⟩
 |none=>rep 3
def uT(p:dM)(o:gz):dM:={p with bF:=p.bF.filter (fun g=>!Yi o g),waits:=p.waits.filter (fun g=>!N5 o g)}
def Od(p:dM)(o:gz):dM:={uT p o with book:=p.book.filter (fun q=>!q.wT o),dE:=LH o p.dE}
def pA(p:dM)(o:iz):dM×kx :=
 if o.all&&o.what==9 then(yM,rep 1)
 else if o.what==9 then(Od p o.o,rep 1)else(uT p o.o,rep 1)
def sF(p:dM)(now:Int)(o:iz):dM×kx :=
 if o.what=1 then iw p o
 else if o.what=2 then fJ p o
 else if o.what=3 then fV p o
 else if o.what=4 then(p,rep (if mF p.book o.aL now then 5 else 4))
 else if o.what=5 then gP p now o
 else if o.what=6 then(p,G5 p o)
 else if o.what=7 then jR p o
 else pA p o
def iz.VL(o:iz):Bool:=decide (0<=o.part)&&(decide (o.part<4)&&(AX o.method.data.toList&&(decide (o.eo.length<=40)&&o.eo.all fun p=>AX p.1.data.toList)))
def iz.right(o:iz):Bool :=
 decide (1<=o.what)&&(decide (o.what<=10)&&(o.VL&&(nW o.dm&&(nW o.o&&(decide (o.path.size<=200)&&(o.path.data.toList.head?==some 47&&decide (o.text.size<=3000)))))))
def iC(w:dx)(o:iz):dx×kx :=
 if o.right then
  if o.what=10 then
   if o.n<0\/1099511627776-w.now<o.n then(w,rep 7)else({w with now:=w.now+o.n},rep 1)
  else(w.set o.part.toNat (sF (w.part o.part.toNat) w.now o).1,(sF (w.part o.part.toNat) w.now o).2)
 else(w,rep 7)
def cJ(o:iz):Nat×Bool :=
 if o.right then
  if o.what=1\/o.what=2\/o.what=3\/o.what=8 then(1,true)
  else if o.what=4 then(10,false)
  else if o.what=5 then(10,true)
  else if o.what=6 then(4,false)
  else if o.what=7 then(4,true)
  else if o.what=10 then(8,true)
  else(7,true)
 else(0,false)
