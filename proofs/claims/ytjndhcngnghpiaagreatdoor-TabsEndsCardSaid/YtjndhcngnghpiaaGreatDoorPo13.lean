/- Lemmas for the law's walk. -/
import Derived.Test.YtjndhcngnghpiaaGreatDoorPo12
set_option maxRecDepth 100000
set_option maxHeartbeats 16000000
set_option linter.unusedSimpArgs false
namespace Go.Proofs.YtjndhcngnghpiaaGreatDoor
open Go.Proofs.Tryz
open Go.RowKit
variable {base b c k g:Nat} {w:World} {a:eZ} {r n:Bs} {v:Value} {ps:List jh} {p:jh}
def zj(ws:List (bJ bE))(m:bJ bE):List (bJ bE) :=
 let l:=(lV m.o m.proxy ws).1++[m]
 l.drop (l.length-8)
theorem T5(ws:List (bJ bE))(m:bJ bE):(zj ws m).length<=8:=by
 unfold zj;simp only[bH];omega
def FB(base:Nat)(w:World)(b:Nat)(gv wv:Value)(gs:List (aU bE))(ws:List (bJ bE))(e:Ending)(w':World):Prop :=
 e=.returned (.tuple #[])/\km base w b gv wv gs ws w'
theorem MH{base:Nat}{w3 w4:World}{b:Nat}{gv wv:Value}{gs:List (aU bE)}{fs:List (bJ bE)}{m:bJ bE}{r3:bJ Value}{rs:List (bJ Value)}{gg cap:Nat}(h3:dB base w3 b gv wv gs fs)
  (ho:OwnRows base 129 13 w3 wv (rs.map bJ.cells))(kh:lf (bJ.Reads (cZ base w3)) rs fs)(rh:bJ.Reads (cZ base w3) r3 m)(qw:∀u∈r3.cells,u.oneCell'=true)(kz:Fr (own wv) w3 w4)
  (eU:w4.ownsRow base 129 13 (.slice (some ⟨gg,0,none⟩) (fs.length+1) cap) (fs.length+1) ((rs.map bJ.cells).flatten++r3.cells))(dL:wv.ownBlock=some gg\/w3.heap.size<=gg) :
  dB base (w4.setCell ⟨b,1,none⟩ (.slice (some ⟨gg,0,none⟩) (fs.length+1) cap)) b gv (.slice (some ⟨gg,0,none⟩) (fs.length+1) cap) gs (fs++[m]) /\
  Fr (dh b gv wv) w3 (w4.setCell ⟨b,1,none⟩ (.slice (some ⟨gg,0,none⟩) (fs.length+1) cap))/\∀k,dh b gv (.slice (some ⟨gg,0,none⟩) (fs.length+1) cap) k->dh b gv wv k\/w3.heap.size<=k:=by
 have kR:=h3.low;have uQ:=kh.len;have Df:rL base w3 (own wv):=ho.off (ay _) ag;have tC:lf (bJ.Reads (cZ base w4)) (rs++[r3]) (fs++[m]) :=
  (kh.mono (fun _ _ h=>h.mono (fun _ _ h=>h.fr kz Df))).app (.cons (rh.mono (fun _ _ h=>h.fr kz Df)) .nil)
 have Bt:jS base w4 (.slice (some ⟨gg,0,none⟩) (fs.length+1) cap) (fs++[m]):=by
  refine⟨rs++[r3],⟨?_,?_⟩,tC⟩
  ·intro x hx;rw[bD]at hx;rcases bP.1 hx with hx|hx
   ·exact ho.1 x hx
   ·simp at hx;subst hx;exact⟨rfl,qw⟩
  ·rw[bD,ec,aM,aj,uQ];simpa using eU
 have sG:=kz.keep h3.eG h3.wb;have qh:hD base w4 gv gs:=h3.bW.fr kz Df (fun k hk hg=>h3.gw hk hg);have SU:Fr (dh b gv wv) w3 w4:=kz.mono (fun _ _ hk=>Or.inr (Or.inr hk));refine⟨dB.ab5 kR sG qh Bt,SU.setCell (p:=⟨b,1,none⟩) (fun _=>Or.inl rfl) _,?_⟩;rintro k(hk|hk|hk)
 ·exact Or.inl (Or.inl hk)
 ·exact Or.inl (Or.inr (Or.inl hk))
 ·have e:gg=k:=by simpa[own,Value.ownBlock]using hk
  subst e;rcases dL with dL|dL
  ·exact Or.inl (Or.inr (Or.inr dL))
  ·exact Or.inr dL
theorem np.ret{w':World}{gv wv:Value}{gs:List (aU bE)}{u:List (bJ bE)×Option (bJ bE)}{e:Ending}(h:np base w b gv wv gs u e w'):∃v,e=.returned v:=by
 obtain⟨_,h⟩:=h;split at h
 ·exact⟨_,h⟩
 ·obtain⟨r,h,_⟩:=h;exact⟨_,h⟩
theorem T6{r:bJ Value}{n:Nat}(h1:r.a.dom=.slice a n c):∀u∈r.cells,u.oneCell'=true:=by
 intro u hu;simp only[bJ.cells,bu,cg,dS]at hu;rcases hu with rfl|rfl|rfl|rfl|rfl|rfl|rfl|rfl|rfl|rfl|rfl|rfl|rfl<;>first|rfl|(rw[h1];rfl)
theorem MI(base:Nat)(w:World)(b:Nat)(gv wv:Value)(gs:List (aU bE))(ws:List (bJ bE))(g:bJ Value)(m:bJ bE)(h:dB base w b gv wv gs ws)(hg:g.Reads (cZ base w) m)(D8:ws.length<17179869184) :
  aC 80 #[.pointer (some ⟨b,0,none⟩),.agg g.cells.toArray] w (FB base w b gv wv gs (zj ws m)):=by
 obtain⟨x,hx⟩:∃x,x=g.cells:=⟨_,rfl⟩;have lr:x.length=13:=by rw[hx];rfl
 have tL:=h.lt;have kR:=h.low;obtain⟨ad,cd,B6⟩:=hg.2.2.2.2.2.2.2.2.2.2.rd.form;have oQ:Fr aW w (w.alloc (.cells x.toArray 129)):=(ae aW w).alloc _;have h1:=h.dt oQ;have IW:=hg.mono (fun _ _ h=>h.dt oQ);have rj:(w.alloc (.cells x.toArray 129)).heap[w.heap.size]?=some (.cells x.toArray 129 (0,0)):=aB _ _
 have mW:∀i u,g.cells[i]?=some u->(w.alloc (.cells x.toArray 129)).cell? ⟨w.heap.size,i,none⟩=some u:=fun i u hu=>by
  rw[<-hx]at hu;simp only[World.cell?,rj];simpa using hu
 have c0:=mW 0 _ rfl;have c1:=mW 1 _ rfl;have c2:=mW 2 _ rfl;have c3:=mW 3 _ rfl;have re:=O (J3 base _ b gv wv gs ws g.o g.proxy h1 ab);have tu:=O rj;have HG:=O IW;have HX:=O hx;have HDV:=O B6;rw[<-hx];clear hg IW rj mW hx B6;go_enter func80,ntmps80;go_wp2_with fail
 clear c0 c1 c2 c3;have al9:w.heap.size<(w.alloc (.cells x.toArray 129)).heap.size:=aQ;generalize w.alloc (.cells x.toArray 129)=W at *
 refine re.o.mono ?_;intro e w2 hpd;obtain⟨rv,rfl⟩:=hpd.ret;obtain⟨⟨gv2,wv2,h2,dD,JX⟩,_⟩:=hpd;have mK:=h1.off;have hup:∀j,dh b gv wv j->j<w.heap.size:=fun j hj=>by
  rcases hj with hj|hj|hj
  ·omega
  ·obtain⟨cc,e⟩:=h.tF hj;exact bg e
  ·obtain⟨cc,e⟩:=h.vP hj;exact bg e
 have pN:¬dh b gv wv w.heap.size:=fun hh=>by have:=hup _ hh;omega
 have ze:=O (dD.keep tu.o pN);have yr:=HG.o.mono (fun _ _ h=>h.fr dD mK);have hll:=Fz g.o g.proxy ws;have ki:Fr (dh b gv wv) w w2:=fL (oQ.mono (fun _ _ h=>absurd h id)) dD (fun _ _ h=>h);have T7:∀j,dh b gv2 wv2 j->dh b gv wv j\/w.heap.size<j:=fun j hj=>by
  rcases JX j hj with h|h
  ·exact Or.inl h
  ·exact Or.inr ab
 obtain⟨fs,kx⟩:∃fs,fs=(lV g.o g.proxy ws).1:=⟨_,rfl⟩;rw[<-kx]at h2 hll;have C6:=O (show zj ws m=(fs++[m]).drop (fs.length+1-8)by
  unfold zj;rw[<-yr.1, <-yr.2.1, <-kx];simp)
 have xj:=yr.2.2.2.2.2.2.2.2.2.2;rw[HDV.o]at xj;have c12:w2.cell? ⟨w.heap.size,12,none⟩=some (.slice ad m.a.dom.length cd):=by
  have e:=HX.o;have hd:=HDV.o;have hu:x[12]?=some (.slice ad m.a.dom.length cd):=by rw[e, <-hd];rfl
  simp only[World.cell?,ze.o];simpa using hu
 have CL:=O (rz base _ _ _ xj);have HG2:=O yr;have asb:w.heap.size<w2.heap.size:=bg ze.o;clear re oQ dD mK kx h1 yr xj JX tu HG al9;go_wp2_with fail
 refine CL.o.mono ?_;rintro e w3⟨a3,c3,rfl,Sp,ik⟩;have Dh:=ik.keep ze.o id;have asc:w.heap.size<w3.heap.size:=bg Dh;have agr:w3.cell? ⟨w.heap.size,12,none⟩=some (.slice ad m.a.dom.length cd):=by
  have e:=HX.o;have hd:=HDV.o;have hu:x[12]?=some (.slice ad m.a.dom.length cd):=by rw[e, <-hd];rfl
  simp only[World.cell?,Dh];simpa using hu
 have f12:w3.frozen? ⟨w.heap.size,12,none⟩=false:=by simp[World.frozen?,Dh]
 have rA:rL base w3 (one w.heap.size):=by
  rintro j rfl _;exact⟨ab,fun c f e=>by rw[Dh]at e;cases e⟩
 have kx:Fr (one w.heap.size) w3 (w3.setCell ⟨w.heap.size,12,none⟩ (.slice a3 m.a.dom.length c3)):=(ae (one w.heap.size) w3).setCell (p:=⟨w.heap.size,12,none⟩) (fun _=>rfl) _;have X3:¬dh b gv2 wv2 w.heap.size:=fun hh=>by
  rcases T7 _ hh with h|h
  ·exact pN h
  ·omega
 have h4:=(h2.dt ik).fr kx rA (fun hh=>X3 (Or.inl (by have e:b=w.heap.size:=hh;rw[e]))) (fun j hj hh=>X3 (Or.inr (Or.inl (by have e:j=w.heap.size:=hh;rw[<-e];exact hj)))) (fun j hj hh=>X3 (Or.inr (Or.inr (by have e:j=w.heap.size:=hh;rw[<-e];exact hj))));have vh:(g.mL (.slice a3 m.a.dom.length c3)).Reads (cZ base (w3.setCell ⟨w.heap.size,12,none⟩ (.slice a3 m.a.dom.length c3))) m:=by
  have q:=HG2.o;exact⟨q.1,q.2.1,q.2.2.1,q.2.2.2.1,q.2.2.2.2.1,q.2.2.2.2.2.1,q.2.2.2.2.2.2.1,q.2.2.2.2.2.2.2.1,q.2.2.2.2.2.2.2.2.1,q.2.2.2.2.2.2.2.2.2.1,Sp.fr kx rA⟩
 have Dk:∀u∈(g.mL (.slice a3 m.a.dom.length c3)).cells,u.oneCell'=true:=T6 rfl;have tC:=b_ Dh 12 (.slice a3 m.a.dom.length c3);have hye:x.toArray.setIfInBounds 12 (.slice a3 m.a.dom.length c3)=(g.mL (.slice a3 m.a.dom.length c3)).cells.toArray:=by rw[HX.o];rfl
 rw[hye]at tC;have hFV:Fr (dh b gv wv) w (w3.setCell ⟨w.heap.size,12,none⟩ (.slice a3 m.a.dom.length c3)):=(ki.trans (ik.mono (fun _ _ h=>absurd h id))).setCell (p:=⟨w.heap.size,12,none⟩) (fun hl=>absurd hl aQ) _;have H4:=O h4;have Wk:=O vh;have aaf:=O Dk;have X1:=O tC;have hVl:w.heap.size<(w3.setCell ⟨w.heap.size,12,none⟩ (.slice a3 m.a.dom.length c3)).heap.size:=bg tC
 clear rA kx hye tC h4 vh Dk h2 Sp ik Dh CL HG2 X3 ki;obtain⟨av,cv,TI⟩:=H4.o.waits.form;subst TI;have d1:=H4.o.c1;have e1:=H4.o.free 1;have ob:∀i u,(g.mL (.slice a3 m.a.dom.length c3)).cells[i]?=some u->(w3.setCell ⟨w.heap.size,12,none⟩ (.slice a3 m.a.dom.length c3)).cell? ⟨w.heap.size,i,none⟩=some u:=fun i u hu=>by
  simp only[World.cell?,X1.o];simpa using hu
 have x0:=ob 0 _ rfl;have x1:=ob 1 _ rfl;have x2:=ob 2 _ rfl;have x3:=ob 3 _ rfl;have x4:=ob 4 _ rfl;have x5:=ob 5 _ rfl;have x6:=ob 6 _ rfl;have x7:=ob 7 _ rfl;have x8:=ob 8 _ rfl;have x9:=ob 9 _ rfl;have XX:=ob 10 _ rfl;have XY:=ob 11 _ rfl;have x12:=ob 12 _ rfl;obtain⟨i0,ri,oZ,kI,kS⟩:=info_parts Fx;obtain⟨rs,ho,kh⟩:=H4.o.waits;have HO:=O ho;have qg:=O kh;have hbV:=H4.o.lt
 have cO:(w3.setCell ⟨w.heap.size,12,none⟩ (.slice a3 m.a.dom.length c3)).ownsRow base 129 13 (.slice av fs.length cv) fs.length (rs.map bJ.cells).flatten:=by
  have hh:=ho.2;rw[aj,kh.len]at hh;exact hh
 have zO:¬own (.slice av fs.length cv) b:=H4.o.wb;clear ho kh ob;go_wp2_with fail
 clear c12 agr f12;generalize w3.setCell ⟨w.heap.size,12,none⟩ (.slice a3 m.a.dom.length c3)=V at *
 simp only[bJ.mL]at x0 x1 x2 x3 x4 x5 x6 x7 x8 x9 XX XY x12
 go_region_law ((with_reducible refine mG ⟨some 24,_,_,_,_,_⟩ ?_)
                refine step_append_lies _ bw _ _ _ bw base 129 i0 _ 13 168 underlying116 ri oZ kI kS rfl ab (.slice av fs.length cv) fs.length _ bw (by repeat(first|exact cO|apply World.ownsRow.alloc|apply World.ownsRow.drew)) ⟨V.heap.size,0,none⟩ 1 1 (g.mL (.slice a3 m.a.dom.length c3)).cells bw bw (kB V (g.mL (.slice a3 m.a.dom.length c3)).cells _) aaf.o ab fl ab bF (V.heap.size+1) aQ ?_
                intro gg cap w5 vF jk dL abz
                have qH:Fr (own (.slice av fs.length cv)) V w5:=fg (by repeat(first|exact ae _ _|apply az|apply bq)) jk (fun _ hk _=>hk)
                have k4:w5.cell? ⟨b,1,none⟩=some (.slice av fs.length cv):=(qH.cell (p:=⟨b,1,none⟩) hbV zO).trans d1
                have e4:w5.frozen? ⟨b,1,none⟩=false:=(qH.frozen (p:=⟨b,1,none⟩) hbV zO).trans e1)
 all_goals
  obtain⟨h5,hF5,Qd⟩:=MH (m:=m) H4.o HO.o qg.o Wk.o aaf.o qH vF (dL.imp id (fun h=>ab));have d5:=h5.c1;have e5:=h5.free 1;clear x0 x1 x2 x3 x4 x5 x6 x7 x8 x9 XX XY x12 d1 e1 k4 e4 jk vF cO qH;generalize w5.setCell ⟨b,1,none⟩ (.slice (some ⟨gg,0,none⟩) (fs.length+1) cap)=w6 at *
  have Aj:(fs++[m]).length=fs.length+1:=aQ;have RO:=O Aj;have xX:Fr (dh b gv wv) w w6:=hFV.step hF5 (fun k hk hb=>by
   rcases T7 k hb with h|h
   ·exact h
   ·omega)
  have Et:∀k,dh b gv2 (.slice (some ⟨gg,0,none⟩) (fs.length+1) cap) k->dh b gv wv k\/w.heap.size<=k:=fun k hk=>by
   rcases Qd k hk with h|h
   ·rcases T7 k h with h|h
    ·exact Or.inl h
    ·exact Or.inr ab
   ·exact Or.inr ab
  by_cases h8:8<=fs.length
  ·have Z':(8:Int)<(fs.length:Int)+1:=ab;obtain⟨n,hn⟩:∃n:Nat,fs.length+1=n+8:=⟨fs.length+1-8,ab⟩;rw[<-Aj]at h5;obtain⟨rs5,Lq,Eu⟩:=h5.waits;have Mx:=O (show(rs5.map bJ.cells).length=fs.length+1 by rw[aj,Eu.len,Aj]);have ql:=O (Fv base gg cap 0 n (rs5.map bJ.cells) w6 (by rw[Mx.o, <-Aj];exact Lq) ab (by rw[Mx.o];omega));have hn':=O hn;rw[Mx.o]at ql;clear hn Aj;go_wp2_with fail
   rw[show((fs.length:Int)+1-8)=(n:Int)from by have:=hn'.o;omega];refine ql.o.mono ?_;rintro e w7⟨rfl,yN,nw⟩;obtain⟨h7,RP,d7,e7⟩:=FA (i:=0) (n:=n) h5 Eu (by rw[RO.o];exact yN) nw;rw[RO.o,bj]at h7 RP;rw[RO.o]at d7;rw[List.take_zero,List.nil_append]at h7;have H7:=O h7;have Ih:=O RP;clear h7 RP ql yN Eu Lq;go_wp2_with fail
   go_end0;refine⟨rfl,_,_,by rw[C6.o,show fs.length+1-8=n from by have:=hn'.o;omega];exact H7.o,xX.step Ih.o (fun k hk hb=>by
    rcases Et k hb with h|h
    ·exact h
    ·omega),fun k hk=>Et k ?_⟩
   rcases hk with h|h|h
   ·exact Or.inl h
   ·exact Or.inr (Or.inl h)
   ·exact Or.inr (Or.inr h)
  ·have Z':¬(8:Int)<(fs.length:Int)+1:=ab;go_wp2_with fail
   go_end0;exact⟨rfl,_,_,by rw[C6.o,show fs.length+1-8=0 from ab,eC];exact h5,xX,Et⟩
theorem G2(base:Nat)(w:World)(b:Nat)(v:Value)(ps:List en)(h:eM base w b v ps)(hlen:ps.length<1000000) :
  aC 69 #[.pointer (some ⟨b,0,none⟩)] w fun e w'=>∃v',e=.returned v'/\OwnRows w.heap.size 137 12 w' v' (ps.map en.cells)/\Fr aW w w':=by
 obtain⟨av,cv,hv⟩:=h.form;subst hv;have c0:=h.c0;have hc:=O (X' _ _ w h.rows.at (by rw[aj];omega));clear h;go_enter func69,ntmps69;go_wp2_with fail
 refine hc.o.mono ?_;rintro e u⟨v',rfl,ho,hf⟩;obtain⟨a',c',ub⟩:=ho.form;subst ub;rw[aj]at ho;have HO:=O ho;clear ho;go_wp2;go_ret;exact⟨_,rfl,HO.o,hf⟩
def en.uH(r:qF)(p:en):Bool:=p.cQ.kQ r.cQ&&(p.o.kQ r.o&&(p.path.toList==r.path.toList&&p.query.toList==r.query.toList))
def en.vS(o:gy)(p:en):Bool:=p.cQ.kQ o||p.o.kQ o
theorem zo(o:gy)(pa qu:ai)(o':gy)(pa' qu':ai)(w:World):(binOp .eql 26 (.agg #[.bool o.aG,.string o.host,.int .i64 o.port,.string pa,.string qu]) (.agg #[.bool o'.aG,.string o'.host,.int .i64 o'.port,.string pa',.string qu'])).run prog w=.ok (.bool (o.kQ o'&&(pa.toList==pa'.toList&&qu.toList==qu'.toList))) w:=by
 go_simp;simp only[show∀(P:Prop) [Decidable P] (W:World) (b:Bool),(if P then(Result.ok (Value.bool b) W:Result Value)else .ok (.bool false) W)=.ok (.bool (decide P&&b)) W from fun P _ W b=>by by_cases h:P<;>simp[h]]
 congr 2
 rw[eV];simp only[gy.kQ,cy,dx,dQ,and_assoc,iy]
theorem J_(p:en)(r:fX Value)(hs:List gU)(br:Nat)(w:World)(hr:w.heap[br]?=some (.cells r.cells.toArray 29 (0,0))) :
  aC 142 #[.agg p.cells.toArray,.pointer (some ⟨br,0,none⟩)] w fun e w'=>e=.returned (.bool (p.uH (r.dP hs)))/\Fr aW w w':=by
 have heq:=jW p.cQ r.cQ;have heu:=zo p.o p.path p.query r.o r.path r.query;have iv:Fr aW w (w.alloc (.cells p.cells.toArray 137)):=(ae aW w).alloc _;have g0:=iv.keep hr id;have g1:(w.alloc (.cells p.cells.toArray 137)).heap[w.heap.size]?=some (.cells p.cells.toArray 137 (0,0)):=aB _ _
 have hc:∀i u,r.cells[i]?=some u->(w.alloc (.cells p.cells.toArray 137)).cell? ⟨br,i,none⟩=some u:=fun i u hu=>by simp only[World.cell?,g0];simpa using hu
 have c1:=hc 1 _ rfl;have c2:=hc 2 _ rfl;have c3:=hc 3 _ rfl;have c4:=hc 4 _ rfl;have c5:=hc 5 _ rfl;have c6:=hc 6 _ rfl;have c7:=hc 7 _ rfl;have c8:=hc 8 _ rfl;have HF:=O iv;clear hr g0 g1 hc iv;unfold en.cells at *
 cases e1:p.cQ.kQ r.cQ
 ·have HR:=O (show p.uH (r.dP hs)=false by unfold en.uH fX.dP;simp only;rw[e1];rfl);rw[e1]at heq;clear e1;go_enter func142,ntmps142;go_wp2;go_ret;exact⟨by rw[HR.o];rfl,HF.o⟩
 ·have HR:=O (show p.uH (r.dP hs)=(p.o.kQ r.o&&(p.path.toList==r.path.toList&&p.query.toList==r.query.toList))by unfold en.uH fX.dP;simp only;rw[e1];rfl);rw[e1]at heq;generalize (p.o.kQ r.o&&(p.path.toList==r.path.toList&&p.query.toList==r.query.toList))=res at *
  clear e1;go_enter func142,ntmps142;go_wp2;go_ret;exact⟨by rw[HR.o];rfl,HF.o⟩
theorem J'(p:en)(o:gy)(bo:Nat)(w:World)(ho:w.heap[bo]?=some (.cells #[.bool o.aG,.string o.host,.int .i64 o.port] 24 (0,0))) :
  aC 152 #[.agg p.cells.toArray,.pointer (some ⟨bo,0,none⟩)] w fun e w'=>e=.returned (.bool (p.vS o))/\Fr aW w w':=by
 have heq:=jW p.cQ o;have heo:=jW p.o o;have iv:Fr aW w (w.alloc (.cells p.cells.toArray 137)):=(ae aW w).alloc _;have g0:=iv.keep ho id;have c0:(w.alloc (.cells p.cells.toArray 137)).cell? ⟨bo,0,none⟩=some (.bool o.aG):=by simp[World.cell?,g0]
 have c1:(w.alloc (.cells p.cells.toArray 137)).cell? ⟨bo,1,none⟩=some (.string o.host):=by simp[World.cell?,g0]
 have c2:(w.alloc (.cells p.cells.toArray 137)).cell? ⟨bo,2,none⟩=some (.int .i64 o.port):=by simp[World.cell?,g0]
 have HF:=O iv;clear ho g0 iv;unfold en.cells at *
 cases e1:p.cQ.kQ o
 ·have HR:=O (show p.vS o=p.o.kQ o by unfold en.vS;rw[e1];rfl);rw[e1]at heq;generalize p.o.kQ o=res at *
  clear e1;go_enter func152,ntmps152;go_wp2;go_ret;exact⟨by rw[HR.o];rfl,HF.o⟩
 ·have HR:=O (show p.vS o=true by unfold en.vS;rw[e1];rfl);rw[e1]at heq;clear e1;go_enter func152,ntmps152;go_wp2;go_ret;exact⟨by rw[HR.o];rfl,HF.o⟩
def wG(M:Nat)(ps:List jh):Prop:=∀p∈ps,p.1.length<=M/\p.2.length<=M
theorem xm(M:Nat):∀(f:Nat) (ps:List jh) (r:Bs) (q:List jh×Bs),r.length<=M->wG M ps->gK f ps r=.ok q->wG M q.1
 |0,ps,r,q,_,hp,h=>by rw[gK]at h;cases h;exact hp
 |f+1,ps,r,q,hr,hp,h=>by
  rw[gK]at h;cases hq:kJ ps r with
  |error e=>rw[hq]at h;cases h
  |ok p =>
   obtain⟨p,r1⟩:=p;rw[hq]at h;have hle:=td hq;have hg:=ou r1;have hn:wG M (ps++[p]):=by
    intro a ha;rcases bP.1 ha with g|g
    ·exact hp a g
    ·simp at g;subst g;exact⟨ab,ab⟩
   simp only at h;split at h
   ·split at h
    ·exact xm M f _ _ q ab hn h
    ·cases h;exact hn
   ·cases h
structure mZ.Le (M:Nat) (x:mZ):Prop where
 scheme:x.scheme.length<=M
 token:x.token.length<=M
 yH:wG M x.params
theorem MP{M:Nat}{x:mZ}{z:Bs}(hr:r.length<=M)(h:oV k r=.ok (x,z)):x.Le M:=by
 have hw:=qQ r;have hb:=lo (ic r);unfold oV at h;split at h
 ·cases h
 split at h
 ·cases h
 split at h
 ·cases h;exact⟨by show(gR r).length<=M;omega,aS _,fun p hp=>by cases hp⟩
 split at h
 ·cases h
 split at h
 ·rename_i q hq;obtain⟨t,z'⟩:=q;have:=Cn hq;cases h;exact⟨by show(gR r).length<=M;omega,by show t.length<=M;omega,fun p hp=>by cases hp⟩
 ·split at h
  ·cases h
  ·rename_i q hq;have:=xm M _ _ _ _ ab (fun p hp=>by cases hp) hq;cases h;exact⟨by show(gR r).length<=M;omega,aS _,this⟩
theorem zp(M:Nat):∀(f:Nat) (acc:List mZ) (r:Bs) (l:List mZ),r.length<=M->(∀x∈acc,x.Le M)->jQ f acc r=.ok l->∀x∈l,x.Le M
 |0,acc,r,l,_,ha,h=>by rw[jQ]at h;cases h;exact ha
 |f+1,acc,r,l,hr,ha,h=>by
  rw[jQ]at h;split at h
  ·cases h;exact ha
  ·cases ho:oV acc.length (iq r)with
   |error e=>rw[ho]at h;cases h
   |ok q =>
    obtain⟨x,r1⟩:=q;rw[ho]at h;have h1:=BR ho;have h2:=ou r;have hx:=MP (M:=M) ab ho;refine zp M f _ _ l ab (fun y hy=>?_) h;rcases bP.1 hy with g|g
    ·exact ha y g
    ·simp at g;subst g;exact hx
theorem Bf{l:List mZ}(h:mg r=.ok l):∀x∈l,x.Le r.length:=by
 unfold mg at h;split at h
 ·cases h
 ·exact zp _ _ _ _ _ (ay _) (fun x hx=>by cases hx) h
theorem Bg{l:List mZ}(h:mg r=.ok l):r.length<=3000:=by
 unfold mg at h;split at h
 ·cases h
 ·omega
theorem Qt{l:List mZ}(h:mg r=.ok l):∀x∈l,x.Fit:=by
 intro x hx;have h1:=Bf h x hx;have h2:=Bg h;have h3:=(Jm h).1 x hx;exact⟨by have:=h1.scheme;omega,by have:=h1.token;omega,h3.rf,fun p hp=>by have:=h1.yH p hp;omega⟩
theorem Strs.up{b':Nat}{ss:List ai}(h:Strs b' w v ss)(hb:base<=b'):Strs base w v ss:=by
 obtain⟨h1,h2⟩:=h;refine⟨h1,?_⟩;rcases h2 with h2|⟨g,cap,cur,hv,hg,r⟩
 ·exact Or.inl h2
 ·exact Or.inr ⟨g,cap,cur,hv,aE hb hg,r⟩
def k_(ps:List jh):Prop:=ps.length<=1000/\∀p∈ps,p.1.length<=100000/\p.2.length<=100000
def o9(ps:List jh)(n:Bs):List ai:=(xH ps n).map bA
theorem Qy(ps:List jh)(n:Bs):(o9 ps n).map (·.data.toList)=xH ps n:=by
 unfold o9;rw[g_]
 conv=>rhs;rw[<-List.map_id (xH ps n)]
 exact List.map_congr_left (fun x _=>by simp[bA])
theorem DB(ps:List jh)(n:Bs):(xH ps n).length<=ps.length:=by unfold xH;rw[aj];exact bR _ _
theorem Us{x:Bs}(h:x∈xH ps n):∃p∈ps,x=p.2:=by
 unfold xH at h;obtain⟨p,hp,rfl⟩:=cj.1 h;exact⟨p,(eW.1 hp).1,rfl⟩
theorem Ut(h:ps[k]?=some p)(hs:dG p.1 n=true):o9 (ps.take (k+1)) n=o9 (ps.take k) n++[bA p.2]:=by
 unfold o9 xH;rw[dT h,cE];simp[hs]
theorem Qz(h:ps[k]?=some p)(hs:dG p.1 n=false):o9 (ps.take (k+1)) n=o9 (ps.take k) n:=by
 unfold o9 xH;rw[dT h,cE];simp[hs]
theorem Kl{sep:Bs}(ag1:sep.length=2):∀(l:List Bs) (M:Nat),(∀x∈l,x.length+2<=M)->(Lib.join l sep).length<=l.length*M
 |[],M,_=>by simp[Lib.join]
 |[x],M,h=>by have:=h x aQ;simp[Lib.join];omega
 |x :: y :: l,M,h=>by
  have ih:=Kl ag1 (y :: l) M (fun z hz=>h z (bO _ hz));have hx:=h x (cR ..);rw[Xd];simp only[aM,List.length_cons,ag1]at ih ⊢;rw[gZ (l.length+1)];omega
theorem FK(n:Bs)(hz:k_ ps):(kU ps n).length<=100002000:=by
 unfold kU;have h:=Kl (sep:=[44,32]) rfl (xH ps n) 100002 (fun x hx=>by obtain⟨p,hp,rfl⟩:=Us hx;have:=(hz.2 p hp).2;omega);have h2:=DB ps n;have h3:=hz.1;have h4:(xH ps n).length*100002<=1000*100002:=bN _ ab;omega
theorem QA(base:Nat)(v:Value)(ss:List ai)(w:World)(hv:Strs base w v ss)(hn:ss.length<=1000)(hlen:(Lib.join (ss.map (·.data.toList)) [44,32]).length<=140737488355328) :
  aC 206 #[v,.string ⟨#[44,32]⟩] w fun e w'=>e=.returned (.string (bA (Lib.join (ss.map (·.data.toList)) [44,32])))/\Fr aW w w':=by
 rcases hv.at with ⟨a,c,rfl,rfl,_⟩|⟨bk,o,c,rfl,h1,h2,h3,h4⟩
 ·exact(strings_Join_none _ _ _ _).mono (by rintro e w1 ⟨rfl,rfl⟩;exact⟨rfl,ae _ _⟩)
 ·exact(strings_Join bk o c ss ⟨#[44,32]⟩ w h4 h3 ab h1 hlen).mono (by rintro e w1 ⟨rfl,hb⟩;exact⟨rfl,fe hb⟩)
def ag2(ps:List jh)(n:Bs)(w:World)(out t:Value)(wr:World):Prop :=
 ∃k:Nat,k<=ps.length/\t=.int .i64 k/\Strs w.heap.size wr out (o9 (ps.take k) n)/\Fr aW w wr
def MU(ps:List jh)(n:Bs):Value:=.tuple #[.string (bA (kU ps n)),.bool (qe ps n)]
theorem QB(v:Value)(ps:List jh)(name:ai)(w:World)(h:lz w v ps)(hz:k_ ps)(hn:name.size<17592186044416) :
  aC 195 #[v,.string name] w fun e w'=>e=.returned (MU ps name.data.toList)/\Fr aW w w':=by
 obtain⟨av,cv,hv⟩:=h.form;subst hv;have HZ:=O hz;have Ls:=hz.1;clear hz;go_enter func195,ntmps195;go_wp2;go_loopw[6,11] (ag2 ps name.data.toList w) (fun _ t _=>ps.length-(intOf t).toNat)
 case atStart=>exact⟨0,aS _,rfl,kD _ _,ae _ _⟩
 case round =>
  obtain⟨k,hk,rfl,ho,cN⟩:=hrel;obtain⟨ao,co,Pu⟩:=ho.form;by_cases fx:k<ps.length
  ·have qp:(k:Int)<(ps.length:Int):=ab;have dL:=O (List.getElem?_eq_getElem fx);have V8:=O (HZ.o.2 _ (bL fx));generalize ps[k]=q at dL V8;obtain⟨nm,vl⟩:=q;obtain⟨bk,of,rfl,h1,h2,c0,c1⟩:=lz.cells (bG h cN) dL.o;unfold maxLen at h2;simp only at c0 c1;obtain⟨wb,jJ⟩:∃wb,wb=wr.alloc (.cells #[.string (bA nm),.string (bA vl)] 142):=⟨_,rfl⟩;have j6:Fr aW wr wb:=by rw[jJ];exact(ae aW wr).alloc _
   have xg:wb.heap[wr.heap.size]?=some (.cells #[.string (bA nm),.string (bA vl)] 142 (0,0)):=by rw[jJ];exact aB _ _
   have qC:=O jJ;clear jJ;go_wp2_with fail
   rw[<-qC.o];refine(ma (bA nm) name wb (by have h:=V8.o.1;show nm.length<_;omega) hn).mono ?_;rintro e w8⟨rfl,r_⟩;rw[fK];have PG:=O ((cN.trans j6).trans r_);have RE:=ho.fr (j6.trans r_) (fun _ h=>h.elim);rw[Pu]at RE;have Rz:=O (show(o9 (ps.take k) name.data.toList).length<=1000 from by
    unfold o9;rw[aj];have:=DB (ps.take k) name.data.toList;rw[aL]at this;omega)
   have asB:w.heap.size<=w8.heap.size:=PG.o.size;cases nv:dG nm name.data.toList
   ·have pN:=O (Qz dL.o nv);go_wp2;go_roundw
    case rel=>exact⟨k+1,ab,bf,by rw[pN.o];exact RE,PG.o⟩
    case measure=>simp[intOf];omega
   ·have pN:=O (Ut dL.o nv);have hb8:=r_.keep xg id;have k1:w8.cell? ⟨wr.heap.size,1,none⟩=some (.string (bA vl)):=by simp[World.cell?,hb8]
    generalize o9 (ps.take k) name.data.toList=vs at *
    clear nv;go_wp2_with (at_builtin;refine nF rfl _ _ rfl w.heap.size (.slice ao vs.length co) vs rfl (by apply im;exact RE) ⟨w8.heap.size,0,none⟩ 1 (bA vl) rfl (je _ _ _ _) (by have:=Rz.o;omega) bF ?_;intro v' w9 uJ hg9)
    have V7:=O ((PG.o.alloc (.cells #[.string (bA vl)] 9)).fH hg9 (fun j hj=>RE.block j hj));go_roundw
    case rel=>exact⟨k+1,ab,bf,by rw[pN.o];exact uJ,V7.o⟩
    case measure=>simp[intOf];omega
  ·have qp:¬(k:Int)<(ps.length:Int):=ab;have Ps:ps.take k=ps:=aD ab;rw[Ps]at ho Pu;subst Pu;have Rz:=DB ps name.data.toList;have RA:(o9 ps name.data.toList).length=(xH ps name.data.toList).length:=by unfold o9;rw[aj]
   have HJ:=O (show Lib.join ((o9 ps name.data.toList).map (·.data.toList)) [44,32]=kU ps name.data.toList by rw[Qy];rfl);have HB:=O (show decide (0<(o9 ps name.data.toList).length)=qe ps name.data.toList by
    unfold qe;rw[RA];cases xH ps name.data.toList with
    |nil=>rfl
    |cons a l=>simp)
   have hJ:=O (QA w.heap.size _ (o9 ps name.data.toList) wr ho ab (by rw[HJ.o];have:=FK name.data.toList HZ.o;omega));rw[HJ.o]at hJ;clear RA Rz;generalize hvs:o9 ps name.data.toList=vs at *
   have HVS:=O hvs;clear hvs;go_wp2_with fail
   refine hJ.o.mono ?_;rintro e u⟨rfl,zP⟩;go_wp2;go_ret2;refine⟨?_,cN.trans zP⟩;unfold MU;rw[<-HB.o];rfl
theorem vU(v:Value)(ps:List jh)(n:Bs)(w:World)(h:lz w v ps)(hz:k_ ps)(hn:n.length<1000)(s:ai)(b:Bool)(hs:kU ps n=s.data.toList)(hb:qe ps n=b) :
  aC 195 #[v,.string (bA n)] w fun e w'=>e=.returned (.tuple #[.string s,.bool b])/\Fr aW w w':=by
 refine(QB v ps (bA n) w h hz (by show n.length<_;omega)).mono ?_;rintro e u⟨rfl,hf⟩;refine⟨?_,hf⟩;unfold MU;rw[fK,hs,hb,Sv]
theorem tI(ps:List jh)(n:Bs)(hz:k_ ps):∃s:ai,kU ps n=s.data.toList/\s.size<=100002000:=⟨bA (kU ps n),by rw[fK],by show(kU ps n).length<=_;exact FK n hz⟩
theorem Yp(v:Value)(ps:List jh)(w:World)(h:lz w v ps)(hz:k_ ps) :
  aC 139 #[v] w fun e w'=>e=.returned (.int .i64 (mT ps))/\Fr aW w w':=by
 obtain⟨s,hs,xx⟩:=tI ps Gw hz;cases hb:qe ps Gw
 ·have HA:=O (show mT ps=5 by unfold mT;rw[hb];rfl);have hG:=O (vU v ps Gw w h hz ag s false hs hb);clear hb hs;go_enter func139,ntmps139;go_wp2_with fail
  refine hG.o.mono ?_;rintro e u⟨rfl,zP⟩;go_wp2;go_ret;exact⟨by rw[HA.o];rfl,zP⟩
 ·have hG:=O (vU v ps Gw w h hz ag s true hs hb);have HS:=O (fun u=>Jb s u ab);cases hd:ow s.data.toList
  ·have HA:=O (show mT ps=5 by unfold mT;rw[hb,hs,hd];rfl);have HD:=O hd;clear hb hs hd;go_enter func139,ntmps139;go_wp2_with fail
   refine hG.o.mono ?_;rintro e u⟨rfl,zP⟩;go_wp2_with fail
   refine(HS.o u).mono ?_;intro e u2 hp;obtain⟨rfl,dD⟩:=hp.no HD.o;go_wp2;go_ret;exact⟨by rw[HA.o];rfl,zP.trans dD⟩
  ·have HA:=O (show mT ps=min (yB s.data.toList) 600 by unfold mT;rw[hb,hs,hd];rfl);have HD:=O hd;have hE:=O (fun u=>HS.o u);clear hb hs hd;go_enter func139,ntmps139;go_wp2_with fail
   refine hG.o.mono ?_;rintro e u⟨rfl,zP⟩;go_wp2_with fail
   refine(HS.o u).mono ?_;intro e u2 hp;obtain⟨rfl,dD⟩:=hp.ok HD.o;go_wp2;go_ret;exact⟨by rw[HA.o];rfl,zP.trans dD⟩
def FM(ps:List jh)(n:Bs)(w:World)(e:Ending)(w':World):Prop :=
 Fr aW w w'/\match kK ps n with
 |some ws=>∃v,e=.returned (.tuple #[v,.nilIface])/\Strs w.heap.size w' v (dM ws)
 |none=>e=.returned (.tuple #[.slice none 0 0,.iface 82 (.int .i64 3)])
theorem QC(v:Value)(ps:List jh)(n:Bs)(w:World)(h:lz w v ps)(hz:k_ ps)(hn:n.length<1000) :
  aC 135 #[v,.string (bA n)] w (FM ps n w):=by
 obtain⟨s,hs,xx⟩:=tI ps n hz;have hG:=O (vU v ps n w h hz hn s _ hs rfl);have HW:=O (show kK ps n=match gP s.data.toList with| .error _=>none| .ok l=>if 40<l.length then none else some l by unfold kK;rw[hs];cases gP s.data.toList<;>rfl);have HL:=O (fun u=>I2 s u ab);clear hs;generalize qe ps n=b at hG;go_enter func135,ntmps135;go_wp2_with fail
 refine hG.o.mono ?_;rintro e u⟨rfl,zP⟩;go_wp2_with fail
 refine(HL.o u).mono ?_;rintro e u2⟨v2,er,rfl,dD,hm⟩;have Uu:=O (zP.trans dD);cases hl:gP s.data.toList with
 |error m =>
  rw[hl]at hm;obtain⟨rfl,g,rfl,hg⟩:=hm;have HN:=O (show kK ps n=none by rw[HW.o,hl]);clear hl;go_wp2;go_ret2;refine⟨Uu.o,?_⟩;rw[HN.o];exact rfl
 |ok ws =>
  rw[hl]at hm;by_cases Gi:40<ws.length
  ·have HN:=O (show kK ps n=none by rw[HW.o,hl];show(if _ then _ else _)=_;rw[aA Gi]);have LL:if 40<ws.length then v2=.slice none 0 0/\EG u2 er (some (4,none))else Strs u.heap.size u2 v2 (dM ws)/\er=.nilIface:=hm
   rw[aA Gi]at LL;obtain⟨rfl,rfl⟩:=LL;clear hl hm;go_wp2;go_ret2;refine⟨Uu.o,?_⟩;rw[HN.o];exact rfl
  ·have HN:=O (show kK ps n=some ws by rw[HW.o,hl];show(if _ then _ else _)=_;rw[ar Gi]);have LL:if 40<ws.length then v2=.slice none 0 0/\EG u2 er (some (4,none))else Strs u.heap.size u2 v2 (dM ws)/\er=.nilIface:=hm
   rw[ar Gi]at LL;obtain⟨iM,rfl⟩:=LL;clear hl hm;have wO:=zP.size;go_wp2;go_ret2;refine⟨Uu.o,?_⟩;rw[HN.o];exact⟨_,rfl,iM.up wO⟩
structure eB where
 bW:List (aU bE)
 waits:List (bJ bE)
 book:List en
 eH:List (gy×Int)
structure d_ where
 part:Nat->eB
 now:Int
structure kn where
 what:Int
 part:Int
 cQ:gy
 o:gy
 path:ai
 query:ai
 method:ai
 ef:List gU
 fF:Bool
 body:ai
 proxy:Bool
 text:ai
 user:ai
 pass:ai
 bI:ai
 cert:Int
 all:Bool
 n:Int
structure ky where
 what:Int
 head:ai
 cert:Int
def kn.aI(o:kn):qF:=⟨o.cQ,o.o,o.path,o.query,o.method,o.ef,o.fF⟩
def x_:eB:=⟨[],[],[],[]⟩
def G3:d_:=⟨fun _=>x_,0⟩
def d_.set(w:d_)(k:Nat)(p:eB):d_:={w with part:=fun i=>if i=k then p else w.part i}
def rep(n:Int):ky:=⟨n,.empty,0⟩
def kn.Ya(o:kn)(g:aU bE):nK:=⟨decide (g.a.scheme=3),g.a.cD,g.a.aP,g.a.bz,g.a.eY,g.user,g.pass,ju o.method,nA o.path o.query,o.body,o.bI,g.count.toNat⟩
def qm(g:aU bE)(o:kn):Option ai :=
 if g.a.scheme=1 then
  (if 0<=Lib.indexByte g.user.data.toList 58 then none else if lh g.user&&lh g.pass then some (C4 g.user g.pass)else none)
 else if((g.a.scheme=2\/g.a.scheme=3)/\(g.a.eY.data.toList=[]\/g.a.eY.data.toList=lR\/g.a.eY.data.toList=pR))/\(1<=g.count/\g.count<=4294967295)/\(yU g.a.scheme g.a.cC (o.Ya g)).fair=true then
  some (bA (yU g.a.scheme g.a.cC (o.Ya g)).text)
 else none
def uI(gs:List (aU bE))(o:gy)(proxy:Bool)(aP:ai):List (aU bE):=gs.filter (fun x=>!mP o proxy aP x)
def lu(p:eB)(o:kn):eB×ky :=
 match uX p.bW o.o o.proxy o.path with
 |(gs,.error _)=>({p with bW:=gs},rep 2)
 |(gs,.ok g) =>
  match qm g o with
  |none=>({p with bW:=uI gs g.o g.proxy g.a.aP},rep 2)
  |some s=>({p with bW:=gs},⟨1,s,0⟩)
def Yb(gs:List (aU bE))(o:gy)(proxy:Bool)(aP:ai):Option (aU bE):=gs.find? (mP o proxy aP)
def Dr(a:fY bE)(g:Option (aU bE)):Option (aU bE) :=
 match g with
 |some g=>if a.du&&(a.scheme==g.a.scheme&&a.bz.toList !=g.a.bz.toList)then some {g with a:=a,count:=0}else none
 |none=>none
def jo(p:eB)(o:kn):eB×ky :=
 match mg o.text.data.toList with
 | .error _=>(p,rep 7)
 | .ok l =>
  if 0<(iW l).scheme then
   match Dr (iW l) (Yb p.bW o.o o.proxy (iW l).aP)with
   |some g=>({p with bW:=uW p.bW g},rep 1)
   |none=>({p with bW:=uI p.bW o.o o.proxy (iW l).aP,waits:=zj p.waits ⟨o.o,o.proxy,o.path,iW l⟩},rep 3)
  else(p,rep 2)
def kV(p:eB)(o:kn):eB×ky :=
 match lV o.o o.proxy p.waits with
 |(ws,none)=>({p with waits:=ws},rep 2)
 |(ws,some x)=>({p with waits:=ws,bW:=uW p.bW ⟨x.o,x.proxy,o.user,o.pass,x.a,0,nN x.a x.proxy x.path⟩},rep 1)
def kX(p:eB)(now:Int)(o:kn):eB×ky :=
 match mF o.text.data.toList with
 | .error _=>(p,rep 7)
 | .ok l =>
  match tW o.aI (EN o.cQ.dP) l now with
  | .error _=>({p with book:=p.book.filter (fun q=>!q.uH o.aI)},rep 2)
  | .ok m=>({p with book:=tV p.book m now},rep 1)
def Ka(o:gy)(l:List (gy×Int)):List (gy×Int):=l.filter (fun c=>!c.1.kQ o)
def xk(l:List (gy×Int))(o:gy)(n:Int):List (gy×Int) :=
 (Ka o l++[(o,n)]).drop ((Ka o l++[(o,n)]).length-8)
def oI(p:eB)(o:kn):eB×ky :=
 if o.cert<0 then(p,rep 7)else({p with eH:=xk p.eH o.o o.cert},rep 1)
def OP(p:eB)(o:kn):ky :=
 match p.eH.find? (fun c=>c.1.kQ o.o)with
 |some c=>⟨1,.empty,c.2⟩
 |none=>rep 3
def vT(p:eB)(o:gy):eB:={p with bW:=p.bW.filter (fun g=>!Wj o g),waits:=p.waits.filter (fun g=>!MB o g)}
def ML(p:eB)(o:gy):eB:={vT p o with book:=p.book.filter (fun q=>!q.vS o),eH:=Ka o p.eH}
def rE(p:eB)(o:kn):eB×ky :=
 if o.all&&o.what==9 then(x_,rep 1)
 else if o.what==9 then(ML p o.o,rep 1)else(vT p o.o,rep 1)
def wF(p:eB)(now:Int)(o:kn):eB×ky :=
 if o.what=1 then lu p o
 else if o.what=2 then jo p o
 else if o.what=3 then kV p o
 else if o.what=4 then(p,rep (if mj p.book o.aI now then 5 else 4))
 else if o.what=5 then kX p now o
 else if o.what=6 then(p,OP p o)
 else if o.what=7 then oI p o
 else rE p o
def kn.Ue(o:kn):Bool:=decide (0<=o.part)&&(decide (o.part<4)&&(zY o.method.data.toList&&(decide (o.ef.length<=40)&&o.ef.all fun p=>zY p.1.data.toList)))
def kn.right(o:kn):Bool :=
 decide (1<=o.what)&&(decide (o.what<=10)&&(o.Ue&&(nM o.cQ&&(nM o.o&&(decide (o.path.size<=200)&&(o.path.data.toList.head?==some 47&&decide (o.text.size<=3000)))))))
def mX(w:d_)(o:kn):d_×ky :=
 if o.right then
  if o.what=10 then
   if o.n<0\/1099511627776-w.now<o.n then(w,rep 7)else({w with now:=w.now+o.n},rep 1)
  else(w.set o.part.toNat (wF (w.part o.part.toNat) w.now o).1,(wF (w.part o.part.toNat) w.now o).2)
 else(w,rep 7)
def eN(o:kn):Nat×Bool :=
 if o.right then
  if o.what=1\/o.what=2\/o.what=3\/o.what=8 then(1,true)
  else if o.what=4 then(10,false)
  else if o.what=5 then(10,true)
  else if o.what=6 then(4,false)
  else if o.what=7 then(4,true)
  else if o.what=10 then(8,true)
  else(7,true)
 else(0,false)
def tH(base:Nat)(w:World)(b:Nat)(v:Value)(ps:List en)(f:en->Bool)(e:Ending)(w':World):Prop :=
 e=.returned (.int .i64 ((ps.length:Int)-((ps.filter (fun p=>!f p)).length:Int)))/\Dp base w b v (ps.filter (fun p=>!f p)) w'
theorem FG{w1 w2:World}{ps ys:List en}(h:eM base w1 b v ps)(dn:Fr aW w w1)(dD:Fr (own v) w1 w2)(Im:own (.slice a ys.length c)=own v)(ho:OwnRows base 137 12 w2 (.slice a ys.length c) (ys.map en.cells)) :
  eM base (w2.setCell ⟨b,0,none⟩ (.slice a ys.length c)) b (.slice a ys.length c) ys/\Fr (ig b v) w (w2.setCell ⟨b,0,none⟩ (.slice a ys.length c))/\(∀k,ig b (.slice a ys.length c) k->ig b v k\/w.heap.size<=k)/\w2.cell? ⟨b,0,none⟩=some v/\w2.frozen? ⟨b,0,none⟩=false:=by
 have J9:=dD.keep h.eG h.nb;refine⟨oH h.low J9 ho,?_,?_,by simp[World.cell?,J9],by simp[World.frozen?,J9]⟩
 ·exact(fL (S:=ig b v) (dn.mono (fun _ _ h=>absurd h id)) dD (fun _ _ h=>Or.inr h)).setCell (p:=⟨b,0,none⟩) (fun _=>Or.inl rfl) _
 ·rintro k(hk|hk)
  ·exact Or.inl (Or.inl hk)
  ·exact Or.inl (Or.inr (by rw[<-Im];exact hk))
theorem Kk(base:Nat)(w:World)(b:Nat)(v:Value)(ps:List en)(r:fX Value)(hs:List gU)(h:eM base w b v ps)(hlen:ps.length<1000000) :
  aC 88 #[.pointer (some ⟨b,0,none⟩),.agg r.cells.toArray] w (tH base w b v ps (en.uH (r.dP hs))):=by
 obtain⟨rc,uj⟩:∃rc,rc=r.cells.toArray:=⟨_,rfl⟩;have dn:Fr aW w (w.alloc (.cells rc 29)):=(ae _ _).alloc _;have lI:(w.alloc (.cells rc 29)).heap[w.heap.size]?=some (.cells rc 29 (0,0)):=aB _ _;have h1:=h.dt dn;obtain⟨ak,ck,RS⟩:=h.form;subst RS;have Qc:¬own (.slice ak ps.length ck) w.heap.size:=fun hk=>by have:=h.Dq hk;omega
 have hd:=pG base 142 #[.pointer (some ⟨w.heap.size,0,none⟩)] (fun y=>(G0 y).uH (r.dP hs)) (.slice ak ps.length ck) (ps.map en.cells) _ call142 (fun y hy u hu=>by
  obtain⟨q,_,rfl⟩:=cj.1 hy;exact J_ q r hs w.heap.size u (by rw[<-uj];exact hu.keep lI Qc)) h1.rows
 rw[qL ps (en.uH (r.dP hs)),aj]at hd;obtain⟨ys,Jp⟩:∃ys,ys=ps.filter (fun p=>!p.uH (r.dP hs)):=⟨_,rfl⟩;have hyl:ys.length<=ps.length:=by rw[Jp];exact bR _ _
 unfold tH;rw[<-Jp]at hd ⊢;have HD:=O hd;have H1:=O h1;have lB:=O dn;have c0:=h1.c0;have e0:=h1.free 0;rw[<-uj];clear hd Jp h1 h dn lI uj Qc;go_enter func88,ntmps88;go_wp2_with fail
 refine HD.o.mono ?_;rintro e w2⟨a2,c2,rfl,qE,dD,Im⟩;obtain⟨g1,g2,g3,d0,e2⟩:=FG H1.o lB.o dD Im qE;have d3:=g1.c0;have G:=O (And.intro g1 (And.intro g2 g3));clear g1 g2 g3 qE dD Im HD H1 lB c0 e0;go_wp2;go_ret;exact⟨rfl,_,G.o.1,G.o.2.1,G.o.2.2⟩
theorem MQ(base:Nat)(w:World)(b:Nat)(v:Value)(ps:List en)(o:gy)(h:eM base w b v ps)(hlen:ps.length<1000000) :
  aC 93 #[.pointer (some ⟨b,0,none⟩),.agg o.cells.toArray] w (tH base w b v ps (en.vS o)):=by
 unfold gy.cells;have dn:Fr aW w (w.alloc (.cells #[.bool o.aG,.string o.host,.int .i64 o.port] 24)):=(ae _ _).alloc _;have lI:(w.alloc (.cells #[.bool o.aG,.string o.host,.int .i64 o.port] 24)).heap[w.heap.size]?=some (.cells #[.bool o.aG,.string o.host,.int .i64 o.port] 24 (0,0)):=aB _ _;have h1:=h.dt dn;obtain⟨ak,ck,RS⟩:=h.form;subst RS
 have Qc:¬own (.slice ak ps.length ck) w.heap.size:=fun hk=>by have:=h.Dq hk;omega
 have hd:=pG base 152 #[.pointer (some ⟨w.heap.size,0,none⟩)] (fun y=>(G0 y).vS o) (.slice ak ps.length ck) (ps.map en.cells) _ call152 (fun y hy u hu=>by
  obtain⟨q,_,rfl⟩:=cj.1 hy;exact J' q o w.heap.size u (hu.keep lI Qc)) h1.rows
 rw[qL ps (en.vS o),aj]at hd;obtain⟨ys,Jp⟩:∃ys,ys=ps.filter (fun p=>!p.vS o):=⟨_,rfl⟩;have hyl:ys.length<=ps.length:=by rw[Jp];exact bR _ _
 unfold tH;rw[<-Jp]at hd ⊢;have HD:=O hd;have H1:=O h1;have lB:=O dn;have c0:=h1.c0;have e0:=h1.free 0;clear hd Jp h1 h dn lI Qc;go_enter func93,ntmps93;go_wp2_with fail
 refine HD.o.mono ?_;rintro e w2⟨a2,c2,rfl,qE,dD,Im⟩;obtain⟨g1,g2,g3,d0,e2⟩:=FG H1.o lB.o dD Im qE;have d3:=g1.c0;have G:=O (And.intro g1 (And.intro g2 g3));clear g1 g2 g3 qE dD Im HD H1 lB c0 e0;go_wp2;go_ret;exact⟨rfl,_,G.o.1,G.o.2.1,G.o.2.2⟩
theorem Ux(a d g:Bool)(b e p q m h:ai)(c f t:Int):prog.built 137 [(0,.agg #[.bool a,.string b,.int .i64 c]),(1,.agg #[.bool d,.string e,.int .i64 f,.string p,.string q]),(2,.bool g),(3,.string m),(4,.string h),(5,.int .i64 t)]=some #[.bool a,.string b,.int .i64 c,.bool d,.string e,.int .i64 f,.string p,.string q,.bool g,.string m,.string h,.int .i64 t]:=af
theorem MV:(prog.info? 137).map (fun i=>(i.zero,i.size,i.bytes))=some (some (.agg Ew),12,144):=af
theorem OwnRows.Uy{e:TypeId}{xs:cU}(h:OwnRows b e k w v xs)(hg:own v g):∃c,w.heap[g]?=some (.cells c e (0,0)):=by
 obtain⟨cap,cur,_,_,h2,_⟩:=h.open hg;exact⟨cur,h2⟩
theorem Uz(p:en):∀u∈p.cells,u.oneCell'=true:=by unfold en.cells;simp[Value.oneCell']
theorem Kn(acc:List en)(X:en):acc.any (fun q=>q.kQ X)=acc.any (fun q=>X.kQ q):=by
 congr 1;funext q
 rw[eV,en.yw,en.yw];exact eq_comm
theorem G'{P:Program}{ops:Array Oper}{S:World->Prop}{o:Oper}{a:Act}(hg:o.guard=none)(t:TypeId)(parts:Array (Nat×Operand))(ho:o.op=.build t parts)(cells:bS)
  (hf:P.built t (parts.map fun(i,x)=>(i,a.eval x)).toList=some cells):YieldsIf P ops S o (.agg cells) a :=
 Or.inl ⟨by simp[Region.wanted,hg],fun w _=>by
  unfold execOp;simp only[ho,Sem.run_bind,run_build w t _ cells hf,Result.andThen_ok];rfl⟩
theorem uK{ops:Array Oper}{S:World->Prop}{o:Oper}{a:Act}(hg:o.guard=none)(x0 x1 x2 x3 x4 x5:Operand)
  (ho:o.op=.build 137 #[(0,x0),(1,x1),(2,x2),(3,x3),(4,x4),(5,x5)])(b1 b2 b3:Bool)(s1 s2 s3 s4 s5 s6:ai)(i1 i2 i3:Int)
  (h0:a.eval x0=.agg #[.bool b1,.string s1,.int .i64 i1])(h1:a.eval x1=.agg #[.bool b2,.string s2,.int .i64 i2,.string s3,.string s4])(h2:a.eval x2=.bool b3)(h3:a.eval x3=.string s5)(h4:a.eval x4=.string s6)(h5:a.eval x5=.int .i64 i3) :
  YieldsIf prog ops S o (.agg #[.bool b1,.string s1,.int .i64 i1,.bool b2,.string s2,.int .i64 i2,.string s3,.string s4,.bool b3,.string s5,.string s6,.int .i64 i3]) a:=by
 refine G' hg 137 _ ho _ ?_;simp only[eA,cz,cY,h0,h1,h2,h3,h4,h5];exact Ux _ _ _ _ _ _ _ _ _ _ _ _
theorem DC{P:Program}{ops:Array Oper}{a:Act}{w:World}{K:Act->World->Prop}{Q:Exit->Act->World->Prop}{E:Prop}{o:Oper}(ym:o.guard=none)(ty:TypeId)(x y:Operand)(ho:o.op=.store ty x y)
  (g:Nat)(cells:bS)(hx:a.eval x=.pointer (some ⟨g,0,none⟩))(hy:a.eval y=.agg cells)
  (t:TypeId)(old:bS)(hg:w.heap[g]?=some (.cells old t (0,0)))(hi:(P.info? ty).map (·.size)=some cells.size)
  (hold:old.size=cells.size)(h1:cells.all (·.oneCell')=true)
  (h:K (a.put o.dst undef) (w.setRow g cells)):if Region.wanted o (yielded ops a.tmps)=true then Oper.wp P o a w K Q else E:=by
 have hw:Region.wanted o (yielded ops a.tmps)=true:=by simp[Region.wanted,ym]
 rw[aA hw];exact wp_store_row ty x y ho g cells hx hy t old hg hi hold h1 h
theorem iZ{S:dz}{a:World}(h:Fr S a w)(hg:a.heap.size<=g)(cs:bS):Fr S a (w.setRow g cs) :=
 ⟨h.os,h.tape,h.output,by show a.heap.size<=(w.setRow g cs).heap.size;rw[World.setRow];simp only[Array.size_modify];exact h.size,fun k hk hn=>(show(w.setRow g cs).heap[k]?=w.heap[k]? by simp[World.setRow,Array.getElem?_modify,show g≠k from ab]).trans (h.block k hk hn)⟩
theorem lK{old cs:bS}{t:TypeId}(h:w.heap[g]?=some (.cells old t (0,0))):(w.setRow g cs).heap[g]?=some (.cells cs t (0,0)):=by
 simp[World.setRow,Array.getElem?_modify,h]
theorem Yq(base:Nat)(m hd:ai)(r:fX Value)(hs:List gU)(now:Int)(lv:Value)(ps:List jh)(acc:List en)(v:Value)(br bn bl bp:Nat)(w:World)
  (hr:w.heap[br]?=some (.cells r.cells.toArray 29 (0,0)))(hn:w.heap[bn]?=some (.cells #[.int .i64 now] 3 (0,0)))(hl:w.heap[bl]?=some (.cells #[lv] 27 (0,0)))(hp:w.heap[bp]?=some (.cells #[v] 119 (0,0)))
  (L5:lz w lv ps)(hz:k_ ps)(cO:OwnRows base 137 12 w v (acc.map en.cells))(hb:base<=bp)(hlen:acc.length<1000000)(n0:0<=now)(n1:now<=1099511627776) :
  aC 138 #[.string m,.string hd,.pointer (some ⟨br,0,none⟩),.pointer (some ⟨bn,0,none⟩),.pointer (some ⟨bl,0,none⟩),.pointer (some ⟨bp,0,none⟩)] w fun e w'=>e=.returned (.tuple #[])/\∃v',w'.heap[bp]?=some (.cells #[v'] 119 (0,0))/\OwnRows base 137 12 w' v' ((pS acc ((r.dP hs).Cw (now+mT ps) m hd)).map en.cells)/\Fr (fun k=>k=bp\/own v k) w w':=by
 have hag:=LV ps;have ag4:=O (show∀U,Fr aW w U->aC 139 #[lv] U fun e w'=>e=.returned (.int .i64 (mT ps))/\Fr aW U w' from fun U hU=>Yp lv ps U (bG L5 hU) hz);obtain⟨al,cl,hlv⟩:=dN L5;rw[aj]at hlv;subst hlv
 have HC:=O (show∀U,Fr aW w U->(U.cell? ⟨br,1,none⟩=some (.bool r.cQ.aG)/\U.cell? ⟨br,2,none⟩=some (.string r.cQ.host)/\U.cell? ⟨br,3,none⟩=some (.int .i64 r.cQ.port)/\U.cell? ⟨br,4,none⟩=some (.bool r.o.aG)/\U.cell? ⟨br,5,none⟩=some (.string r.o.host)/\U.cell? ⟨br,6,none⟩=some (.int .i64 r.o.port)/\U.cell? ⟨br,7,none⟩=some (.string r.path)/\U.cell? ⟨br,8,none⟩=some (.string r.query)/\U.cell? ⟨br,11,none⟩=some (.bool r.fF)/\U.cell? ⟨bn,0,none⟩=some (.int .i64 now)/\U.cell? ⟨bl,0,none⟩=some (.slice al ps.length cl))from fun U hU=>by
  have j:=hU.keep hr id;have hc:∀i u,r.cells[i]?=some u->U.cell? ⟨br,i,none⟩=some u:=fun i u hu=>by simp only[World.cell?,j];simpa using hu
  exact⟨hc 1 _ rfl,hc 2 _ rfl,hc 3 _ rfl,hc 4 _ rfl,hc 5 _ rfl,hc 6 _ rfl,hc 7 _ rfl,hc 8 _ rfl,hc 11 _ rfl,by simp[World.cell?,hU.keep hn id],by simp[World.cell?,hU.keep hl id]⟩)
 obtain⟨X,hX⟩:∃X,X=(r.dP hs).Cw (now+mT ps) m hd:=⟨_,rfl⟩;obtain⟨x,hx⟩:∃x,x=X.cells:=⟨_,rfl⟩;have lr:x.length=12:=by rw[hx];rfl
 have wP:=O (show∀u∈x,u.oneCell'=true from by rw[hx];exact Uz X);have Fq:=vC x #[.bool false,.string ⟨#[]⟩,.int .i64 0,.bool false,.string ⟨#[]⟩,.int .i64 0,.string ⟨#[]⟩,.string ⟨#[]⟩,.bool false,.string ⟨#[]⟩,.string ⟨#[]⟩,.int .i64 0] (by rw[lr];rfl);have HX:=O hx
 have HXC:=O (show x.toArray= #[.bool r.cQ.aG,.string r.cQ.host,.int .i64 r.cQ.port,.bool r.o.aG,.string r.o.host,.int .i64 r.o.port,.string r.path,.string r.query,.bool r.fF,.string m,.string hd,.int .i64 (now+mT ps)]by rw[hx,hX];rfl);rw[<-hX];clear hX hx;have apk:IntKind.i64.wrap (now+mT ps)=now+mT ps:=by rw[IntWalk.i64_left];exact IntWalk.wrap64_in _ ab
 clear hr hn hl L5 hz;go_enter func138,ntmps138;go_wp2_with fail
 refine wp_region_held_drew (S:=(fun U=>U.cell? ⟨br,1,none⟩=some (.bool r.cQ.aG)/\U.cell? ⟨br,2,none⟩=some (.string r.cQ.host)/\U.cell? ⟨br,3,none⟩=some (.int .i64 r.cQ.port)/\U.cell? ⟨br,4,none⟩=some (.bool r.o.aG)/\U.cell? ⟨br,5,none⟩=some (.string r.o.host)/\U.cell? ⟨br,6,none⟩=some (.int .i64 r.o.port)/\U.cell? ⟨br,7,none⟩=some (.string r.path)/\U.cell? ⟨br,8,none⟩=some (.string r.query)/\U.cell? ⟨br,11,none⟩=some (.bool r.fF)/\U.cell? ⟨bn,0,none⟩=some (.int .i64 now)/\U.cell? ⟨bl,0,none⟩=some (.slice al ps.length cl))) af (HC.o _ (ae aW w).drew) ?_
 intro yl;refine aO 0 9 rfl ?_;refine aO 1 10 rfl ?_;refine aO 2 11 rfl ?_;refine aO 3 12 rfl ?_;refine aO 4 13 rfl ?_;refine aO 5 14 rfl ?_;refine aO 6 15 rfl ?_;refine aO 7 16 rfl ?_;refine aO 8 17 rfl ?_;refine aO 9 18 rfl ?_;refine wpAnyH_ready (rs:=[10,13]) af aQ ?_;refine AllReadyH.cons rfl (fun K hK=>?hA) (AllReadyH.cons rfl (fun K hK=>?hB) AllReadyH.nil)
 case' hA =>
  go_simp;refine(ag4.o _ (ae aW w).drew).mono ?_;rintro e u⟨rfl,hu⟩;have HU:=O (show Fr aW w u from((ae aW w).drew).trans hu);refine hK.out _ _ (HC.o _ HU.o) ?_;intro wU;clear hK yl hu K
  try simp only[Act.put,sA,sB,sC]
  refine aO 11 20 rfl ?_
  refine wpAnyH_take (i:=12) (oi:=⟨some 21,_,_,_,_,_⟩) (v:=.agg #[.bool r.cQ.aG,.string r.cQ.host,.int .i64 r.cQ.port,.bool r.o.aG,.string r.o.host,.int .i64 r.o.port,.string r.path,.string r.query,.bool r.fF,.string m,.string hd,.int .i64 (now+mT ps)]) rfl af af af (fun _ _ _ h=>h) (uK rfl (.tmp 10) (.tmp 12) (.tmp 14) (.tmp 15) (.tmp 16) (.tmp 20) rfl r.cQ.aG r.o.aG r.fF r.cQ.host r.o.host r.path r.query m hd r.cQ.port r.o.port (now+mT ps) rfl rfl rfl rfl rfl rfl) jL ?_
  try simp only[Act.put,sA,sB,sC]
  refine eK 13 rfl fun K hK=>?_;go_simp;obtain⟨bx,Ha⟩:∃bx,bx=u.heap.size:=⟨_,rfl⟩;obtain⟨w3,Th⟩:∃w3,w3=u.alloc (.cells Ew 137):=⟨_,rfl⟩;have HZB:=O (show w3.heap[bx]?=some (.cells Ew 137 (0,0))from by rw[Th,Ha];exact aB _ _);have Yr:=O (show Fr aW w w3 from by rw[Th];exact HU.o.alloc _);have rj:w.heap.size<=bx:=by rw[Ha];exact HU.o.size
  rw[<-Th, <-Ha];refine hK.out _ _ (HC.o _ Yr.o) ?_;intro Bj;clear hK wU K Th Ha
 case' hB =>
  go_simp;obtain⟨bx,Ha⟩:∃bx,bx=w.heap.size:=⟨_,rfl⟩;obtain⟨w2,Ys⟩:∃w2,w2=(w.alloc (.cells Ew 137)).drew:=⟨_,rfl⟩;have kS:w2.heap[bx]?=some (.cells Ew 137 (0,0)):=by rw[Ys,Ha];exact aB _ _
  have Yt:Fr aW w w2:=by rw[Ys];exact((ae _ _).alloc _).drew
  have rj:w.heap.size<=bx:=by rw[Ha];exact ay _
  rw[<-Ys, <-Ha];refine hK.out _ _ (HC.o _ Yt) ?_;intro wU;clear hK yl K Ys Ha
  try simp only[Act.put,sA,sB,sC]
  refine eK 10 rfl fun K hK=>?_;go_simp;refine(ag4.o _ Yt).mono ?_;rintro e w3⟨rfl,hu⟩;have HZB:=O (hu.keep kS id);have Yr:=O (Yt.trans hu);refine hK.out _ _ (HC.o _ Yr.o) ?_;intro Bj;clear hK wU hu K kS Yt
  try simp only[Act.put,sA,sB,sC]
  refine aO 11 20 rfl ?_
  refine wpAnyH_take (i:=12) (oi:=⟨some 21,_,_,_,_,_⟩) (v:=.agg #[.bool r.cQ.aG,.string r.cQ.host,.int .i64 r.cQ.port,.bool r.o.aG,.string r.o.host,.int .i64 r.o.port,.string r.path,.string r.query,.bool r.fF,.string m,.string hd,.int .i64 (now+mT ps)]) rfl af af af (fun _ _ _ h=>h) (uK rfl (.tmp 10) (.tmp 12) (.tmp 14) (.tmp 15) (.tmp 16) (.tmp 20) rfl r.cQ.aG r.o.aG r.fF r.cQ.host r.o.host r.path r.query m hd r.cQ.port r.o.port (now+mT ps) rfl rfl rfl rfl rfl rfl) jL ?_
 all_goals
  try simp only[Act.put,sA,sB,sC]
  refine eK 14 rfl fun K hK=>?_;refine DC rfl 137 (.tmp 8) (.tmp 21) rfl bx #[.bool r.cQ.aG,.string r.cQ.host,.int .i64 r.cQ.port,.bool r.o.aG,.string r.o.host,.int .i64 r.o.port,.string r.path,.string r.query,.bool r.fF,.string m,.string hd,.int .i64 (now+mT ps)] rfl rfl 137 Ew HZB.o af rfl bX ?_
  obtain⟨W,hW⟩:∃W,W=w3.setRow bx #[.bool r.cQ.aG,.string r.cQ.host,.int .i64 r.cQ.port,.bool r.o.aG,.string r.o.host,.int .i64 r.o.port,.string r.path,.string r.query,.bool r.fF,.string m,.string hd,.int .i64 (now+mT ps)]:=⟨_,rfl⟩;have Bk:Fr aW w W:=by rw[hW];exact iZ Yr.o rj _
  have Yu:W.heap[bx]?=some (.cells x.toArray 137 (0,0)):=by rw[hW,HXC.o];exact lK HZB.o
  rw[<-hW];refine hK.out _ _ (HC.o _ Bk) ?_;intro Aw;clear hK Aw K hW HZB Yr
  try simp only[Act.put,List.setIfInBounds_toArray]
  refine wpAnyH_done af ?_ _;have HWF:=O Bk;have RR:=O Yu;obtain⟨Yv,Yw,Z5⟩:=cO.form;rw[aj]at Z5;subst Z5;have HCT:=O (show aC 140 #[.slice Yv acc.length Yw,.agg x.toArray] W fun e w'=>e=.returned (.bool (acc.any (fun q=>X.kQ q)))/\Fr aW W w' from by rw[HX.o];exact Km _ acc X W (bG cO.at Bk))
  have HBP:=O (show∀U,Fr (own (.slice Yv acc.length Yw)) w U->U.heap[bp]?=some (.cells #[.slice Yv acc.length Yw] 119 (0,0))from fun U hU=>hU.keep hp (fun hk=>by
   obtain⟨cc,e⟩:=cO.Uy hk;rw[hp]at e;cases e))
  have QE:=O (fun U (hU:Fr aW w U)=>cO.fr hU (fun _ _ h=>h));have d5:W.cell? ⟨bp,0,none⟩=some (.slice Yv acc.length Yw):=by simp[World.cell?,HBP.o W (Bk.mono (fun _ _ h=>absurd h id))]
  have ZK:(prog.info? 137).map (·.size)=some x.toArray.size:=by rw[ba];exact Ao lr
  have HXS:=O ZK;have oT:base<=W.heap.size:=by have h1:=Bk.size;have h2:=bg hp;omega
  clear hp cO Bk Yu ZK;go_wp2_with (first|((with_reducible refine dv 23 ?_);refine aJ rfl 137 (.tmp 8) rfl bx rfl _ x.toArray (0,0) _ RR.o underlying137 rfl HXS.o ?_)|fail)
  refine HCT.o.mono ?_;rintro e u2⟨rfl,lD⟩;have p_:=O (HWF.o.trans lD);have HX2:=O (lD.keep RR.o id);have HO2:=O (QE.o u2 p_.o);have kh:=HBP.o u2 (p_.o.mono (fun _ _ h=>absurd h id));have d6:u2.cell? ⟨bp,0,none⟩=some (.slice Yv acc.length Yw):=by simp[World.cell?,kh]
  have ez:base<=u2.heap.size:=by have:=lD.size;omega
  clear lD d5 HCT;cases iX:acc.any (fun q=>X.kQ q)
  ·have MW:=O (show pS acc X=acc++[X]by
    unfold pS;rw[ar];rw[Kn,iX];decide)
   clear iX
   go_wp2_with (first|((with_reducible refine dv 27 ?_);refine aJ rfl 137 (.tmp 8) rfl bx rfl _ x.toArray (0,0) _ HX2.o underlying137 rfl HXS.o ?_)|(at_builtin;refine nH rfl _ _ 119 137 rfl 12 144 (.agg Ew) underlying119 MV rfl ag ag base (.slice Yv acc.length Yw) (acc.map en.cells) rfl (HO2.o.alloc _) u2.heap.size 1 x rfl lr wP.o (fun i u hi=>by rw[World.cell?_alloc_mark];simpa using hi) (by rw[aj];omega) bF ?_;intro v' w4 eU Bt;obtain⟨a4,c4,V4⟩:=eU.form;subst V4;have jH:Fr (own (.slice Yv acc.length Yw)) u2 w4:=fg ((ae _ u2).alloc (.cells x.toArray 137)) Bt (fun k hk _=>hk);have tC:=HBP.o w4 ((p_.o.mono (fun _ _ h=>absurd h id)).step jH (fun _ _ h=>h));have k4:w4.cell? ⟨bp,0,none⟩=some (.slice Yv acc.length Yw):=(by simp[World.cell?,tC]);have e4:w4.frozen? ⟨bp,0,none⟩=false:=(by simp[World.frozen?,tC]))|fail)
   clear Fq;go_end0;refine⟨rfl,_,b_ tC 0 _,?_,?_⟩
   ·rw[MW.o,bD,cz,cY, <-HX.o];have J1:OwnRows base 137 12 w4 (.slice a4 (acc.length+1) c4) (acc.map en.cells++[x]):=by
     have h:=eU;rw[aM,aj,List.length_singleton]at h;exact h
    have kx:Fr (one bp) w4 (w4.setCell ⟨bp,0,none⟩ (.slice a4 (acc.length+1) c4)):=(ae (one bp) w4).setCell (p:=⟨bp,0,none⟩) (fun _=>rfl) _;refine J1.fr kx ?_;intro k hk e;obtain⟨cc,ek⟩:=J1.Uy hk;have e:k=bp:=e;rw[e,tC]at ek;cases ek
   ·exact(fL (S:=fun k=>k=bp\/own (.slice Yv acc.length Yw) k) (p_.o.mono (fun _ _ h=>absurd h id)) jH (fun _ _ h=>Or.inr h)).setCell (p:=⟨bp,0,none⟩) (fun _=>Or.inl rfl) _
  ·have MW:=O (show pS acc X=acc by
    unfold pS;rw[aA];rw[Kn,iX])
   clear iX;go_wp2;go_end0;exact⟨rfl,_,kh,by rw[MW.o];exact HO2.o,p_.o.mono (fun _ _ h=>absurd h id)⟩
theorem U2{α:Type}{p:α->Bool}{l:List α}{x:α}(h:l[k]?=some x)(hp:p x=true)(hn:(l.take k).any p=false):l.find? p=some x:=by
 induction l generalizing k with
 |nil=>simp at h
 |cons a l ih =>
  cases k with
  |zero=>simp at h;subst h;rw[List.find?_cons_of_pos hp]
  |succ k =>
   simp only[List.getElem?_cons_succ]at h;simp only[List.take_succ_cons,List.any_cons,eI]at hn;rw[List.find?_cons_of_neg (by rw[hn.1];exact gA)];exact ih h hn.2
theorem QT{α:Type}{p:α->Bool}{l:List α}(hn:l.any p=false):l.find? p=none:=by
 rw[List.find?_eq_none];intro x hx;have:=(eT.1 hn) x hx;exact this
def ahH(w:World)(gs:List (aU bE))(o:gy)(proxy:Bool)(aP:ai)(i:Value)(wr:World):Prop :=
 ∃k:Nat,k<=gs.length/\i=.int .i64 k/\(gs.take k).any (mP o proxy aP)=false/\Fr aW w wr
theorem U3(base:Nat)(w:World)(b:Nat)(gv wv:Value)(gs:List (aU bE))(ws:List (bJ bE))(o:gy)(proxy:Bool)(aP:ai)(h:dB base w b gv wv gs ws) :
  aC 78 #[.pointer (some ⟨b,0,none⟩),.agg o.cells.toArray,.bool proxy,.string aP] w (tE base w (gs.find? (mP o proxy aP))):=by
 have HSA:=O (fun r U=>JV r o proxy aP U);unfold gy.cells at *
 have tL:=h.lt;have kR:=h.low;have oQ:Fr aW w _:=((ae aW w).alloc (.cells #[.bool o.aG,.string o.host,.int .i64 o.port] 24)).alloc (.cells fc 133);have b1:=aB (w.alloc (.cells #[.bool o.aG,.string o.host,.int .i64 o.port] 24)) (.cells fc 133);rw[show(w.alloc (.cells #[.bool o.aG,.string o.host,.int .i64 o.port] 24)).heap.size=w.heap.size+1 from aQ]at b1
 have b0:((w.alloc (.cells #[.bool o.aG,.string o.host,.int .i64 o.port] 24)).alloc (.cells fc 133)).heap[w.heap.size]?=some (.cells #[.bool o.aG,.string o.host,.int .i64 o.port] 24 (0,0)):=by
  rw[Below.heap_alloc _ _ _ aQ];exact aB w _
 have h1:=h.dt oQ;have d0:=h1.c0;obtain⟨av,cv,hgv⟩:=h1.bW.form;subst hgv;have B0:=O b0;have B1:=O b1;clear b0 b1 h;go_enter func78,ntmps78;go_wp2_with fail
 clear d0;generalize (w.alloc (.cells _ 24)).alloc _=W at *
 go_loopw[17] (ahH W gs o proxy aP) (fun i _=>gs.length-(intOf i).toNat)
 case atStart=>exact⟨0,aS _,rfl,rfl,ae _ _⟩
 case round =>
  obtain⟨k,hk,rfl,iX,cN⟩:=hrel;have HAN:=O iX;clear iX;have h2:=h1.dt cN;have c0:=O (cN.keep B0.o id);have c1:=O (cN.keep B1.o id);have zQ:w.heap.size+1<wr.heap.size:=bg c1.o;by_cases fx:k<gs.length
  ·have qp:(k:Int)<(gs.length:Int):=ab;obtain⟨bk,c,dD,si,r,dX,hr,hcell⟩:=h2.bW.at fx;cases dD;unfold maxLen at si;have dL:=O (List.getElem?_eq_getElem fx);generalize gs[k]=g at dL hr;have hsg:JU o proxy aP r.cells=mP o proxy aP g:=Be hr o proxy aP;obtain⟨x,hx⟩:∃x,x=r.cells:=⟨_,rfl⟩;have lr:x.length=16:=by rw[hx];rfl
   rw[<-hx]at hcell dX;have iM:=fun W=>run_storeCells_new (P:=prog) W 133 #[.bool false,.string ⟨#[]⟩,.int .i64 0,.bool false,.string ⟨#[]⟩,.string ⟨#[]⟩,.int .i64 0,.string ⟨#[]⟩,.string ⟨#[]⟩,.string ⟨#[]⟩,.bool false,.string ⟨#[]⟩,.bool false,.slice none 0 0,.int .i64 0,.slice none 0 0] x (by rw[lr];rfl) dX;have Fo:=O (show(prog.info? 133).map (·.size)=some x.length by rw[lr];kernel_rfl)
   have iv:Fr aW wr (wr.alloc (.cells x.toArray 133)):=(ae aW wr).alloc _;have tu:=O (aB wr (.cells x.toArray 133));have HSM:=O (show∀U,aC 116 #[.agg x.toArray,.agg #[.bool o.aG,.string o.host,.int .i64 o.port],.bool proxy,.string aP] U fun e w'=>e=.returned (.bool (mP o proxy aP g))/\Fr aW U w' from fun U=>by
    have:=HSA.o r U;rw[hx];refine this.mono ?_;rintro e w' h';rw[<-hsg];exact h')
   have HR:=O (hr.mono (fun _ _ h=>h.dt iv));have sk:=O (cN.trans iv);have Ci:wr.heap.size<(wr.alloc (.cells x.toArray 133)).heap.size:=aQ;have HX:=O hx;have c0a:=O (iv.keep c0.o id);have c1a:=O (iv.keep c1.o id);clear hx dX hr hsg iv
   go_wp2_with (first|((with_reducible refine dv 20 ?_);refine a_ rfl 133 (.tmp 19) rfl bk (k*16) rfl x _ hcell underlying133 rfl Fo.o ?_)|((with_reducible refine dv 21 ?_);refine aJ rfl 133 (.tmp 11) rfl wr.heap.size rfl _ x.toArray (0,0) _ tu.o underlying133 rfl (by rw[ba];exact Fo.o) ?_)|((with_reducible refine dv 22 ?_);refine aJ rfl 24 (.tmp 5) rfl w.heap.size rfl _ _ (0,0) _ c0a.o underlying24 rfl af ?_)|fail)
   clear iM hcell;generalize wr.alloc (.cells x.toArray 133)=V at *
   refine(HSM.o V).mono ?_;rintro e u1⟨rfl,dn⟩;cases nv:mP o proxy aP g
   ·have HN:=O (any_take_succ dL.o HAN.o nv);clear nv HSM;go_wp2;go_roundw
    case rel=>exact⟨k+1,ab,bf,HN.o,sk.o.trans dn⟩
    case measure=>simp[intOf];omega
   ·have uO:=O (U2 dL.o nv HAN.o);have am9:=O (dn.keep tu.o id);have hub:base<=u1.heap.size:=by have:=dn.size;have:=h1.lt;have:=cN.size;omega
    have fy:=O (ug base r g u1 hub (HR.o.mono (fun _ _ h=>h.dt dn)));rw[<-HX.o]at fy;have c1b:=O (dn.keep c1a.o id);have lB:=O (oQ.trans (sk.o.trans dn));clear nv HSM;go_wp2_with (first|((with_reducible refine dv 26 ?_);refine aJ rfl 133 (.tmp 11) rfl wr.heap.size rfl _ x.toArray (0,0) _ am9.o underlying133 rfl (by rw[ba];exact Fo.o) ?_)|fail)
    refine fy.o.mono ?_;intro e w3 Mu;obtain⟨r3,rfl,rh,qw,ik⟩:=Mu;have b3:=O (ik.keep c1b.o id);have Bw:(prog.info? 133).map (·.size)=some r3.cells.toArray.size:=af;have ij:=lB.o.trans ik;obtain⟨y,hy⟩:∃y,y=r3.cells:=⟨_,rfl⟩;have HY:=O hy;rw[<-hy]at Bw qw ⊢;have D9:=O (bU qw);have ET:=O (show fc.size=y.toArray.size by rw[hy];rfl);clear hy fy
    go_wp2_with (first|((with_reducible refine cP 133 ?_);refine aF rfl 133 (.tmp 8) (.tmp 27) rfl (w.heap.size+1) y.toArray rfl rfl _ fc b3.o Bw ET.o D9.o ?_)|fail)
    have rA:rL base w3 (one (w.heap.size+1)):=by
     rintro j rfl hj;exact⟨ab,fun c f e=>by rw[b3.o]at e;cases e⟩
    have kx:Fr (one (w.heap.size+1)) w3 (w3.setRow (w.heap.size+1) y.toArray):=(ae (one (w.heap.size+1)) w3).setRow (fun _=>rfl) _;refine aR (results_cell_tmp bw _ _ (w.heap.size+1) 133 y.toArray (0,0) _ rfl (aY w3 (w.heap.size+1) _ _ _ _ b3.o) underlying133 rfl Bw) rfl ?_;have Dk:∀u∈r3.cells,u.oneCell'=true:=by rw[<-HY.o];exact qw
    rw[HY.o]at *
    refine⟨ij.setRow (fun h=>absurd h ab) _,?_⟩;rw[uO.o];exact⟨r3,rfl,rh.mono (fun _ _ h=>h.fr kx rA),Dk⟩
  ·have qp:¬(k:Int)<(gs.length:Int):=ab;have uO:=O (QT (p:=mP o proxy aP) (l:=gs) (by have h:=HAN.o;rwa [aD ab]at h));have HF:=O (oQ.trans cN);go_wp2_with (first|((with_reducible refine cP 133 ?_);refine aF rfl 133 (.tmp 8) (.tmp 29) rfl (w.heap.size+1) fc rfl rfl _ fc c1.o af rfl xT ?_)|fail)
   refine aR (results_cell_tmp bw _ _ (w.heap.size+1) 133 fc (0,0) _ rfl (aY wr (w.heap.size+1) _ _ _ _ c1.o) underlying133 rfl af) rfl ?_;refine⟨HF.o.setRow (fun h=>absurd h ab) _,?_⟩;rw[uO.o];rfl
theorem Hg(base:Nat)(w:World)(b:Nat)(v:Value)(ps:List en)(h:eM base w b v ps)(hlen:ps.length<1000000) :
  aC 40 #[.pointer (some ⟨b,0,none⟩)] w fun e w'=>∃b' v',e=.returned (.pointer (some ⟨b',0,none⟩))/\eM w.heap.size w' b' v' ps/\Fr aW w w':=by
 have HL:=O (G2 base w b v ps h hlen);clear h;go_enter func40,ntmps40;go_wp2_with fail
 refine HL.o.mono ?_;rintro e u⟨v',rfl,ho,hf⟩;have iv:Fr aW u (u.alloc (.cells #[v'] 121)):=(ae aW u).alloc _;have HR:=O (show eM w.heap.size (u.alloc (.cells #[v'] 121)) u.heap.size v' ps from⟨hf.size,aB _ _,ho.fr iv (fun _ _ h=>h)⟩);have HF:=O (hf.trans iv);obtain⟨a',c',ub⟩:=ho.form;rw[aj]at ub;subst ub;clear ho HL hf iv;go_wp2;go_ret;exact⟨_,_,rfl,HR.o,HF.o⟩
