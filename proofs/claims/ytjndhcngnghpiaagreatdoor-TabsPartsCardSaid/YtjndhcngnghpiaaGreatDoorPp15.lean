/- Lemmas for the law's walk. -/
import Derived.Test.YtjndhcngnghpiaaGreatDoorPp14
import Derived.Test.YtjndhcngnghpiaaGreatDoorPp24
set_option maxRecDepth 100000
set_option maxHeartbeats 16000000
set_option linter.unusedSimpArgs false
namespace Go.Proofs.YtjndhcngnghpiaaGreatDoor
open Go.Proofs.Tryz
open Go.RowKit
variable {M fuel base ch B:Nat} {ps:List jn} {l:List mW} {gs:List (aU bG)} {cs:a_} {v:dn} {p q:eD} {w:World} {o:jx} {hs:List gT} {n:Int} {t:TypeId} {ah:fi}
theorem Kj(base:Nat)(w:World)(b:Nat)(v:Value)(ps:List ep)(r:fW Value)(hs:List gT)(now:Int)(h:eP base w b v ps)(hlen:ps.length<1000000)(hr:ot w r.ef hs)(hz:Fc r hs) :
  aE 45 #[.pointer (some ⟨b,0,none⟩),.agg r.cells.toArray,.int .i64 now] w fun e w'=>e=.returned (.bool (mh ps (r.dX hs) now))/\Fr aX w w':=by
 have gy:=O (show mh ps (r.dX hs) now=(!(r.dX hs).needs||(r.dX hs).mO (iP ps (r.dX hs) now))from rfl);generalize mh ps (r.dX hs) now=res at gy ⊢;obtain⟨w1,oM⟩:∃w1,w1=w.alloc (.cells r.cells.toArray 29):=⟨_,rfl⟩;have dw:Fr aX w w1:=by rw[oM];exact(ae _ _).alloc _
 have l_:w1.heap[w.heap.size]?=some (.cells r.cells.toArray 29 (0,0)):=by rw[oM];exact aC _ _
 have HN:=O (show∀U,Fr aX w1 U->aE 83 #[.agg r.cells.toArray] U fun e w'=>e=.returned (.bool (r.dX hs).needs)/\Fr aX U w' from fun U hU=>PL r hs U (bM hr (dw.trans hU)) hz)
 have Rp:=O (show∀U,Fr aX w1 U->aE 85 #[.pointer (some ⟨b,0,none⟩),.agg r.cells.toArray,.int .i64 now] U fun e w'=>∃v',e=.returned v'/\OwnRows U.heap.size 137 12 w' v' ((iP ps (r.dX hs) now).map ep.cells)/\Fr aX U w' from fun U hU=>YB base U b v ps r hs now (h.dx (dw.trans hU)) hlen)
 have wL:=O (show∀U,Fr aX w1 U->∀lv,uB U lv (iP ps (r.dX hs) now)->aE 84 #[.agg r.cells.toArray,lv] U fun e w'=>e=.returned (.bool ((r.dX hs).mO (iP ps (r.dX hs) now)))/\Fr aX U w' from fun U hU lv hlv=>xQ r hs lv _ U (bM hr (dw.trans hU)) hlv hz);obtain⟨ah,ch,gu⟩:=dR hr;rw[aj]at gu
 have ui:r.cells=[.int .i64 r.part,.bool r.cG.aD,.string r.cG.host,.int .i64 r.cG.port,.bool r.o.aD,.string r.o.host,.int .i64 r.o.port,.string r.path,.string r.query,.string r.method,.slice ah hs.length ch,.bool r.fq,.string r.body]:=by unfold fW.cells;rw[gu]
 have HC:=O (show∀U,Fr aX w1 U->(U.cell? ⟨w.heap.size,0,none⟩=some (.int .i64 r.part)/\U.cell? ⟨w.heap.size,1,none⟩=some (.bool r.cG.aD)/\U.cell? ⟨w.heap.size,2,none⟩=some (.string r.cG.host)/\U.cell? ⟨w.heap.size,3,none⟩=some (.int .i64 r.cG.port)/\U.cell? ⟨w.heap.size,4,none⟩=some (.bool r.o.aD)/\U.cell? ⟨w.heap.size,5,none⟩=some (.string r.o.host)/\U.cell? ⟨w.heap.size,6,none⟩=some (.int .i64 r.o.port)/\U.cell? ⟨w.heap.size,7,none⟩=some (.string r.path)/\U.cell? ⟨w.heap.size,8,none⟩=some (.string r.query)/\U.cell? ⟨w.heap.size,9,none⟩=some (.string r.method)/\U.cell? ⟨w.heap.size,10,none⟩=some (.slice ah hs.length ch)/\U.cell? ⟨w.heap.size,11,none⟩=some (.bool r.fq)/\U.cell? ⟨w.heap.size,12,none⟩=some (.string r.body))from fun U hU=>by
  have j:=hU.keep l_ id;rw[ui]at j;simp[World.cell?,j])
 rw[ui]at HN Rp wL oM ⊢;have lA:=O dw;have hhw:=oM;clear h hr hz dw l_ ui gu;cases hn:(r.dX hs).needs
 ·have HR:=O (show res=true by rw[gy.o,hn];rfl);rw[hn]at HN;clear hn gy Rp wL hhw;go_enter func45,ntmps45;go_wp2_with fail
  rw[<-oM];clear oM
  refine wp_region_held_drew (S:=(fun U=>U.cell? ⟨w.heap.size,0,none⟩=some (.int .i64 r.part)/\U.cell? ⟨w.heap.size,1,none⟩=some (.bool r.cG.aD)/\U.cell? ⟨w.heap.size,2,none⟩=some (.string r.cG.host)/\U.cell? ⟨w.heap.size,3,none⟩=some (.int .i64 r.cG.port)/\U.cell? ⟨w.heap.size,4,none⟩=some (.bool r.o.aD)/\U.cell? ⟨w.heap.size,5,none⟩=some (.string r.o.host)/\U.cell? ⟨w.heap.size,6,none⟩=some (.int .i64 r.o.port)/\U.cell? ⟨w.heap.size,7,none⟩=some (.string r.path)/\U.cell? ⟨w.heap.size,8,none⟩=some (.string r.query)/\U.cell? ⟨w.heap.size,9,none⟩=some (.string r.method)/\U.cell? ⟨w.heap.size,10,none⟩=some (.slice ah hs.length ch)/\U.cell? ⟨w.heap.size,11,none⟩=some (.bool r.fq)/\U.cell? ⟨w.heap.size,12,none⟩=some (.string r.body))) af (HC.o _ (ae aX w1).drew) ?_
  intro xg;refine aP 0 7 rfl ?_;refine eE 1 rfl fun K hK=>?_;go_simp;refine(HN.o _ (ae aX w1).drew).mono ?_;rintro e v1⟨rfl,Hd⟩;have fR:=O (show Fr aX w1 v1 from((ae aX w1).drew).trans Hd);refine hK.out _ _ (HC.o _ fR.o) ?_;intro wM;clear hK xg Hd K
  try simp only[Act.put,sA,sB,sC]
  refine aP 2 9 rfl ?_;refine aP 3 10 rfl ?_;refine Al 4 11 rfl ?_
  try simp only[Act.put,sA,sB,sC]
  refine Al 5 12 rfl ?_
  try simp only[Act.put,sA,sB,sC]
  refine Al 6 13 rfl ?_
  try simp only[Act.put,sA,sB,sC]
  refine Al 7 14 rfl ?_
  try simp only[Act.put,sA,sB,sC]
  refine Al 8 15 rfl ?_
  try simp only[Act.put,sA,sB,sC]
  refine Al 9 16 rfl ?_
  try simp only[Act.put,sA,sB,sC]
  refine aP 10 17 rfl ?_;refine aP 11 6 rfl ?_;refine wpAnyH_done af ?_ _;go_wp2;go_ret;exact⟨by rw[HR.o];rfl,lA.o.trans fR.o⟩
 ·have HR:=O (show res=(r.dX hs).mO (iP ps (r.dX hs) now)by rw[gy.o,hn];rfl);rw[hn]at HN;generalize (r.dX hs).mO (iP ps (r.dX hs) now)=cv at *
  generalize iP ps (r.dX hs) now=fs at *
  clear hn gy hhw;go_enter func45,ntmps45;go_wp2_with fail
  rw[<-oM];clear oM
  go_region_held3 (fun U=>Fr aX w1 U/\U.cell? ⟨w.heap.size,0,none⟩=some (.int .i64 r.part)/\U.cell? ⟨w.heap.size,1,none⟩=some (.bool r.cG.aD)/\U.cell? ⟨w.heap.size,2,none⟩=some (.string r.cG.host)/\U.cell? ⟨w.heap.size,3,none⟩=some (.int .i64 r.cG.port)/\U.cell? ⟨w.heap.size,4,none⟩=some (.bool r.o.aD)/\U.cell? ⟨w.heap.size,5,none⟩=some (.string r.o.host)/\U.cell? ⟨w.heap.size,6,none⟩=some (.int .i64 r.o.port)/\U.cell? ⟨w.heap.size,7,none⟩=some (.string r.path)/\U.cell? ⟨w.heap.size,8,none⟩=some (.string r.query)/\U.cell? ⟨w.heap.size,9,none⟩=some (.string r.method)/\U.cell? ⟨w.heap.size,10,none⟩=some (.slice ah hs.length ch)/\U.cell? ⟨w.heap.size,11,none⟩=some (.bool r.fq)/\U.cell? ⟨w.heap.size,12,none⟩=some (.string r.body)) ((refine(fun hU=>⟨hU,HC.o _ hU⟩) ?_;repeat(first|exact ae _ _|assumption|apply bq|apply aA|refine bF ?_ jR)))
   ((first
    |(go_at_call 83;refine(HN.o _ (by repeat(first|exact ae _ _|assumption|apply aA|apply bq|refine bF ?_ jR))).mono ?_;rintro e u1 ⟨rfl,uV⟩)
    |(go_at_call 85;refine(Rp.o _ (by repeat(first|exact ae _ _|assumption|apply aA|apply bq|refine bF ?_ jR))).mono ?_;rintro e u2 ⟨fv,rfl,Jw,nP⟩)
    |(go_at_call 84;refine(wL.o _ (by repeat(first|exact ae _ _|assumption|apply aA|apply bq|refine bF ?_ jR)) _ (bM Jw.at (by repeat(first|exact ae _ _|assumption|apply aA|apply bq|refine bF ?_ jR)))).mono ?_;rintro e u3 ⟨rfl,BH⟩)))
  have fR:=O (show Fr aX w1 u3 from by repeat(first|exact ae _ _|assumption|apply aA|apply bq|refine bF ?_ jR));clear uV nP BH;go_wp2;go_ret;exact⟨by rw[HR.o];rfl,lA.o.trans fR.o⟩
def Fg(a:fX bG):Prop:=a.aO.size<=3000/\a.bC.size<=3000/\a.cj.size<=3000/\a.dom.length<=3001
def TS(g:aU bG):Prop:=Fg g.a/\g.user.size<=5000/\g.pass.size<=5000
theorem GB(h:wm M ps){n v:Bs}(e:ke ps n=some v):v.length<=M:=by
 unfold ke at e;cases hf:ps.find? (fun p=>dH p.1 n)with
 |none=>rw[hf]at e;cases e
 |some p =>
  rw[hf]at e;obtain rfl:p.2=v:=by simpa using e
  exact(h p (List.mem_of_find?_eq_some hf)).2
theorem Od(h:wm M ps)(n:Bs):((ke ps n).getD []).length<=M:=by
 cases e:ke ps n with
 |none=>exact aW _
 |some v=>exact GB h e
theorem AR(c:UInt8):∀l:Bs,(dY c l).length<=l.length+1
 |[]=>by simp[dY]
 |x :: l=>by
  have ih:=AR c l;by_cases hx:x=c
  ·subst hx;rw[qX];simp;exact ih
  ·cases e:dY c l with
   |nil=>exact absurd e (vZ c l)
   |cons p ps =>
    rw[nL hx e];rw[e]at ih;simp at ih ⊢; omega
theorem PX(d:Bs):(FT d).length<=d.length+1:=by
 unfold FT;rw[aj];exact aH (bR _ _) (AR 32 d)
theorem PY{x:mW}{a:fX bG}(hx:x.Le 3000)(h:mN x=some a):Fg a:=by
 have hp:=hx.yx;unfold mN at h;split at h
 ·cases h
 rename_i aO hr;have h1:=GB hp hr;split at h
 ·cases h;exact⟨h1,aW _,aW _,aW _⟩
 split at h
 ·cases h
 split at h
 ·cases h
 split at h
 ·cases h
 rename_i bC hn;have h2:=GB hp hn;split at h
 ·cases h
 ·cases h;refine⟨h1,h2,Od hp lO,?_⟩;show((FT ((ke x.params qz).getD [])).map bA).length<=3001;rw[aj];have:=PX ((ke x.params qz).getD []);have:=Od hp qz;omega
theorem TT:Fg Nu:=⟨aW _,aW _,aW _,aW _⟩
theorem TU(h:∀x∈l,x.Le 3000):Fg (iY l):=by
 unfold iY;rcases Ob l Nu with e|⟨x,hx,e⟩
 ·rw[e];exact TT
 ·exact PY (h x hx) e
theorem Oe{r:Bs}(h:ma r=.ok l):Fg (iY l):=by
 refine TU (fun x hx=>?_);have h1:=AP h x hx;have h2:=AQ h;exact⟨aH h1.scheme h2,aH h1.token h2,fun p hp=>⟨aH (h1.yx p hp).1 h2,aH (h1.yx p hp).2 h2⟩⟩
theorem JT{g x:aU bG}(h:x∈uT gs g):x∈gs\/x=g:=by
 unfold uT at h;have h:=eB h;rcases bO.1 h with h|h
 ·exact Or.inl (eY.1 h).1
 ·exact Or.inr (dh.1 h)
theorem JU{ws:List (bL bG)}{m x:bL bG}(h:x∈yZ ws m):x∈ws\/x=m:=by
 unfold yZ at h;have h:=eB h;rcases bO.1 h with h|h
 ·exact Or.inl ((qT _ _ _).subset h)
 ·exact Or.inr (dh.1 h)
theorem Ab{o:gz}{proxy:Bool}:∀ {ws:List (bL bG)} {g:bL bG},(lR o proxy ws).2=some g->g∈ws
 |[],_,h=>by cases h
 |x :: l,g,h=>by
  rw[lR]at h;cases hx:zX o proxy x
  ·rw[hx]at h;simp only[cJ,eT]at h;exact bV _ (Ab h)
  ·rw[hx]at h;simp only[d_]at h;cases h;exact cY
theorem JV{o:gz}{proxy:Bool}{path:ai}{P:aU bG->Prop}(hP:∀g,P g->P g.used)(h:∀x∈gs,P x) :
  (∀x∈(uU gs o proxy path).1,P x)/\∀g,(uU gs o proxy path).2=.ok g->P g:=by
 unfold uU;split
 ·split
  ·rename_i g hg;have hl:∀x∈gs.take (tz gs o proxy path).toNat++gs.drop ((tz gs o proxy path).toNat+1),P x:=fun x hx=>by
    rcases bO.1 hx with hx|hx
    ·exact h x (eL hx)
    ·exact h x (eB hx)
   have hg':P g.used:=hP g (h g (cL hg));simp only;split
   ·exact⟨hl,fun g h=>by cases h⟩
   ·refine⟨fun x hx=>?_,fun g h=>by cases h;exact hg'⟩;rcases bO.1 hx with hx|hx
    ·exact hl x hx
    ·rw[dh]at hx;rw[hx];exact hg'
  ·exact⟨h,fun g h=>by cases h⟩
 ·exact⟨h,fun g h=>by cases h⟩
structure rC (p:eD):Prop where
 bZ:∀g∈p.bZ,TS g
 waits:∀x∈p.waits,Fg x.a
theorem rC.no:rC xR:=⟨fun _ h=>(by cases h),fun _ h=>(by cases h)⟩
theorem rC.wk{p:eD}(h:rC p)(now:Int)(o:jx)(hu:o.user.size<=5000)(hp:o.pass.size<=5000):rC (wk p now o).1:=by
 obtain⟨hg,hw⟩:=h;unfold Go.Proofs.YtjndhcngnghpiaaGreatDoor.wk;by_cases h1:o.what=1
 ·rw[aB h1];have hU:=(JV (gs:=p.bZ) (o:=o.o) (proxy:=o.proxy) (path:=o.path) (P:=TS) (fun _ h=>h) hg).1;unfold lq;split
  ·rename_i gs e he;rw[he]at hU;exact⟨hU,hw⟩
  ·rename_i gs g he;rw[he]at hU;split
   ·exact⟨fun x hx=>hU x (eY.1 hx).1,hw⟩
   ·exact⟨hU,hw⟩
 rw[ay h1];by_cases h2:o.what=2
 ·rw[aB h2];unfold jv;split
  ·exact⟨hg,hw⟩
  ·rename_i l hl;have hb:=Oe hl;split
   ·split
    ·rename_i g hs;refine⟨fun x hx=>?_,hw⟩;rcases JT hx with hx|rfl
     ·exact hg x hx
     ·unfold C6 at hs;split at hs
      ·rename_i g' hg';split at hs
       ·cases hs;have:=hg g' (List.mem_of_find?_eq_some hg');exact⟨hb,this.2⟩
       ·cases hs
      ·cases hs
    ·refine⟨fun x hx=>hg x (eY.1 hx).1,fun x hx=>?_⟩;rcases JU hx with hx|rfl
     ·exact hw x hx
     ·exact hb
   ·exact⟨hg,hw⟩
 rw[ay h2];by_cases h3:o.what=3
 ·rw[aB h3];have hs:=qT o.o o.proxy p.waits;unfold kT;split
  ·rename_i ws e;rw[e]at hs;exact⟨hg,fun x hx=>hw x (hs.subset hx)⟩
  ·rename_i ws x e;have hx:=Ab (o:=o.o) (proxy:=o.proxy) (ws:=p.waits) (g:=x) (by rw[e]);rw[e]at hs;refine⟨fun y hy=>?_,fun x hx=>hw x (hs.subset hx)⟩;rcases JT hy with hy|rfl
   ·exact hg y hy
   ·exact⟨hw x hx,hu,hp⟩
 rw[ay h3];by_cases h4:o.what=4
 ·rw[aB h4];exact⟨hg,hw⟩
 rw[ay h4];by_cases h5:o.what=5
 ·rw[aB h5];unfold kU;split
  ·exact⟨hg,hw⟩
  ·split
   ·exact⟨hg,hw⟩
   ·exact⟨hg,hw⟩
 rw[ay h5];by_cases h6:o.what=6
 ·rw[aB h6];exact⟨hg,hw⟩
 rw[ay h6];by_cases h7:o.what=7
 ·rw[aB h7];unfold oD;split
  ·exact⟨hg,hw⟩
  ·exact⟨hg,hw⟩
 rw[ay h7];unfold rB;split
 ·exact rC.no
 ·have Sm:rC (vN p o.o):=⟨fun x hx=>hg x (eY.1 hx).1,fun x hx=>hw x (eY.1 hx).1⟩;split
  ·exact⟨Sm.bZ,Sm.waits⟩
  ·exact Sm
def Db(w:ed):Prop:=∀k,rC (w.part k)
theorem Db.new:Db Gw:=fun _=>rC.no
theorem Db.nj{w:ed}(h:Db w)(o:jx)(hu:o.user.size<=5000)(hp:o.pass.size<=5000):Db (nj w o).1:=by
 cases hr:o.right
 ·rw[Gy hr];exact h
 ·by_cases hw:o.what=10
  ·rw[C8 hr hw];split
   ·exact h
   ·exact h
  ·rw[C7 hr hw];intro k;by_cases hk:k=o.part.toNat
   ·subst hk;rw[ed.Mi];exact(h _).wk _ _ hu hp
   ·rw[ed.Gx _ _ hk];exact h k
theorem kV(o:jI)(hs:List gT)(w:World)(h:gM w o hs) :
  aE 35 #[.agg o.cells.toArray] w fun e w'=>e=.returned (.bool (o.dX hs).right)/\Fr aX w w':=by
 have gy:=O (show(o.dX hs).right=(decide (1<=o.what)&&(decide (o.what<=10)&&(rD o.aF.part o.aF.method hs&&(nF o.aF.cG&&(nF o.aF.o&&(decide (o.aF.path.size<=200)&&(o.aF.path.data.toList.head?==some 47&&decide (o.text.size<=3000))))))))from rfl);generalize (o.dX hs).right=res at gy ⊢;obtain⟨ah,ch,gu⟩:=dR h.ef;rw[aj]at gu
 have KS:o.cells=[.int .i64 o.what,.int .i64 o.aF.part,.bool o.aF.cG.aD,.string o.aF.cG.host,.int .i64 o.aF.cG.port,.bool o.aF.o.aD,.string o.aF.o.host,.int .i64 o.aF.o.port,.string o.aF.path,.string o.aF.query,.string o.aF.method,.slice ah hs.length ch,.bool o.aF.fq,.string o.aF.body,.bool o.proxy,.string o.text,.string o.user,.string o.pass,.string o.bz,.int .i64 o.cert,.bool o.all,.int .i64 o.n]:=by unfold jI.cells fW.cells;rw[gu];rfl
 have ui:o.aF.cells=[.int .i64 o.aF.part,.bool o.aF.cG.aD,.string o.aF.cG.host,.int .i64 o.aF.cG.port,.bool o.aF.o.aD,.string o.aF.o.host,.int .i64 o.aF.o.port,.string o.aF.path,.string o.aF.query,.string o.aF.method,.slice ah hs.length ch,.bool o.aF.fq,.string o.aF.body]:=by unfold fW.cells;rw[gu]
 obtain⟨w2,eC⟩:∃w2,w2=(w.alloc (.cells #[.int .i64 o.what,.int .i64 o.aF.part,.bool o.aF.cG.aD,.string o.aF.cG.host,.int .i64 o.aF.cG.port,.bool o.aF.o.aD,.string o.aF.o.host,.int .i64 o.aF.o.port,.string o.aF.path,.string o.aF.query,.string o.aF.method,.slice ah hs.length ch,.bool o.aF.fq,.string o.aF.body,.bool o.proxy,.string o.text,.string o.user,.string o.pass,.string o.bz,.int .i64 o.cert,.bool o.all,.int .i64 o.n] 33)).alloc (.cells #[.int .i64 o.aF.part,.bool o.aF.cG.aD,.string o.aF.cG.host,.int .i64 o.aF.cG.port,.bool o.aF.o.aD,.string o.aF.o.host,.int .i64 o.aF.o.port,.string o.aF.path,.string o.aF.query,.string o.aF.method,.slice ah hs.length ch,.bool o.aF.fq,.string o.aF.body] 29):=⟨_,rfl⟩
 have dF:Fr aX w w2:=by rw[eC];exact((ae aX w).alloc _).alloc _
 have k1:w2.heap[w.heap.size]?=some (.cells #[.int .i64 o.what,.int .i64 o.aF.part,.bool o.aF.cG.aD,.string o.aF.cG.host,.int .i64 o.aF.cG.port,.bool o.aF.o.aD,.string o.aF.o.host,.int .i64 o.aF.o.port,.string o.aF.path,.string o.aF.query,.string o.aF.method,.slice ah hs.length ch,.bool o.aF.fq,.string o.aF.body,.bool o.proxy,.string o.text,.string o.user,.string o.pass,.string o.bz,.int .i64 o.cert,.bool o.all,.int .i64 o.n] 33 (0,0)):=by rw[eC];exact((ae aX _).alloc _).keep (aC _ _) id
 have k2:w2.heap[w.heap.size+1]?=some (.cells #[.int .i64 o.aF.part,.bool o.aF.cG.aD,.string o.aF.cG.host,.int .i64 o.aF.cG.port,.bool o.aF.o.aD,.string o.aF.o.host,.int .i64 o.aF.o.port,.string o.aF.path,.string o.aF.query,.string o.aF.method,.slice ah hs.length ch,.bool o.aF.fq,.string o.aF.body] 29 (0,0)):=by
  have h:=aC (w.alloc (.cells #[.int .i64 o.what,.int .i64 o.aF.part,.bool o.aF.cG.aD,.string o.aF.cG.host,.int .i64 o.aF.cG.port,.bool o.aF.o.aD,.string o.aF.o.host,.int .i64 o.aF.o.port,.string o.aF.path,.string o.aF.query,.string o.aF.method,.slice ah hs.length ch,.bool o.aF.fq,.string o.aF.body,.bool o.proxy,.string o.text,.string o.user,.string o.pass,.string o.bz,.int .i64 o.cert,.bool o.all,.int .i64 o.n] 33)) (.cells #[.int .i64 o.aF.part,.bool o.aF.cG.aD,.string o.aF.cG.host,.int .i64 o.aF.cG.port,.bool o.aF.o.aD,.string o.aF.o.host,.int .i64 o.aF.o.port,.string o.aF.path,.string o.aF.query,.string o.aF.method,.slice ah hs.length ch,.bool o.aF.fq,.string o.aF.body] 29)
  rw[bK]at h;rw[eC];exact h
 have HC:=O (show∀U,Fr aX w2 U->U.cell? ⟨w.heap.size,0,none⟩=some (.int .i64 o.what)/\U.cell? ⟨w.heap.size,15,none⟩=some (.string o.text)/\U.cell? ⟨w.heap.size+1,0,none⟩=some (.int .i64 o.aF.part)/\U.cell? ⟨w.heap.size+1,1,none⟩=some (.bool o.aF.cG.aD)/\U.cell? ⟨w.heap.size+1,2,none⟩=some (.string o.aF.cG.host)/\U.cell? ⟨w.heap.size+1,3,none⟩=some (.int .i64 o.aF.cG.port)/\U.cell? ⟨w.heap.size+1,4,none⟩=some (.bool o.aF.o.aD)/\U.cell? ⟨w.heap.size+1,5,none⟩=some (.string o.aF.o.host)/\U.cell? ⟨w.heap.size+1,6,none⟩=some (.int .i64 o.aF.o.port)/\U.cell? ⟨w.heap.size+1,7,none⟩=some (.string o.aF.path)/\U.cell? ⟨w.heap.size+1,8,none⟩=some (.string o.aF.query)/\U.cell? ⟨w.heap.size+1,9,none⟩=some (.string o.aF.method)/\U.cell? ⟨w.heap.size+1,10,none⟩=some (.slice ah hs.length ch)/\U.cell? ⟨w.heap.size+1,11,none⟩=some (.bool o.aF.fq)/\U.cell? ⟨w.heap.size+1,12,none⟩=some (.string o.aF.body)from fun U hU=>by
  have j1:=hU.keep k1 id;have j2:=hU.keep k2 id;simp[World.cell?,j1,j2])
 have C1:=O (show∀U,Fr aX w2 U->aE 64 #[.agg #[.int .i64 o.aF.part,.bool o.aF.cG.aD,.string o.aF.cG.host,.int .i64 o.aF.cG.port,.bool o.aF.o.aD,.string o.aF.o.host,.int .i64 o.aF.o.port,.string o.aF.path,.string o.aF.query,.string o.aF.method,.slice ah hs.length ch,.bool o.aF.fq,.string o.aF.body]] U fun e w'=>e=.returned (.bool (rD o.aF.part o.aF.method hs))/\Fr aX U w' from fun U hU=>by
  have:=Mo o.aF hs U (bM h.ef (dF.trans hU)) h.aF;rw[ui]at this;exact this)
 have C2:=O (show∀U,aE 65 #[.agg #[.bool o.aF.cG.aD,.string o.aF.cG.host,.int .i64 o.aF.cG.port]] U fun e w'=>e=.returned (.bool (nF o.aF.cG))/\Fr aX U w' from fun U=>ES o.aF.cG U h.cG);have C3:=O (show∀U,aE 65 #[.agg #[.bool o.aF.o.aD,.string o.aF.o.host,.int .i64 o.aF.o.port]] U fun e w'=>e=.returned (.bool (nF o.aF.o))/\Fr aX U w' from fun U=>ES o.aF.o U h.ori);have hpz:=h.path;have VM:=h.text
 have ow:=O eC;have fR:=O dF;rw[KS];clear h dF k1 k2 KS ui gu;obtain⟨a0,jb,b0,b1,b2,b3,b4,b5,b6,b7,b8,b9,XY,XZ,X0⟩:=HC.o w2 (ae _ _);rw[eC]at a0 jb b0 b1 b2 b3 b4 b5 b6 b7 b8 b9 XY XZ X0;clear eC;by_cases h1:o.what>=1
 rotate_left
 ·have HR:=O (show res=false by rw[gy.o,bf (show¬1<=o.what from ab)];rfl);clear gy;go_enter func35,ntmps35;go_wp2;go_ret;exact⟨by rw[HR.o];rfl,by rw[<-ow.o];exact fR.o⟩
 by_cases h2:o.what<=10
 rotate_left
 ·have HR:=O (show res=false by rw[gy.o,bf h2,kl,Bool.and_false]);clear gy;go_enter func35,ntmps35;go_wp2;go_ret;exact⟨by rw[HR.o];rfl,by rw[<-ow.o];exact fR.o⟩
 have Mf:=O (show res=(rD o.aF.part o.aF.method hs&&(nF o.aF.cG&&(nF o.aF.o&&(decide (o.aF.path.size<=200)&&(o.aF.path.data.toList.head?==some 47&&decide (o.text.size<=3000))))))by rw[gy.o,bD h2,bD (show 1<=o.what from ab)];rfl);clear gy;go_enter func35,ntmps35;go_wp2_with fail
 rw[<-ow.o];refine(C1.o w2 (ae _ _)).mono ?_;rintro e u1⟨rfl,uV⟩;cases e1:rD o.aF.part o.aF.method hs
 ·have HR:=O (show res=false by rw[Mf.o,e1];rfl);clear Mf e1;go_wp2;go_ret;exact⟨by rw[HR.o];rfl,fR.o.trans uV⟩
 have oN:=O (show res=(nF o.aF.cG&&(nF o.aF.o&&(decide (o.aF.path.size<=200)&&(o.aF.path.data.toList.head?==some 47&&decide (o.text.size<=3000)))))by rw[Mf.o,e1];rfl);have KY:=O uV;clear Mf e1 uV a0 jb b0 b1 b2 b3 b4 b5 b6 b7 b8 b9 XY XZ X0;obtain⟨a0,jb,b0,b1,b2,b3,b4,b5,b6,b7,b8,b9,XY,XZ,X0⟩:=HC.o u1 KY.o;go_wp2_with fail
 refine(C2.o u1).mono ?_;rintro e u2⟨rfl,nP⟩;cases e1:nF o.aF.cG
 ·have HR:=O (show res=false by rw[oN.o,e1];rfl);clear oN e1;go_wp2;go_ret;exact⟨by rw[HR.o];rfl,fR.o.trans (KY.o.trans nP)⟩
 have NG:=O (show res=(nF o.aF.o&&(decide (o.aF.path.size<=200)&&(o.aF.path.data.toList.head?==some 47&&decide (o.text.size<=3000))))by rw[oN.o,e1];rfl);have uk:=O (KY.o.trans nP);clear oN e1 nP a0 jb b0 b1 b2 b3 b4 b5 b6 b7 b8 b9 XY XZ X0;obtain⟨a0,jb,b0,b1,b2,b3,b4,b5,b6,b7,b8,b9,XY,XZ,X0⟩:=HC.o u2 uk.o;go_wp2_with fail
 refine(C3.o u2).mono ?_;rintro e u3⟨rfl,BH⟩;cases e1:nF o.aF.o
 ·have HR:=O (show res=false by rw[NG.o,e1];rfl);clear NG e1;go_wp2;go_ret;exact⟨by rw[HR.o];rfl,fR.o.trans (uk.o.trans BH)⟩
 have TW:=O (show res=(decide (o.aF.path.size<=200)&&(o.aF.path.data.toList.head?==some 47&&decide (o.text.size<=3000)))by rw[NG.o,e1];rfl);have HU3:=O (uk.o.trans BH);clear NG e1 BH a0 jb b0 b1 b2 b3 b4 b5 b6 b7 b8 b9 XY XZ X0;obtain⟨a0,jb,b0,b1,b2,b3,b4,b5,b6,b7,b8,b9,XY,XZ,X0⟩:=HC.o u3 HU3.o;have HFZ:=O (fR.o.trans HU3.o);by_cases h3:(o.aF.path.size:Int)<=200
 rotate_left
 ·have HR:=O (show res=false by rw[TW.o,bf (show¬o.aF.path.size<=200 from ab)];rfl);clear TW;go_wp2;go_ret;exact⟨by rw[HR.o];rfl,HFZ.o⟩
 have Rq:=O (show res=(o.aF.path.data.toList.head?==some 47&&decide (o.text.size<=3000))by rw[TW.o,bD (show o.aF.path.size<=200 from ab)];rfl);clear TW;by_cases h4:(o.aF.path.size:Int)>0
 rotate_left
 ·have HR:=O (show res=false by
   have e:o.aF.path.data.toList=[]:=b_ (by have:o.aF.path.data.toList.length=o.aF.path.size:=by simp
                                           omega)
   rw[Rq.o,e];rfl)
  clear Rq;go_wp2;go_ret;exact⟨by rw[HR.o];rfl,HFZ.o⟩
 have hp0:0<o.aF.path.size:=ab;have agA:=byte_at o.aF.path 0 hp0;have hhd:o.aF.path.data.toList.head?=some o.aF.path[0]:=by rw[List.head?_eq_getElem?];exact agA
 have V2:=O (show res=(decide (o.aF.path[0]=47)&&decide (o.text.size<=3000))by
  rw[Rq.o,hhd];by_cases q:o.aF.path[0]=47
  ·rw[q];rfl
  ·rw[bf q,aL.2 (fun e=>q (jQ e))])
 clear Rq hhd agA;by_cases q:o.aF.path[0]=47
 rotate_left
 ·have HR:=O (show res=false by rw[V2.o,bf q];rfl);have q2:((o.aF.path[0].toNat:Int)==47)=false:=by
   rw[aL];intro e;exact q (iE.1 (by show o.aF.path[0].toNat=47;omega))
  clear V2;go_wp2;go_ret;exact⟨by rw[HR.o];rfl,HFZ.o⟩
 have HR:=O (show res=decide (o.text.size<=3000)by rw[V2.o,bD q];rfl);have q2:((o.aF.path[0].toNat:Int)==47)=true:=by rw[q];rfl
 clear V2 q;go_wp2;go_ret;exact⟨by show Ending.returned (.bool (decide ((o.text.size:Int)<=3000)))=_;exact fS (by rw[HR.o];exact decide_eq_decide.2 ⟨fun h=>ab,fun h=>ab⟩),HFZ.o⟩
def uu(c:Nat)(P F:eD):eD:=⟨if c.testBit 0 then F.bZ else P.bZ,if c.testBit 0 then F.waits else P.waits,if c.testBit 1 then F.book else P.book,if c.testBit 2 then F.eJ else P.eJ⟩
def lu(w f:ed)(part:Int)(c:Nat):ed :=
 if 0<=part/\part<4 then{part:=fun i=>if i=part.toNat then uu c (w.part i) (f.part i)else w.part i,now:=if c.testBit 3 then f.now else w.now}else w
open Go.ChangeShapes Go.WideShapes Go.ChangeAt Go.RowKit Go.Deep
variable {H : Type} {enc : TypeId × Value → H} {W : World}
structure rH (w:World) (o:jI) (hs:List gT):Prop where
 aF:Vm w o.aF hs
 text:o.text.size<=140737488351232
 user:o.user.size<=140737488351232
 pass:o.pass.size<=140737488351232
 bz:o.bz.size<=140737488351232
 what:(Lit.int .i64 o.what).wf=true
 cert:(Lit.int .i64 o.cert).wf=true
 n:(Lit.int .i64 o.n).wf=true
abbrev G_(w:World)(v:Value)(os:List (jI×List gT)):Prop:=ez 22 w v (os.map fun o=>o.1.cells)/\os.length<=140737488355328/\∀o∈os,rH w o.1 o.2
theorem Vo:prog.cellsOf 33=22:=af
theorem zx:prog.cellsOf 31=2:=af
theorem aip{α:Type}{l:List α}(h:l.length=22):∃a0 a1 a2 a3 a4 a5 a6 a7 a8 a9 jy jz a12 jw jA jb jJ jK jL jT a20 a21,l=[a0,a1,a2,a3,a4,a5,a6,a7,a8,a9,jy,jz,a12,jw,jA,jb,jJ,jK,jL,jT,a20,a21]:=by
 match l,h with
 |[a0,a1,a2,a3,a4,a5,a6,a7,a8,a9,jy,jz,a12,jw,jA,jb,jJ,jK,jL,jT,a20,a21],_=>exact⟨a0,a1,a2,a3,a4,a5,a6,a7,a8,a9,jy,jz,a12,jw,jA,jb,jJ,jK,jL,jT,a20,a21,rfl⟩
theorem Na{x:DataW H×List MemPlace}(h:DataW.trod enc prog W 0 (fun _=>true) true fuel 31 cs=some x) :
  ∃u p:ai,cs=[.string u,.string p]/\(oJ prog 31 x.1->u.size<=reachBytes/\p.size<=reachBytes):=by
 obtain⟨hl,n,hf⟩:=pz underlying31 h;rw[zx]at hl;obtain⟨c0,c1,rfl⟩:=aim hl;obtain⟨y0,h0,l0⟩:=hf 0 9 0 _ rfl iD;obtain⟨y1,h1,l1⟩:=hf 1 9 1 _ rfl iD;simp only[List.drop,List.take]at h0 h1;obtain⟨u,eu,wu⟩:=fk underlying9 h0;obtain⟨q,eq,wq⟩:=fk underlying9 h1;simp only[gK,jf]at eu eq;subst eu eq;exact⟨u,q,rfl,fun hL=>⟨wu (l0 hL),wq (l1 hL)⟩⟩
theorem Y0{x:DataW H×List MemPlace}(h:DataW.trod enc prog W 0 (fun _=>true) true fuel 33 cs=some x) :
  ∃b:jI×List gT,cs=b.1.cells/\cs.length=22/\(∀u∈cs,u.oneCell'=true)/\(oJ prog 33 x.1->rH W b.1 b.2):=by
 obtain⟨hl,n,hf⟩:=pz underlying33 h;rw[Vo]at hl;obtain⟨c0,c1,c2,c3,c4,c5,c6,c7,c8,c9,Gu,TB,ZY,c13,c14,c15,c16,c17,c18,c19,c20,c21,rfl⟩:=aip hl;obtain⟨y0,h0,l0⟩:=hf 0 3 0 _ rfl tI;obtain⟨y1,h1,l1⟩:=hf 1 29 1 _ rfl FF;obtain⟨y2,h2,l2⟩:=hf 2 4 14 _ rfl uy;obtain⟨y3,h3,l3⟩:=hf 3 9 15 _ rfl iD;obtain⟨y4,h4,l4⟩:=hf 4 31 16 _ rfl zx;obtain⟨y5,h5,l5⟩:=hf 5 9 18 _ rfl iD;obtain⟨y6,h6,l6⟩:=hf 6 3 19 _ rfl tI
 obtain⟨y7,h7,l7⟩:=hf 7 4 20 _ rfl uy;obtain⟨y8,h8,l8⟩:=hf 8 3 21 _ rfl tI;simp only[List.drop,List.take]at h0 h1 h2 h3 h4 h5 h6 h7 h8;obtain⟨b0,e0,w0⟩:=mB underlying3 h0;obtain⟨r,⟨e1,_⟩,_,o1,s1⟩:=Vn h1;obtain⟨b2,e2⟩:=lF underlying4 h2;obtain⟨b3,e3,w3⟩:=fk underlying9 h3;obtain⟨u4,p4,e4,s4⟩:=Na h4;obtain⟨b5,e5,w5⟩:=fk underlying9 h5;obtain⟨b6,e6,w6⟩:=mB underlying3 h6
 obtain⟨b7,e7⟩:=lF underlying4 h7;obtain⟨b8,e8,w8⟩:=mB underlying3 h8;rw[e1]at o1;unfold fW.cells at e1;simp only[gK,jf]at e0 e1 e2 e3 e4 e5 e6 e7 e8;obtain⟨rfl,rfl,rfl,rfl,rfl,rfl,rfl,rfl,rfl,rfl,rfl,rfl,rfl⟩:=e1;obtain⟨rfl,rfl⟩:=e4;subst e0 e2 e3 e5 e6 e7 e8;have ec:∀u∈(⟨b0,r.1,b2,b3,u4,p4,b5,b6,b7,b8⟩:jI).cells,u.oneCell'=true:=by
  intro u hu;unfold jI.cells at hu;rcases bE.1 hu with rfl|hu
  ·rfl
  rcases bO.1 hu with hu|hu
  ·exact o1 u hu
  ·simp only[bE,bU,dL]at hu;rcases hu with rfl|rfl|rfl|rfl|rfl|rfl|rfl|rfl<;>rfl
 refine⟨(⟨b0,r.1,b2,b3,u4,p4,b5,b6,b7,b8⟩,r.2),rfl,rfl,ec,fun hL=>?_⟩;have q4:=s4 (l4 hL);exact⟨s1 (l1 hL),w3 (l3 hL),q4.1,q4.2,w5 (l5 hL),w0,w6,w8⟩
instance:Inhabited (jI×List gT):=⟨(⟨0,⟨0,⟨false,.empty,0⟩,⟨false,.empty,0⟩,.empty,.empty,.empty,.nilIface,false,.empty⟩,false,.empty,.empty,.empty,.empty,0,false,0⟩,[])⟩
theorem DE{v:Value}{d:DataW H}{p:List MemPlace}(hv:Value.okWide prog W .any base 33 v)(h:DataW.Trod enc prog W 0 (fun _=>true) true 33 v d p)(hL:oJ prog 33 d) :
  ∃(o:jI) (hs:List gT),v=.agg o.cells.toArray/\rH W o hs:=by
 obtain⟨cs,rfl,_⟩:=okWide_struct underlying33 hv;obtain⟨fuel,hf⟩:=h;simp only[Value.cells]at hf;obtain⟨b,e,_,_,hs⟩:=Y0 hf;refine⟨b.1,b.2,?_,hs hL⟩
 congr 1
 apply Array.ext';rw[e]
theorem Vt(base:Nat)(w:World)(B:Nat)(pv:Nat->dn)(x:ed)(h:di base w B pv x) :
  aE 22 #[.pointer (some ⟨B,0,none⟩)] w fun e w'=>e=.returned (.int .i64 x.now)/\w'=w:=by
 have c:w.cell? ⟨B,12,none⟩=some (.int .i64 x.now):=by
  simp only[World.cell?,h.eK];rfl
 clear h;go_enter func22,ntmps22;go_wp2;go_ret;exact⟨rfl,rfl⟩
def mj(p:eD):Prop:=∀x∈p.waits,x.path.size<=5000
theorem mj.no:mj xR:=fun _ h=>by cases h
theorem mj.same(h:mj p)(e:q.waits=p.waits):mj q:=by unfold mj;rw[e];exact h
theorem mj.sub(h:mj p)(e:∀x∈q.waits,x∈p.waits):mj q:=fun x hx=>h x (e x hx)
theorem mj.wk{p:eD}(h:mj p)(now:Int)(o:jx)(hp:o.path.size<=5000):mj (wk p now o).1:=by
 unfold Go.Proofs.YtjndhcngnghpiaaGreatDoor.wk;by_cases h1:o.what=1
 ·rw[aB h1];unfold lq;split
  ·exact h.same rfl
  ·split
   ·exact h.same rfl
   ·exact h.same rfl
 rw[ay h1];by_cases h2:o.what=2
 ·rw[aB h2];unfold jv;split
  ·exact h
  ·split
   ·split
    ·exact h.same rfl
    ·intro x hx;rcases JU hx with hx|rfl
     ·exact h x hx
     ·exact hp
   ·exact h
 rw[ay h2];by_cases h3:o.what=3
 ·rw[aB h3];have hs:=qT o.o o.proxy p.waits;unfold kT;split
  ·rename_i ws e;rw[e]at hs;exact h.sub (fun x hx=>hs.subset hx)
  ·rename_i ws x e;rw[e]at hs;exact h.sub (fun x hx=>hs.subset hx)
 rw[ay h3];by_cases h4:o.what=4
 ·rw[aB h4];exact h
 rw[ay h4];by_cases h5:o.what=5
 ·rw[aB h5];unfold kU;split
  ·exact h
  ·split
   ·exact h.same rfl
   ·exact h.same rfl
 rw[ay h5];by_cases h6:o.what=6
 ·rw[aB h6];exact h
 rw[ay h6];by_cases h7:o.what=7
 ·rw[aB h7];unfold oD;split
  ·exact h
  ·exact h.same rfl
 rw[ay h7];unfold rB;split
 ·exact mj.no
 ·split
  ·exact h.sub (fun x hx=>(eY.1 hx).1)
  ·exact h.sub (fun x hx=>(eY.1 hx).1)
def Dc(w:ed):Prop:=∀i,mj (w.part i)
theorem Dc.new:Dc Gw:=fun _=>mj.no
theorem Dc.nj{w:ed}(h:Dc w)(o:jx)(hp:o.path.size<=5000):Dc (nj w o).1:=by
 unfold Go.Proofs.YtjndhcngnghpiaaGreatDoor.nj;split
 ·split
  ·split
   ·exact h
   ·exact h
  ·intro i;show mj ((w.set _ _).part i);unfold ed.set;simp only;split
   ·exact(h _).wk _ _ hp
   ·exact h i
 ·exact h
def bP:bW:= #[.int .i64 0,.string ⟨#[]⟩,.int .i64 0]
theorem gM.h_{o:jI}(h:gM w o hs):∃ah ch,o.aF.ef=.slice ah hs.length ch:=by
 obtain⟨a,c,e⟩:=dR h.ef;rw[aj]at e;exact⟨a,c,e⟩
section
variable {base : Nat} {w w' : World} {B o : Nat} {cs : List Value} {v : dn} {p : eD}
theorem eQ.fa(h:eQ base w v p){n:Nat}{old:bW}(hn:w.heap[n]?=some (.cells old t (0,0)))(ht:t≠118/\t≠133/\t≠129/\t≠121/\t≠137/\t≠105):¬v.jS n:=fun hf=>by
 obtain⟨c,t',e,h'⟩:=h.hZ hf;rw[hn]at e;cases e;obtain⟨h1,h2,h3,h4,h5,h6⟩:=ht;rcases h' with h|h|h|h|h|h
 ·exact h1 h
 ·exact h2 h
 ·exact h3 h
 ·exact h4 h
 ·exact h5 h
 ·exact h6 h
theorem cW.row(h:cW base w B cs o v p w'){n:Nat}{old:bW}{t:TypeId}(oX:base<=w.heap.size)(hB:B<w.heap.size)(hn:w.heap.size<=n)(hr:w'.heap[n]?=some (.cells old t (0,0)))
  (ht:t≠118/\t≠133/\t≠129/\t≠121/\t≠137/\t≠105)(hs:t≠9)(new:bW):cW base w B cs o v p (w'.setRow n new):=by
 obtain⟨v',h1,h2,h3,h4⟩:=h;have kx:Fr (one n) w' (w'.setRow n new):=(ae (one n) w').setRow (fun _=>rfl) _;have mJ:rJ base w' (one n):=by
  rintro k rfl _;exact⟨ab,fun c f e=>by rw[hr]at e;cases e;exact hs rfl⟩
 refine⟨v',h1.fr kx mJ (fun i hi e=>?_),h2.step kx (fun k hk e=>?_),h3,kx.keep h4 (fun e=>?_)⟩
 ·have e':i=n:=e;subst e';exact h1.fa hr ht hi
 ·have e':k=n:=e;omega
 ·have e':B=n:=e;omega
end
theorem eN:(46:TypeId)≠118/\(46:TypeId)≠133/\(46:TypeId)≠129/\(46:TypeId)≠121/\(46:TypeId)≠137/\(46:TypeId)≠105:=ag
theorem ba(x:bW)(h:x.size=3):(prog.info? 46).map (·.size)=some x.size:=by rw[h];kernel_rfl
theorem eo{b:Nat}{o:jI}(h:w.heap[b]?=some (.cells o.cells.toArray 33 (0,0)))(hh:o.aF.ef=.slice ah hs.length ch):w.cell? ⟨b,0,none⟩=some (.int .i64 o.what)/\w.cell? ⟨b,1,none⟩=some (.int .i64 o.aF.part)/\w.cell? ⟨b,2,none⟩=some (.bool o.aF.cG.aD)/\w.cell? ⟨b,3,none⟩=some (.string o.aF.cG.host)/\w.cell? ⟨b,4,none⟩=some (.int .i64 o.aF.cG.port)/\w.cell? ⟨b,5,none⟩=some (.bool o.aF.o.aD)/\w.cell? ⟨b,6,none⟩=some (.string o.aF.o.host)/\w.cell? ⟨b,7,none⟩=some (.int .i64 o.aF.o.port)/\w.cell? ⟨b,8,none⟩=some (.string o.aF.path)/\w.cell? ⟨b,9,none⟩=some (.string o.aF.query)/\w.cell? ⟨b,10,none⟩=some (.string o.aF.method)/\w.cell? ⟨b,11,none⟩=some (.slice ah hs.length ch)/\w.cell? ⟨b,12,none⟩=some (.bool o.aF.fq)/\w.cell? ⟨b,13,none⟩=some (.string o.aF.body)/\w.cell? ⟨b,14,none⟩=some (.bool o.proxy)/\w.cell? ⟨b,15,none⟩=some (.string o.text)/\w.cell? ⟨b,16,none⟩=some (.string o.user)/\w.cell? ⟨b,17,none⟩=some (.string o.pass)/\w.cell? ⟨b,18,none⟩=some (.string o.bz)/\w.cell? ⟨b,19,none⟩=some (.int .i64 o.cert)/\w.cell? ⟨b,20,none⟩=some (.bool o.all)/\w.cell? ⟨b,21,none⟩=some (.int .i64 o.n):=by
 have e:o.cells=[.int .i64 o.what,.int .i64 o.aF.part,.bool o.aF.cG.aD,.string o.aF.cG.host,.int .i64 o.aF.cG.port,.bool o.aF.o.aD,.string o.aF.o.host,.int .i64 o.aF.o.port,.string o.aF.path,.string o.aF.query,.string o.aF.method,.slice ah hs.length ch,.bool o.aF.fq,.string o.aF.body,.bool o.proxy,.string o.text,.string o.user,.string o.pass,.string o.bz,.int .i64 o.cert,.bool o.all,.int .i64 o.n]:=by unfold jI.cells fW.cells;rw[hh];rfl
 rw[e]at h;simp only[World.cell?,h];exact⟨rfl,rfl,rfl,rfl,rfl,rfl,rfl,rfl,rfl,rfl,rfl,rfl,rfl,rfl,rfl,rfl,rfl,rfl,rfl,rfl,rfl,rfl⟩
theorem dN{o:jI}(hh:o.aF.ef=.slice ah hs.length ch):o.cells=[.int .i64 o.what,.int .i64 o.aF.part,.bool o.aF.cG.aD,.string o.aF.cG.host,.int .i64 o.aF.cG.port,.bool o.aF.o.aD,.string o.aF.o.host,.int .i64 o.aF.o.port,.string o.aF.path,.string o.aF.query,.string o.aF.method,.slice ah hs.length ch,.bool o.aF.fq,.string o.aF.body,.bool o.proxy,.string o.text,.string o.user,.string o.pass,.string o.bz,.int .i64 o.cert,.bool o.all,.int .i64 o.n]:=by unfold jI.cells fW.cells;rw[hh];rfl
theorem zg{o:jI}(hh:o.aF.ef=.slice ah hs.length ch):o.aF.cells=[.int .i64 o.aF.part,.bool o.aF.cG.aD,.string o.aF.cG.host,.int .i64 o.aF.cG.port,.bool o.aF.o.aD,.string o.aF.o.host,.int .i64 o.aF.o.port,.string o.aF.path,.string o.aF.query,.string o.aF.method,.slice ah hs.length ch,.bool o.aF.fq,.string o.aF.body]:=by unfold fW.cells;rw[hh]
def eG(base:Nat)(w:World)(B:Nat)(cs:a_)(off:Nat)(v:dn)(r:eD×kq)(e:Ending)(w':World):Prop :=
 e=.returned r.2.val/\cW base w B cs off v r.1 w'
abbrev dv := @cW.row
theorem MJ(hr:o.right=true):1<=o.what/\o.what<=10:=by
 unfold jx.right at hr;simp only[cF,dM]at hr;exact⟨hr.1,hr.2.1⟩
theorem amR(h:o.what=1):wk p n o=lq p o:=by
 unfold wk;rw[aB h]
theorem amS(h:o.what=2):wk p n o=jv p o:=by
 unfold wk;rw[ay ab,aB h]
theorem amT(h:o.what=3):wk p n o=kT p o:=by
 unfold wk;rw[ay ab,ay ab,aB h]
theorem amU(h:o.what=4):wk p n o=(p,rep (if mh p.book o.aF n then 5 else 4)):=by
 unfold wk;rw[ay ab,ay ab,ay ab,aB h]
theorem amV(h:o.what=5):wk p n o=kU p n o:=by
 unfold wk;rw[ay ab,ay ab,ay ab,ay ab,aB h]
theorem amW(h:o.what=6):wk p n o=(p,Oa p o):=by
 unfold wk;rw[ay ab,ay ab,ay ab,ay ab,ay ab,aB h]
theorem amX(h:o.what=7):wk p n o=oD p o:=by
 unfold wk;rw[ay ab,ay ab,ay ab,ay ab,ay ab,ay ab,aB h]
theorem Qo{part:Int}(h0:0<=part)(h1:part<4)(w f:ed)(c:Nat):lu w f part c={part:=fun i=>if i=part.toNat then uu c (w.part i) (f.part i)else w.part i,now:=if c.testBit 3 then f.now else w.now}:=by
 unfold lu;rw[aB ⟨h0,h1⟩]
theorem wF(hr:o.right=false):dV o=(0,false):=by unfold dV;rw[hr];rfl
variable {H : Type} {enc : TypeId × Value → H} {W : World}
abbrev aaI(w:World)(v:Value)(bs:List Bool):Prop:=ez 1 w v (bs.map fun b=>[.bool b])/\bs.length<=140737488355328
theorem VB:prog.cellsOf 4=1:=af
theorem Y8{x:DataW H×List MemPlace}(h:DataW.trod enc prog W 0 (fun _=>true) true fuel 4 cs=some x) :
  ∃b:Bool,cs=[.bool b]/\cs.length=1/\(∀u∈cs,u.oneCell'=true)/\(oJ prog 4 x.1->True):=by
 obtain⟨b,rfl⟩:=lF underlying4 h;exact⟨b,rfl,rfl,fun u hu=>by rw[dh]at hu;subst hu;rfl,fun _=>trivial⟩
theorem Nc{v:Value}{d:DataW H}{p:List MemPlace}(hv:Value.okWide prog W .any base 59 v)(h:DataW.Trod enc prog W 0 (fun _=>true) true 59 v d p)(hL:oJ prog 59 d) :
  ∃bs:List Bool,aaI W v bs:=by
 obtain⟨a,len,cap,rfl⟩:=okWide_slice underlying59 hv;obtain⟨fuel,hf⟩:=h;obtain⟨v',css,bs,e,hr,hb,hs⟩:=DC (Q:=fun cs (b:Bool)=>cs=[.bool b]) (S:=fun _=>True) underlying59 VB ag (by kernel_rfl:prog.bytesOf 4=1) Y8 hf;simp only[Value.cells,gK,jf]at e;subst e;rw[DD hb]at hr;have h2:=hs hL;refine⟨bs,hr,?_⟩;have hk:reachBytes=140737488351232:=rfl;have:=h2.1;omega
structure nk (x:ed):Prop where
 ok:C' x
 sm:Db x
 path:Dc x
theorem nk.new:nk Gw:=⟨C'.new,Db.new,Dc.new⟩
theorem nk.nj{x:ed}(h:nk x)(o:jx)(hu:o.user.size<=5000)(hp:o.pass.size<=5000)(ha:o.path.size<=5000):nk (nj x o).1 :=
 ⟨h.ok.nj o,h.sm.nj o hu hp,h.path.nj o ha⟩
theorem um{n:Nat}{x:Obj}(h:w.heap[n]?=some x)(hn:n≠B)(o:Nat)(u:Value):(w.setCell ⟨B,o,none⟩ u).heap[n]?=some x :=
 ((ae (one B) w).setCell (p:=⟨B,o,none⟩) (fun _=>rfl) u).keep h hn
theorem TY{o:Nat}(h:o+2<cs.length):(oU cs o v)[o]?=some (.pointer (some ⟨v.b,0,none⟩))/\(oU cs o v)[o+1]?=some (.pointer (some ⟨v.k,0,none⟩))/\(oU cs o v)[o+2]?=some v.cv:=by
 unfold oU;refine⟨?_,?_,?_⟩
 ·rw[List.getElem?_set_ne ab,List.getElem?_set_ne ab,List.getElem?_set_self ab]
 ·rw[List.getElem?_set_ne ab,List.getElem?_set_self bH]
 ·rw[List.getElem?_set_self bH]
theorem P1(cs:a_)(o:Nat)(v v':dn):oU (oU cs o v) o v'=oU cs o v':=by
 unfold oU;apply iW;intro i;simp only[List.getElem?_set,dZ];by_cases h2:o+2=i
 ·simp[h2]
 by_cases h1:o+1=i
 ·simp[h1,h2]
 by_cases h0:o=i
 ·simp[h0]
 simp[h0,h1,h2]
theorem gJ.after{w w1:World}{B off:Nat}{cs:a_}{v v1:dn}(ha:gJ w B cs off v)(hb:w1.heap[B]?=some (.cells (oU cs off v1).toArray 97 (0,0))):gJ w1 B (oU cs off v1) off v1:=by
 have hl:off+2<cs.length:=(List.getElem?_eq_some_iff.1 ha.c2).1;obtain⟨h0,h1,h2⟩:=TY (v:=v1) hl;exact⟨hb,h0,h1,h2⟩
theorem cW.seq{base:Nat}{w w1 w2:World}{B off:Nat}{cs:a_}{v v1:dn}{p2:eD}(f1:Fr (ze B v) w w1)(AU:∀k,v1.jS k->v.jS k\/w.heap.size<=k)(h2:cW base w1 B (oU cs off v1) off v1 p2 w2):cW base w B cs off v p2 w2:=by
 obtain⟨v2,i2,f2,agB,al2⟩:=h2;refine⟨v2,i2,f1.step f2 (fun k hk hp=>?_),fun k hk=>?_,?_⟩
 ·rcases hp with rfl|hp
  ·exact Or.inl rfl
  ·rcases AU k hp with h|h
   ·exact Or.inr h
   ·omega
 ·rcases agB k hk with h|h
  ·exact AU k h
  ·exact Or.inr (aH f1.size h)
 ·rw[al2,P1]
theorem cW.fresh{off:Nat}(h:eQ base w v p)(ha:gJ w B cs off v)(oX:base<=B) :
  cW base w B cs off v xR (((((w.alloc (.cells #[.slice none 0 0,.slice none 0 0] 118)).alloc (.cells #[.slice none 0 0] 121)).setCell ⟨B,off,none⟩ (.pointer (some ⟨w.heap.size,0,none⟩))).setCell ⟨B,off+1,none⟩ (.pointer (some ⟨w.heap.size+1,0,none⟩))).setCell ⟨B,off+2,none⟩ (.slice none 0 0)):=by
 have hB:¬v.jS B:=h.fa ha.eK ag;have uo:B<w.heap.size:=bg ha.eK;obtain⟨W,hW⟩:∃W,W=(w.alloc (.cells #[.slice none 0 0,.slice none 0 0] 118)).alloc (.cells #[.slice none 0 0] 121):=⟨_,rfl⟩;have hf:Fr aX w W:=by rw[hW];exact((ae aX w).alloc _).alloc _
 have wY:W.heap[w.heap.size]?=some (.cells #[.slice none 0 0,.slice none 0 0] 118 (0,0)):=by rw[hW];exact((ae aX _).alloc _).keep (aC _ _) id
 have LN:W.heap[w.heap.size+1]?=some (.cells #[.slice none 0 0] 121 (0,0)):=by
  have h:=aC (w.alloc (.cells #[.slice none 0 0,.slice none 0 0] 118)) (.cells #[.slice none 0 0] 121);rw[bK]at h;rw[hW];exact h
 rw[<-hW];have pG:=hf.keep ha.eK id;obtain⟨V,hV⟩:∃V,V=((W.setCell ⟨B,off,none⟩ (.pointer (some ⟨w.heap.size,0,none⟩))).setCell ⟨B,off+1,none⟩ (.pointer (some ⟨w.heap.size+1,0,none⟩))).setCell ⟨B,off+2,none⟩ (.slice none 0 0):=⟨_,rfl⟩;have V3:Fr (one B) W V:=by
  rw[hV];exact(((ae (one B) W).setCell (p:=⟨B,off,none⟩) (fun _=>rfl) _).setCell (p:=⟨B,off+1,none⟩) (fun _=>rfl) _).setCell (p:=⟨B,off+2,none⟩) (fun _=>rfl) _
 have hbV:V.heap[B]?=some (.cells (oU cs off ⟨w.heap.size,.slice none 0 0,.slice none 0 0,w.heap.size+1,.slice none 0 0,.slice none 0 0⟩).toArray 97 (0,0)):=by
  have e1:=cg pG off (.pointer (some ⟨w.heap.size,0,none⟩));have e2:=cg e1 (off+1) (.pointer (some ⟨w.heap.size+1,0,none⟩));have e3:=cg e2 (off+2) (.slice none 0 0);rw[hV,e3];unfold oU;simp
 rw[<-hV]
 refine⟨⟨w.heap.size,.slice none 0 0,.slice none 0 0,w.heap.size+1,.slice none 0 0,.slice none 0 0⟩,⟨⟨by show base<=w.heap.size;omega,V3.keep wY (fun e=>by have e':w.heap.size=B:=e;omega),⟨[],dp _ _ _ _,.nil⟩,⟨[],dp _ _ _ _,.nil⟩⟩,⟨by show base<=w.heap.size+1;omega,V3.keep LN (fun e=>by have e':w.heap.size+1=B:=e;omega),dp _ _ _ _⟩,dp _ _ _ _⟩,fN (S:=ze B v) (hf.mono (fun _ _ h=>absurd h id)) V3 (fun _ _ e=>Or.inl e),?_,hbV⟩
 rintro k(hk|hk|hk)
 ·rcases hk with hk|hk|hk
  ·have e:k=w.heap.size:=hk;exact Or.inr ab
  ·simp[own,Value.ownBlock]at hk
  ·simp[own,Value.ownBlock]at hk
 ·rcases hk with hk|hk
  ·have e:k=w.heap.size+1:=hk;exact Or.inr ab
  ·simp[own,Value.ownBlock]at hk
 ·simp[own,Value.ownBlock]at hk
def fj(t:TypeId):Prop:=t≠118/\t≠133/\t≠129/\t≠121/\t≠137/\t≠105
theorem eI{w':World}{n:Nat}{c:bW}(h:eQ base w v p)(hf:Fr (ze B v) w w')(hn:w.heap[n]?=some (.cells c t (0,0)))(ht:fj t)(hB:n≠B):w'.heap[n]?=some (.cells c t (0,0)) :=
 hf.keep hn (fun e=>by
  rcases e with e|e
  ·exact hB e
  ·exact h.fa hn ht e)
theorem kX:fj 33:=by unfold fj;decide
theorem py:fj 24:=by unfold fj;decide
theorem dS:fj 46:=by unfold fj;decide
theorem Fk:fj 29:=by unfold fj;decide
theorem Ac:fj 127:=by unfold fj;decide
abbrev ia := @gJ.after
abbrev gB := @cW.seq
structure vR where
 does:Nat
 op:jx
 fails:Nat
 mr:Int
 seen:ed
 num:Nat->Nat->Int
 fP:kq
def amY:jx:=⟨0,0,⟨false,.empty,0⟩,⟨false,.empty,0⟩,.empty,.empty,.empty,[],false,.empty,false,.empty,.empty,.empty,.empty,0,false,0⟩
def ib:vR:=⟨0,amY,0,0,Gw,fun _ _=>0,rep 0⟩
structure UB where
 tab:Nat
 op:jx
 fP:kq
 mr:Int
 fin:Int
structure iI where
 w:ed
 num:Nat->Nat->Int
 tab:Nat->vR
 steps:Int
 ic:List UB
def uG:iI:=⟨Gw,fun _ _=>0,fun _=>ib,0,[]⟩
def iI.put(t:iI)(n:Nat)(x:vR):iI:={t with tab:=fun i=>if i=n then x else t.tab i}
def j_(o:jx):List (Nat×Nat):=[0,1,2,3].filterMap fun i=>if(dV o).1.testBit i then some (if i=3 then 0 else o.part.toNat,i)else none
def qw(o:jx)(f:Nat->Nat->Int):List Int:=(j_ o).map fun c=>f c.1 c.2
def vS(o:jx)(f:Nat->Nat->Int):Nat->Nat->Int:=fun p i=>if(p,i)∈j_ o then f p i+1 else f p i
def iZ(t:iI)(n:Nat)(r:kq):iI :=
 {t with ic:=t.ic++[⟨n,(t.tab n).op,r,(t.tab n).mr,t.steps⟩],tab:=fun i=>if i=n then ib else t.tab i}
def jh(t:iI)(n:Nat):iI×(kq×Bool) :=
 if qw (t.tab n).op t.num=qw (t.tab n).op (t.tab n).num then
  (iZ (if(dV (t.tab n).op).2 then{t with w:=lu t.w (t.tab n).seen (t.tab n).op.part (dV (t.tab n).op).1,num:=vS (t.tab n).op t.num}else t) n (t.tab n).fP,(t.tab n).fP,true)
 else if(t.tab n).fails+1<=3 then(t.put n {t.tab n with fails:=(t.tab n).fails+1,does:=1},rep 0,false)
 else(iZ (t.put n {t.tab n with fails:=(t.tab n).fails+1}) n (rep 6),rep 6,true)
def stepT(t:iI)(n:Nat):iI×(kq×Bool) :=
 if(t.tab n).does=1 then({(t.put n {t.tab n with seen:=t.w,num:=t.num,does:=2})with steps:=t.steps+1},rep 0,false)
 else if(t.tab n).does=2 then({(t.put n {t.tab n with fP:=(nj (t.tab n).seen (t.tab n).op).2,seen:=(nj (t.tab n).seen (t.tab n).op).1,does:=3})with steps:=t.steps+1},rep 0,false)
 else jh {t with steps:=t.steps+1} n
def xV(n:Int):Bool:=decide (0<=n)&&decide (n<6)
def kF(t:iI)(n:Int):iI×(kq×Bool×Nat) :=
 if xV n then
  if(t.tab n.toNat).does=0 then(t,rep 0,false,8)else((stepT t n.toNat).1,(stepT t n.toNat).2.1,(stepT t n.toNat).2.2,0)
 else(t,rep 0,false,2)
def Aj(t:iI)(n:Int)(o:jx):iI×Nat :=
 if xV n then
  if(t.tab n.toNat).does=0 then({(t.put n.toNat {ib with does:=1,op:=o,mr:=t.steps+1})with steps:=t.steps+1},0)else(t,6)
 else(t,2)
def Ol(t:iI)(n:Int):Nat:=if xV n then(t.tab n.toNat).does else 0
theorem Dn{p i:Nat}:(p,i)∈j_ o↔i<4/\(dV o).1.testBit i=true/\p=(if i=3 then 0 else o.part.toNat):=by
 unfold j_;simp only[List.mem_filterMap,bE,bU,dL];constructor
 ·rintro⟨j,hj,h⟩;split at h
  ·rename_i hb;simp only[dW,iB]at h;obtain⟨h1,rfl⟩:=h;exact⟨ab,hb,h1.symm⟩
  ·cases h
 ·rintro⟨h1,h2,h3⟩;exact⟨i,ab,by rw[aB h2,h3]⟩
theorem TP.aaj{n:Nat}{er:Value}(h:TP n er w):∃t x,er=.iface t x:=by
 rcases h with rfl|⟨g,p,rfl,_⟩
 ·exact⟨_,_,rfl⟩
 ·exact⟨_,_,rfl⟩
theorem Kk(base:Nat)(w:World)(B off:Nat)(cs:a_)(v:dn)(p:eD)(o:jI)(hs:List gT)(now:Int)(h:eQ base w v p)(ha:gJ w B cs off v)(oX:base<=B)(hf:gM w o hs)(hk:mT p)(ht:wZ w)(n0:0<=now)(n1:now<=1099511627776) :
  aE 46 #[.pointer (some ⟨B,off,none⟩),.agg o.cells.toArray,.int .i64 now] w (eG base w B cs off v (kU p now (o.dX hs))):=by
 have uo:B<w.heap.size:=bg ha.eK;have Fq:¬v.jS B:=h.fa ha.eK ag;obtain⟨ah,ch,gu⟩:=hf.h_;have Qj:=hk.re.2.2.1;have Qx:=hf.text;obtain⟨w2,eC⟩:∃w2,w2=(w.alloc (.cells o.cells.toArray 33)).alloc (.cells bP 46):=⟨_,rfl⟩;have dF:Fr aX w w2:=by rw[eC];exact((ae aX w).alloc _).alloc _
 have k1:w2.heap[w.heap.size]?=some (.cells o.cells.toArray 33 (0,0)):=by rw[eC];exact((ae aX _).alloc _).keep (aC _ _) id
 have k2:w2.heap[w.heap.size+1]?=some (.cells bP 46 (0,0)):=by
  have h:=aC (w.alloc (.cells o.cells.toArray 33)) (.cells bP 46);rw[bK]at h;rw[eC];exact h
 have Up:=O (show∀U,Fr aX w2 U->U.heap[w.heap.size]?=some (.cells o.cells.toArray 33 (0,0))from fun U hU=>hU.keep k1 id);have BK:=O Fq;have HH:=O h;have HA:=O ha;have HF:=O hf;have lf:=O gu;have HT:=O ht;have fR:=O dF;have qt:=O k2;have pS:=O (show base<=w.heap.size from ab);have oH:=O uo;have FL:=O (MP o.text w2 Qx);have P8:=O eC
 obtain⟨a0,a1,a2,a3,a4,a5,a6,a7,a8,a9,jy,jz,a12,jw,jA,jb,jJ,jK,jL,jT,a20,a21⟩:=eo k1 gu;rw[eC]at a0 a1 a2 a3 a4 a5 a6 a7 a8 a9 jy jz a12 jw jA jb jJ jK jL jT a20 a21;rw[dN gu]at eC a0 a1 a2 a3 a4 a5 a6 a7 a8 a9 jy jz a12 jw jA jb jJ jK jL jT a20 a21 ⊢;unfold bP at eC a0 a1 a2 a3 a4 a5 a6 a7 a8 a9 jy jz a12 jw jA jb jJ jK jL jT a20 a21;have ow:=O eC;clear eC gu dF k1 k2 h ha hf Fq hk ht Qx
 go_enter func46,ntmps46;go_wp2_with fail
 rw[<-ow.o];refine FL.o.mono ?_;rintro e u1 Jr;clear a0 a1 a2 a3 a4 a5 a6 a7 a8 a9 jy jz a12 jw jA jb jJ jK jL jT a20 a21;obtain⟨uV,Jr⟩:=Jr;have KY:=O uV;cases yR:mE o.text.data.toList with
 |error n =>
  rw[yR]at Jr;obtain⟨er,rfl,hen⟩:=Jr;obtain⟨et,ev,rfl⟩:=hen.aaj;have HR:=O (show kU p now (o.dX hs)=(p,rep 7)by unfold kU;rw[show(o.dX hs).text=o.text from rfl,yR]);have Ag:=O (uV.keep qt.o id);clear yR hen uV
  go_wp2_with (first|((with_reducible refine cU 46 ?_);refine aI rfl 46 (.tmp 6) (.tmp 18) rfl (w.heap.size+1) #[.int .i64 7,.string ⟨#[]⟩,.int .i64 0] rfl rfl _ bP Ag.o (ba _ rfl) rfl bS ?_)|fail)
  refine aR (bj bB _ _ (w.heap.size+1) 46 #[.int .i64 7,.string ⟨#[]⟩,.int .i64 0] (0,0) _ rfl (aY u1 (w.heap.size+1) _ _ _ _ Ag.o) underlying46 rfl (ba _ rfl)) rfl ?_;unfold eG;rw[HR.o];exact⟨rfl,dv (lT HH.o HA.o (fR.o.trans KY.o)) pS.o oH.o (bT _) Ag.o eN ag _⟩
 |ok l =>
  rw[yR]at Jr;obtain⟨v1,rfl,zO⟩:=Jr;have ru:=zO.form;rw[aj]at ru;obtain⟨al,cl,rfl⟩:=ru;have oO:=GP yR;have hh1:=bM HF.o.ef (fR.o.trans uV);have GR:=O (Qs o.aF hs _ l now u1 hh1 zO.at oO HF.o.aF (HT.o.fr (fR.o.trans uV)) HF.o.TV.1 HF.o.TV.2 HF.o.cG n0 n1);rw[zg lf.o]at GR;obtain⟨a0,a1,a2,a3,a4,a5,a6,a7,a8,a9,jy,jz,a12,jw,jA,jb,jJ,jK,jL,jT,a20,a21⟩:=eo (Up.o u1 uV) lf.o;have HFL:=O yR
  clear yR uV zO oO hh1;go_wp2_with fail
  refine GR.o.mono ?_;rintro e u2⟨nP,EA⟩;clear a0 a1 a2 a3 a4 a5 a6 a7 a8 a9 jy jz a12 jw jA jb jJ jK jL jT a20 a21 GR;have uk:=O (KY.o.trans nP);have rm:=O (fR.o.trans uk.o);cases hg:tV (o.aF.dX hs) (wK o.aF.cG).data.toList l now with
  |error n =>
   rw[hg]at EA;obtain rfl:=EA;have HR:=O (show kU p now (o.dX hs)=({p with book:=p.book.filter (fun q=>!q.uC (o.aF.dX hs))},rep 2)by
    unfold kU;rw[show(o.dX hs).text=o.text from rfl,HFL.o];simp only;rw[show tV (o.dX hs).aF (Er (o.dX hs).cG.dX) l now=.error n from hg];rfl)
   have Fx:=O (show∀U,Fr (ik v.k v.kv) u2 U->(U.cell? ⟨B,off+1,none⟩=some (.pointer (some ⟨v.k,0,none⟩))/\U.cell? ⟨w.heap.size,1,none⟩=some (.int .i64 o.aF.part)/\U.cell? ⟨w.heap.size,2,none⟩=some (.bool o.aF.cG.aD)/\U.cell? ⟨w.heap.size,3,none⟩=some (.string o.aF.cG.host)/\U.cell? ⟨w.heap.size,4,none⟩=some (.int .i64 o.aF.cG.port)/\U.cell? ⟨w.heap.size,5,none⟩=some (.bool o.aF.o.aD)/\U.cell? ⟨w.heap.size,6,none⟩=some (.string o.aF.o.host)/\U.cell? ⟨w.heap.size,7,none⟩=some (.int .i64 o.aF.o.port)/\U.cell? ⟨w.heap.size,8,none⟩=some (.string o.aF.path)/\U.cell? ⟨w.heap.size,9,none⟩=some (.string o.aF.query)/\U.cell? ⟨w.heap.size,10,none⟩=some (.string o.aF.method)/\U.cell? ⟨w.heap.size,11,none⟩=some (.slice ah hs.length ch)/\U.cell? ⟨w.heap.size,12,none⟩=some (.bool o.aF.fq)/\U.cell? ⟨w.heap.size,13,none⟩=some (.string o.aF.body))from fun U hU=>by
    have j1:=(HA.o.dx rm.o).fr hU (fun hb=>BK.o (Or.inr (Or.inl hb)));have j2:=hU.keep (Up.o u2 uk.o) (fun hb=>by
     have h3:=(HH.o.dx rm.o).book.hZ hb;obtain⟨c,t,e,hk⟩:=h3;rw[Up.o u2 uk.o]at e;cases e;revert hk;decide)
    obtain⟨a0,a1,a2,a3,a4,a5,a6,a7,a8,a9,jy,jz,a12,jw,jA,jb,jJ,jK,jL,jT,a20,a21⟩:=eo j2 lf.o;exact⟨j1.gU,a1,a2,a3,a4,a5,a6,a7,a8,a9,jy,jz,a12,jw⟩)
   have HFG:=O (show∀U,Fr aX u2 U->aE 88 #[.pointer (some ⟨v.k,0,none⟩),.agg #[.int .i64 o.aF.part,.bool o.aF.cG.aD,.string o.aF.cG.host,.int .i64 o.aF.cG.port,.bool o.aF.o.aD,.string o.aF.o.host,.int .i64 o.aF.o.port,.string o.aF.path,.string o.aF.query,.string o.aF.method,.slice ah hs.length ch,.bool o.aF.fq,.string o.aF.body]] U (tD base U v.k v.kv p.book (ep.uC (o.aF.dX hs)))from fun U hU=>by
    have:=JX base U v.k v.kv p.book o.aF hs ((HH.o.dx rm.o).dx hU).book ab;rw[zg lf.o]at this;exact this)
   clear hg;go_wp2_with fail
   go_region_held3 (fun U=>Fr (ik v.k v.kv) u2 U/\U.cell? ⟨B,off+1,none⟩=some (.pointer (some ⟨v.k,0,none⟩))/\U.cell? ⟨w.heap.size,1,none⟩=some (.int .i64 o.aF.part)/\U.cell? ⟨w.heap.size,2,none⟩=some (.bool o.aF.cG.aD)/\U.cell? ⟨w.heap.size,3,none⟩=some (.string o.aF.cG.host)/\U.cell? ⟨w.heap.size,4,none⟩=some (.int .i64 o.aF.cG.port)/\U.cell? ⟨w.heap.size,5,none⟩=some (.bool o.aF.o.aD)/\U.cell? ⟨w.heap.size,6,none⟩=some (.string o.aF.o.host)/\U.cell? ⟨w.heap.size,7,none⟩=some (.int .i64 o.aF.o.port)/\U.cell? ⟨w.heap.size,8,none⟩=some (.string o.aF.path)/\U.cell? ⟨w.heap.size,9,none⟩=some (.string o.aF.query)/\U.cell? ⟨w.heap.size,10,none⟩=some (.string o.aF.method)/\U.cell? ⟨w.heap.size,11,none⟩=some (.slice ah hs.length ch)/\U.cell? ⟨w.heap.size,12,none⟩=some (.bool o.aF.fq)/\U.cell? ⟨w.heap.size,13,none⟩=some (.string o.aF.body)) ((refine(fun hU=>⟨hU,Fx.o _ hU⟩) ?_;first|exact aA (ae _ _)|assumption))
    ((first
     |(go_at_call 88;refine(HFG.o _ (aA (ae _ _))).mono ?_;rintro e u3 ⟨rfl,sJ⟩;have vQ:Fr (ik v.k v.kv) u2 u3:=(aA (ae _ _)).trans (by obtain⟨_,_,h,_⟩:=sJ;exact h))))
   have HPP:=O (oF ((HH.o.dx rm.o).dx (aA (ae aX u2))) ((HA.o.dx rm.o).dx (aA (ae aX u2))) BK.o sJ);have Ag:=O (vQ.keep (uk.o.keep qt.o id) (fun hb=>by
    obtain⟨c,t,e,hk⟩:=(HH.o.dx rm.o).book.hZ hb;rw[uk.o.keep qt.o id]at e;cases e;revert hk;decide))
   clear sJ vQ Fx HFG;go_wp2_with (first|((with_reducible refine cU 46 ?_);refine aI rfl 46 (.tmp 6) (.tmp 36) rfl (w.heap.size+1) #[.int .i64 2,.string ⟨#[]⟩,.int .i64 0] rfl rfl _ bP Ag.o (ba _ rfl) rfl bS ?_)|fail)
   refine aR (bj bB _ _ (w.heap.size+1) 46 #[.int .i64 2,.string ⟨#[]⟩,.int .i64 0] (0,0) _ rfl (aY u3 (w.heap.size+1) _ _ _ _ Ag.o) underlying46 rfl (ba _ rfl)) rfl ?_;unfold eG;rw[HR.o];exact⟨rfl,dv ((HPP.o.after (aA (ae aX u2))).after rm.o) pS.o oH.o (bT _) Ag.o eN ag _⟩
  |ok m =>
   rw[hg]at EA;obtain⟨v2,rfl,qD⟩:=EA;have HR:=O (show kU p now (o.dX hs)=({p with book:=tU p.book m now},rep 1)by
    unfold kU;rw[show(o.dX hs).text=o.text from rfl,HFL.o];simp only;rw[show tV (o.dX hs).aF (Er (o.dX hs).cG.dX) l now=.ok m from hg])
   have se:=Qw hg;have hbo:=(HH.o.dx rm.o).book;have ahK:=qD.form;rw[aj]at ahK;obtain⟨am,cm,rfl⟩:=ahK;have HP:=O (JI base u2 v.k v.kv p.book _ m now hbo qD.at (fun _ k hk hb=>by
    have h1:=qD.block k hk;have h2:=HH.o.je (Or.inr (Or.inl hb));have h3:=fR.o.size;have h4:=KY.o.size;omega) ab)
   have c1:=(HA.o.dx rm.o).gU;clear hg se hbo qD;go_wp2_with fail
   refine HP.o.mono ?_;rintro e u3⟨rfl,sJ⟩;have HPP:=O (oF (HH.o.dx rm.o) (HA.o.dx rm.o) BK.o sJ);have vQ:Fr (ik v.k v.kv) u2 u3:=by obtain⟨_,_,h,_⟩:=sJ;exact h
   have Ag:=O (vQ.keep (uk.o.keep qt.o id) (fun hb=>by
    obtain⟨c,t,e,hk⟩:=(HH.o.dx rm.o).book.hZ hb;rw[uk.o.keep qt.o id]at e;cases e;revert hk;decide))
   clear sJ vQ HP c1;go_wp2_with (first|((with_reducible refine cU 46 ?_);refine aI rfl 46 (.tmp 6) (.tmp 44) rfl (w.heap.size+1) #[.int .i64 1,.string ⟨#[]⟩,.int .i64 0] rfl rfl _ bP Ag.o (ba _ rfl) rfl bS ?_)|fail)
   refine aR (bj bB _ _ (w.heap.size+1) 46 #[.int .i64 1,.string ⟨#[]⟩,.int .i64 0] (0,0) _ rfl (aY u3 (w.heap.size+1) _ _ _ _ Ag.o) underlying46 rfl (ba _ rfl)) rfl ?_;unfold eG;rw[HR.o];exact⟨rfl,dv (HPP.o.after rm.o) pS.o oH.o (bT _) Ag.o eN ag _⟩
theorem cW.eJ{base:Nat}{w1 w2:World}{B off:Nat}{cs:a_}{v:dn}{p:eD}{cv':Value}{l:List (gz×Int)}(h:eQ base w1 v p)(ha:gJ w1 B cs off v)(oX:base<=B)(ho:OwnRows base 105 4 w2 cv' (l.map lS))(hf:Fr (own v.cv) w1 w2)(cQ:∀k,own cv' k->own v.cv k\/w1.heap.size<=k) :
  cW base w1 B cs off v {p with eJ:=l} (w2.setCell ⟨B,off+2,none⟩ cv'):=by
 have hB:¬v.jS B:=h.fa ha.eK ag;have pG:=hf.keep ha.eK (fun hb=>hB (Or.inr (Or.inr hb)));have mJ:rJ base w1 (own v.cv):=fun k hk hl=>h.off k (Or.inr (Or.inr hk)) hl;have kx:Fr (one B) w2 (w2.setCell ⟨B,off+2,none⟩ cv'):=(ae (one B) w2).setCell (p:=⟨B,off+2,none⟩) (fun _=>rfl) _;have anv:rJ base w2 (one B):=by
  rintro k rfl _;exact⟨oX,fun c f e=>by rw[pG]at e;cases e⟩
 have uo:B<w1.heap.size:=bg ha.eK;have p2:dC base w2 v.b v.gv v.wv p.bZ p.waits:=h.oT.fr hf mJ (fun hb=>h.wB (Or.inl rfl) hb) (fun k hk hb=>h.wB (Or.inr (Or.inl hk)) hb) (fun k hk hb=>h.wB (Or.inr (Or.inr hk)) hb);have p3:eP base w2 v.k v.kv p.book:=h.book.fr hf (fun k hk hb=>h.Fi hk hb);refine⟨⟨v.b,v.gv,v.wv,v.k,v.kv,cv'⟩,⟨p2.fr kx anv ?_ ?_ ?_,p3.fr kx ?_,ho.fr kx ?_⟩,?_,?_,?_⟩
 ·intro e;exact hB (Or.inl (by rw[<-show v.b=B from e];exact Or.inl rfl))
 ·intro k hk e;exact hB (Or.inl (by rw[<-show k=B from e];exact Or.inr (Or.inl hk)))
 ·intro k hk e;exact hB (Or.inl (by rw[<-show k=B from e];exact Or.inr (Or.inr hk)))
 ·intro k hk e;exact hB (Or.inr (Or.inl (by rw[<-show k=B from e];exact hk)))
 ·intro k hk e;have e':k=B:=e;subst e';rcases cQ k hk with h1|h1
  ·exact hB (Or.inr (Or.inr h1))
  ·omega
 ·exact(show Fr (ze B v) w1 w2 from hf.mono (fun k _ hk=>Or.inr (Or.inr (Or.inr hk)))).setCell (p:=⟨B,off+2,none⟩) (fun _=>Or.inl rfl) _
 ·rintro k(hk|hk|hk)
  ·exact Or.inl (Or.inl hk)
  ·exact Or.inl (Or.inr (Or.inl hk))
  ·rcases cQ k hk with h1|h1
   ·exact Or.inl (Or.inr (Or.inr h1))
   ·exact Or.inr h1
 ·have e:=cg pG (off+2) cv';rw[e];have e2:oU cs off ⟨v.b,v.gv,v.wv,v.k,v.kv,cv'⟩=cs.set (off+2) cv':=by
   have:=wD ha.c0 ha.c1 ha.c2;unfold oU at this ⊢;simp only;have h3:(cs.set off (.pointer (some ⟨v.b,0,none⟩))).set (off+1) (.pointer (some ⟨v.k,0,none⟩))=cs:=by
    apply iW;intro i;by_cases h1:i=off+1
    ·subst h1;rw[List.getElem?_set_self (by simp;exact(List.getElem?_eq_some_iff.1 ha.c1).1),ha.c1]
    rw[List.getElem?_set_ne (kE h1)];by_cases h0:i=off
    ·subst h0;rw[List.getElem?_set_self (List.getElem?_eq_some_iff.1 ha.c0).1,ha.c0]
    rw[List.getElem?_set_ne (kE h0)]
   rw[h3]
  rw[e2];simp
theorem GU(o:gz)(l:List (gz×Int)):(l.map lS).filter (fun x=>!N7 o x)=(JN o l).map lS:=by
 unfold JN;rw[List.filter_map];rfl
theorem Fz(c:gz×Int):∀u∈lS c,u.oneCell'=true:=by
 intro u hu;unfold lS at hu;simp only[bE,bU,dL]at hu;rcases hu with rfl|rfl|rfl|rfl<;>rfl
theorem MU(c:gz×Int)(o:gz)(bo:Nat)(w:World)(ho:w.heap[bo]?=some (.cells #[.bool o.aD,.string o.host,.int .i64 o.port] 24 (0,0))) :
  aE 148 #[.agg (lS c).toArray,.pointer (some ⟨bo,0,none⟩)] w fun e w'=>e=.returned (.bool (N7 o (lS c)))/\Fr aX w w':=by
 have hC:=O (show N7 o (lS c)=c.1.kM o from rfl);have heq:=j8 c.1 o;rw[hC.o];unfold lS;have ix:Fr aX w _:=(ae aX w).alloc (.cells #[.bool c.1.aD,.string c.1.host,.int .i64 c.1.port,.int .i64 c.2] 105);have qD:=O (ix.keep ho id);clear hC ho;go_enter func148,ntmps148;go_wp2_with (first|((with_reducible refine dt 6 ?_);refine aJ rfl 24 (.tmp 1) rfl bo rfl _ _ (0,0) _ qD.o underlying24 rfl af ?_)|fail)
 go_ret;exact⟨rfl,ix⟩
theorem Ks(base:Nat)(w:World)(B off:Nat)(cs:a_)(v:dn)(p:eD)(o:gz)(h:eQ base w v p)(ha:gJ w B cs off v)(oX:base<=B) :
  aE 90 #[.pointer (some ⟨B,off,none⟩),.agg o.cells.toArray] w fun e w'=>e=.returned (.tuple #[])/\cW base w B cs off v {p with eJ:=JN o p.eJ} w':=by
 unfold gz.cells;have oL:Fr aX w (w.alloc (.cells #[.bool o.aD,.string o.host,.int .i64 o.port] 24)):=(ae aX w).alloc _;have hbo:=aC w (.cells #[.bool o.aD,.string o.host,.int .i64 o.port] 24);have h1:=h.dx oL;have ha1:=ha.dx oL;have uo:B<w.heap.size:=bg ha.eK;have wU:∀k,own v.cv k->k<w.heap.size:=fun k hk=>h.je (Or.inr (Or.inr hk))
 have hd:=Eb base 148 #[.pointer (some ⟨w.heap.size,0,none⟩)] (N7 o) v.cv (p.eJ.map lS) _ call148 (fun x hx u hu=>by
  obtain⟨c,_,rfl⟩:=cz.1 hx;exact MU c o w.heap.size u (hu.keep hbo (fun hk=>by have:=wU _ hk;omega))) h1.eJ
 rw[GU,aj]at hd;have c2:=ha1.lQ;have f2:=ha1.free (off+2);obtain⟨av,cv,hcv⟩:=h1.eJ.form;rw[aj]at hcv;rw[hcv]at c2 hd;have wL:=O hcv;have HD:=O hd;have H1:=O h1;have HA1:=O ha1;have AX:=O oL;have Fq:¬v.jS B:=h.fa ha.eK ag;have BK:=O Fq;clear h ha hbo h1 ha1 hd hcv oL Fq f2 wU;go_enter func90,ntmps90;go_wp2_with fail
 refine HD.o.mono ?_;rintro e w2⟨a2,c2',rfl,qD,dF,fy⟩;rw[<-wL.o]at dF fy;have HP:=O (cW.eJ H1.o HA1.o oX qD dF (fun k hk=>Or.inl (by rw[<-fy];exact hk)));have UO:=dF.keep HA1.o.eK (fun hb=>BK.o (Or.inr (Or.inr hb)));have d2:w2.cell? ⟨B,off+2,none⟩=some (.slice av p.eJ.length cv):=by
  have e:=HA1.o.c2;rw[wL.o]at e;simp[World.cell?,UO,e]
 have e2:w2.frozen? ⟨B,off+2,none⟩=false:=by simp[World.frozen?,UO]
 clear HD c2 qD dF fy UO;go_wp2;go_end0;exact⟨rfl,HP.o.after AX.o⟩
