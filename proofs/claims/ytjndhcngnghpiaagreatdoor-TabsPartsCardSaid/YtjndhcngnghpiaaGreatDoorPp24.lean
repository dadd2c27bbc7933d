/- Lemmas for the law's walk. -/
import Derived.Test.YtjndhcngnghpiaaGreatDoorPp13
set_option maxRecDepth 100000
set_option maxHeartbeats 16000000
set_option linter.unusedSimpArgs false
namespace Go.Proofs.YtjndhcngnghpiaaGreatDoor
open Go.Proofs.Tryz
open Go.RowKit
variable {base n c k:Nat} {w w':World} {ss:List ai} {x:ai} {ps:List jn} {ws:List Bs} {res:Except Nat (List ep)}
theorem Yw(r:fW Value)(v:Value)(ps:List jn)(w:World)(h:lr w v ps)(hz:kY ps)(ht:wZ w)(h0: -9223372036854775808<=r.cG.port)(h1:r.cG.port<=9223372036854775807)(hs:r.cG.host.size<100000) :
  aE 136 #[.agg r.cells.toArray,v] w fun e w'=>e=.returned (.bool (Lp (wK r.cG).data.toList r.fq ps))/\Fr aX w w':=by
 have gy:Hid (Lp (wK r.cG).data.toList r.fq ps=(if !p_ ps qF then false else if(kS ps qF== [42])&&!r.fq then true else if kS ps qF !=(wK r.cG).data.toList then false else !r.fq||(kS ps IL==lD))):=O rfl;generalize Lp (wK r.cG).data.toList r.fq ps=res at gy ⊢;obtain⟨rc,ui⟩:∃rc,rc=r.cells.toArray:=⟨_,rfl⟩;obtain⟨wb,jP⟩:∃wb,wb=w.alloc (.cells rc 29):=⟨_,rfl⟩
 have kf:Fr aX w wb:=by rw[jP];exact(ae aX w).alloc _
 have l_:wb.heap[w.heap.size]?=some (.cells rc 29 (0,0)):=by rw[jP];exact aC _ _
 have HC:=O (show∀U,Fr aX wb U->U.cell? ⟨w.heap.size,1,none⟩=some (.bool r.cG.aD)/\U.cell? ⟨w.heap.size,2,none⟩=some (.string r.cG.host)/\U.cell? ⟨w.heap.size,3,none⟩=some (.int .i64 r.cG.port)/\U.cell? ⟨w.heap.size,11,none⟩=some (.bool r.fq)from fun U hU=>by
  have j:=hU.keep l_ id;rw[ui]at j;have hc:∀i u,r.cells[i]?=some u->U.cell? ⟨w.heap.size,i,none⟩=some u:=fun i u hu=>by simp only[World.cell?,j];simpa using hu
  exact⟨hc 1 _ rfl,hc 2 _ rfl,hc 3 _ rfl,hc 11 _ rfl⟩)
 obtain⟨so,hso,xl⟩:=tE ps qF hz;obtain⟨sc,hsc,hcz⟩:=tE ps IL hz;have HG:=O (fun(u:World) (hu:Fr aX w u)=>vO v ps qF u (bM h hu) hz ag so _ hso rfl);have HK:=O (fun(u:World) (hu:Fr aX w u)=>vO v ps IL u (bM h hu) hz ag sc _ hsc rfl);have HT:=O (fun(u:World) (hu:Fr aX w u)=>Tb r.cG u (ht.fr hu) h0 h1 hs);have lV:=O kf;have qB:=O jP;rw[hso,hsc]at gy;obtain⟨av,cv,hv⟩:=lr.form h;subst hv
 clear h hz ht h0 h1 hs kf l_ hso hsc;rw[<-ui];clear ui jP;generalize p_ ps IL=bc at HK;cases hb:p_ ps qF
 ·have HR:=O (show res=false by rw[gy.out,hb];rfl);have HG1:=O (HG.o wb lV.o);rw[hb]at HG1;clear hb gy;go_enter func136,ntmps136;go_wp2_with fail
  rw[<-qB.o];refine HG1.o.mono ?_;rintro e u1⟨rfl,dw⟩;go_wp2;go_ret;exact⟨by rw[HR.o];rfl,lV.o.trans dw⟩
 ·have HG1:=O (HG.o wb lV.o);rw[hb]at HG1 gy;clear hb;have HTT:=O (show so.toList=so.data.toList from aN _);generalize wK r.cG=t at *
  cases e1:(so.toList== [42])
  ·have Hp:=O (show res=(if so.data.toList !=t.data.toList then false else !r.fq||(sc.data.toList==lD))by rw[gy.out, <-HTT.o,e1];rfl);clear gy;go_enter func136,ntmps136;go_wp2_with fail
   rw[<-qB.o];refine HG1.o.mono ?_;rintro e u1⟨rfl,dw⟩;have lA:=O dw;obtain⟨k1,k2,k3,k4⟩:=HC.o u1 dw;clear dw;go_wp2_with fail
   refine(HT.o u1 (lV.o.trans lA.o)).mono ?_;rintro e u2⟨rfl,dF⟩;have fR:=O (lA.o.trans dF);clear dF k1 k2 k3 k4;cases e2:(so.data.toList==t.data.toList)
   ·have hne:¬so.toList=t.toList:=by
     rw[aN,aN];exact aL.1 e2
    have S':(so.toList==t.toList)=false:=by rw[aL];exact hne
    have HR:=O (show res=false by rw[Hp.o];unfold bne;rw[e2];rfl);clear Hp e2;go_wp2;go_ret;exact⟨by rw[HR.o];rfl,lV.o.trans fR.o⟩
   ·have heq:so.toList=t.toList:=by
     rw[aN,aN];exact dP.1 e2
    have Ln:=O (show res=(!r.fq||(sc.data.toList==lD))by rw[Hp.o];unfold bne;rw[e2];rfl);have HEQ:=O heq;have S':(so.toList==t.toList)=true:=by rw[dP];exact heq
    clear Hp e2 heq;go_wp2_with fail
    refine(HK.o u2 (lV.o.trans fR.o)).mono ?_;rintro e u3⟨rfl,iG⟩;have il:=O (fR.o.trans iG);obtain⟨k1,k2,k3,k4⟩:=HC.o u3 il.o;clear iG;have Qr:=O (show sc.toList=sc.data.toList from aN _);cases e4:r.fq
    ·rw[e4]at k4;have HR:=O (show res=true by rw[Ln.o,e4];rfl);clear e4;go_wp2;go_ret;exact⟨by rw[HR.o];rfl,lV.o.trans il.o⟩
    ·rw[e4]at k4 Ln;clear e4;cases e3:(sc.toList== [116,114,117,101])
     ·have HR:=O (show res=false by rw[Ln.o, <-Qr.o];exact e3);go_wp2;go_ret;exact⟨by rw[HR.o];rfl,lV.o.trans il.o⟩
     ·have HR:=O (show res=true by rw[Ln.o, <-Qr.o];exact e3);go_wp2;go_ret;exact⟨by rw[HR.o];rfl,lV.o.trans il.o⟩
  ·cases e5:r.fq
   ·have HR:=O (show res=true by rw[gy.out, <-HTT.o,e1,e5];rfl);clear gy;go_enter func136,ntmps136;go_wp2_with fail
    rw[<-qB.o];refine HG1.o.mono ?_;rintro e u1⟨rfl,dw⟩;have lA:=O dw;obtain⟨k1,k2,k3,k4⟩:=HC.o u1 dw;clear dw;rw[e5]at k4;clear e5;go_wp2;go_ret;exact⟨by rw[HR.o];rfl,lV.o.trans lA.o⟩
   ·have Hp:=O (show res=(if so.data.toList !=t.data.toList then false else !true||(sc.data.toList==lD))by rw[gy.out, <-HTT.o,e1,e5];rfl);clear gy;go_enter func136,ntmps136;go_wp2_with fail
    rw[<-qB.o];refine HG1.o.mono ?_;rintro e u1⟨rfl,dw⟩;have lA:=O dw;obtain⟨k1,k2,k3,k4⟩:=HC.o u1 dw;clear dw;rw[e5]at k4 HC;clear e5;go_wp2_with fail
    refine(HT.o u1 (lV.o.trans lA.o)).mono ?_;rintro e u2⟨rfl,dF⟩;have fR:=O (lA.o.trans dF);clear dF k1 k2 k3 k4;cases e2:(so.data.toList==t.data.toList)
    ·have hne:¬so.toList=t.toList:=by
      rw[aN,aN];exact aL.1 e2
     have S':(so.toList==t.toList)=false:=by rw[aL];exact hne
     have HR:=O (show res=false by rw[Hp.o];unfold bne;rw[e2];rfl);clear Hp e2;go_wp2;go_ret;exact⟨by rw[HR.o];rfl,lV.o.trans fR.o⟩
    ·have heq:so.toList=t.toList:=by
      rw[aN,aN];exact dP.1 e2
     have Ln:=O (show res=(!true||(sc.data.toList==lD))by rw[Hp.o];unfold bne;rw[e2];rfl);have HEQ:=O heq;have S':(so.toList==t.toList)=true:=by rw[dP];exact heq
     clear Hp e2 heq;go_wp2_with fail
     refine(HK.o u2 (lV.o.trans fR.o)).mono ?_;rintro e u3⟨rfl,iG⟩;have il:=O (fR.o.trans iG);obtain⟨k1,k2,k3,k4⟩:=HC.o u3 il.o;clear iG;have Qr:=O (show sc.toList=sc.data.toList from aN _);cases e3:(sc.toList== [116,114,117,101])
     ·have HR:=O (show res=false by rw[Ln.o, <-Qr.o];exact e3);go_wp2;go_ret;exact⟨by rw[HR.o];rfl,lV.o.trans il.o⟩
     ·have HR:=O (show res=true by rw[Ln.o, <-Qr.o];exact e3);go_wp2;go_ret;exact⟨by rw[HR.o];rfl,lV.o.trans il.o⟩
theorem Strs.put{g:Nat}(h:Strs base w (.slice (some ⟨g,0,none⟩) n c) ss){j:Nat}(x:ai) :
  Strs base (w.setCell ⟨g,j,none⟩ (.string x)) (.slice (some ⟨g,0,none⟩) n c) (ss.set j x):=by
 obtain⟨h1,h2⟩:=h;refine⟨aS,?_⟩;rcases h2 with ⟨hv,_⟩|⟨g',cap,cur,hv,hg,hh,h3,h4,h5,h6⟩
 ·cases hv
 ·have e1:g'=g/\n=ss.length/\c=cap:=by
   injection hv with a1 a2 a3
   injection a1 with a1
   injection a1 with a1
   exact⟨a1.symm,a2,a3⟩
  obtain⟨rfl,rfl,rfl⟩:=e1;refine Or.inr ⟨g',c,cur.setIfInBounds j (.string x),by rw[dZ],hg,cg hh _ _,by rw[dZ];exact h3,h4,by simpa using h5,?_⟩;rw[dZ,List.map_set, <-h6,Array.toList_setIfInBounds,List.take_set]
def ahn(base:Nat)(u:World)(hv:Value)(ss:List ai)(t:Value)(wr:World):Prop :=
 ∃k:Nat,k<=ss.length/\t=.int .i64 k/\Strs base wr hv ((ss.take k).map sF++ss.drop k)/\Fr (own hv) u wr
theorem UG(h:ss[k]?=some x):((ss.take k).map sF++ss.drop k).set k (sF x)=(ss.take (k+1)).map sF++ss.drop (k+1):=by
 obtain⟨hk,e⟩:=List.getElem?_eq_some_iff.1 h;have hl:((ss.take k).map sF).length=k:=bH;rw[List.set_append_right _ _ ab,hl,Nat.sub_self,cP hk,List.set_cons_zero,dU h,bI,cK];rfl
theorem UH(h:ss[k]?=some x):((ss.take k).map sF++ss.drop k)[k]?=some x:=by
 obtain⟨hk,e⟩:=List.getElem?_eq_some_iff.1 h;have hl:((ss.take k).map sF).length=k:=bH;rw[List.getElem?_append_right ab,hl,Nat.sub_self,cP hk];simp[e]
theorem Dq:∀(f:Nat) (r:Bs) (ws:List Bs),lC f r=.ok ws->∀w∈ws,w.length<=r.length
 |0,r,ws,h,w,hw=>by rw[lC]at h;cases h;cases hw
 |f+1,r,ws,h,w,hw=>by
  rw[lC]at h;have h1:=pK dI r;have h2:=pK fO (r.dropWhile dI);have h3:=pK dI ((r.dropWhile dI).dropWhile fO);have h4:=pn fO (r.dropWhile dI);have ec:∀u∈(if((r.dropWhile dI).takeWhile fO).isEmpty then []else [(r.dropWhile dI).takeWhile fO]),u.length<=r.length:=by
   intro u hu;split at hu
   ·cases hu
   ·simp at hu;subst hu;omega
  cases e:((r.dropWhile dI).dropWhile fO).dropWhile dI with
  |nil =>
   rw[e]at h;simp only at h;cases h;exact ec w hw
  |cons c r4 =>
   rw[e]at h h3;simp only at h;split at h
   ·cases hr:lC f r4 with
    |error m=>rw[hr]at h;cases h
    |ok w2 =>
     rw[hr]at h;cases h;rcases bO.1 hw with g|g
     ·exact ec w g
     ·have:=Dq f r4 w2 hr w g;simp at h3;omega
   ·cases h
theorem MM{n:Bs}(hz:kY ps)(h:kI ps n=some ws):∀w∈ws,w.length<=100002000:=by
 obtain⟨s,hs,xl⟩:=tE ps n hz;unfold kI at h;cases hl:gO (kS ps n)with
 |error e=>rw[hl]at h;cases h
 |ok m =>
  rw[hl]at h;simp only at h;split at h
  ·cases h
  ·cases h;intro w hw;have:=Dq _ _ _ hl w hw;rw[hs]at this;have e:s.data.toList.length=s.size:=aS;omega
theorem Fv{n:Bs}(h:kI ps n=some ws):ws.length<=40:=by
 unfold kI at h;cases hl:gO (kS ps n)with
 |error e=>rw[hl]at h;cases h
 |ok m =>
  rw[hl]at h;simp only at h;split at h
  ·cases h
  ·cases h;omega
theorem Strs.aae{a:fi}(h:Strs base w (.slice a n c) ss)(hne:ss≠ []) :
  ∃g,a=some ⟨g,0,none⟩/\n=ss.length/\base<=g/\g<w.heap.size/\n<=c/\c<=maxLen/\(∀(j:Nat) x,ss[j]?=some x->w.cell? ⟨g,j,none⟩=some (.string x))/\∀i,w.frozen? ⟨g,i,none⟩=false:=by
 have dT:=h.at;obtain⟨h1,h2⟩:=h;rcases h2 with ⟨hv,h0⟩|⟨g,cap,cur,hv,hg,hh,h3,h4,h5,h6⟩
 ·exact absurd (b_ h0) hne
 ·cases hv;refine⟨g,rfl,rfl,hg,bg hh,h3,h4,?_,fun i=>by simp[World.frozen?,hh]⟩;rcases dT with ⟨_,_,_,e,_⟩|⟨bk,o,c',hf,g1,g2,g3,g4⟩
  ·exact absurd e hne
  ·cases hf;intro j x hj;have:=g4 j x hj;simpa using this
theorem MN(w:World)(x:ai):ig (w.alloc (.cells #[.string x] 9)) (.slice (some ⟨w.heap.size,0,none⟩) 1 1) [x]:=by
 refine Or.inr ⟨w.heap.size,0,1,rfl,az _,by simp[maxLen],aS,fun j y hj=>?_⟩
 match j,hj with
 |0,hj =>
  simp at hj;subst hj;rw[World.cell?_alloc_mark];simp
def vT(res:Except Nat (List ep))(w:World)(e:Ending)(w':World):Prop :=
 Fr aX w w'/\match res with
 | .ok m=>∃v,e=.returned (.tuple #[v,.nilIface])/\OwnRows w.heap.size 137 12 w' v (m.map ep.cells)
 | .error n=>e=.returned (.tuple #[.slice none 0 0,.iface 82 (.int .i64 n)])
theorem vT.bad(n:Nat)(h:res=.error n)(hf:Fr aX w w'):vT res w (.returned (.tuple #[.slice none 0 0,.iface 82 (.int .i64 n)])) w':=by
 subst h;exact⟨hf,rfl⟩
theorem vT.am1{m:List ep}{v:Value}(h:res=.ok m)(hf:Fr aX w w')(ho:OwnRows w.heap.size 137 12 w' v (m.map ep.cells)):vT res w (.returned (.tuple #[v,.nilIface])) w':=by
 subst h;exact⟨hf,v,rfl,ho⟩
def aaf(base:Nat)(u:World)(bp:Nat)(ss:List ai)(f:ai->ep)(a0:List ep)(t:Value)(wr:World):Prop :=
 ∃(k:Nat) (v:Value),k<=ss.length/\t=.int .i64 k/\wr.heap[bp]?=some (.cells #[v] 119 (0,0))/\OwnRows base 137 12 wr v ((((ss.take k).map f).foldl pO a0).map ep.cells)/\Fr aX u wr
def acW(w6:World)(bp:Nat)(v:Value)(base:Nat)(acc:List ep)(w5:World):Prop :=
 w6.heap[bp]?=some (.cells #[v] 119 (0,0))/\OwnRows base 137 12 w6 v (acc.map ep.cells)/\Fr aX w5 w6
theorem Ke(f:ai->ep)(a0:List ep)(h:ss[k]?=some x):((ss.take (k+1)).map f).foldl pO a0=pO (((ss.take k).map f).foldl pO a0) (f x):=by
 rw[dU h,bI,List.foldl_append];rfl
theorem Dr(l:List ep):∀a0:List ep,(l.foldl pO a0).length<=a0.length+l.length:=by
 induction l with
 |nil=>intro a0;simp
 |cons p l ih =>
  intro a0;have h1:=ih (pO a0 p);have h2:(pO a0 p).length<=a0.length+1:=by unfold pO;split<;>simp
  simp only[List.foldl_cons,List.length_cons];omega
theorem Qs(r:fW Value)(hs:List gT)(lv:Value)(ps:List jn)(now:Int)(w:World)(hr:ot w r.ef hs)(hl:lr w lv ps)(hz:kY ps)(hq:Fc r hs)(ht:wZ w)(p0: -9223372036854775808<=r.cG.port)(p1:r.cG.port<=9223372036854775807)(hh:r.cG.host.size<100000)(n0:0<=now)(n1:now<=1099511627776) :
  aE 87 #[.agg r.cells.toArray,lv,.int .i64 now] w (vT (tV (r.dX hs) (wK r.cG).data.toList ps now) w):=by
 obtain⟨al,cl,hlf⟩:=dR hl;rw[aj]at hlf;subst hlf;obtain⟨n,hn⟩:∃n,n=w.heap.size:=⟨_,rfl⟩;obtain⟨w1,oM⟩:∃w1,w1=((w.alloc (.cells r.cells.toArray 29)).alloc (.cells #[.slice al ps.length cl] 27)).alloc (.cells #[.int .i64 now] 3):=⟨_,rfl⟩;have kf:Fr aX w w1:=by rw[oM];exact(((ae aX w).alloc _).alloc _).alloc _
 have l_:w1.heap[n]?=some (.cells r.cells.toArray 29 (0,0)):=by rw[oM,hn];exact(((ae aX _).alloc _).alloc _).keep (aC _ _) id
 have sH:w1.heap[n+1]?=some (.cells #[.slice al ps.length cl] 27 (0,0)):=by
  have h:=aC (w.alloc (.cells r.cells.toArray 29)) (.cells #[.slice al ps.length cl] 27);rw[bK, <-hn]at h;rw[oM];exact((ae aX _).alloc _).keep h id
 have Gb:w1.heap[n+1+1]?=some (.cells #[.int .i64 now] 3 (0,0)):=by
  have h:=aC ((w.alloc (.cells r.cells.toArray 29)).alloc (.cells #[.slice al ps.length cl] 27)) (.cells #[.int .i64 now] 3);rw[bK,bK, <-hn]at h;rw[oM];exact h
 have HX2:=O (show∀U,Fr aX w1 U->U.cell? ⟨n+1,0,none⟩=some (.slice al ps.length cl)from fun U hU=>by simp[World.cell?,hU.keep sH id]);have HX:=O (show∀U,Fr aX w1 U->Ad U n r from fun U hU=>Ad.eK (hU.keep l_ id));have HWD:=O (show∀(nm:Bs),nm.length<1000->∀U,Fr aX w1 U->aE 135 #[.slice al ps.length cl,.string (bA nm)] U (Fm ps nm U)from fun nm VV U hU=>P6 _ ps nm U (bM hl (kf.trans hU)) hz VV)
 have Yx:=O (show∀U,Fr aX w1 U->aE 136 #[.agg r.cells.toArray,.slice al ps.length cl] U fun e w'=>e=.returned (.bool (Lp (wK r.cG).data.toList r.fq ps))/\Fr aX U w' from fun U hU=>Yw r _ ps U (bM hl (kf.trans hU)) hz (ht.fr (kf.trans hU)) p0 p1 hh);have HMT:=O (show∀U,aE 73 #[.string r.method] U fun e w'=>e=.returned (.string (jB r.method))/\Fr aX U w' from fun U=>xu r.method U hq.1)
 have wL:=O (show∀U,Fr aX w1 U->∀(pv:Value) (m:List ep),uB U pv m->aE 84 #[.agg r.cells.toArray,pv] U fun e w'=>e=.returned (.bool ((r.dX hs).mO m))/\Fr aX U w' from fun U hU pv m Lv=>xQ r hs pv m U (bM hr (kf.trans hU)) Lv hq)
 have Mr:=O (show∀U,Fr aX w1 U->∀(base bp:Nat) (v:Value) (acc:List ep) (m hd:ai),base<=bp->acc.length<1000000->U.heap[bp]?=some (.cells #[v] 119 (0,0))->OwnRows base 137 12 U v (acc.map ep.cells)->aE 138 #[.string m,.string hd,.pointer (some ⟨n,0,none⟩),.pointer (some ⟨n+1+1,0,none⟩),.pointer (some ⟨n+1,0,none⟩),.pointer (some ⟨bp,0,none⟩)] U fun e w'=>e=.returned (.tuple #[])/\∃v',w'.heap[bp]?=some (.cells #[v'] 119 (0,0))/\OwnRows base 137 12 w' v' ((pO acc ((r.dX hs).Ca (now+mP ps) m hd)).map ep.cells)/\Fr (fun k=>k=bp\/own v k) U w' from fun U hU base bp v acc m hd hb hlen hp cQ =>
  X2 base m hd r hs now _ ps acc v n (n+1+1) (n+1) bp U (hU.keep l_ id) (hU.keep Gb id) (hU.keep sH id) hp (bM hl (kf.trans hU)) hz cQ hb hlen n0 n1)
 have lV:=O kf;obtain⟨ah,ch,gu⟩:=dR hr;rw[aj]at gu;have hzz:=O hz;clear hr hl hz l_ sH Gb kf ht hq p0 p1 hh n0 n1;have HG:=O (show tV (r.dX hs) (wK r.cG).data.toList ps now=(match kI ps IM,kI ps xz with
  |some ms,some Qt=>if !Lp (wK r.cG).data.toList r.fq ps then .error 6 else if !(r.dX hs).mO ((r.dX hs).bZ (now+mP ps) ms Qt)then .error 6 else .ok ((r.dX hs).bZ (now+mP ps) ms Qt)
  |_,_=>.error 3)from rfl)
 have HGS:=O (show∀ms Qt,(r.dX hs).bZ (now+mP ps) ms Qt=(Qt.map fun h=>(r.dX hs).Ca (now+mP ps) (bA []) (bA (mX h))).foldl pO ((if ms.isEmpty then [jB r.method]else ms.map bA).map (fun m=>(r.dX hs).Ca (now+mP ps) m (bA [])) |>.foldl pO [])from fun _ _=>rfl);generalize (wK r.cG).data.toList=aho at *
 obtain⟨part,⟨fs,fh,fp⟩,⟨os,oh,op⟩,path,query,method,ef,fq,body⟩:=r;simp only at gu;subst gu;obtain⟨R,hR⟩:∃R:fW Value,R=⟨part,⟨fs,fh,fp⟩,⟨os,oh,op⟩,path,query,method,.slice ah hs.length ch,fq,body⟩:=⟨_,rfl⟩;rw[<-hR]at HX Yx HMT wL Mr HG HGS ⊢
 have ahp:=O (show R.cells.toArray= #[.int .i64 part,.bool fs,.string fh,.int .i64 fp,.bool os,.string oh,.int .i64 op,.string path,.string query,.string method,.slice ah hs.length ch,.bool fq,.string body]by rw[hR];rfl);have HRL:=O (show∀U,Fr aX w1 U->Ad U n ⟨part,⟨fs,fh,fp⟩,⟨os,oh,op⟩,path,query,method,.slice ah hs.length ch,fq,body⟩from by rw[<-hR];exact HX.o)
 have HMR:=O (show R.method=method by rw[hR]);clear HX;rw[ahp.o]at Yx wL ⊢;rw[HMR.o]at HMT HGS;have HX:=HRL;unfold Ad at HX;dsimp only at HX;unfold fW.cells at oM;dsimp only at oM;clear hR ahp HMR HRL;generalize R.dX hs=rl at *
 generalize R.fq=rw0 at *
 obtain⟨RES,ahq⟩:∃RES,RES=tV rl aho ps now:=⟨_,rfl⟩;rw[<-ahq]at HG ⊢;clear ahq R;generalize Lp aho rw0 ps=my at *
 generalize now+mP ps=pC at *
 generalize jB method=mm at *
 subst hn;have c2:=HX2.o w1 (ae _ _);have as9:w.heap.size<=w1.heap.size:=lV.o.size;rw[oM]at c2;go_enter func87,ntmps87;go_wp2_with fail
 rw[<-oM];clear oM c2;refine(HWD.o IM ag w1 (ae _ _)).mono ?_;rintro e u1⟨uV,hm1⟩;have c2:=HX2.o u1 uV;cases hwm:kI ps IM with
 |none =>
  rw[hwm]at hm1 HG;dsimp only at hm1;subst hm1;have HR:=O (show RES=.error 3 from HG.o);clear hwm HG;go_wp2_with fail
  refine(HWD.o xz ag u1 uV).mono ?_;rintro e u2⟨nP,Hl⟩;have uk:=O (lV.o.trans (uV.trans nP));clear uV nP c2;cases Yy:kI ps xz with
  |none =>
   rw[Yy]at Hl;dsimp only at Hl;subst Hl;go_wp2;go_ret2;exact vT.bad 3 HR.o uk.o
  |some zB =>
   rw[Yy]at Hl;obtain⟨hv,rfl,iQ⟩:=Hl;obtain⟨ah',ch',Jm⟩:=iQ.form;subst Jm;clear iQ;go_wp2;go_ret2;exact vT.bad 3 HR.o uk.o
 |some ms =>
  rw[hwm]at hm1 HG;obtain⟨mv,rfl,hms⟩:=hm1;obtain⟨am,cm,am3⟩:=hms.form;subst am3;go_wp2_with fail
  refine(HWD.o xz ag u1 uV).mono ?_;rintro e u2⟨nP,Hl⟩;have uk:=O (uV.trans nP);have hB1:w1.heap.size<=u1.heap.size:=uV.size;have am4:=O (Fv hwm);clear hwm;have acX:=fun k (hk:(Value.slice am (dQ ms).length cm).ownBlock=some k)=>(hms.lt k hk).2;have acY:=hms.fr nP (fun _ h=>absurd h id);clear uV nP c2 hms;cases Yy:kI ps xz with
  |none =>
   rw[Yy]at Hl HG;dsimp only at Hl;subst Hl;have HR:=O (show RES=.error 3 from HG.o);clear Yy HG acX acY;go_wp2;go_ret2;exact vT.bad 3 HR.o (lV.o.trans uk.o)
  |some zB =>
   rw[Yy]at Hl HG;obtain⟨hv,rfl,iQ⟩:=Hl;have hHG:=HG.o;dsimp only at hHG;have HG:=O hHG;clear hHG;obtain⟨ahh,chh,Jm⟩:=iQ.form;subst Jm;have aht:=O iQ;have ahu:=O (MM hzz.o Yy);have lf:=O (Fv Yy);have ahv:=O acY;have ahw:=O acX;clear iQ acY acX Yy;have c2:=HX2.o u2 uk.o;obtain⟨e0,e1,e2,e3,e4,e5,e6,e7,e8,e9,e10,e11,e12⟩:=HX.o u2 uk.o;go_wp2_with fail
   refine(Yx.o u2 uk.o).mono ?_;rintro e u3⟨rfl,BH⟩;have HU3:=O (uk.o.trans BH);have Kf:=O (aht.o.fr BH (fun _ h=>absurd h id));have aah:=O (ahv.o.fr BH (fun _ h=>absurd h id));have Tl:=O hB1;clear BH c2 e0 e1 e2 e3 e4 e5 e6 e7 e8 e9 e10 e11 e12 aht ahv Yx hB1;cases my
   ·have HR:=O (show RES=.error 6 from HG.o);clear HG;go_wp2;go_ret2;exact vT.bad 6 HR.o (lV.o.trans HU3.o)
   have HG2:=O (HG.o.trans (ay ag));clear HG;obtain⟨Bg,hhl⟩:∃Bg,Bg=dQ zB:=⟨_,rfl⟩;have ZZ:=O (show∀x∈Bg,x.size<17592186044416 from by
    intro x hx;rw[hhl]at hx;obtain⟨y,hy,rfl⟩:=cz.1 hx;have:=ahu.o y hy;show y.toArray.size<_;simp;omega)
   have HGR:=O (HGS.o ms zB);have ahx:=O (show(dQ zB).length<=40 from by have h:=lf.o;unfold dQ;rw[aj];exact h);have HLM:=O (show(zB.map fun h=>rl.Ca pC (bA []) (bA (mX h)))=(Bg.map sF).map (fun h=>rl.Ca pC (bA []) h)from by
    rw[hhl];unfold dQ sF bA;simp[gZ,Function.comp])
   rw[<-hhl]at Kf ahx ⊢;clear HGS ahu hhl;obtain⟨GS,hGS⟩:∃GS,GS=rl.bZ pC ms zB:=⟨_,rfl⟩;rw[<-hGS]at HGR HG2;clear hGS;cases ms
   case' nil =>
    obtain⟨_,_,_,_,_,_,_,_,_,e9,_⟩:=HX.o u3 HU3.o;have pA:((dQ []).length:Int)=0:=rfl;go_wp2_with fail
    refine(HMT.o u3).mono ?_;rintro e u4⟨rfl,Mw⟩;obtain⟨uL,huL⟩:∃uL,uL=u4.alloc (.cells #[.string mm] 9):=⟨_,rfl⟩;have kH:Fr aX u3 uL:=by rw[huL];exact Mw.alloc _
    have HMV:=O (show ig uL (.slice (some ⟨u4.heap.size,0,none⟩) 1 1) [mm]from by rw[huL];exact MN u4 mm);have HDJ:=O (show∀k,(Value.slice (some ⟨u4.heap.size,0,none⟩) 1 1).ownBlock=some k->¬own (.slice ahh Bg.length chh) k from fun k hk ho=>by
     have h1:=(Kf.o.lt k ho).2;have h2:=Mw.size;have e:u4.heap.size=k:=by simpa[Value.ownBlock]using hk
     omega)
    have HHV:=O (Kf.o.fr kH (fun _ h=>absurd h id));have HUL:=O (HU3.o.trans kH);obtain⟨MS,UI⟩:∃MS:List ai,MS=[mm]:=⟨_,rfl⟩;obtain⟨MA,hMA⟩:∃MA:fi,MA=some ⟨u4.heap.size,0,none⟩:=⟨_,rfl⟩;obtain⟨MC,hMC⟩:∃MC:Nat,MC=1:=⟨_,rfl⟩;have hval:Value.slice (some ⟨u4.heap.size,0,none⟩) 1 1=Value.slice MA MS.length MC:=by rw[hMA,UI,hMC];rfl
    have HMM:=O (show(if([]:List Bs).isEmpty then [mm]else([]:List Bs).map bA)=MS from by rw[UI];rfl);have HMF:=O (show MS.length<=40 from by rw[UI];simp);rw[<-UI]at HMV;rw[hval]at HMV HDJ;clear e9 pA kH Mw;go_wp2;rw[<-huL];clear hval UI hMA hMC huL
   case' cons m0 ms0 =>
    obtain⟨MS,UI⟩:∃MS:List ai,MS=dQ (m0 :: ms0):=⟨_,rfl⟩;have HMM:=O (show(if(m0 :: ms0:List Bs).isEmpty then [mm]else(m0 :: ms0:List Bs).map bA)=MS from by rw[UI];rfl);have HMF:=O (show MS.length<=40 from by rw[UI];have h:=am4.o;unfold dQ;rw[aj];exact h);have pA:((MS.length:Int)==0)=false:=by rw[aL,UI];unfold dQ;simp;omega
    rw[<-UI]at aah ahw ⊢;have HMV:=O aah.o.at;have HDJ:=O (show∀k,(Value.slice am MS.length cm).ownBlock=some k->¬own (.slice ahh Bg.length chh) k from fun k hk ho=>by
     have h1:=Kf.o.block k ho;have h2:=ahw.o k hk;omega)
    have HHV:=O Kf.o;have HUL:=O HU3.o;obtain⟨MA,hMA⟩:∃MA,MA=am:=⟨_,rfl⟩;obtain⟨MC,hMC⟩:∃MC,MC=cm:=⟨_,rfl⟩;obtain⟨uL,rfl⟩:∃uL,uL=u3:=⟨_,rfl⟩;rw[<-hMA, <-hMC]at HMV HDJ ⊢;clear UI hMA hMC;go_wp2
   all_goals
    go_loopw[51] (ahn u1.heap.size uL (.slice ahh Bg.length chh) Bg) (fun t _=>Bg.length-(intOf t).toNat)
    case atStart=>exact⟨0,aW _,rfl,by simpa using HHV.o,ae _ _⟩
    case round =>
     obtain⟨k,hk,rfl,iQ,cR⟩:=hrel;by_cases fE:k<Bg.length
     ·have qm:(k:Int)<(Bg.length:Int):=ab;have T6:(0:Int)<=(k:Int):=ab;have dT:=O (List.getElem?_eq_getElem fE);have jc:=O (bQ fE);generalize Bg[k]=x at dT jc;have hne:(Bg.take k).map sF++Bg.drop k≠ []:=by
       intro e;have:=ar List.length e;rw[aM,aj,aQ,bJ,List.length_nil]at this;omega
      obtain⟨gh,hgh,rA,g1,g2,g3,g4,g5,g6⟩:=Strs.aae iQ hne;subst hgh;unfold maxLen at g4;have hc:=g5 k x (UH dT.o);have kO:=O (qM x wr (ZZ.o x jc.o));clear g5 g6 rA;go_wp2_with fail
      refine kO.o.mono ?_;rintro e wl⟨rfl,DJ⟩;have mC:=O (iQ.fr DJ (fun _ h=>absurd h id));obtain⟨gh',ahB,rA,q1,q2,q3,q4,q5,q6⟩:=Strs.aae mC.o hne;obtain rfl:gh=gh':=by injection ahB with h;injection h
      have rI:=q5 k x (UH dT.o);have kR:=q6 k;have acZ:=O (mC.o.put (j:=k) (sF x));have ue:=O (show Fr (own (.slice (some ⟨gh,0,none⟩) Bg.length chh)) uL (wl.setCell ⟨gh,k,none⟩ (.string (sF x)))from(cR.step DJ (fun _ _ h=>absurd h id)).setCell (p:=⟨gh,k,none⟩) (fun _=>rfl) _);rw[UG dT.o]at acZ;unfold sF at acZ ue;clear q5 q6 iQ cR DJ mC kO rA ahB hne;go_wp2;go_roundw
      case rel=>exact⟨k+1,ab,bh,acZ.o,ue.o⟩
      case measure=>simp[intOf];omega
     ·have qm:¬(k:Int)<(Bg.length:Int):=ab;have ahC:=O (show Strs u1.heap.size wr (.slice ahh Bg.length chh) (Bg.map sF)from by
       have h:=iQ;rw[aG ab,List.drop_of_length_le ab,eX]at h;exact h)
      have ana:=O (HMV.o.fr cR HDJ.o);have HUW:=O (show Fr aX w1 wr from HUL.o.step cR (fun j hj ho=>by
       have h1:=ahC.o.block j ho;have h2:=Tl.o;omega))
      clear iQ cR HHV HMV HDJ HUL;go_wp2;obtain⟨w5,rfl⟩:∃w5,w5=wr:=⟨_,rfl⟩;obtain⟨wq,hwq⟩:∃wq,wq=(w5.alloc (.cells #[] 137)).alloc (.cells #[.slice (some ⟨w5.heap.size,0,none⟩) 0 0] 119):=⟨_,rfl⟩;have hfq:Fr aX w5 wq:=by rw[hwq];exact((ae _ _).alloc _).alloc _
      have Zq:wq.heap[w5.heap.size+1]?=some (.cells #[.slice (some ⟨w5.heap.size,0,none⟩) 0 0] 119 (0,0)):=by
       have h:=aC (w5.alloc (.cells #[] 137)) (.cells #[.slice (some ⟨w5.heap.size,0,none⟩) 0 0] 119);rw[bK]at h;rw[hwq];exact h
      have pA:wq.heap[w5.heap.size]?=some (.cells #[] 137 (0,0)):=by rw[hwq];exact((ae aX _).alloc _).keep (aC _ _) id
      have HO0:=O (show OwnRows w5.heap.size 137 12 wq (.slice (some ⟨w5.heap.size,0,none⟩) 0 0) (([]:List ep).map ep.cells)from⟨aS,rfl,Or.inr ⟨w5.heap.size,0, #[],rfl,az _,pA,az _,ag,rfl,rfl⟩⟩);have HPQ:=O Zq;have HFQ:=O hfq;obtain⟨bp,hbp⟩:∃bp,bp=w5.heap.size+1:=⟨_,rfl⟩;have Z6:=O (show w5.heap.size<=bp from ab);have qe:=O (show w.heap.size<=w5.heap.size from by have:=lV.o.size;have:=HUW.o.size;omega)
      rw[<-hwq, <-hbp];rw[<-hbp]at HPQ;clear hfq Zq pA hwq hbp qm hk fE;go_loopw[66] (aaf w5.heap.size w5 bp MS (fun m=>rl.Ca pC m ⟨#[]⟩) []) (fun t _=>MS.length-(intOf t).toNat)
      case atStart=>exact⟨0,_,aW _,rfl,HPQ.o,HO0.o,HFQ.o⟩
      case round =>
       obtain⟨k,vk,hk,rfl,su,cQ,cR⟩:=hrel;by_cases fE:k<MS.length
       ·have qm:(k:Int)<(MS.length:Int):=ab;have T6:(0:Int)<=(k:Int):=ab;have dT:=O (List.getElem?_eq_getElem fE);rcases ana.o.i_ cR with ⟨_,_,_,e,_⟩|⟨bk,o,c,hf,h1,h2,h3,h4⟩
        ·rw[e]at fE;exact absurd fE (ct _)
        cases hf;unfold maxLen at h2;have hc:=h4 k _ dT.o;generalize MS[k]=x at dT hc;have mC:=O (Ke (fun m=>rl.Ca pC m ⟨#[]⟩) [] dT.o);have A':=Dr ((MS.take k).map (fun m=>rl.Ca pC m ⟨#[]⟩)) [];rw[aj,aQ,List.length_nil]at A';have Kg:=O (Mr.o wr (HUW.o.trans cR) w5.heap.size bp vk _ x ⟨#[]⟩ Z6.o (by have:=HMF.o;omega) su cQ);have ue:=O cR;have P8:=O cQ;clear h4 su cQ cR A';go_wp2_with fail
        refine Kg.o.mono ?_;rintro e w6⟨rfl,v6,Bj,yD,nt⟩;have H6:=O (show acW w6 bp v6 w5.heap.size (((MS.take (k+1)).map (fun m=>rl.Ca pC m ⟨#[]⟩)).foldl pO []) w5 from⟨Bj,by rw[mC.o];exact yD,ue.o.step nt (fun j hj h=>by
         rcases h with h|h
         ·have:=Z6.o;omega
         ·have:=P8.o.block j h;omega)⟩)
        clear Bj yD nt Kg;go_wp2;go_roundw
        case rel=>exact⟨k+1,v6,ab,bh,H6.o.1,H6.o.2.1,H6.o.2.2⟩
        case measure=>simp[intOf];omega
       ·have qm:¬(k:Int)<(MS.length:Int):=ab;rw[aG ab]at cQ;obtain⟨ph,BR⟩:∃ph,ph=(MS.map (fun m=>rl.Ca pC m ⟨#[]⟩)).foldl pO []:=⟨_,rfl⟩;rw[<-BR]at cQ;have A':=Dr (MS.map (fun m=>rl.Ca pC m ⟨#[]⟩)) [];rw[<-BR,aj,List.length_nil]at A';have zM:=O A';have DS:=O BR;obtain⟨Rv,Yz⟩:∃Rv,Rv=Bg.map sF:=⟨_,rfl⟩;have ahE:Bg.length=Rv.length:=by rw[Yz,aj]
        have HH3:=O (show ig w5 (.slice ahh Bg.length chh) Rv from by rw[Yz];exact ahC.o.at);have anc:=O (show(zB.map fun h=>rl.Ca pC (bA []) (bA (mX h)))=Rv.map (fun h=>rl.Ca pC ⟨#[]⟩ h)from by rw[Yz];exact HLM.o);have Hq:=O ahE;have HS:=O (show acW wr bp vk w5.heap.size ph w5 from⟨su,cQ,cR⟩);clear su cQ cR BR Yz ahE A' fE hk;go_wp2
        go_loopw[76] (aaf w5.heap.size w5 bp Rv (fun h=>rl.Ca pC ⟨#[]⟩ h) ph) (fun t _=>Rv.length-(intOf t).toNat)
        case atStart=>exact⟨0,_,aW _,rfl,HS.o.1,HS.o.2.1,HS.o.2.2⟩
        case round =>
         obtain⟨k,vk,hk,rfl,su,cQ,cR⟩:=hrel;by_cases fE:k<Rv.length
         ·have acR:(k:Int)<(Bg.length:Int):=by have:=Hq.o;omega
          have T6:(0:Int)<=(k:Int):=ab;have dT:=O (List.getElem?_eq_getElem fE);have hHs:=HH3.o.i_ cR;rw[Hq.o]at hHs acR ⊢;rcases hHs with ⟨_,_,_,e,_⟩|⟨bk,o,c,hf,h1,h2,h3,h4⟩
          ·rw[e]at fE;exact absurd fE (ct _)
          cases hf;unfold maxLen at h2;have hc:=h4 k _ dT.o;generalize Rv[k]=x at dT hc;have mC:=O (Ke (fun h=>rl.Ca pC ⟨#[]⟩ h) ph dT.o);have A':=Dr ((Rv.take k).map (fun h=>rl.Ca pC ⟨#[]⟩ h)) ph;rw[aj,aQ]at A';have Kg:=O (Mr.o wr (HUW.o.trans cR) w5.heap.size bp vk _ ⟨#[]⟩ x Z6.o (by have h1:=HMF.o;have h2:=ahx.o;have h3:=zM.o;have h4:=Hq.o;omega) su cQ);have ue:=O cR;have P8:=O cQ;clear h4 su cQ cR A'
          go_wp2_with fail
          refine Kg.o.mono ?_;rintro e w6⟨rfl,v6,Bj,yD,nt⟩;have H6:=O (show acW w6 bp v6 w5.heap.size (((Rv.take (k+1)).map (fun h=>rl.Ca pC ⟨#[]⟩ h)).foldl pO ph) w5 from⟨Bj,by rw[mC.o];exact yD,ue.o.step nt (fun j hj h=>by
           rcases h with h|h
           ·have:=Z6.o;omega
           ·have:=P8.o.block j h;omega)⟩)
          clear Bj yD nt Kg;go_wp2;rw[<-Hq.o];go_roundw
          case rel=>exact⟨k+1,v6,ab,bh,H6.o.1,H6.o.2.1,H6.o.2.2⟩
          case measure=>have hln:=Hq.o;simp[intOf];omega
         ·have acR:¬(k:Int)<(Bg.length:Int):=by have:=Hq.o;omega
          rw[aG ab]at cQ;obtain⟨G,hG⟩:∃G,G=(Rv.map (fun h=>rl.Ca pC ⟨#[]⟩ h)).foldl pO ph:=⟨_,rfl⟩;rw[<-hG]at cQ;have HGE:=O (show GS=G from by rw[HGR.o,anc.o,hG,DS.o,HMM.o];rfl);have HWR:=O (HUW.o.trans cR);obtain⟨av,cv,Ro⟩:=cQ.form;rw[aj]at Ro;subst Ro;have P8:=O cQ;have d0:wr.cell? ⟨bp,0,none⟩=some (.slice av G.length cv):=by simp[World.cell?,su]
          have HBK:=O su;have ahG:=O (wL.o wr HWR.o _ G cQ.at);obtain⟨e0,e1,e2,e3,e4,e5,e6,e7,e8,e9,e10,e11,e12⟩:=HX.o wr HWR.o;clear su cQ cR hG;have Z4:=O (show RES=if !rl.mO G then .error 6 else .ok G from by rw[<-HGE.o];exact HG2.o);generalize rl.mO G=cv2 at ahG Z4;go_wp2_with fail
          refine ahG.o.mono ?_;rintro e w7⟨rfl,nY⟩;have d1:w7.cell? ⟨bp,0,none⟩=some (.slice av G.length cv):=by simp[World.cell?,nY.keep HBK.o id]
          have Hj:=O nY;clear nY e0 e1 e2 e3 e4 e5 e6 e7 e8 e9 e10 e11 e12 d0;cases cv2
          ·have HR:=O (show RES=.error 6 from Z4.o);clear Z4;go_wp2;go_ret2;exact vT.bad 6 HR.o (lV.o.trans (HWR.o.trans Hj.o))
          ·have HR:=O (show RES=.ok G from Z4.o);clear Z4;go_wp2;go_ret2;exact vT.am1 HR.o (lV.o.trans (HWR.o.trans Hj.o)) ((P8.o.fr Hj.o (fun _ _ h=>h)).up qe.o)
