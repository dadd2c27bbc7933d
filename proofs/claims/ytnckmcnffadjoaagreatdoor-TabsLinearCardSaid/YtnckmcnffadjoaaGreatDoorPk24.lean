/- Lemmas for the law's walk. -/
import Derived.Test.YtnckmcnffadjoaaGreatDoorPk13
set_option maxRecDepth 100000
set_option maxHeartbeats 16000000
set_option linter.unusedSimpArgs false
namespace Go.Proofs.YtnckmcnffadjoaaGreatDoor
open Go.Proofs.Tryz
open Go.RowKit
variable {base n c k:Nat} {w w':World} {ss:List aj} {x:aj} {ps:List jF} {ws:List Bs} {res:Except Nat (List ez)}
theorem aaY(r:gC Value)(v:Value)(ps:List jF)(w:World)(h:lX w v ps)(hz:lK ps)(ht:wU w)(h0: -9223372036854775808<=r.dt.port)(h1:r.dt.port<=9223372036854775807)(hs:r.dt.host.size<100000) :
  aB 130 #[.agg r.cells.toArray,v] w fun e w'=>e=.returned (.bool (NI (xM r.dt).data.toList r.f_ ps))/\Fr aS w w':=by
 have gO:Hid (NI (xM r.dt).data.toList r.f_ ps=(if !qM ps rp then false else if(lH ps rp== [42])&&!r.f_ then true else if lH ps rp !=(xM r.dt).data.toList then false else !r.f_||(lH ps KU==mf))):=O rfl;generalize NI (xM r.dt).data.toList r.f_ ps=res at gO ⊢;obtain⟨rc,uX⟩:∃rc,rc=r.cells.toArray:=⟨_,rfl⟩;obtain⟨wb,kj⟩:∃wb,wb=w.alloc (.cells rc 37):=⟨_,rfl⟩
 have kC:Fr aS w wb:=by rw[kj];exact(ae aS w).alloc _
 have lZ:wb.heap[w.heap.size]?=some (.cells rc 37 (0,0)):=by rw[kj];exact aC _ _
 have HC:=O (show∀U,Fr aS wb U->U.cell? ⟨w.heap.size,1,none⟩=some (.bool r.dt.aG)/\U.cell? ⟨w.heap.size,2,none⟩=some (.string r.dt.host)/\U.cell? ⟨w.heap.size,3,none⟩=some (.int .i64 r.dt.port)/\U.cell? ⟨w.heap.size,11,none⟩=some (.bool r.f_)from fun U hU=>by
  have j:=hU.keep lZ id;rw[uX]at j;have hc:∀i u,r.cells[i]?=some u->U.cell? ⟨w.heap.size,i,none⟩=some u:=fun i u hu=>by simp only[World.cell?,j];simpa using hu
  exact⟨hc 1 _ rfl,hc 2 _ rfl,hc 3 _ rfl,hc 11 _ rfl⟩)
 obtain⟨so,hso,xS⟩:=uy ps rp hz;obtain⟨sc,hsc,hcz⟩:=uy ps KU hz;have HG:=O (fun(u:World) (hu:Fr aS w u)=>w_ v ps rp u (bh h hu) hz ag so _ hso rfl);have HK:=O (fun(u:World) (hu:Fr aS w u)=>w_ v ps KU u (bh h hu) hz ag sc _ hsc rfl);have HT:=O (fun(u:World) (hu:Fr aS w u)=>Vt r.dt u (ht.fr hu) h0 h1 hs);have mF:=O kC;have ri:=O kj;rw[hso,hsc]at gO;obtain⟨av,cv,hv⟩:=lX.form h;subst hv
 clear h hz ht h0 h1 hs kC lZ hso hsc;rw[<-uX];clear uX kj;generalize qM ps KU=bc at HK;cases hb:qM ps rp
 ·have HR:=O (show res=false by rw[gO.out,hb];rfl);have SU:=O (HG.o wb mF.o);rw[hb]at SU;clear hb gO;go_enter func130,ntmps130;go_wp2_with fail
  rw[<-ri.o];refine SU.o.mono ?_;rintro e u1⟨rfl,dk⟩;go_wp2;go_ret;exact⟨by rw[HR.o];rfl,mF.o.trans dk⟩
 ·have SU:=O (HG.o wb mF.o);rw[hb]at SU gO;clear hb;have HTT:=O (show so.toList=so.data.toList from aP _);generalize xM r.dt=t at *
  cases e1:(so.toList== [42])
  ·have J':=O (show res=(if so.data.toList !=t.data.toList then false else !r.f_||(sc.data.toList==mf))by rw[gO.out, <-HTT.o,e1];rfl);clear gO;go_enter func130,ntmps130;go_wp2_with fail
   rw[<-ri.o];refine SU.o.mono ?_;rintro e u1⟨rfl,dk⟩;have ln:=O dk;obtain⟨k1,k2,k3,k4⟩:=HC.o u1 dk;clear dk;go_wp2_with fail
   refine(HT.o u1 (mF.o.trans ln.o)).mono ?_;rintro e u2⟨rfl,dE⟩;have fU:=O (ln.o.trans dE);clear dE k1 k2 k3 k4;cases e2:(so.data.toList==t.data.toList)
   ·have hne:¬so.toList=t.toList:=by
     rw[aP,aP];exact aO.1 e2
    have Vr:(so.toList==t.toList)=false:=by rw[aO];exact hne
    have HR:=O (show res=false by rw[J'.o];unfold bne;rw[e2];rfl);clear J' e2;go_wp2;go_ret;exact⟨by rw[HR.o];rfl,mF.o.trans fU.o⟩
   ·have heq:so.toList=t.toList:=by
     rw[aP,aP];exact dX.1 e2
    have NH:=O (show res=(!r.f_||(sc.data.toList==mf))by rw[J'.o];unfold bne;rw[e2];rfl);have HEQ:=O heq;have Vr:(so.toList==t.toList)=true:=by rw[dX];exact heq
    clear J' e2 heq;go_wp2_with fail
    refine(HK.o u2 (mF.o.trans fU.o)).mono ?_;rintro e u3⟨rfl,iz⟩;have il:=O (fU.o.trans iz);obtain⟨k1,k2,k3,k4⟩:=HC.o u3 il.o;clear iz;have SV:=O (show sc.toList=sc.data.toList from aP _);cases e4:r.f_
    ·rw[e4]at k4;have HR:=O (show res=true by rw[NH.o,e4];rfl);clear e4;go_wp2;go_ret;exact⟨by rw[HR.o];rfl,mF.o.trans il.o⟩
    ·rw[e4]at k4 NH;clear e4;cases e3:(sc.toList== [116,114,117,101])
     ·have HR:=O (show res=false by rw[NH.o, <-SV.o];exact e3);go_wp2;go_ret;exact⟨by rw[HR.o];rfl,mF.o.trans il.o⟩
     ·have HR:=O (show res=true by rw[NH.o, <-SV.o];exact e3);go_wp2;go_ret;exact⟨by rw[HR.o];rfl,mF.o.trans il.o⟩
  ·cases e5:r.f_
   ·have HR:=O (show res=true by rw[gO.out, <-HTT.o,e1,e5];rfl);clear gO;go_enter func130,ntmps130;go_wp2_with fail
    rw[<-ri.o];refine SU.o.mono ?_;rintro e u1⟨rfl,dk⟩;have ln:=O dk;obtain⟨k1,k2,k3,k4⟩:=HC.o u1 dk;clear dk;rw[e5]at k4;clear e5;go_wp2;go_ret;exact⟨by rw[HR.o];rfl,mF.o.trans ln.o⟩
   ·have J':=O (show res=(if so.data.toList !=t.data.toList then false else !true||(sc.data.toList==mf))by rw[gO.out, <-HTT.o,e1,e5];rfl);clear gO;go_enter func130,ntmps130;go_wp2_with fail
    rw[<-ri.o];refine SU.o.mono ?_;rintro e u1⟨rfl,dk⟩;have ln:=O dk;obtain⟨k1,k2,k3,k4⟩:=HC.o u1 dk;clear dk;rw[e5]at k4 HC;clear e5;go_wp2_with fail
    refine(HT.o u1 (mF.o.trans ln.o)).mono ?_;rintro e u2⟨rfl,dE⟩;have fU:=O (ln.o.trans dE);clear dE k1 k2 k3 k4;cases e2:(so.data.toList==t.data.toList)
    ·have hne:¬so.toList=t.toList:=by
      rw[aP,aP];exact aO.1 e2
     have Vr:(so.toList==t.toList)=false:=by rw[aO];exact hne
     have HR:=O (show res=false by rw[J'.o];unfold bne;rw[e2];rfl);clear J' e2;go_wp2;go_ret;exact⟨by rw[HR.o];rfl,mF.o.trans fU.o⟩
    ·have heq:so.toList=t.toList:=by
      rw[aP,aP];exact dX.1 e2
     have NH:=O (show res=(!true||(sc.data.toList==mf))by rw[J'.o];unfold bne;rw[e2];rfl);have HEQ:=O heq;have Vr:(so.toList==t.toList)=true:=by rw[dX];exact heq
     clear J' e2 heq;go_wp2_with fail
     refine(HK.o u2 (mF.o.trans fU.o)).mono ?_;rintro e u3⟨rfl,iz⟩;have il:=O (fU.o.trans iz);obtain⟨k1,k2,k3,k4⟩:=HC.o u3 il.o;clear iz;have SV:=O (show sc.toList=sc.data.toList from aP _);cases e3:(sc.toList== [116,114,117,101])
     ·have HR:=O (show res=false by rw[NH.o, <-SV.o];exact e3);go_wp2;go_ret;exact⟨by rw[HR.o];rfl,mF.o.trans il.o⟩
     ·have HR:=O (show res=true by rw[NH.o, <-SV.o];exact e3);go_wp2;go_ret;exact⟨by rw[HR.o];rfl,mF.o.trans il.o⟩
theorem Strs.put{g:Nat}(h:Strs base w (.slice (some ⟨g,0,none⟩) n c) ss){j:Nat}(x:aj) :
  Strs base (w.setCell ⟨g,j,none⟩ (.string x)) (.slice (some ⟨g,0,none⟩) n c) (ss.set j x):=by
 obtain⟨h1,h2⟩:=h;refine⟨aR,?_⟩;rcases h2 with ⟨hv,_⟩|⟨g',cap,cur,hv,hg,hh,h3,h4,h5,h6⟩
 ·cases hv
 ·have e1:g'=g/\n=ss.length/\c=cap:=by
   injection hv with a1 a2 a3
   injection a1 with a1
   injection a1 with a1
   exact⟨a1.symm,a2,a3⟩
  obtain⟨rfl,rfl,rfl⟩:=e1;refine Or.inr ⟨g',c,cur.setIfInBounds j (.string x),by rw[en],hg,cq hh _ _,by rw[en];exact h3,h4,by simpa using h5,?_⟩;rw[en,List.map_set, <-h6,Array.toList_setIfInBounds,List.take_set]
def akc(base:Nat)(u:World)(hv:Value)(ss:List aj)(t:Value)(wr:World):Prop :=
 ∃k:Nat,k<=ss.length/\t=.int .i64 k/\Strs base wr hv ((ss.take k).map tK++ss.drop k)/\Fr (own hv) u wr
theorem W_(h:ss[k]?=some x):((ss.take k).map tK++ss.drop k).set k (tK x)=(ss.take (k+1)).map tK++ss.drop (k+1):=by
 obtain⟨hk,e⟩:=List.getElem?_eq_some_iff.1 h;have hl:((ss.take k).map tK).length=k:=bH;rw[List.set_append_right _ _ ab,hl,Nat.sub_self,cX hk,List.set_cons_zero,d_ h,bI,cN];rfl
theorem Xa(h:ss[k]?=some x):((ss.take k).map tK++ss.drop k)[k]?=some x:=by
 obtain⟨hk,e⟩:=List.getElem?_eq_some_iff.1 h;have hl:((ss.take k).map tK).length=k:=bH;rw[List.getElem?_append_right ab,hl,Nat.sub_self,cX hk];simp[e]
theorem EU:∀(f:Nat) (r:Bs) (ws:List Bs),ma f r=.ok ws->∀w∈ws,w.length<=r.length
 |0,r,ws,h,w,hw=>by rw[ma]at h;cases h;cases hw
 |f+1,r,ws,h,w,hw=>by
  rw[ma]at h;have h1:=qx dN r;have h2:=qx gq (r.dropWhile dN);have h3:=qx dN ((r.dropWhile dN).dropWhile gq);have h4:=pV gq (r.dropWhile dN);have ef:∀u∈(if((r.dropWhile dN).takeWhile gq).isEmpty then []else [(r.dropWhile dN).takeWhile gq]),u.length<=r.length:=by
   intro u hu;split at hu
   ·cases hu
   ·simp at hu;subst hu;omega
  cases e:((r.dropWhile dN).dropWhile gq).dropWhile dN with
  |nil =>
   rw[e]at h;simp only at h;cases h;exact ef w hw
  |cons c r4 =>
   rw[e]at h h3;simp only at h;split at h
   ·cases hr:ma f r4 with
    |error m=>rw[hr]at h;cases h
    |ok w2 =>
     rw[hr]at h;cases h;rcases bL.1 hw with g|g
     ·exact ef w g
     ·have:=EU f r4 w2 hr w g;simp at h3;omega
   ·cases h
theorem O8{n:Bs}(hz:lK ps)(h:lp ps n=some ws):∀w∈ws,w.length<=100002000:=by
 obtain⟨s,hs,xS⟩:=uy ps n hz;unfold lp at h;cases hl:ia (lH ps n)with
 |error e=>rw[hl]at h;cases h
 |ok m =>
  rw[hl]at h;simp only at h;split at h
  ·cases h
  ·cases h;intro w hw;have:=EU _ _ _ hl w hw;rw[hs]at this;have e:s.data.toList.length=s.size:=aR;omega
theorem Hu{n:Bs}(h:lp ps n=some ws):ws.length<=40:=by
 unfold lp at h;cases hl:ia (lH ps n)with
 |error e=>rw[hl]at h;cases h
 |ok m =>
  rw[hl]at h;simp only at h;split at h
  ·cases h
  ·cases h;omega
theorem Strs.acM{a:eO}(h:Strs base w (.slice a n c) ss)(hne:ss≠ []) :
  ∃g,a=some ⟨g,0,none⟩/\n=ss.length/\base<=g/\g<w.heap.size/\n<=c/\c<=maxLen/\(∀(j:Nat) x,ss[j]?=some x->w.cell? ⟨g,j,none⟩=some (.string x))/\∀i,w.frozen? ⟨g,i,none⟩=false:=by
 have dS:=h.at;obtain⟨h1,h2⟩:=h;rcases h2 with ⟨hv,h0⟩|⟨g,cap,cur,hv,hg,hh,h3,h4,h5,h6⟩
 ·exact absurd (ct h0) hne
 ·cases hv;refine⟨g,rfl,rfl,hg,bq hh,h3,h4,?_,fun i=>by simp[World.frozen?,hh]⟩;rcases dS with ⟨_,_,_,e,_⟩|⟨bk,o,c',hf,g1,g2,g3,g4⟩
  ·exact absurd e hne
  ·cases hf;intro j x hj;have:=g4 j x hj;simpa using this
theorem O9(w:World)(x:aj):fT (w.alloc (.cells #[.string x] 9)) (.slice (some ⟨w.heap.size,0,none⟩) 1 1) [x]:=by
 refine Or.inr ⟨w.heap.size,0,1,rfl,ay _,by simp[maxLen],aR,fun j y hj=>?_⟩
 match j,hj with
 |0,hj =>
  simp at hj;subst hj;rw[World.cell?_alloc_mark];simp
def xd(res:Except Nat (List ez))(w:World)(e:Ending)(w':World):Prop :=
 Fr aS w w'/\match res with
 | .ok m=>∃v,e=.returned (.tuple #[v,.nilIface])/\OwnRows w.heap.size 155 12 w' v (m.map ez.cells)
 | .error n=>e=.returned (.tuple #[.slice none 0 0,.iface 105 (.int .i64 n)])
theorem xd.bad(n:Nat)(h:res=.error n)(hf:Fr aS w w'):xd res w (.returned (.tuple #[.slice none 0 0,.iface 105 (.int .i64 n)])) w':=by
 subst h;exact⟨hf,rfl⟩
theorem xd.O_{m:List ez}{v:Value}(h:res=.ok m)(hf:Fr aS w w')(ho:OwnRows w.heap.size 155 12 w' v (m.map ez.cells)):xd res w (.returned (.tuple #[v,.nilIface])) w':=by
 subst h;exact⟨hf,v,rfl,ho⟩
def acN(base:Nat)(u:World)(bp:Nat)(ss:List aj)(f:aj->ez)(a0:List ez)(t:Value)(wr:World):Prop :=
 ∃(k:Nat) (v:Value),k<=ss.length/\t=.int .i64 k/\wr.heap[bp]?=some (.cells #[v] 90 (0,0))/\OwnRows base 155 12 wr v ((((ss.take k).map f).foldl qA a0).map ez.cells)/\Fr aS u wr
def afx(w6:World)(bp:Nat)(v:Value)(base:Nat)(acc:List ez)(w5:World):Prop :=
 w6.heap[bp]?=some (.cells #[v] 90 (0,0))/\OwnRows base 155 12 w6 v (acc.map ez.cells)/\Fr aS w5 w6
theorem Ms(f:aj->ez)(a0:List ez)(h:ss[k]?=some x):((ss.take (k+1)).map f).foldl qA a0=qA (((ss.take k).map f).foldl qA a0) (f x):=by
 rw[d_ h,bI,List.foldl_append];rfl
theorem EW(l:List ez):∀a0:List ez,(l.foldl qA a0).length<=a0.length+l.length:=by
 induction l with
 |nil=>intro a0;simp
 |cons p l ih =>
  intro a0;have h1:=ih (qA a0 p);have h2:(qA a0 p).length<=a0.length+1:=by unfold qA;split<;>simp
  simp only[List.foldl_cons,List.length_cons];omega
theorem SW(r:gC Value)(hs:List ig)(lv:Value)(ps:List jF)(now:Int)(w:World)(hr:oX w r.eB hs)(hl:lX w lv ps)(hz:lK ps)(hq:G_ r hs)(ht:wU w)(p0: -9223372036854775808<=r.dt.port)(p1:r.dt.port<=9223372036854775807)(hh:r.dt.host.size<100000)(n0:0<=now)(n1:now<=1099511627776) :
  aB 65 #[.agg r.cells.toArray,lv,.int .i64 now] w (xd (uO (r.dW hs) (xM r.dt).data.toList ps now) w):=by
 obtain⟨al,cl,hlf⟩:=dU hl;rw[ai]at hlf;subst hlf;obtain⟨n,hn⟩:∃n,n=w.heap.size:=⟨_,rfl⟩;obtain⟨w1,oJ⟩:∃w1,w1=((w.alloc (.cells r.cells.toArray 37)).alloc (.cells #[.slice al ps.length cl] 35)).alloc (.cells #[.int .i64 now] 3):=⟨_,rfl⟩;have kC:Fr aS w w1:=by rw[oJ];exact(((ae aS w).alloc _).alloc _).alloc _
 have lZ:w1.heap[n]?=some (.cells r.cells.toArray 37 (0,0)):=by rw[oJ,hn];exact(((ae aS _).alloc _).alloc _).keep (aC _ _) id
 have sH:w1.heap[n+1]?=some (.cells #[.slice al ps.length cl] 35 (0,0)):=by
  have h:=aC (w.alloc (.cells r.cells.toArray 37)) (.cells #[.slice al ps.length cl] 35);rw[bP, <-hn]at h;rw[oJ];exact((ae aS _).alloc _).keep h id
 have IL:w1.heap[n+1+1]?=some (.cells #[.int .i64 now] 3 (0,0)):=by
  have h:=aC ((w.alloc (.cells r.cells.toArray 37)).alloc (.cells #[.slice al ps.length cl] 35)) (.cells #[.int .i64 now] 3);rw[bP,bP, <-hn]at h;rw[oJ];exact h
 have QM:=O (show∀U,Fr aS w1 U->U.cell? ⟨n+1,0,none⟩=some (.slice al ps.length cl)from fun U hU=>by simp[World.cell?,hU.keep sH id]);have HX:=O (show∀U,Fr aS w1 U->BB U n r from fun U hU=>BB.eN (hU.keep lZ id));have HWD:=O (show∀(nm:Bs),nm.length<1000->∀U,Fr aS w1 U->aB 129 #[.slice al ps.length cl,.string (bA nm)] U (Hj ps nm U)from fun nm Yr U hU=>Ss _ ps nm U (bh hl (kC.trans hU)) hz Yr)
 have aaZ:=O (show∀U,Fr aS w1 U->aB 130 #[.agg r.cells.toArray,.slice al ps.length cl] U fun e w'=>e=.returned (.bool (NI (xM r.dt).data.toList r.f_ ps))/\Fr aS U w' from fun U hU=>aaY r _ ps U (bh hl (kC.trans hU)) hz (ht.fr (kC.trans hU)) p0 p1 hh);have HMT:=O (show∀U,aB 51 #[.string r.method] U fun e w'=>e=.returned (.string (jT r.method))/\Fr aS U w' from fun U=>yx r.method U hq.1)
 have xO:=O (show∀U,Fr aS w1 U->∀(pv:Value) (m:List ez),q_ U pv m->aB 62 #[.agg r.cells.toArray,pv] U fun e w'=>e=.returned (.bool ((r.dW hs).nt m))/\Fr aS U w' from fun U hU pv m NP=>yU r hs pv m U (bh hr (kC.trans hU)) NP hq)
 have OE:=O (show∀U,Fr aS w1 U->∀(base bp:Nat) (v:Value) (acc:List ez) (m hd:aj),base<=bp->acc.length<1000000->U.heap[bp]?=some (.cells #[v] 90 (0,0))->OwnRows base 155 12 U v (acc.map ez.cells)->aB 132 #[.string m,.string hd,.pointer (some ⟨n,0,none⟩),.pointer (some ⟨n+1+1,0,none⟩),.pointer (some ⟨n+1,0,none⟩),.pointer (some ⟨bp,0,none⟩)] U fun e w'=>e=.returned (.tuple #[])/\∃v',w'.heap[bp]?=some (.cells #[v'] 90 (0,0))/\OwnRows base 155 12 w' v' ((qA acc ((r.dW hs).Dz (now+nu ps) m hd)).map ez.cells)/\Fr (fun k=>k=bp\/own v k) U w' from fun U hU base bp v acc m hd hb hlen hp cW =>
  aav base m hd r hs now _ ps acc v n (n+1+1) (n+1) bp U (hU.keep lZ id) (hU.keep IL id) (hU.keep sH id) hp (bh hl (kC.trans hU)) hz cW hb hlen n0 n1)
 have mF:=O kC;obtain⟨ah,ch,g_⟩:=dU hr;rw[ai]at g_;have hzz:=O hz;clear hr hl hz lZ sH IL kC ht hq p0 p1 hh n0 n1;have HG:=O (show uO (r.dW hs) (xM r.dt).data.toList ps now=(match lp ps KV,lp ps yB with
  |some ms,some SX=>if !NI (xM r.dt).data.toList r.f_ ps then .error 6 else if !(r.dW hs).nt ((r.dW hs).bG (now+nu ps) ms SX)then .error 6 else .ok ((r.dW hs).bG (now+nu ps) ms SX)
  |_,_=>.error 3)from rfl)
 have HGS:=O (show∀ms SX,(r.dW hs).bG (now+nu ps) ms SX=(SX.map fun h=>(r.dW hs).Dz (now+nu ps) (bA []) (bA (nD h))).foldl qA ((if ms.isEmpty then [jT r.method]else ms.map bA).map (fun m=>(r.dW hs).Dz (now+nu ps) m (bA [])) |>.foldl qA [])from fun _ _=>rfl);generalize (xM r.dt).data.toList=akd at *
 obtain⟨part,⟨fs,fh,fp⟩,⟨os,oh,op⟩,path,query,method,eB,f_,body⟩:=r;simp only at g_;subst g_;obtain⟨R,hR⟩:∃R:gC Value,R=⟨part,⟨fs,fh,fp⟩,⟨os,oh,op⟩,path,query,method,.slice ah hs.length ch,f_,body⟩:=⟨_,rfl⟩;rw[<-hR]at HX aaZ HMT xO OE HG HGS ⊢
 have ake:=O (show R.cells.toArray= #[.int .i64 part,.bool fs,.string fh,.int .i64 fp,.bool os,.string oh,.int .i64 op,.string path,.string query,.string method,.slice ah hs.length ch,.bool f_,.string body]by rw[hR];rfl);have HRL:=O (show∀U,Fr aS w1 U->BB U n ⟨part,⟨fs,fh,fp⟩,⟨os,oh,op⟩,path,query,method,.slice ah hs.length ch,f_,body⟩from by rw[<-hR];exact HX.o)
 have HMR:=O (show R.method=method by rw[hR]);clear HX;rw[ake.o]at aaZ xO ⊢;rw[HMR.o]at HMT HGS;have HX:=HRL;unfold BB at HX;dsimp only at HX;unfold gC.cells at oJ;dsimp only at oJ;clear hR ake HMR HRL;generalize R.dW hs=rl at *
 generalize R.f_=rw0 at *
 obtain⟨RES,akf⟩:∃RES,RES=uO rl akd ps now:=⟨_,rfl⟩;rw[<-akf]at HG ⊢;clear akf R;generalize NI akd rw0 ps=my at *
 generalize now+nu ps=qh at *
 generalize jT method=mm at *
 subst hn;have c2:=QM.o w1 (ae _ _);have awO:w.heap.size<=w1.heap.size:=mF.o.size;rw[oJ]at c2;go_enter func65,ntmps65;go_wp2_with fail
 rw[<-oJ];clear oJ c2;refine(HWD.o KV ag w1 (ae _ _)).mono ?_;rintro e u1⟨uF,hm1⟩;have c2:=QM.o u1 uF;cases hwm:lp ps KV with
 |none =>
  rw[hwm]at hm1 HG;dsimp only at hm1;subst hm1;have HR:=O (show RES=.error 3 from HG.o);clear hwm HG;go_wp2_with fail
  refine(HWD.o yB ag u1 uF).mono ?_;rintro e u2⟨nC,J4⟩;have t_:=O (mF.o.trans (uF.trans nC));clear uF nC c2;cases hwh:lp ps yB with
  |none =>
   rw[hwh]at J4;dsimp only at J4;subst J4;go_wp2;go_ret2;exact xd.bad 3 HR.o t_.o
  |some yS =>
   rw[hwh]at J4;obtain⟨hv,rfl,jx⟩:=J4;obtain⟨ah',ch',Lw⟩:=jx.form;subst Lw;clear jx;go_wp2;go_ret2;exact xd.bad 3 HR.o t_.o
 |some ms =>
  rw[hwm]at hm1 HG;obtain⟨mv,rfl,hms⟩:=hm1;obtain⟨am,cm,apU⟩:=hms.form;subst apU;go_wp2_with fail
  refine(HWD.o yB ag u1 uF).mono ?_;rintro e u2⟨nC,J4⟩;have t_:=O (uF.trans nC);have hB1:w1.heap.size<=u1.heap.size:=uF.size;have apV:=O (Hu hwm);clear hwm;have afy:=fun k (hk:(Value.slice am (dT ms).length cm).ownBlock=some k)=>(hms.lt k hk).2;have afz:=hms.fr nC (fun _ h=>absurd h id);clear uF nC c2 hms;cases hwh:lp ps yB with
  |none =>
   rw[hwh]at J4 HG;dsimp only at J4;subst J4;have HR:=O (show RES=.error 3 from HG.o);clear hwh HG afy afz;go_wp2;go_ret2;exact xd.bad 3 HR.o (mF.o.trans t_.o)
  |some yS =>
   rw[hwh]at J4 HG;obtain⟨hv,rfl,jx⟩:=J4;have hHG:=HG.o;dsimp only at hHG;have HG:=O hHG;clear hHG;obtain⟨ahh,chh,Lw⟩:=jx.form;subst Lw;have aki:=O jx;have akj:=O (O8 hzz.o hwh);have l_:=O (Hu hwh);have akk:=O afz;have akl:=O afy;clear jx afz afy hwh;have c2:=QM.o u2 t_.o;obtain⟨e0,e1,e2,e3,e4,e5,e6,e7,e8,e9,e10,e11,e12⟩:=HX.o u2 t_.o;go_wp2_with fail
   refine(aaZ.o u2 t_.o).mono ?_;rintro e u3⟨rfl,Ab⟩;have YB:=O (t_.o.trans Ab);have Mt:=O (aki.o.fr Ab (fun _ h=>absurd h id));have acP:=O (akk.o.fr Ab (fun _ h=>absurd h id));have QC:=O hB1;clear Ab c2 e0 e1 e2 e3 e4 e5 e6 e7 e8 e9 e10 e11 e12 aki akk aaZ hB1;cases my
   ·have HR:=O (show RES=.error 6 from HG.o);clear HG;go_wp2;go_ret2;exact xd.bad 6 HR.o (mF.o.trans YB.o)
   have T3:=O (HG.o.trans (aq ag));clear HG;obtain⟨zk,hhl⟩:∃zk,zk=dT yS:=⟨_,rfl⟩;have VM:=O (show∀x∈zk,x.size<17592186044416 from by
    intro x hx;rw[hhl]at hx;obtain⟨y,hy,rfl⟩:=bZ.1 hx;have:=akj.o y hy;show y.toArray.size<_;simp;omega)
   have HGR:=O (HGS.o ms yS);have akn:=O (show(dT yS).length<=40 from by have h:=l_.o;unfold dT;rw[ai];exact h);have HLM:=O (show(yS.map fun h=>rl.Dz qh (bA []) (bA (nD h)))=(zk.map tK).map (fun h=>rl.Dz qh (bA []) h)from by
    rw[hhl];unfold dT tK bA;simp[iv,Function.comp])
   rw[<-hhl]at Mt akn ⊢;clear HGS akj hhl;obtain⟨GS,hGS⟩:∃GS,GS=rl.bG qh ms yS:=⟨_,rfl⟩;rw[<-hGS]at HGR T3;clear hGS;cases ms
   case' nil =>
    obtain⟨_,_,_,_,_,_,_,_,_,e9,_⟩:=HX.o u3 YB.o;have pD:((dT []).length:Int)=0:=rfl;go_wp2_with fail
    refine(HMT.o u3).mono ?_;rintro e u4⟨rfl,C'⟩;obtain⟨uL,huL⟩:∃uL,uL=u4.alloc (.cells #[.string mm] 9):=⟨_,rfl⟩;have kS:Fr aS u3 uL:=by rw[huL];exact C'.alloc _
    have HMV:=O (show fT uL (.slice (some ⟨u4.heap.size,0,none⟩) 1 1) [mm]from by rw[huL];exact O9 u4 mm);have HDJ:=O (show∀k,(Value.slice (some ⟨u4.heap.size,0,none⟩) 1 1).ownBlock=some k->¬own (.slice ahh zk.length chh) k from fun k hk ho=>by
     have h1:=(Mt.o.lt k ho).2;have h2:=C'.size;have e:u4.heap.size=k:=by simpa[Value.ownBlock]using hk
     omega)
    have HHV:=O (Mt.o.fr kS (fun _ h=>absurd h id));have HUL:=O (YB.o.trans kS);obtain⟨MS,Xb⟩:∃MS:List aj,MS=[mm]:=⟨_,rfl⟩;obtain⟨MA,hMA⟩:∃MA:eO,MA=some ⟨u4.heap.size,0,none⟩:=⟨_,rfl⟩;obtain⟨MC,hMC⟩:∃MC:Nat,MC=1:=⟨_,rfl⟩;have hval:Value.slice (some ⟨u4.heap.size,0,none⟩) 1 1=Value.slice MA MS.length MC:=by rw[hMA,Xb,hMC];rfl
    have HMM:=O (show(if([]:List Bs).isEmpty then [mm]else([]:List Bs).map bA)=MS from by rw[Xb];rfl);have HMF:=O (show MS.length<=40 from by rw[Xb];simp);rw[<-Xb]at HMV;rw[hval]at HMV HDJ;clear e9 pD kS C';go_wp2;rw[<-huL];clear hval Xb hMA hMC huL
   case' cons m0 ms0 =>
    obtain⟨MS,Xb⟩:∃MS:List aj,MS=dT (m0 :: ms0):=⟨_,rfl⟩;have HMM:=O (show(if(m0 :: ms0:List Bs).isEmpty then [mm]else(m0 :: ms0:List Bs).map bA)=MS from by rw[Xb];rfl);have HMF:=O (show MS.length<=40 from by rw[Xb];have h:=apV.o;unfold dT;rw[ai];exact h);have pD:((MS.length:Int)==0)=false:=by rw[aO,Xb];unfold dT;simp;omega
    rw[<-Xb]at acP akl ⊢;have HMV:=O acP.o.at;have HDJ:=O (show∀k,(Value.slice am MS.length cm).ownBlock=some k->¬own (.slice ahh zk.length chh) k from fun k hk ho=>by
     have h1:=Mt.o.block k ho;have h2:=akl.o k hk;omega)
    have HHV:=O Mt.o;have HUL:=O YB.o;obtain⟨MA,hMA⟩:∃MA,MA=am:=⟨_,rfl⟩;obtain⟨MC,hMC⟩:∃MC,MC=cm:=⟨_,rfl⟩;obtain⟨uL,rfl⟩:∃uL,uL=u3:=⟨_,rfl⟩;rw[<-hMA, <-hMC]at HMV HDJ ⊢;clear Xb hMA hMC;go_wp2
   all_goals
    go_loopw[51] (akc u1.heap.size uL (.slice ahh zk.length chh) zk) (fun t _=>zk.length-(intOf t).toNat)
    case atStart=>exact⟨0,aL _,rfl,by simpa using HHV.o,ae _ _⟩
    case round =>
     obtain⟨k,hk,rfl,jx,cP⟩:=hrel;by_cases fe:k<zk.length
     ·have pE:(k:Int)<(zk.length:Int):=ab;have OC:(0:Int)<=(k:Int):=ab;have dS:=O (List.getElem?_eq_getElem fe);have iJ:=O (bO fe);generalize zk[k]=x at dS iJ;have hne:(zk.take k).map tK++zk.drop k≠ []:=by
       intro e;have:=ar List.length e;rw[aK,ai,aJ,bM,List.length_nil]at this;omega
      obtain⟨gh,hgh,se,g1,g2,g3,g4,g5,g6⟩:=Strs.acM jx hne;subst hgh;unfold maxLen at g4;have hc:=g5 k x (Xa dS.o);have lD:=O (rD x wr (VM.o x iJ.o));clear g5 g6 se;go_wp2_with fail
      refine lD.o.mono ?_;rintro e wl⟨rfl,Fq⟩;have lO:=O (jx.fr Fq (fun _ h=>absurd h id));obtain⟨gh',akr,se,q1,q2,q3,q4,q5,q6⟩:=Strs.acM lO.o hne;obtain rfl:gh=gh':=by injection akr with h;injection h
      have sR:=q5 k x (Xa dS.o);have lF:=q6 k;have afA:=O (lO.o.put (j:=k) (tK x));have qD:=O (show Fr (own (.slice (some ⟨gh,0,none⟩) zk.length chh)) uL (wl.setCell ⟨gh,k,none⟩ (.string (tK x)))from(cP.step Fq (fun _ _ h=>absurd h id)).setCell (p:=⟨gh,k,none⟩) (fun _=>rfl) _);rw[W_ dS.o]at afA;unfold tK at afA qD;clear q5 q6 jx cP Fq lO lD se akr hne;go_wp2;go_roundw
      case rel=>exact⟨k+1,ab,bg,afA.o,qD.o⟩
      case measure=>simp[intOf];omega
     ·have pE:¬(k:Int)<(zk.length:Int):=ab;have aks:=O (show Strs u1.heap.size wr (.slice ahh zk.length chh) (zk.map tK)from by
       have h:=jx;rw[aD ab,List.drop_of_length_le ab,dV]at h;exact h)
      have ap4:=O (HMV.o.fr cP HDJ.o);have HUW:=O (show Fr aS w1 wr from HUL.o.step cP (fun j hj ho=>by
       have h1:=aks.o.block j ho;have h2:=QC.o;omega))
      clear jx cP HHV HMV HDJ HUL;go_wp2;obtain⟨w5,rfl⟩:∃w5,w5=wr:=⟨_,rfl⟩;obtain⟨wq,hwq⟩:∃wq,wq=(w5.alloc (.cells #[] 155)).alloc (.cells #[.slice (some ⟨w5.heap.size,0,none⟩) 0 0] 90):=⟨_,rfl⟩;have hfq:Fr aS w5 wq:=by rw[hwq];exact((ae _ _).alloc _).alloc _
      have hpq:wq.heap[w5.heap.size+1]?=some (.cells #[.slice (some ⟨w5.heap.size,0,none⟩) 0 0] 90 (0,0)):=by
       have h:=aC (w5.alloc (.cells #[] 155)) (.cells #[.slice (some ⟨w5.heap.size,0,none⟩) 0 0] 90);rw[bP]at h;rw[hwq];exact h
      have pD:wq.heap[w5.heap.size]?=some (.cells #[] 155 (0,0)):=by rw[hwq];exact((ae aS _).alloc _).keep (aC _ _) id
      have HO0:=O (show OwnRows w5.heap.size 155 12 wq (.slice (some ⟨w5.heap.size,0,none⟩) 0 0) (([]:List ez).map ez.cells)from⟨aR,rfl,Or.inr ⟨w5.heap.size,0, #[],rfl,ay _,pD,ay _,ag,rfl,rfl⟩⟩);have HPQ:=O hpq;have HFQ:=O hfq;obtain⟨bp,hbp⟩:∃bp,bp=w5.heap.size+1:=⟨_,rfl⟩;have HBP:=O (show w5.heap.size<=bp from ab)
      have qj:=O (show w.heap.size<=w5.heap.size from by have:=mF.o.size;have:=HUW.o.size;omega);rw[<-hwq, <-hbp];rw[<-hbp]at HPQ;clear hfq hpq pD hwq hbp pE hk fe;go_loopw[66] (acN w5.heap.size w5 bp MS (fun m=>rl.Dz qh m ⟨#[]⟩) []) (fun t _=>MS.length-(intOf t).toNat)
      case atStart=>exact⟨0,_,aL _,rfl,HPQ.o,HO0.o,HFQ.o⟩
      case round =>
       obtain⟨k,vk,hk,rfl,tH,cW,cP⟩:=hrel;by_cases fe:k<MS.length
       ·have pE:(k:Int)<(MS.length:Int):=ab;have OC:(0:Int)<=(k:Int):=ab;have dS:=O (List.getElem?_eq_getElem fe);rcases ap4.o.fN cP with ⟨_,_,_,e,_⟩|⟨bk,o,c,hf,h1,h2,h3,h4⟩
        ·rw[e]at fe;exact absurd fe (bV _)
        cases hf;unfold maxLen at h2;have hc:=h4 k _ dS.o;generalize MS[k]=x at dS hc;have lO:=O (Ms (fun m=>rl.Dz qh m ⟨#[]⟩) [] dS.o);have CB:=EW ((MS.take k).map (fun m=>rl.Dz qh m ⟨#[]⟩)) [];rw[ai,aJ,List.length_nil]at CB;have Mu:=O (OE.o wr (HUW.o.trans cP) w5.heap.size bp vk _ x ⟨#[]⟩ HBP.o (by have:=HMF.o;omega) tH cW);have qD:=O cP;have Sv:=O cW;clear h4 tH cW cP CB;go_wp2_with fail
        refine Mu.o.mono ?_;rintro e w6⟨rfl,v6,Bq,zN,nL⟩;have H6:=O (show afx w6 bp v6 w5.heap.size (((MS.take (k+1)).map (fun m=>rl.Dz qh m ⟨#[]⟩)).foldl qA []) w5 from⟨Bq,by rw[lO.o];exact zN,qD.o.step nL (fun j hj h=>by
         rcases h with h|h
         ·have:=HBP.o;omega
         ·have:=Sv.o.block j h;omega)⟩)
        clear Bq zN nL Mu;go_wp2;go_roundw
        case rel=>exact⟨k+1,v6,ab,bg,H6.o.1,H6.o.2.1,H6.o.2.2⟩
        case measure=>simp[intOf];omega
       ·have pE:¬(k:Int)<(MS.length:Int):=ab;rw[aD ab]at cW;obtain⟨pS,Dj⟩:∃pS,pS=(MS.map (fun m=>rl.Dz qh m ⟨#[]⟩)).foldl qA []:=⟨_,rfl⟩;rw[<-Dj]at cW;have CB:=EW (MS.map (fun m=>rl.Dz qh m ⟨#[]⟩)) [];rw[<-Dj,ai,List.length_nil]at CB;have Bg:=O CB;have FD:=O Dj;obtain⟨Uc,aa4⟩:∃Uc,Uc=zk.map tK:=⟨_,rfl⟩;have aku:zk.length=Uc.length:=by rw[aa4,ai]
        have HH3:=O (show fT w5 (.slice ahh zk.length chh) Uc from by rw[aa4];exact aks.o.at);have ap6:=O (show(yS.map fun h=>rl.Dz qh (bA []) (bA (nD h)))=Uc.map (fun h=>rl.Dz qh ⟨#[]⟩ h)from by rw[aa4];exact HLM.o);have FA:=O aku;have HS:=O (show afx wr bp vk w5.heap.size pS w5 from⟨tH,cW,cP⟩);clear tH cW cP Dj aa4 aku CB fe hk;go_wp2
        go_loopw[76] (acN w5.heap.size w5 bp Uc (fun h=>rl.Dz qh ⟨#[]⟩ h) pS) (fun t _=>Uc.length-(intOf t).toNat)
        case atStart=>exact⟨0,_,aL _,rfl,HS.o.1,HS.o.2.1,HS.o.2.2⟩
        case round =>
         obtain⟨k,vk,hk,rfl,tH,cW,cP⟩:=hrel;by_cases fe:k<Uc.length
         ·have afm:(k:Int)<(zk.length:Int):=by have:=FA.o;omega
          have OC:(0:Int)<=(k:Int):=ab;have dS:=O (List.getElem?_eq_getElem fe);have hHs:=HH3.o.fN cP;rw[FA.o]at hHs afm ⊢;rcases hHs with ⟨_,_,_,e,_⟩|⟨bk,o,c,hf,h1,h2,h3,h4⟩
          ·rw[e]at fe;exact absurd fe (bV _)
          cases hf;unfold maxLen at h2;have hc:=h4 k _ dS.o;generalize Uc[k]=x at dS hc;have lO:=O (Ms (fun h=>rl.Dz qh ⟨#[]⟩ h) pS dS.o);have CB:=EW ((Uc.take k).map (fun h=>rl.Dz qh ⟨#[]⟩ h)) pS;rw[ai,aJ]at CB;have Mu:=O (OE.o wr (HUW.o.trans cP) w5.heap.size bp vk _ ⟨#[]⟩ x HBP.o (by have h1:=HMF.o;have h2:=akn.o;have h3:=Bg.o;have h4:=FA.o;omega) tH cW);have qD:=O cP;have Sv:=O cW;clear h4 tH cW cP CB
          go_wp2_with fail
          refine Mu.o.mono ?_;rintro e w6⟨rfl,v6,Bq,zN,nL⟩;have H6:=O (show afx w6 bp v6 w5.heap.size (((Uc.take (k+1)).map (fun h=>rl.Dz qh ⟨#[]⟩ h)).foldl qA pS) w5 from⟨Bq,by rw[lO.o];exact zN,qD.o.step nL (fun j hj h=>by
           rcases h with h|h
           ·have:=HBP.o;omega
           ·have:=Sv.o.block j h;omega)⟩)
          clear Bq zN nL Mu;go_wp2;rw[<-FA.o];go_roundw
          case rel=>exact⟨k+1,v6,ab,bg,H6.o.1,H6.o.2.1,H6.o.2.2⟩
          case measure=>have hln:=FA.o;simp[intOf];omega
         ·have afm:¬(k:Int)<(zk.length:Int):=by have:=FA.o;omega
          rw[aD ab]at cW;obtain⟨G,hG⟩:∃G,G=(Uc.map (fun h=>rl.Dz qh ⟨#[]⟩ h)).foldl qA pS:=⟨_,rfl⟩;rw[<-hG]at cW;have HGE:=O (show GS=G from by rw[HGR.o,ap6.o,hG,FD.o,HMM.o];rfl);have HWR:=O (HUW.o.trans cP);obtain⟨av,cv,T6⟩:=cW.form;rw[ai]at T6;subst T6;have Sv:=O cW;have d0:wr.cell? ⟨bp,0,none⟩=some (.slice av G.length cv):=by simp[World.cell?,tH]
          have HBK:=O tH;have akw:=O (xO.o wr HWR.o _ G cW.at);obtain⟨e0,e1,e2,e3,e4,e5,e6,e7,e8,e9,e10,e11,e12⟩:=HX.o wr HWR.o;clear tH cW cP hG;have V6:=O (show RES=if !rl.nt G then .error 6 else .ok G from by rw[<-HGE.o];exact T3.o);generalize rl.nt G=cv2 at akw V6;go_wp2_with fail
          refine akw.o.mono ?_;rintro e w7⟨rfl,nO⟩;have d1:w7.cell? ⟨bp,0,none⟩=some (.slice av G.length cv):=by simp[World.cell?,nO.keep HBK.o id]
          have GB:=O nO;clear nO e0 e1 e2 e3 e4 e5 e6 e7 e8 e9 e10 e11 e12 d0;cases cv2
          ·have HR:=O (show RES=.error 6 from V6.o);clear V6;go_wp2;go_ret2;exact xd.bad 6 HR.o (mF.o.trans (HWR.o.trans GB.o))
          ·have HR:=O (show RES=.ok G from V6.o);clear V6;go_wp2;go_ret2;exact xd.O_ HR.o (mF.o.trans (HWR.o.trans GB.o)) ((Sv.o.fr GB.o (fun _ _ h=>h)).up qj.o)
