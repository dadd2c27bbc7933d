/- Lemmas for the law's walk. -/
import Derived.Test.YtjndhcngnghpiaaGreatDoorPn13
set_option maxRecDepth 100000
set_option maxHeartbeats 16000000
set_option linter.unusedSimpArgs false
namespace Go.Proofs.YtjndhcngnghpiaaGreatDoor
open Go.Proofs.Tryz
open Go.RowKit
variable {base n c k:Nat} {w w':World} {ss:List aj} {x:aj} {ps:List jn} {ws:List Bs} {res:Except Nat (List ef)}
theorem Z5(r:gl Value)(v:Value)(ps:List jn)(w:World)(h:lH w v ps)(hz:ln ps)(ht:xn w)(h0: -9223372036854775808<=r.cW.port)(h1:r.cW.port<=9223372036854775807)(hs:r.cW.host.size<100000) :
  aB 136 #[.agg r.cells.toArray,v] w fun e w'=>e=.returned (.bool (MR (wX r.cW).data.toList r.fN ps))/\Fr aS w w':=by
 have gG:Hid (MR (wX r.cW).data.toList r.fN ps=(if !qo ps qQ then false else if(lg ps qQ== [42])&&!r.fN then true else if lg ps qQ !=(wX r.cW).data.toList then false else !r.fN||(lg ps J5==lN))):=O rfl;generalize MR (wX r.cW).data.toList r.fN ps=res at gG ⊢;obtain⟨rc,ux⟩:∃rc,rc=r.cells.toArray:=⟨_,rfl⟩;obtain⟨wb,jQ⟩:∃wb,wb=w.alloc (.cells rc 29):=⟨_,rfl⟩
 have kf:Fr aS w wb:=by rw[jQ];exact(ae aS w).alloc _
 have lW:wb.heap[w.heap.size]?=some (.cells rc 29 (0,0)):=by rw[jQ];exact aC _ _
 have HC:=O (show∀U,Fr aS wb U->U.cell? ⟨w.heap.size,1,none⟩=some (.bool r.cW.aE)/\U.cell? ⟨w.heap.size,2,none⟩=some (.string r.cW.host)/\U.cell? ⟨w.heap.size,3,none⟩=some (.int .i64 r.cW.port)/\U.cell? ⟨w.heap.size,11,none⟩=some (.bool r.fN)from fun U hU=>by
  have j:=hU.keep lW id;rw[ux]at j;have hc:∀i u,r.cells[i]?=some u->U.cell? ⟨w.heap.size,i,none⟩=some u:=fun i u hu=>by simp only[World.cell?,j];simpa using hu
  exact⟨hc 1 _ rfl,hc 2 _ rfl,hc 3 _ rfl,hc 11 _ rfl⟩)
 obtain⟨so,hso,yx⟩:=tR ps qQ hz;obtain⟨sc,hsc,hcz⟩:=tR ps J5 hz;have HG:=O (fun(u:World) (hu:Fr aS w u)=>vU v ps qQ u (bh h hu) hz ag so _ hso rfl);have HK:=O (fun(u:World) (hu:Fr aS w u)=>vU v ps J5 u (bh h hu) hz ag sc _ hsc rfl);have HT:=O (fun(u:World) (hu:Fr aS w u)=>UK r.cW u (ht.fr hu) h0 h1 hs);have mh:=O kf;have qL:=O jQ;rw[hso,hsc]at gG;obtain⟨av,cv,hv⟩:=lH.form h;subst hv
 clear h hz ht h0 h1 hs kf lW hso hsc;rw[<-ux];clear ux jQ;generalize qo ps J5=bc at HK;cases hb:qo ps qQ
 ·have HR:=O (show res=false by rw[gG.out,hb];rfl);have RY:=O (HG.o wb mh.o);rw[hb]at RY;clear hb gG;go_enter func136,ntmps136;go_wp2_with fail
  rw[<-qL.o];refine RY.o.mono ?_;rintro e u1⟨rfl,dn⟩;go_wp2;go_ret;exact⟨by rw[HR.o];rfl,mh.o.trans dn⟩
 ·have RY:=O (HG.o wb mh.o);rw[hb]at RY gG;clear hb;have HTT:=O (show so.toList=so.data.toList from aO _);generalize wX r.cW=t at *
  cases e1:(so.toList== [42])
  ·have Jm:=O (show res=(if so.data.toList !=t.data.toList then false else !r.fN||(sc.data.toList==lN))by rw[gG.out, <-HTT.o,e1];rfl);clear gG;go_enter func136,ntmps136;go_wp2_with fail
   rw[<-qL.o];refine RY.o.mono ?_;rintro e u1⟨rfl,dn⟩;have lq:=O dn;obtain⟨k1,k2,k3,k4⟩:=HC.o u1 dn;clear dn;go_wp2_with fail
   refine(HT.o u1 (mh.o.trans lq.o)).mono ?_;rintro e u2⟨rfl,dz⟩;have fY:=O (lq.o.trans dz);clear dz k1 k2 k3 k4;cases e2:(so.data.toList==t.data.toList)
   ·have hne:¬so.toList=t.toList:=by
     rw[aO,aO];exact aL.1 e2
    have UI:(so.toList==t.toList)=false:=by rw[aL];exact hne
    have HR:=O (show res=false by rw[Jm.o];unfold bne;rw[e2];rfl);clear Jm e2;go_wp2;go_ret;exact⟨by rw[HR.o];rfl,mh.o.trans fY.o⟩
   ·have heq:so.toList=t.toList:=by
     rw[aO,aO];exact dT.1 e2
    have MQ:=O (show res=(!r.fN||(sc.data.toList==lN))by rw[Jm.o];unfold bne;rw[e2];rfl);have HEQ:=O heq;have UI:(so.toList==t.toList)=true:=by rw[dT];exact heq
    clear Jm e2 heq;go_wp2_with fail
    refine(HK.o u2 (mh.o.trans fY.o)).mono ?_;rintro e u3⟨rfl,il⟩;have iq:=O (fY.o.trans il);obtain⟨k1,k2,k3,k4⟩:=HC.o u3 iq.o;clear il;have RZ:=O (show sc.toList=sc.data.toList from aO _);cases e4:r.fN
    ·rw[e4]at k4;have HR:=O (show res=true by rw[MQ.o,e4];rfl);clear e4;go_wp2;go_ret;exact⟨by rw[HR.o];rfl,mh.o.trans iq.o⟩
    ·rw[e4]at k4 MQ;clear e4;cases e3:(sc.toList== [116,114,117,101])
     ·have HR:=O (show res=false by rw[MQ.o, <-RZ.o];exact e3);go_wp2;go_ret;exact⟨by rw[HR.o];rfl,mh.o.trans iq.o⟩
     ·have HR:=O (show res=true by rw[MQ.o, <-RZ.o];exact e3);go_wp2;go_ret;exact⟨by rw[HR.o];rfl,mh.o.trans iq.o⟩
  ·cases e5:r.fN
   ·have HR:=O (show res=true by rw[gG.out, <-HTT.o,e1,e5];rfl);clear gG;go_enter func136,ntmps136;go_wp2_with fail
    rw[<-qL.o];refine RY.o.mono ?_;rintro e u1⟨rfl,dn⟩;have lq:=O dn;obtain⟨k1,k2,k3,k4⟩:=HC.o u1 dn;clear dn;rw[e5]at k4;clear e5;go_wp2;go_ret;exact⟨by rw[HR.o];rfl,mh.o.trans lq.o⟩
   ·have Jm:=O (show res=(if so.data.toList !=t.data.toList then false else !true||(sc.data.toList==lN))by rw[gG.out, <-HTT.o,e1,e5];rfl);clear gG;go_enter func136,ntmps136;go_wp2_with fail
    rw[<-qL.o];refine RY.o.mono ?_;rintro e u1⟨rfl,dn⟩;have lq:=O dn;obtain⟨k1,k2,k3,k4⟩:=HC.o u1 dn;clear dn;rw[e5]at k4 HC;clear e5;go_wp2_with fail
    refine(HT.o u1 (mh.o.trans lq.o)).mono ?_;rintro e u2⟨rfl,dz⟩;have fY:=O (lq.o.trans dz);clear dz k1 k2 k3 k4;cases e2:(so.data.toList==t.data.toList)
    ·have hne:¬so.toList=t.toList:=by
      rw[aO,aO];exact aL.1 e2
     have UI:(so.toList==t.toList)=false:=by rw[aL];exact hne
     have HR:=O (show res=false by rw[Jm.o];unfold bne;rw[e2];rfl);clear Jm e2;go_wp2;go_ret;exact⟨by rw[HR.o];rfl,mh.o.trans fY.o⟩
    ·have heq:so.toList=t.toList:=by
      rw[aO,aO];exact dT.1 e2
     have MQ:=O (show res=(!true||(sc.data.toList==lN))by rw[Jm.o];unfold bne;rw[e2];rfl);have HEQ:=O heq;have UI:(so.toList==t.toList)=true:=by rw[dT];exact heq
     clear Jm e2 heq;go_wp2_with fail
     refine(HK.o u2 (mh.o.trans fY.o)).mono ?_;rintro e u3⟨rfl,il⟩;have iq:=O (fY.o.trans il);obtain⟨k1,k2,k3,k4⟩:=HC.o u3 iq.o;clear il;have RZ:=O (show sc.toList=sc.data.toList from aO _);cases e3:(sc.toList== [116,114,117,101])
     ·have HR:=O (show res=false by rw[MQ.o, <-RZ.o];exact e3);go_wp2;go_ret;exact⟨by rw[HR.o];rfl,mh.o.trans iq.o⟩
     ·have HR:=O (show res=true by rw[MQ.o, <-RZ.o];exact e3);go_wp2;go_ret;exact⟨by rw[HR.o];rfl,mh.o.trans iq.o⟩
theorem Strs.put{g:Nat}(h:Strs base w (.slice (some ⟨g,0,none⟩) n c) ss){j:Nat}(x:aj) :
  Strs base (w.setCell ⟨g,j,none⟩ (.string x)) (.slice (some ⟨g,0,none⟩) n c) (ss.set j x):=by
 obtain⟨h1,h2⟩:=h;refine⟨aR,?_⟩;rcases h2 with ⟨hv,_⟩|⟨g',cap,cur,hv,hg,hh,h3,h4,h5,h6⟩
 ·cases hv
 ·have e1:g'=g/\n=ss.length/\c=cap:=by
   injection hv with a1 a2 a3
   injection a1 with a1
   injection a1 with a1
   exact⟨a1.symm,a2,a3⟩
  obtain⟨rfl,rfl,rfl⟩:=e1;refine Or.inr ⟨g',c,cur.setIfInBounds j (.string x),by rw[d_],hg,b_ hh _ _,by rw[d_];exact h3,h4,by simpa using h5,?_⟩;rw[d_,List.map_set, <-h6,Array.toList_setIfInBounds,List.take_set]
def ai9(base:Nat)(u:World)(hv:Value)(ss:List aj)(t:Value)(wr:World):Prop :=
 ∃k:Nat,k<=ss.length/\t=.int .i64 k/\Strs base wr hv ((ss.take k).map sS++ss.drop k)/\Fr (own hv) u wr
theorem V8(h:ss[k]?=some x):((ss.take k).map sS++ss.drop k).set k (sS x)=(ss.take (k+1)).map sS++ss.drop (k+1):=by
 obtain⟨hk,e⟩:=List.getElem?_eq_some_iff.1 h;have hl:((ss.take k).map sS).length=k:=bH;rw[List.set_append_right _ _ ab,hl,Nat.sub_self,cR hk,List.set_cons_zero,dW h,bG,cK];rfl
theorem V9(h:ss[k]?=some x):((ss.take k).map sS++ss.drop k)[k]?=some x:=by
 obtain⟨hk,e⟩:=List.getElem?_eq_some_iff.1 h;have hl:((ss.take k).map sS).length=k:=bH;rw[List.getElem?_append_right ab,hl,Nat.sub_self,cR hk];simp[e]
theorem D_:∀(f:Nat) (r:Bs) (ws:List Bs),lM f r=.ok ws->∀w∈ws,w.length<=r.length
 |0,r,ws,h,w,hw=>by rw[lM]at h;cases h;cases hw
 |f+1,r,ws,h,w,hw=>by
  rw[lM]at h;have h1:=pX dK r;have h2:=pX fV (r.dropWhile dK);have h3:=pX dK ((r.dropWhile dK).dropWhile fV);have h4:=pD fV (r.dropWhile dK);have dX:∀u∈(if((r.dropWhile dK).takeWhile fV).isEmpty then []else [(r.dropWhile dK).takeWhile fV]),u.length<=r.length:=by
   intro u hu;split at hu
   ·cases hu
   ·simp at hu;subst hu;omega
  cases e:((r.dropWhile dK).dropWhile fV).dropWhile dK with
  |nil =>
   rw[e]at h;simp only at h;cases h;exact dX w hw
  |cons c r4 =>
   rw[e]at h h3;simp only at h;split at h
   ·cases hr:lM f r4 with
    |error m=>rw[hr]at h;cases h
    |ok w2 =>
     rw[hr]at h;cases h;rcases bQ.1 hw with g|g
     ·exact dX w g
     ·have:=D_ f r4 w2 hr w g;simp at h3;omega
   ·cases h
theorem Ob{n:Bs}(hz:ln ps)(h:kS ps n=some ws):∀w∈ws,w.length<=100002000:=by
 obtain⟨s,hs,yx⟩:=tR ps n hz;unfold kS at h;cases hl:gU (lg ps n)with
 |error e=>rw[hl]at h;cases h
 |ok m =>
  rw[hl]at h;simp only at h;split at h
  ·cases h
  ·cases h;intro w hw;have:=D_ _ _ _ hl w hw;rw[hs]at this;have e:s.data.toList.length=s.size:=aR;omega
theorem Gz{n:Bs}(h:kS ps n=some ws):ws.length<=40:=by
 unfold kS at h;cases hl:gU (lg ps n)with
 |error e=>rw[hl]at h;cases h
 |ok m =>
  rw[hl]at h;simp only at h;split at h
  ·cases h
  ·cases h;omega
theorem Strs.abU{a:eQ}(h:Strs base w (.slice a n c) ss)(hne:ss≠ []) :
  ∃g,a=some ⟨g,0,none⟩/\n=ss.length/\base<=g/\g<w.heap.size/\n<=c/\c<=maxLen/\(∀(j:Nat) x,ss[j]?=some x->w.cell? ⟨g,j,none⟩=some (.string x))/\∀i,w.frozen? ⟨g,i,none⟩=false:=by
 have dP:=h.at;obtain⟨h1,h2⟩:=h;rcases h2 with ⟨hv,h0⟩|⟨g,cap,cur,hv,hg,hh,h3,h4,h5,h6⟩
 ·exact absurd (cg h0) hne
 ·cases hv;refine⟨g,rfl,rfl,hg,bj hh,h3,h4,?_,fun i=>by simp[World.frozen?,hh]⟩;rcases dP with ⟨_,_,_,e,_⟩|⟨bk,o,c',hf,g1,g2,g3,g4⟩
  ·exact absurd e hne
  ·cases hf;intro j x hj;have:=g4 j x hj;simpa using this
theorem Oc(w:World)(x:aj):fM (w.alloc (.cells #[.string x] 9)) (.slice (some ⟨w.heap.size,0,none⟩) 1 1) [x]:=by
 refine Or.inr ⟨w.heap.size,0,1,rfl,ay _,by simp[maxLen],aR,fun j y hj=>?_⟩
 match j,hj with
 |0,hj =>
  simp at hj;subst hj;rw[World.cell?_alloc_mark];simp
def vY(res:Except Nat (List ef))(w:World)(e:Ending)(w':World):Prop :=
 Fr aS w w'/\match res with
 | .ok m=>∃v,e=.returned (.tuple #[v,.nilIface])/\OwnRows w.heap.size 137 12 w' v (m.map ef.cells)
 | .error n=>e=.returned (.tuple #[.slice none 0 0,.iface 82 (.int .i64 n)])
theorem vY.bad(n:Nat)(h:res=.error n)(hf:Fr aS w w'):vY res w (.returned (.tuple #[.slice none 0 0,.iface 82 (.int .i64 n)])) w':=by
 subst h;exact⟨hf,rfl⟩
theorem vY.ao3{m:List ef}{v:Value}(h:res=.ok m)(hf:Fr aS w w')(ho:OwnRows w.heap.size 137 12 w' v (m.map ef.cells)):vY res w (.returned (.tuple #[v,.nilIface])) w':=by
 subst h;exact⟨hf,v,rfl,ho⟩
def abV(base:Nat)(u:World)(bp:Nat)(ss:List aj)(f:aj->ef)(a0:List ef)(t:Value)(wr:World):Prop :=
 ∃(k:Nat) (v:Value),k<=ss.length/\t=.int .i64 k/\wr.heap[bp]?=some (.cells #[v] 119 (0,0))/\OwnRows base 137 12 wr v ((((ss.take k).map f).foldl p9 a0).map ef.cells)/\Fr aS u wr
def aeA(w6:World)(bp:Nat)(v:Value)(base:Nat)(acc:List ef)(w5:World):Prop :=
 w6.heap[bp]?=some (.cells #[v] 119 (0,0))/\OwnRows base 137 12 w6 v (acc.map ef.cells)/\Fr aS w5 w6
theorem Lw(f:aj->ef)(a0:List ef)(h:ss[k]?=some x):((ss.take (k+1)).map f).foldl p9 a0=p9 (((ss.take k).map f).foldl p9 a0) (f x):=by
 rw[dW h,bG,List.foldl_append];rfl
theorem D'(l:List ef):∀a0:List ef,(l.foldl p9 a0).length<=a0.length+l.length:=by
 induction l with
 |nil=>intro a0;simp
 |cons p l ih =>
  intro a0;have h1:=ih (p9 a0 p);have h2:(p9 a0 p).length<=a0.length+1:=by unfold p9;split<;>simp
  simp only[List.foldl_cons,List.length_cons];omega
theorem R0(r:gl Value)(hs:List gY)(lv:Value)(ps:List jn)(now:Int)(w:World)(hr:oD w r.en hs)(hl:lH w lv ps)(hz:ln ps)(hq:Gc r hs)(ht:xn w)(p0: -9223372036854775808<=r.cW.port)(p1:r.cW.port<=9223372036854775807)(hh:r.cW.host.size<100000)(n0:0<=now)(n1:now<=1099511627776) :
  aB 87 #[.agg r.cells.toArray,lv,.int .i64 now] w (vY (ug (r.dS hs) (wX r.cW).data.toList ps now) w):=by
 obtain⟨al,cl,hlf⟩:=dI hl;rw[ai]at hlf;subst hlf;obtain⟨n,hn⟩:∃n,n=w.heap.size:=⟨_,rfl⟩;obtain⟨w1,oq⟩:∃w1,w1=((w.alloc (.cells r.cells.toArray 29)).alloc (.cells #[.slice al ps.length cl] 27)).alloc (.cells #[.int .i64 now] 3):=⟨_,rfl⟩;have kf:Fr aS w w1:=by rw[oq];exact(((ae aS w).alloc _).alloc _).alloc _
 have lW:w1.heap[n]?=some (.cells r.cells.toArray 29 (0,0)):=by rw[oq,hn];exact(((ae aS _).alloc _).alloc _).keep (aC _ _) id
 have rS:w1.heap[n+1]?=some (.cells #[.slice al ps.length cl] 27 (0,0)):=by
  have h:=aC (w.alloc (.cells r.cells.toArray 29)) (.cells #[.slice al ps.length cl] 27);rw[bN, <-hn]at h;rw[oq];exact((ae aS _).alloc _).keep h id
 have Hj:w1.heap[n+1+1]?=some (.cells #[.int .i64 now] 3 (0,0)):=by
  have h:=aC ((w.alloc (.cells r.cells.toArray 29)).alloc (.cells #[.slice al ps.length cl] 27)) (.cells #[.int .i64 now] 3);rw[bN,bN, <-hn]at h;rw[oq];exact h
 have PZ:=O (show∀U,Fr aS w1 U->U.cell? ⟨n+1,0,none⟩=some (.slice al ps.length cl)from fun U hU=>by simp[World.cell?,hU.keep rS id]);have HX:=O (show∀U,Fr aS w1 U->AW U n r from fun U hU=>AW.eJ (hU.keep lW id));have HWD:=O (show∀(nm:Bs),nm.length<1000->∀U,Fr aS w1 U->aB 135 #[.slice al ps.length cl,.string (bA nm)] U (Gm ps nm U)from fun nm Xw U hU=>RB _ ps nm U (bh hl (kf.trans hU)) hz Xw)
 have Z6:=O (show∀U,Fr aS w1 U->aB 136 #[.agg r.cells.toArray,.slice al ps.length cl] U fun e w'=>e=.returned (.bool (MR (wX r.cW).data.toList r.fN ps))/\Fr aS U w' from fun U hU=>Z5 r _ ps U (bh hl (kf.trans hU)) hz (ht.fr (kf.trans hU)) p0 p1 hh);have HMT:=O (show∀U,aB 73 #[.string r.method] U fun e w'=>e=.returned (.string (jD r.method))/\Fr aS U w' from fun U=>xL r.method U hq.1)
 have wY:=O (show∀U,Fr aS w1 U->∀(pv:Value) (m:List ef),qF U pv m->aB 84 #[.agg r.cells.toArray,pv] U fun e w'=>e=.returned (.bool ((r.dS hs).mV m))/\Fr aS U w' from fun U hU pv m MY=>yh r hs pv m U (bh hr (kf.trans hU)) MY hq)
 have NR:=O (show∀U,Fr aS w1 U->∀(base bp:Nat) (v:Value) (acc:List ef) (m hd:aj),base<=bp->acc.length<1000000->U.heap[bp]?=some (.cells #[v] 119 (0,0))->OwnRows base 137 12 U v (acc.map ef.cells)->aB 138 #[.string m,.string hd,.pointer (some ⟨n,0,none⟩),.pointer (some ⟨n+1+1,0,none⟩),.pointer (some ⟨n+1,0,none⟩),.pointer (some ⟨bp,0,none⟩)] U fun e w'=>e=.returned (.tuple #[])/\∃v',w'.heap[bp]?=some (.cells #[v'] 119 (0,0))/\OwnRows base 137 12 w' v' ((p9 acc ((r.dS hs).CU (now+mW ps) m hd)).map ef.cells)/\Fr (fun k=>k=bp\/own v k) U w' from fun U hU base bp v acc m hd hb hlen hp cQ =>
  ZA base m hd r hs now _ ps acc v n (n+1+1) (n+1) bp U (hU.keep lW id) (hU.keep Hj id) (hU.keep rS id) hp (bh hl (kf.trans hU)) hz cQ hb hlen n0 n1)
 have mh:=O kf;obtain⟨ah,ch,gD⟩:=dI hr;rw[ai]at gD;have Z7:=O hz;clear hr hl hz lW rS Hj kf ht hq p0 p1 hh n0 n1;have HG:=O (show ug (r.dS hs) (wX r.cW).data.toList ps now=(match kS ps J6,kS ps xP with
  |some ms,some R2=>if !MR (wX r.cW).data.toList r.fN ps then .error 6 else if !(r.dS hs).mV ((r.dS hs).bU (now+mW ps) ms R2)then .error 6 else .ok ((r.dS hs).bU (now+mW ps) ms R2)
  |_,_=>.error 3)from rfl)
 have HGS:=O (show∀ms R2,(r.dS hs).bU (now+mW ps) ms R2=(R2.map fun h=>(r.dS hs).CU (now+mW ps) (bA []) (bA (nk h))).foldl p9 ((if ms.isEmpty then [jD r.method]else ms.map bA).map (fun m=>(r.dS hs).CU (now+mW ps) m (bA [])) |>.foldl p9 [])from fun _ _=>rfl);generalize (wX r.cW).data.toList=ai_ at *
 obtain⟨part,⟨fs,fh,fp⟩,⟨os,oh,op⟩,path,query,method,en,fN,body⟩:=r;simp only at gD;subst gD;obtain⟨R,hR⟩:∃R:gl Value,R=⟨part,⟨fs,fh,fp⟩,⟨os,oh,op⟩,path,query,method,.slice ah hs.length ch,fN,body⟩:=⟨_,rfl⟩;rw[<-hR]at HX Z6 HMT wY NR HG HGS ⊢
 have ai':=O (show R.cells.toArray= #[.int .i64 part,.bool fs,.string fh,.int .i64 fp,.bool os,.string oh,.int .i64 op,.string path,.string query,.string method,.slice ah hs.length ch,.bool fN,.string body]by rw[hR];rfl);have HRL:=O (show∀U,Fr aS w1 U->AW U n ⟨part,⟨fs,fh,fp⟩,⟨os,oh,op⟩,path,query,method,.slice ah hs.length ch,fN,body⟩from by rw[<-hR];exact HX.o)
 have HMR:=O (show R.method=method by rw[hR]);clear HX;rw[ai'.o]at Z6 wY ⊢;rw[HMR.o]at HMT HGS;have HX:=HRL;unfold AW at HX;dsimp only at HX;unfold gl.cells at oq;dsimp only at oq;clear hR ai' HMR HRL;generalize R.dS hs=rl at *
 generalize R.fN=rw0 at *
 obtain⟨RES,aja⟩:∃RES,RES=ug rl ai_ ps now:=⟨_,rfl⟩;rw[<-aja]at HG ⊢;clear aja R;generalize MR ai_ rw0 ps=my at *
 generalize now+mW ps=pL at *
 generalize jD method=mm at *
 subst hn;have c2:=PZ.o w1 (ae _ _);have avL:w.heap.size<=w1.heap.size:=mh.o.size;rw[oq]at c2;go_enter func87,ntmps87;go_wp2_with fail
 rw[<-oq];clear oq c2;refine(HWD.o J6 ag w1 (ae _ _)).mono ?_;rintro e u1⟨tY,hm1⟩;have c2:=PZ.o u1 tY;cases hwm:kS ps J6 with
 |none =>
  rw[hwm]at hm1 HG;dsimp only at hm1;subst hm1;have HR:=O (show RES=.error 3 from HG.o);clear hwm HG;go_wp2_with fail
  refine(HWD.o xP ag u1 tY).mono ?_;rintro e u2⟨nj,Je⟩;have tu:=O (mh.o.trans (tY.trans nj));clear tY nj c2;cases Z8:kS ps xP with
  |none =>
   rw[Z8]at Je;dsimp only at Je;subst Je;go_wp2;go_ret2;exact vY.bad 3 HR.o tu.o
  |some yf =>
   rw[Z8]at Je;obtain⟨hv,rfl,jq⟩:=Je;obtain⟨ah',ch',Kv⟩:=jq.form;subst Kv;clear jq;go_wp2;go_ret2;exact vY.bad 3 HR.o tu.o
 |some ms =>
  rw[hwm]at hm1 HG;obtain⟨mv,rfl,hms⟩:=hm1;obtain⟨am,cm,ao5⟩:=hms.form;subst ao5;go_wp2_with fail
  refine(HWD.o xP ag u1 tY).mono ?_;rintro e u2⟨nj,Je⟩;have tu:=O (tY.trans nj);have hB1:w1.heap.size<=u1.heap.size:=tY.size;have ao6:=O (Gz hwm);clear hwm;have aeB:=fun k (hk:(Value.slice am (dQ ms).length cm).ownBlock=some k)=>(hms.lt k hk).2;have aeC:=hms.fr nj (fun _ h=>absurd h id);clear tY nj c2 hms;cases Z8:kS ps xP with
  |none =>
   rw[Z8]at Je HG;dsimp only at Je;subst Je;have HR:=O (show RES=.error 3 from HG.o);clear Z8 HG aeB aeC;go_wp2;go_ret2;exact vY.bad 3 HR.o (mh.o.trans tu.o)
  |some yf =>
   rw[Z8]at Je HG;obtain⟨hv,rfl,jq⟩:=Je;have hHG:=HG.o;dsimp only at hHG;have HG:=O hHG;clear hHG;obtain⟨ahh,chh,Kv⟩:=jq.form;subst Kv;have ajd:=O jq;have aje:=O (Ob Z7.o Z8);have lu:=O (Gz Z8);have ajf:=O aeC;have ajg:=O aeB;clear jq aeC aeB Z8;have c2:=PZ.o u2 tu.o;obtain⟨e0,e1,e2,e3,e4,e5,e6,e7,e8,e9,e10,e11,e12⟩:=HX.o u2 tu.o;go_wp2_with fail
   refine(Z6.o u2 tu.o).mono ?_;rintro e u3⟨rfl,zu⟩;have XG:=O (tu.o.trans zu);have Lx:=O (ajd.o.fr zu (fun _ h=>absurd h id));have abX:=O (ajf.o.fr zu (fun _ h=>absurd h id));have PN:=O hB1;clear zu c2 e0 e1 e2 e3 e4 e5 e6 e7 e8 e9 e10 e11 e12 ajd ajf Z6 hB1;cases my
   ·have HR:=O (show RES=.error 6 from HG.o);clear HG;go_wp2;go_ret2;exact vY.bad 6 HR.o (mh.o.trans XG.o)
   have Te:=O (HG.o.trans (ar ag));clear HG;obtain⟨yD,hhl⟩:∃yD,yD=dQ yf:=⟨_,rfl⟩;have U4:=O (show∀x∈yD,x.size<17592186044416 from by
    intro x hx;rw[hhl]at hx;obtain⟨y,hy,rfl⟩:=bZ.1 hx;have:=aje.o y hy;show y.toArray.size<_;simp;omega)
   have HGR:=O (HGS.o ms yf);have aji:=O (show(dQ yf).length<=40 from by have h:=lu.o;unfold dQ;rw[ai];exact h);have HLM:=O (show(yf.map fun h=>rl.CU pL (bA []) (bA (nk h)))=(yD.map sS).map (fun h=>rl.CU pL (bA []) h)from by
    rw[hhl];unfold dQ sS bA;simp[ic,Function.comp])
   rw[<-hhl]at Lx aji ⊢;clear HGS aje hhl;obtain⟨GS,hGS⟩:∃GS,GS=rl.bU pL ms yf:=⟨_,rfl⟩;rw[<-hGS]at HGR Te;clear hGS;cases ms
   case' nil =>
    obtain⟨_,_,_,_,_,_,_,_,_,e9,_⟩:=HX.o u3 XG.o;have o9:((dQ []).length:Int)=0:=rfl;go_wp2_with fail
    refine(HMT.o u3).mono ?_;rintro e u4⟨rfl,Cr⟩;obtain⟨uL,huL⟩:∃uL,uL=u4.alloc (.cells #[.string mm] 9):=⟨_,rfl⟩;have kD:Fr aS u3 uL:=by rw[huL];exact Cr.alloc _
    have V_:=O (show fM uL (.slice (some ⟨u4.heap.size,0,none⟩) 1 1) [mm]from by rw[huL];exact Oc u4 mm);have HDJ:=O (show∀k,(Value.slice (some ⟨u4.heap.size,0,none⟩) 1 1).ownBlock=some k->¬own (.slice ahh yD.length chh) k from fun k hk ho=>by
     have h1:=(Lx.o.lt k ho).2;have h2:=Cr.size;have e:u4.heap.size=k:=by simpa[Value.ownBlock]using hk
     omega)
    have HHV:=O (Lx.o.fr kD (fun _ h=>absurd h id));have HUL:=O (XG.o.trans kD);obtain⟨MS,Wa⟩:∃MS:List aj,MS=[mm]:=⟨_,rfl⟩;obtain⟨MA,hMA⟩:∃MA:eQ,MA=some ⟨u4.heap.size,0,none⟩:=⟨_,rfl⟩;obtain⟨MC,hMC⟩:∃MC:Nat,MC=1:=⟨_,rfl⟩;have hval:Value.slice (some ⟨u4.heap.size,0,none⟩) 1 1=Value.slice MA MS.length MC:=by rw[hMA,Wa,hMC];rfl
    have HMM:=O (show(if([]:List Bs).isEmpty then [mm]else([]:List Bs).map bA)=MS from by rw[Wa];rfl);have HMF:=O (show MS.length<=40 from by rw[Wa];simp);rw[<-Wa]at V_;rw[hval]at V_ HDJ;clear e9 o9 kD Cr;go_wp2;rw[<-huL];clear hval Wa hMA hMC huL
   case' cons m0 ms0 =>
    obtain⟨MS,Wa⟩:∃MS:List aj,MS=dQ (m0 :: ms0):=⟨_,rfl⟩;have HMM:=O (show(if(m0 :: ms0:List Bs).isEmpty then [mm]else(m0 :: ms0:List Bs).map bA)=MS from by rw[Wa];rfl);have HMF:=O (show MS.length<=40 from by rw[Wa];have h:=ao6.o;unfold dQ;rw[ai];exact h);have o9:((MS.length:Int)==0)=false:=by rw[aL,Wa];unfold dQ;simp;omega
    rw[<-Wa]at abX ajg ⊢;have V_:=O abX.o.at;have HDJ:=O (show∀k,(Value.slice am MS.length cm).ownBlock=some k->¬own (.slice ahh yD.length chh) k from fun k hk ho=>by
     have h1:=Lx.o.block k ho;have h2:=ajg.o k hk;omega)
    have HHV:=O Lx.o;have HUL:=O XG.o;obtain⟨MA,hMA⟩:∃MA,MA=am:=⟨_,rfl⟩;obtain⟨MC,hMC⟩:∃MC,MC=cm:=⟨_,rfl⟩;obtain⟨uL,rfl⟩:∃uL,uL=u3:=⟨_,rfl⟩;rw[<-hMA, <-hMC]at V_ HDJ ⊢;clear Wa hMA hMC;go_wp2
   all_goals
    go_loopw[51] (ai9 u1.heap.size uL (.slice ahh yD.length chh) yD) (fun t _=>yD.length-(intOf t).toNat)
    case atStart=>exact⟨0,aQ _,rfl,by simpa using HHV.o,ae _ _⟩
    case round =>
     obtain⟨k,hk,rfl,jq,cL⟩:=hrel;by_cases fk:k<yD.length
     ·have o_:(k:Int)<(yD.length:Int):=ab;have NP:(0:Int)<=(k:Int):=ab;have dP:=O (List.getElem?_eq_getElem fk);have iw:=O (bM fk);generalize yD[k]=x at dP iw;have hne:(yD.take k).map sS++yD.drop k≠ []:=by
       intro e;have:=aq List.length e;rw[aN,ai,aM,bJ,List.length_nil]at this;omega
      obtain⟨gh,hgh,rJ,g1,g2,g3,g4,g5,g6⟩:=Strs.abU jq hne;subst hgh;unfold maxLen at g4;have hc:=g5 k x (V9 dP.o);have k_:=O (qX x wr (U4.o x iw.o));clear g5 g6 rJ;go_wp2_with fail
      refine k_.o.mono ?_;rintro e wl⟨rfl,Ew⟩;have l_:=O (jq.fr Ew (fun _ h=>absurd h id));obtain⟨gh',ajm,rJ,q1,q2,q3,q4,q5,q6⟩:=Strs.abU l_.o hne;obtain rfl:gh=gh':=by injection ajm with h;injection h
      have se:=q5 k x (V9 dP.o);have ld:=q6 k;have aeD:=O (l_.o.put (j:=k) (sS x));have sX:=O (show Fr (own (.slice (some ⟨gh,0,none⟩) yD.length chh)) uL (wl.setCell ⟨gh,k,none⟩ (.string (sS x)))from(cL.step Ew (fun _ _ h=>absurd h id)).setCell (p:=⟨gh,k,none⟩) (fun _=>rfl) _);rw[V8 dP.o]at aeD;unfold sS at aeD sX;clear q5 q6 jq cL Ew l_ k_ rJ ajm hne;go_wp2;go_roundw
      case rel=>exact⟨k+1,ab,bg,aeD.o,sX.o⟩
      case measure=>simp[intOf];omega
     ·have o_:¬(k:Int)<(yD.length:Int):=ab;have ajn:=O (show Strs u1.heap.size wr (.slice ahh yD.length chh) (yD.map sS)from by
       have h:=jq;rw[aD ab,List.drop_of_length_le ab,dR]at h;exact h)
      have apc:=O (V_.o.fr cL HDJ.o);have HUW:=O (show Fr aS w1 wr from HUL.o.step cL (fun j hj ho=>by
       have h1:=ajn.o.block j ho;have h2:=PN.o;omega))
      clear jq cL HHV V_ HDJ HUL;go_wp2;obtain⟨w5,rfl⟩:∃w5,w5=wr:=⟨_,rfl⟩;obtain⟨wq,hwq⟩:∃wq,wq=(w5.alloc (.cells #[] 137)).alloc (.cells #[.slice (some ⟨w5.heap.size,0,none⟩) 0 0] 119):=⟨_,rfl⟩;have hfq:Fr aS w5 wq:=by rw[hwq];exact((ae _ _).alloc _).alloc _
      have hpq:wq.heap[w5.heap.size+1]?=some (.cells #[.slice (some ⟨w5.heap.size,0,none⟩) 0 0] 119 (0,0)):=by
       have h:=aC (w5.alloc (.cells #[] 137)) (.cells #[.slice (some ⟨w5.heap.size,0,none⟩) 0 0] 119);rw[bN]at h;rw[hwq];exact h
      have o9:wq.heap[w5.heap.size]?=some (.cells #[] 137 (0,0)):=by rw[hwq];exact((ae aS _).alloc _).keep (aC _ _) id
      have HO0:=O (show OwnRows w5.heap.size 137 12 wq (.slice (some ⟨w5.heap.size,0,none⟩) 0 0) (([]:List ef).map ef.cells)from⟨aR,rfl,Or.inr ⟨w5.heap.size,0, #[],rfl,ay _,o9,ay _,ag,rfl,rfl⟩⟩);have HPQ:=O hpq;have HFQ:=O hfq;obtain⟨bp,hbp⟩:∃bp,bp=w5.heap.size+1:=⟨_,rfl⟩;have HBP:=O (show w5.heap.size<=bp from ab)
      have pN:=O (show w.heap.size<=w5.heap.size from by have:=mh.o.size;have:=HUW.o.size;omega);rw[<-hwq, <-hbp];rw[<-hbp]at HPQ;clear hfq hpq o9 hwq hbp o_ hk fk;go_loopw[66] (abV w5.heap.size w5 bp MS (fun m=>rl.CU pL m ⟨#[]⟩) []) (fun t _=>MS.length-(intOf t).toNat)
      case atStart=>exact⟨0,_,aQ _,rfl,HPQ.o,HO0.o,HFQ.o⟩
      case round =>
       obtain⟨k,vk,hk,rfl,sO,cQ,cL⟩:=hrel;by_cases fk:k<MS.length
       ·have o_:(k:Int)<(MS.length:Int):=ab;have NP:(0:Int)<=(k:Int):=ab;have dP:=O (List.getElem?_eq_getElem fk);rcases apc.o.fG cL with ⟨_,_,_,e,_⟩|⟨bk,o,c,hf,h1,h2,h3,h4⟩
        ·rw[e]at fk;exact absurd fk (cq _)
        cases hf;unfold maxLen at h2;have hc:=h4 k _ dP.o;generalize MS[k]=x at dP hc;have l_:=O (Lw (fun m=>rl.CU pL m ⟨#[]⟩) [] dP.o);have BS:=D' ((MS.take k).map (fun m=>rl.CU pL m ⟨#[]⟩)) [];rw[ai,aM,List.length_nil]at BS;have Ly:=O (NR.o wr (HUW.o.trans cL) w5.heap.size bp vk _ x ⟨#[]⟩ HBP.o (by have:=HMF.o;omega) sO cQ);have sX:=O cL;have RD:=O cQ;clear h4 sO cQ cL BS;go_wp2_with fail
        refine Ly.o.mono ?_;rintro e w6⟨rfl,v6,AJ,zc,nz⟩;have H6:=O (show aeA w6 bp v6 w5.heap.size (((MS.take (k+1)).map (fun m=>rl.CU pL m ⟨#[]⟩)).foldl p9 []) w5 from⟨AJ,by rw[l_.o];exact zc,sX.o.step nz (fun j hj h=>by
         rcases h with h|h
         ·have:=HBP.o;omega
         ·have:=RD.o.block j h;omega)⟩)
        clear AJ zc nz Ly;go_wp2;go_roundw
        case rel=>exact⟨k+1,v6,ab,bg,H6.o.1,H6.o.2.1,H6.o.2.2⟩
        case measure=>simp[intOf];omega
       ·have o_:¬(k:Int)<(MS.length:Int):=ab;rw[aD ab]at cQ;obtain⟨pA,CD⟩:∃pA,pA=(MS.map (fun m=>rl.CU pL m ⟨#[]⟩)).foldl p9 []:=⟨_,rfl⟩;rw[<-CD]at cQ;have BS:=D' (MS.map (fun m=>rl.CU pL m ⟨#[]⟩)) [];rw[<-CD,ai,List.length_nil]at BS;have Ax:=O BS;have EF:=O CD;obtain⟨Tp,Z9⟩:∃Tp,Tp=yD.map sS:=⟨_,rfl⟩;have ajp:yD.length=Tp.length:=by rw[Z9,ai]
        have HH3:=O (show fM w5 (.slice ahh yD.length chh) Tp from by rw[Z9];exact ajn.o.at);have ape:=O (show(yf.map fun h=>rl.CU pL (bA []) (bA (nk h)))=Tp.map (fun h=>rl.CU pL ⟨#[]⟩ h)from by rw[Z9];exact HLM.o);have Jn:=O ajp;have HS:=O (show aeA wr bp vk w5.heap.size pA w5 from⟨sO,cQ,cL⟩);clear sO cQ cL CD Z9 ajp BS fk hk;go_wp2
        go_loopw[76] (abV w5.heap.size w5 bp Tp (fun h=>rl.CU pL ⟨#[]⟩ h) pA) (fun t _=>Tp.length-(intOf t).toNat)
        case atStart=>exact⟨0,_,aQ _,rfl,HS.o.1,HS.o.2.1,HS.o.2.2⟩
        case round =>
         obtain⟨k,vk,hk,rfl,sO,cQ,cL⟩:=hrel;by_cases fk:k<Tp.length
         ·have aew:(k:Int)<(yD.length:Int):=by have:=Jn.o;omega
          have NP:(0:Int)<=(k:Int):=ab;have dP:=O (List.getElem?_eq_getElem fk);have hHs:=HH3.o.fG cL;rw[Jn.o]at hHs aew ⊢;rcases hHs with ⟨_,_,_,e,_⟩|⟨bk,o,c,hf,h1,h2,h3,h4⟩
          ·rw[e]at fk;exact absurd fk (cq _)
          cases hf;unfold maxLen at h2;have hc:=h4 k _ dP.o;generalize Tp[k]=x at dP hc;have l_:=O (Lw (fun h=>rl.CU pL ⟨#[]⟩ h) pA dP.o);have BS:=D' ((Tp.take k).map (fun h=>rl.CU pL ⟨#[]⟩ h)) pA;rw[ai,aM]at BS;have Ly:=O (NR.o wr (HUW.o.trans cL) w5.heap.size bp vk _ ⟨#[]⟩ x HBP.o (by have h1:=HMF.o;have h2:=aji.o;have h3:=Ax.o;have h4:=Jn.o;omega) sO cQ);have sX:=O cL;have RD:=O cQ;clear h4 sO cQ cL BS
          go_wp2_with fail
          refine Ly.o.mono ?_;rintro e w6⟨rfl,v6,AJ,zc,nz⟩;have H6:=O (show aeA w6 bp v6 w5.heap.size (((Tp.take (k+1)).map (fun h=>rl.CU pL ⟨#[]⟩ h)).foldl p9 pA) w5 from⟨AJ,by rw[l_.o];exact zc,sX.o.step nz (fun j hj h=>by
           rcases h with h|h
           ·have:=HBP.o;omega
           ·have:=RD.o.block j h;omega)⟩)
          clear AJ zc nz Ly;go_wp2;rw[<-Jn.o];go_roundw
          case rel=>exact⟨k+1,v6,ab,bg,H6.o.1,H6.o.2.1,H6.o.2.2⟩
          case measure=>have hln:=Jn.o;simp[intOf];omega
         ·have aew:¬(k:Int)<(yD.length:Int):=by have:=Jn.o;omega
          rw[aD ab]at cQ;obtain⟨G,hG⟩:∃G,G=(Tp.map (fun h=>rl.CU pL ⟨#[]⟩ h)).foldl p9 pA:=⟨_,rfl⟩;rw[<-hG]at cQ;have HGE:=O (show GS=G from by rw[HGR.o,ape.o,hG,EF.o,HMM.o];rfl);have HWR:=O (HUW.o.trans cL);obtain⟨av,cv,Th⟩:=cQ.form;rw[ai]at Th;subst Th;have RD:=O cQ;have d0:wr.cell? ⟨bp,0,none⟩=some (.slice av G.length cv):=by simp[World.cell?,sO]
          have HBK:=O sO;have ajr:=O (wY.o wr HWR.o _ G cQ.at);obtain⟨e0,e1,e2,e3,e4,e5,e6,e7,e8,e9,e10,e11,e12⟩:=HX.o wr HWR.o;clear sO cQ cL hG;have Vm:=O (show RES=if !rl.mV G then .error 6 else .ok G from by rw[<-HGE.o];exact Te.o);generalize rl.mV G=cv2 at ajr Vm;go_wp2_with fail
          refine ajr.o.mono ?_;rintro e w7⟨rfl,og⟩;have d1:w7.cell? ⟨bp,0,none⟩=some (.slice av G.length cv):=by simp[World.cell?,og.keep HBK.o id]
          have Jb:=O og;clear og e0 e1 e2 e3 e4 e5 e6 e7 e8 e9 e10 e11 e12 d0;cases cv2
          ·have HR:=O (show RES=.error 6 from Vm.o);clear Vm;go_wp2;go_ret2;exact vY.bad 6 HR.o (mh.o.trans (HWR.o.trans Jb.o))
          ·have HR:=O (show RES=.ok G from Vm.o);clear Vm;go_wp2;go_ret2;exact vY.ao3 HR.o (mh.o.trans (HWR.o.trans Jb.o)) ((RD.o.fr Jb.o (fun _ _ h=>h)).up pN.o)
