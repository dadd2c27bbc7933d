/- Lemmas for the law's walk. -/
import Derived.Test.YtjndhcngnghpiaaGreatDoorPo13
set_option maxRecDepth 100000
set_option maxHeartbeats 16000000
set_option linter.unusedSimpArgs false
namespace Go.Proofs.YtjndhcngnghpiaaGreatDoor
open Go.Proofs.Tryz
open Go.RowKit
variable {base n c k:Nat} {w w':World} {ss:List ai} {x:ai} {ps:List jh} {ws:List Bs} {res:Except Nat (List en)}
theorem YU(r:fX Value)(v:Value)(ps:List jh)(w:World)(h:lz w v ps)(hz:k_ ps)(ht:xh w)(h0: -9223372036854775808<=r.cQ.port)(h1:r.cQ.port<=9223372036854775807)(hs:r.cQ.host.size<100000) :
  aC 136 #[.agg r.cells.toArray,v] w fun e w'=>e=.returned (.bool (LU (wS r.cQ).data.toList r.fF ps))/\Fr aW w w':=by
 have gu:Hid (LU (wS r.cQ).data.toList r.fF ps=(if !qe ps qG then false else if(kU ps qG== [42])&&!r.fF then true else if kU ps qG !=(wS r.cQ).data.toList then false else !r.fF||(kU ps Jk==lG))):=O rfl;generalize LU (wS r.cQ).data.toList r.fF ps=res at gu ⊢;obtain⟨rc,uj⟩:∃rc,rc=r.cells.toArray:=⟨_,rfl⟩;obtain⟨wb,jJ⟩:∃wb,wb=w.alloc (.cells rc 29):=⟨_,rfl⟩
 have j6:Fr aW w wb:=by rw[jJ];exact(ae aW w).alloc _
 have lI:wb.heap[w.heap.size]?=some (.cells rc 29 (0,0)):=by rw[jJ];exact aB _ _
 have HC:=O (show∀U,Fr aW wb U->U.cell? ⟨w.heap.size,1,none⟩=some (.bool r.cQ.aG)/\U.cell? ⟨w.heap.size,2,none⟩=some (.string r.cQ.host)/\U.cell? ⟨w.heap.size,3,none⟩=some (.int .i64 r.cQ.port)/\U.cell? ⟨w.heap.size,11,none⟩=some (.bool r.fF)from fun U hU=>by
  have j:=hU.keep lI id;rw[uj]at j;have hc:∀i u,r.cells[i]?=some u->U.cell? ⟨w.heap.size,i,none⟩=some u:=fun i u hu=>by simp only[World.cell?,j];simpa using hu
  exact⟨hc 1 _ rfl,hc 2 _ rfl,hc 3 _ rfl,hc 11 _ rfl⟩)
 obtain⟨so,hso,xx⟩:=tI ps qG hz;obtain⟨sc,hsc,hcz⟩:=tI ps Jk hz;have HG:=O (fun(u:World) (hu:Fr aW w u)=>vU v ps qG u (bG h hu) hz ag so _ hso rfl);have HK:=O (fun(u:World) (hu:Fr aW w u)=>vU v ps Jk u (bG h hu) hz ag sc _ hsc rfl);have HT:=O (fun(u:World) (hu:Fr aW w u)=>TD r.cQ u (ht.fr hu) h0 h1 hs);have lZ:=O j6;have qC:=O jJ;rw[hso,hsc]at gu;obtain⟨av,cv,hv⟩:=lz.form h;subst hv
 clear h hz ht h0 h1 hs j6 lI hso hsc;rw[<-uj];clear uj jJ;generalize qe ps Jk=bc at HK;cases hb:qe ps qG
 ·have HR:=O (show res=false by rw[gu.out,hb];rfl);have HG1:=O (HG.o wb lZ.o);rw[hb]at HG1;clear hb gu;go_enter func136,ntmps136;go_wp2_with fail
  rw[<-qC.o];refine HG1.o.mono ?_;rintro e u1⟨rfl,dn⟩;go_wp2;go_ret;exact⟨by rw[HR.o];rfl,lZ.o.trans dn⟩
 ·have HG1:=O (HG.o wb lZ.o);rw[hb]at HG1 gu;clear hb;have HTT:=O (show so.toList=so.data.toList from aN _);generalize wS r.cQ=t at *
  cases e1:(so.toList== [42])
  ·have Ip:=O (show res=(if so.data.toList !=t.data.toList then false else !r.fF||(sc.data.toList==lG))by rw[gu.out, <-HTT.o,e1];rfl);clear gu;go_enter func136,ntmps136;go_wp2_with fail
   rw[<-qC.o];refine HG1.o.mono ?_;rintro e u1⟨rfl,dn⟩;have lB:=O dn;obtain⟨k1,k2,k3,k4⟩:=HC.o u1 dn;clear dn;go_wp2_with fail
   refine(HT.o u1 (lZ.o.trans lB.o)).mono ?_;rintro e u2⟨rfl,dD⟩;have fS:=O (lB.o.trans dD);clear dD k1 k2 k3 k4;cases e2:(so.data.toList==t.data.toList)
   ·have hne:¬so.toList=t.toList:=by
     rw[aN,aN];exact aK.1 e2
    have TB:(so.toList==t.toList)=false:=by rw[aK];exact hne
    have HR:=O (show res=false by rw[Ip.o];unfold bne;rw[e2];rfl);clear Ip e2;go_wp2;go_ret;exact⟨by rw[HR.o];rfl,lZ.o.trans fS.o⟩
   ·have heq:so.toList=t.toList:=by
     rw[aN,aN];exact dQ.1 e2
    have LS:=O (show res=(!r.fF||(sc.data.toList==lG))by rw[Ip.o];unfold bne;rw[e2];rfl);have HEQ:=O heq;have TB:(so.toList==t.toList)=true:=by rw[dQ];exact heq
    clear Ip e2 heq;go_wp2_with fail
    refine(HK.o u2 (lZ.o.trans fS.o)).mono ?_;rintro e u3⟨rfl,ik⟩;have ij:=O (fS.o.trans ik);obtain⟨k1,k2,k3,k4⟩:=HC.o u3 ij.o;clear ik;have QX:=O (show sc.toList=sc.data.toList from aN _);cases e4:r.fF
    ·rw[e4]at k4;have HR:=O (show res=true by rw[LS.o,e4];rfl);clear e4;go_wp2;go_ret;exact⟨by rw[HR.o];rfl,lZ.o.trans ij.o⟩
    ·rw[e4]at k4 LS;clear e4;cases e3:(sc.toList== [116,114,117,101])
     ·have HR:=O (show res=false by rw[LS.o, <-QX.o];exact e3);go_wp2;go_ret;exact⟨by rw[HR.o];rfl,lZ.o.trans ij.o⟩
     ·have HR:=O (show res=true by rw[LS.o, <-QX.o];exact e3);go_wp2;go_ret;exact⟨by rw[HR.o];rfl,lZ.o.trans ij.o⟩
  ·cases e5:r.fF
   ·have HR:=O (show res=true by rw[gu.out, <-HTT.o,e1,e5];rfl);clear gu;go_enter func136,ntmps136;go_wp2_with fail
    rw[<-qC.o];refine HG1.o.mono ?_;rintro e u1⟨rfl,dn⟩;have lB:=O dn;obtain⟨k1,k2,k3,k4⟩:=HC.o u1 dn;clear dn;rw[e5]at k4;clear e5;go_wp2;go_ret;exact⟨by rw[HR.o];rfl,lZ.o.trans lB.o⟩
   ·have Ip:=O (show res=(if so.data.toList !=t.data.toList then false else !true||(sc.data.toList==lG))by rw[gu.out, <-HTT.o,e1,e5];rfl);clear gu;go_enter func136,ntmps136;go_wp2_with fail
    rw[<-qC.o];refine HG1.o.mono ?_;rintro e u1⟨rfl,dn⟩;have lB:=O dn;obtain⟨k1,k2,k3,k4⟩:=HC.o u1 dn;clear dn;rw[e5]at k4 HC;clear e5;go_wp2_with fail
    refine(HT.o u1 (lZ.o.trans lB.o)).mono ?_;rintro e u2⟨rfl,dD⟩;have fS:=O (lB.o.trans dD);clear dD k1 k2 k3 k4;cases e2:(so.data.toList==t.data.toList)
    ·have hne:¬so.toList=t.toList:=by
      rw[aN,aN];exact aK.1 e2
     have TB:(so.toList==t.toList)=false:=by rw[aK];exact hne
     have HR:=O (show res=false by rw[Ip.o];unfold bne;rw[e2];rfl);clear Ip e2;go_wp2;go_ret;exact⟨by rw[HR.o];rfl,lZ.o.trans fS.o⟩
    ·have heq:so.toList=t.toList:=by
      rw[aN,aN];exact dQ.1 e2
     have LS:=O (show res=(!true||(sc.data.toList==lG))by rw[Ip.o];unfold bne;rw[e2];rfl);have HEQ:=O heq;have TB:(so.toList==t.toList)=true:=by rw[dQ];exact heq
     clear Ip e2 heq;go_wp2_with fail
     refine(HK.o u2 (lZ.o.trans fS.o)).mono ?_;rintro e u3⟨rfl,ik⟩;have ij:=O (fS.o.trans ik);obtain⟨k1,k2,k3,k4⟩:=HC.o u3 ij.o;clear ik;have QX:=O (show sc.toList=sc.data.toList from aN _);cases e3:(sc.toList== [116,114,117,101])
     ·have HR:=O (show res=false by rw[LS.o, <-QX.o];exact e3);go_wp2;go_ret;exact⟨by rw[HR.o];rfl,lZ.o.trans ij.o⟩
     ·have HR:=O (show res=true by rw[LS.o, <-QX.o];exact e3);go_wp2;go_ret;exact⟨by rw[HR.o];rfl,lZ.o.trans ij.o⟩
theorem Strs.put{g:Nat}(h:Strs base w (.slice (some ⟨g,0,none⟩) n c) ss){j:Nat}(x:ai) :
  Strs base (w.setCell ⟨g,j,none⟩ (.string x)) (.slice (some ⟨g,0,none⟩) n c) (ss.set j x):=by
 obtain⟨h1,h2⟩:=h;refine⟨aQ,?_⟩;rcases h2 with ⟨hv,_⟩|⟨g',cap,cur,hv,hg,hh,h3,h4,h5,h6⟩
 ·cases hv
 ·have e1:g'=g/\n=ss.length/\c=cap:=by
   injection hv with a1 a2 a3
   injection a1 with a1
   injection a1 with a1
   exact⟨a1.symm,a2,a3⟩
  obtain⟨rfl,rfl,rfl⟩:=e1;refine Or.inr ⟨g',c,cur.setIfInBounds j (.string x),by rw[dW],hg,b_ hh _ _,by rw[dW];exact h3,h4,by simpa using h5,?_⟩;rw[dW,List.map_set, <-h6,Array.toList_setIfInBounds,List.take_set]
def ahL(base:Nat)(u:World)(hv:Value)(ss:List ai)(t:Value)(wr:World):Prop :=
 ∃k:Nat,k<=ss.length/\t=.int .i64 k/\Strs base wr hv ((ss.take k).map sK++ss.drop k)/\Fr (own hv) u wr
theorem U8(h:ss[k]?=some x):((ss.take k).map sK++ss.drop k).set k (sK x)=(ss.take (k+1)).map sK++ss.drop (k+1):=by
 obtain⟨hk,e⟩:=List.getElem?_eq_some_iff.1 h;have hl:((ss.take k).map sK).length=k:=bF;rw[List.set_append_right _ _ ab,hl,Nat.sub_self,cM hk,List.set_cons_zero,dT h,bD,cH];rfl
theorem U9(h:ss[k]?=some x):((ss.take k).map sK++ss.drop k)[k]?=some x:=by
 obtain⟨hk,e⟩:=List.getElem?_eq_some_iff.1 h;have hl:((ss.take k).map sK).length=k:=bF;rw[List.getElem?_append_right ab,hl,Nat.sub_self,cM hk];simp[e]
theorem DM:∀(f:Nat) (r:Bs) (ws:List Bs),lF f r=.ok ws->∀w∈ws,w.length<=r.length
 |0,r,ws,h,w,hw=>by rw[lF]at h;cases h;cases hw
 |f+1,r,ws,h,w,hw=>by
  rw[lF]at h;have h1:=pO dH r;have h2:=pO fM (r.dropWhile dH);have h3:=pO dH ((r.dropWhile dH).dropWhile fM);have h4:=px fM (r.dropWhile dH);have dX:∀u∈(if((r.dropWhile dH).takeWhile fM).isEmpty then []else [(r.dropWhile dH).takeWhile fM]),u.length<=r.length:=by
   intro u hu;split at hu
   ·cases hu
   ·simp at hu;subst hu;omega
  cases e:((r.dropWhile dH).dropWhile fM).dropWhile dH with
  |nil =>
   rw[e]at h;simp only at h;cases h;exact dX w hw
  |cons c r4 =>
   rw[e]at h h3;simp only at h;split at h
   ·cases hr:lF f r4 with
    |error m=>rw[hr]at h;cases h
    |ok w2 =>
     rw[hr]at h;cases h;rcases bP.1 hw with g|g
     ·exact dX w g
     ·have:=DM f r4 w2 hr w g;simp at h3;omega
   ·cases h
theorem Nk{n:Bs}(hz:k_ ps)(h:kK ps n=some ws):∀w∈ws,w.length<=100002000:=by
 obtain⟨s,hs,xx⟩:=tI ps n hz;unfold kK at h;cases hl:gP (kU ps n)with
 |error e=>rw[hl]at h;cases h
 |ok m =>
  rw[hl]at h;simp only at h;split at h
  ·cases h
  ·cases h;intro w hw;have:=DM _ _ _ hl w hw;rw[hs]at this;have e:s.data.toList.length=s.size:=aQ;omega
theorem FY{n:Bs}(h:kK ps n=some ws):ws.length<=40:=by
 unfold kK at h;cases hl:gP (kU ps n)with
 |error e=>rw[hl]at h;cases h
 |ok m =>
  rw[hl]at h;simp only at h;split at h
  ·cases h
  ·cases h;omega
theorem Strs.aay{a:eZ}(h:Strs base w (.slice a n c) ss)(hne:ss≠ []) :
  ∃g,a=some ⟨g,0,none⟩/\n=ss.length/\base<=g/\g<w.heap.size/\n<=c/\c<=maxLen/\(∀(j:Nat) x,ss[j]?=some x->w.cell? ⟨g,j,none⟩=some (.string x))/\∀i,w.frozen? ⟨g,i,none⟩=false:=by
 have dL:=h.at;obtain⟨h1,h2⟩:=h;rcases h2 with ⟨hv,h0⟩|⟨g,cap,cur,hv,hg,hh,h3,h4,h5,h6⟩
 ·exact absurd (bZ h0) hne
 ·cases hv;refine⟨g,rfl,rfl,hg,bg hh,h3,h4,?_,fun i=>by simp[World.frozen?,hh]⟩;rcases dL with ⟨_,_,_,e,_⟩|⟨bk,o,c',hf,g1,g2,g3,g4⟩
  ·exact absurd e hne
  ·cases hf;intro j x hj;have:=g4 j x hj;simpa using this
theorem Nl(w:World)(x:ai):ib (w.alloc (.cells #[.string x] 9)) (.slice (some ⟨w.heap.size,0,none⟩) 1 1) [x]:=by
 refine Or.inr ⟨w.heap.size,0,1,rfl,ay _,by simp[maxLen],aQ,fun j y hj=>?_⟩
 match j,hj with
 |0,hj =>
  simp at hj;subst hj;rw[World.cell?_alloc_mark];simp
def vY(res:Except Nat (List en))(w:World)(e:Ending)(w':World):Prop :=
 Fr aW w w'/\match res with
 | .ok m=>∃v,e=.returned (.tuple #[v,.nilIface])/\OwnRows w.heap.size 137 12 w' v (m.map en.cells)
 | .error n=>e=.returned (.tuple #[.slice none 0 0,.iface 82 (.int .i64 n)])
theorem vY.bad(n:Nat)(h:res=.error n)(hf:Fr aW w w'):vY res w (.returned (.tuple #[.slice none 0 0,.iface 82 (.int .i64 n)])) w':=by
 subst h;exact⟨hf,rfl⟩
theorem vY.ann{m:List en}{v:Value}(h:res=.ok m)(hf:Fr aW w w')(ho:OwnRows w.heap.size 137 12 w' v (m.map en.cells)):vY res w (.returned (.tuple #[v,.nilIface])) w':=by
 subst h;exact⟨hf,v,rfl,ho⟩
def aaz(base:Nat)(u:World)(bp:Nat)(ss:List ai)(f:ai->en)(a0:List en)(t:Value)(wr:World):Prop :=
 ∃(k:Nat) (v:Value),k<=ss.length/\t=.int .i64 k/\wr.heap[bp]?=some (.cells #[v] 119 (0,0))/\OwnRows base 137 12 wr v ((((ss.take k).map f).foldl pS a0).map en.cells)/\Fr aW u wr
def adf(w6:World)(bp:Nat)(v:Value)(base:Nat)(acc:List en)(w5:World):Prop :=
 w6.heap[bp]?=some (.cells #[v] 119 (0,0))/\OwnRows base 137 12 w6 v (acc.map en.cells)/\Fr aW w5 w6
theorem KC(f:ai->en)(a0:List en)(h:ss[k]?=some x):((ss.take (k+1)).map f).foldl pS a0=pS (((ss.take k).map f).foldl pS a0) (f x):=by
 rw[dT h,bD,List.foldl_append];rfl
theorem DN(l:List en):∀a0:List en,(l.foldl pS a0).length<=a0.length+l.length:=by
 induction l with
 |nil=>intro a0;simp
 |cons p l ih =>
  intro a0;have h1:=ih (pS a0 p);have h2:(pS a0 p).length<=a0.length+1:=by unfold pS;split<;>simp
  simp only[List.foldl_cons,List.length_cons];omega
theorem QY(r:fX Value)(hs:List gU)(lv:Value)(ps:List jh)(now:Int)(w:World)(hr:ox w r.ef hs)(hl:lz w lv ps)(hz:k_ ps)(hq:FC r hs)(ht:xh w)(p0: -9223372036854775808<=r.cQ.port)(p1:r.cQ.port<=9223372036854775807)(hh:r.cQ.host.size<100000)(n0:0<=now)(n1:now<=1099511627776) :
  aC 87 #[.agg r.cells.toArray,lv,.int .i64 now] w (vY (tW (r.dP hs) (wS r.cQ).data.toList ps now) w):=by
 obtain⟨al,cl,hlf⟩:=dN hl;rw[aj]at hlf;subst hlf;obtain⟨n,hn⟩:∃n,n=w.heap.size:=⟨_,rfl⟩;obtain⟨w1,oT⟩:∃w1,w1=((w.alloc (.cells r.cells.toArray 29)).alloc (.cells #[.slice al ps.length cl] 27)).alloc (.cells #[.int .i64 now] 3):=⟨_,rfl⟩;have j6:Fr aW w w1:=by rw[oT];exact(((ae aW w).alloc _).alloc _).alloc _
 have lI:w1.heap[n]?=some (.cells r.cells.toArray 29 (0,0)):=by rw[oT,hn];exact(((ae aW _).alloc _).alloc _).keep (aB _ _) id
 have rM:w1.heap[n+1]?=some (.cells #[.slice al ps.length cl] 27 (0,0)):=by
  have h:=aB (w.alloc (.cells r.cells.toArray 29)) (.cells #[.slice al ps.length cl] 27);rw[bM, <-hn]at h;rw[oT];exact((ae aW _).alloc _).keep h id
 have GG:w1.heap[n+1+1]?=some (.cells #[.int .i64 now] 3 (0,0)):=by
  have h:=aB ((w.alloc (.cells r.cells.toArray 29)).alloc (.cells #[.slice al ps.length cl] 27)) (.cells #[.int .i64 now] 3);rw[bM,bM, <-hn]at h;rw[oT];exact h
 have HX2:=O (show∀U,Fr aW w1 U->U.cell? ⟨n+1,0,none⟩=some (.slice al ps.length cl)from fun U hU=>by simp[World.cell?,hU.keep rM id]);have HX:=O (show∀U,Fr aW w1 U->Av U n r from fun U hU=>Av.eG (hU.keep lI id));have HWD:=O (show∀(nm:Bs),nm.length<1000->∀U,Fr aW w1 U->aC 135 #[.slice al ps.length cl,.string (bA nm)] U (FM ps nm U)from fun nm We U hU=>QC _ ps nm U (bG hl (j6.trans hU)) hz We)
 have YV:=O (show∀U,Fr aW w1 U->aC 136 #[.agg r.cells.toArray,.slice al ps.length cl] U fun e w'=>e=.returned (.bool (LU (wS r.cQ).data.toList r.fF ps))/\Fr aW U w' from fun U hU=>YU r _ ps U (bG hl (j6.trans hU)) hz (ht.fr (j6.trans hU)) p0 p1 hh);have HMT:=O (show∀U,aC 73 #[.string r.method] U fun e w'=>e=.returned (.string (ju r.method))/\Fr aW U w' from fun U=>xE r.method U hq.1)
 have wT:=O (show∀U,Fr aW w1 U->∀(pv:Value) (m:List en),uG U pv m->aC 84 #[.agg r.cells.toArray,pv] U fun e w'=>e=.returned (.bool ((r.dP hs).mS m))/\Fr aW U w' from fun U hU pv m L5=>xZ r hs pv m U (bG hr (j6.trans hU)) L5 hq)
 have MW:=O (show∀U,Fr aW w1 U->∀(base bp:Nat) (v:Value) (acc:List en) (m hd:ai),base<=bp->acc.length<1000000->U.heap[bp]?=some (.cells #[v] 119 (0,0))->OwnRows base 137 12 U v (acc.map en.cells)->aC 138 #[.string m,.string hd,.pointer (some ⟨n,0,none⟩),.pointer (some ⟨n+1+1,0,none⟩),.pointer (some ⟨n+1,0,none⟩),.pointer (some ⟨bp,0,none⟩)] U fun e w'=>e=.returned (.tuple #[])/\∃v',w'.heap[bp]?=some (.cells #[v'] 119 (0,0))/\OwnRows base 137 12 w' v' ((pS acc ((r.dP hs).Cw (now+mT ps) m hd)).map en.cells)/\Fr (fun k=>k=bp\/own v k) U w' from fun U hU base bp v acc m hd hb hlen hp cO =>
  Yq base m hd r hs now _ ps acc v n (n+1+1) (n+1) bp U (hU.keep lI id) (hU.keep GG id) (hU.keep rM id) hp (bG hl (j6.trans hU)) hz cO hb hlen n0 n1)
 have lZ:=O j6;obtain⟨ah,ch,gq⟩:=dN hr;rw[aj]at gq;have hzz:=O hz;clear hr hl hz lI rM GG j6 ht hq p0 p1 hh n0 n1;have HG:=O (show tW (r.dP hs) (wS r.cQ).data.toList ps now=(match kK ps Jl,kK ps xI with
  |some ms,some QZ=>if !LU (wS r.cQ).data.toList r.fF ps then .error 6 else if !(r.dP hs).mS ((r.dP hs).bW (now+mT ps) ms QZ)then .error 6 else .ok ((r.dP hs).bW (now+mT ps) ms QZ)
  |_,_=>.error 3)from rfl)
 have HGS:=O (show∀ms QZ,(r.dP hs).bW (now+mT ps) ms QZ=(QZ.map fun h=>(r.dP hs).Cw (now+mT ps) (bA []) (bA (nd h))).foldl pS ((if ms.isEmpty then [ju r.method]else ms.map bA).map (fun m=>(r.dP hs).Cw (now+mT ps) m (bA [])) |>.foldl pS [])from fun _ _=>rfl);generalize (wS r.cQ).data.toList=ahM at *
 obtain⟨part,⟨fs,fh,fp⟩,⟨os,oh,op⟩,path,query,method,ef,fF,body⟩:=r;simp only at gq;subst gq;obtain⟨R,hR⟩:∃R:fX Value,R=⟨part,⟨fs,fh,fp⟩,⟨os,oh,op⟩,path,query,method,.slice ah hs.length ch,fF,body⟩:=⟨_,rfl⟩;rw[<-hR]at HX YV HMT wT MW HG HGS ⊢
 have ahN:=O (show R.cells.toArray= #[.int .i64 part,.bool fs,.string fh,.int .i64 fp,.bool os,.string oh,.int .i64 op,.string path,.string query,.string method,.slice ah hs.length ch,.bool fF,.string body]by rw[hR];rfl);have HRL:=O (show∀U,Fr aW w1 U->Av U n ⟨part,⟨fs,fh,fp⟩,⟨os,oh,op⟩,path,query,method,.slice ah hs.length ch,fF,body⟩from by rw[<-hR];exact HX.o)
 have HMR:=O (show R.method=method by rw[hR]);clear HX;rw[ahN.o]at YV wT ⊢;rw[HMR.o]at HMT HGS;have HX:=HRL;unfold Av at HX;dsimp only at HX;unfold fX.cells at oT;dsimp only at oT;clear hR ahN HMR HRL;generalize R.dP hs=rl at *
 generalize R.fF=rw0 at *
 obtain⟨RES,ahO⟩:∃RES,RES=tW rl ahM ps now:=⟨_,rfl⟩;rw[<-ahO]at HG ⊢;clear ahO R;generalize LU ahM rw0 ps=my at *
 generalize now+mT ps=pE at *
 generalize ju method=mm at *
 subst hn;have c2:=HX2.o w1 (ae _ _);have ats:w.heap.size<=w1.heap.size:=lZ.o.size;rw[oT]at c2;go_enter func87,ntmps87;go_wp2_with fail
 rw[<-oT];clear oT c2;refine(HWD.o Jl ag w1 (ae _ _)).mono ?_;rintro e u1⟨uY,hm1⟩;have c2:=HX2.o u1 uY;cases hwm:kK ps Jl with
 |none =>
  rw[hwm]at hm1 HG;dsimp only at hm1;subst hm1;have HR:=O (show RES=.error 3 from HG.o);clear hwm HG;go_wp2_with fail
  refine(HWD.o xI ag u1 uY).mono ?_;rintro e u2⟨lD,Ea⟩;have p_:=O (lZ.o.trans (uY.trans lD));clear uY lD c2;cases YW:kK ps xI with
  |none =>
   rw[YW]at Ea;dsimp only at Ea;subst Ea;go_wp2;go_ret2;exact vY.bad 3 HR.o p_.o
  |some zQ =>
   rw[YW]at Ea;obtain⟨hv,rfl,iM⟩:=Ea;obtain⟨ah',ch',JN⟩:=iM.form;subst JN;clear iM;go_wp2;go_ret2;exact vY.bad 3 HR.o p_.o
 |some ms =>
  rw[hwm]at hm1 HG;obtain⟨mv,rfl,hms⟩:=hm1;obtain⟨am,cm,anp⟩:=hms.form;subst anp;go_wp2_with fail
  refine(HWD.o xI ag u1 uY).mono ?_;rintro e u2⟨lD,Ea⟩;have p_:=O (uY.trans lD);have hB1:w1.heap.size<=u1.heap.size:=uY.size;have anq:=O (FY hwm);clear hwm;have adg:=fun k (hk:(Value.slice am (dM ms).length cm).ownBlock=some k)=>(hms.lt k hk).2;have adh:=hms.fr lD (fun _ h=>absurd h id);clear uY lD c2 hms;cases YW:kK ps xI with
  |none =>
   rw[YW]at Ea HG;dsimp only at Ea;subst Ea;have HR:=O (show RES=.error 3 from HG.o);clear YW HG adg adh;go_wp2;go_ret2;exact vY.bad 3 HR.o (lZ.o.trans p_.o)
  |some zQ =>
   rw[YW]at Ea HG;obtain⟨hv,rfl,iM⟩:=Ea;have hHG:=HG.o;dsimp only at hHG;have HG:=O hHG;clear hHG;obtain⟨ahh,chh,JN⟩:=iM.form;subst JN;have ahR:=O iM;have ahS:=O (Nk hzz.o YW);have lg:=O (FY YW);have ahT:=O adh;have ahU:=O adg;clear iM adh adg YW;have c2:=HX2.o u2 p_.o;obtain⟨e0,e1,e2,e3,e4,e5,e6,e7,e8,e9,e10,e11,e12⟩:=HX.o u2 p_.o;go_wp2_with fail
   refine(YV.o u2 p_.o).mono ?_;rintro e u3⟨rfl,B8⟩;have HU3:=O (p_.o.trans B8);have KD:=O (ahR.o.fr B8 (fun _ h=>absurd h id));have aaB:=O (ahT.o.fr B8 (fun _ h=>absurd h id));have TN:=O hB1;clear B8 c2 e0 e1 e2 e3 e4 e5 e6 e7 e8 e9 e10 e11 e12 ahR ahT YV hB1;cases my
   ·have HR:=O (show RES=.error 6 from HG.o);clear HG;go_wp2;go_ret2;exact vY.bad 6 HR.o (lZ.o.trans HU3.o)
   have HG2:=O (HG.o.trans (ar ag));clear HG;obtain⟨BA,hhl⟩:∃BA,BA=dM zQ:=⟨_,rfl⟩;have T3:=O (show∀x∈BA,x.size<17592186044416 from by
    intro x hx;rw[hhl]at hx;obtain⟨y,hy,rfl⟩:=cj.1 hx;have:=ahS.o y hy;show y.toArray.size<_;simp;omega)
   have HGR:=O (HGS.o ms zQ);have ahV:=O (show(dM zQ).length<=40 from by have h:=lg.o;unfold dM;rw[aj];exact h);have HLM:=O (show(zQ.map fun h=>rl.Cw pE (bA []) (bA (nd h)))=(BA.map sK).map (fun h=>rl.Cw pE (bA []) h)from by
    rw[hhl];unfold dM sK bA;simp[g_,Function.comp])
   rw[<-hhl]at KD ahV ⊢;clear HGS ahS hhl;obtain⟨GS,hGS⟩:∃GS,GS=rl.bW pE ms zQ:=⟨_,rfl⟩;rw[<-hGS]at HGR HG2;clear hGS;cases ms
   case' nil =>
    obtain⟨_,_,_,_,_,_,_,_,_,e9,_⟩:=HX.o u3 HU3.o;have oZ:((dM []).length:Int)=0:=rfl;go_wp2_with fail
    refine(HMT.o u3).mono ?_;rintro e u4⟨rfl,M1⟩;obtain⟨uL,huL⟩:∃uL,uL=u4.alloc (.cells #[.string mm] 9):=⟨_,rfl⟩;have kz:Fr aW u3 uL:=by rw[huL];exact M1.alloc _
    have U_:=O (show ib uL (.slice (some ⟨u4.heap.size,0,none⟩) 1 1) [mm]from by rw[huL];exact Nl u4 mm);have HDJ:=O (show∀k,(Value.slice (some ⟨u4.heap.size,0,none⟩) 1 1).ownBlock=some k->¬own (.slice ahh BA.length chh) k from fun k hk ho=>by
     have h1:=(KD.o.lt k ho).2;have h2:=M1.size;have e:u4.heap.size=k:=by simpa[Value.ownBlock]using hk
     omega)
    have HHV:=O (KD.o.fr kz (fun _ h=>absurd h id));have HUL:=O (HU3.o.trans kz);obtain⟨MS,Va⟩:∃MS:List ai,MS=[mm]:=⟨_,rfl⟩;obtain⟨MA,hMA⟩:∃MA:eZ,MA=some ⟨u4.heap.size,0,none⟩:=⟨_,rfl⟩;obtain⟨MC,hMC⟩:∃MC:Nat,MC=1:=⟨_,rfl⟩;have hval:Value.slice (some ⟨u4.heap.size,0,none⟩) 1 1=Value.slice MA MS.length MC:=by rw[hMA,Va,hMC];rfl
    have HMM:=O (show(if([]:List Bs).isEmpty then [mm]else([]:List Bs).map bA)=MS from by rw[Va];rfl);have HMF:=O (show MS.length<=40 from by rw[Va];simp);rw[<-Va]at U_;rw[hval]at U_ HDJ;clear e9 oZ kz M1;go_wp2;rw[<-huL];clear hval Va hMA hMC huL
   case' cons m0 ms0 =>
    obtain⟨MS,Va⟩:∃MS:List ai,MS=dM (m0 :: ms0):=⟨_,rfl⟩;have HMM:=O (show(if(m0 :: ms0:List Bs).isEmpty then [mm]else(m0 :: ms0:List Bs).map bA)=MS from by rw[Va];rfl);have HMF:=O (show MS.length<=40 from by rw[Va];have h:=anq.o;unfold dM;rw[aj];exact h);have oZ:((MS.length:Int)==0)=false:=by rw[aK,Va];unfold dM;simp;omega
    rw[<-Va]at aaB ahU ⊢;have U_:=O aaB.o.at;have HDJ:=O (show∀k,(Value.slice am MS.length cm).ownBlock=some k->¬own (.slice ahh BA.length chh) k from fun k hk ho=>by
     have h1:=KD.o.block k ho;have h2:=ahU.o k hk;omega)
    have HHV:=O KD.o;have HUL:=O HU3.o;obtain⟨MA,hMA⟩:∃MA,MA=am:=⟨_,rfl⟩;obtain⟨MC,hMC⟩:∃MC,MC=cm:=⟨_,rfl⟩;obtain⟨uL,rfl⟩:∃uL,uL=u3:=⟨_,rfl⟩;rw[<-hMA, <-hMC]at U_ HDJ ⊢;clear Va hMA hMC;go_wp2
   all_goals
    go_loopw[51] (ahL u1.heap.size uL (.slice ahh BA.length chh) BA) (fun t _=>BA.length-(intOf t).toNat)
    case atStart=>exact⟨0,aS _,rfl,by simpa using HHV.o,ae _ _⟩
    case round =>
     obtain⟨k,hk,rfl,iM,cN⟩:=hrel;by_cases fx:k<BA.length
     ·have qp:(k:Int)<(BA.length:Int):=ab;have Uw:(0:Int)<=(k:Int):=ab;have dL:=O (List.getElem?_eq_getElem fx);have gM:=O (bL fx);generalize BA[k]=x at dL gM;have hne:(BA.take k).map sK++BA.drop k≠ []:=by
       intro e;have:=aq List.length e;rw[aM,aj,aL,bH,List.length_nil]at this;omega
      obtain⟨gh,hgh,rD,g1,g2,g3,g4,g5,g6⟩:=Strs.aay iM hne;subst hgh;unfold maxLen at g4;have hc:=g5 k x (U9 dL.o);have kR:=O (qO x wr (T3.o x gM.o));clear g5 g6 rD;go_wp2_with fail
      refine kR.o.mono ?_;rintro e wl⟨rfl,D8⟩;have lT:=O (iM.fr D8 (fun _ h=>absurd h id));obtain⟨gh',ahZ,rD,q1,q2,q3,q4,q5,q6⟩:=Strs.aay lT.o hne;obtain rfl:gh=gh':=by injection ahZ with h;injection h
      have sW:=q5 k x (U9 dL.o);have kS:=q6 k;have adi:=O (lT.o.put (j:=k) (sK x));have uf:=O (show Fr (own (.slice (some ⟨gh,0,none⟩) BA.length chh)) uL (wl.setCell ⟨gh,k,none⟩ (.string (sK x)))from(cN.step D8 (fun _ _ h=>absurd h id)).setCell (p:=⟨gh,k,none⟩) (fun _=>rfl) _);rw[U8 dL.o]at adi;unfold sK at adi uf;clear q5 q6 iM cN D8 lT kR rD ahZ hne;go_wp2;go_roundw
      case rel=>exact⟨k+1,ab,bf,adi.o,uf.o⟩
      case measure=>simp[intOf];omega
     ·have qp:¬(k:Int)<(BA.length:Int):=ab;have ah0:=O (show Strs u1.heap.size wr (.slice ahh BA.length chh) (BA.map sK)from by
       have h:=iM;rw[aD ab,List.drop_of_length_le ab,dI]at h;exact h)
      have YX:=O (U_.o.fr cN HDJ.o);have HUW:=O (show Fr aW w1 wr from HUL.o.step cN (fun j hj ho=>by
       have h1:=ah0.o.block j ho;have h2:=TN.o;omega))
      clear iM cN HHV U_ HDJ HUL;go_wp2;obtain⟨w5,rfl⟩:∃w5,w5=wr:=⟨_,rfl⟩;obtain⟨wq,hwq⟩:∃wq,wq=(w5.alloc (.cells #[] 137)).alloc (.cells #[.slice (some ⟨w5.heap.size,0,none⟩) 0 0] 119):=⟨_,rfl⟩;have hfq:Fr aW w5 wq:=by rw[hwq];exact((ae _ _).alloc _).alloc _
      have ZL:wq.heap[w5.heap.size+1]?=some (.cells #[.slice (some ⟨w5.heap.size,0,none⟩) 0 0] 119 (0,0)):=by
       have h:=aB (w5.alloc (.cells #[] 137)) (.cells #[.slice (some ⟨w5.heap.size,0,none⟩) 0 0] 119);rw[bM]at h;rw[hwq];exact h
      have oZ:wq.heap[w5.heap.size]?=some (.cells #[] 137 (0,0)):=by rw[hwq];exact((ae aW _).alloc _).keep (aB _ _) id
      have HO0:=O (show OwnRows w5.heap.size 137 12 wq (.slice (some ⟨w5.heap.size,0,none⟩) 0 0) (([]:List en).map en.cells)from⟨aQ,rfl,Or.inr ⟨w5.heap.size,0, #[],rfl,ay _,oZ,ay _,ag,rfl,rfl⟩⟩);have HPQ:=O ZL;have HFQ:=O hfq;obtain⟨bp,hbp⟩:∃bp,bp=w5.heap.size+1:=⟨_,rfl⟩;have HBP:=O (show w5.heap.size<=bp from ab);have qg:=O (show w.heap.size<=w5.heap.size from by have:=lZ.o.size;have:=HUW.o.size;omega)
      rw[<-hwq, <-hbp];rw[<-hbp]at HPQ;clear hfq ZL oZ hwq hbp qp hk fx;go_loopw[66] (aaz w5.heap.size w5 bp MS (fun m=>rl.Cw pE m ⟨#[]⟩) []) (fun t _=>MS.length-(intOf t).toNat)
      case atStart=>exact⟨0,_,aS _,rfl,HPQ.o,HO0.o,HFQ.o⟩
      case round =>
       obtain⟨k,vk,hk,rfl,sG,cO,cN⟩:=hrel;by_cases fx:k<MS.length
       ·have qp:(k:Int)<(MS.length:Int):=ab;have Uw:(0:Int)<=(k:Int):=ab;have dL:=O (List.getElem?_eq_getElem fx);rcases YX.o.iY cN with ⟨_,_,_,e,_⟩|⟨bk,o,c,hf,h1,h2,h3,h4⟩
        ·rw[e]at fx;exact absurd fx (cq _)
        cases hf;unfold maxLen at h2;have hc:=h4 k _ dL.o;generalize MS[k]=x at dL hc;have lT:=O (KC (fun m=>rl.Cw pE m ⟨#[]⟩) [] dL.o);have Br:=DN ((MS.take k).map (fun m=>rl.Cw pE m ⟨#[]⟩)) [];rw[aj,aL,List.length_nil]at Br;have KE:=O (MW.o wr (HUW.o.trans cN) w5.heap.size bp vk _ x ⟨#[]⟩ HBP.o (by have:=HMF.o;omega) sG cO);have uf:=O cN;have QE:=O cO;clear h4 sG cO cN Br;go_wp2_with fail
        refine KE.o.mono ?_;rintro e w6⟨rfl,v6,BD,yN,nw⟩;have H6:=O (show adf w6 bp v6 w5.heap.size (((MS.take (k+1)).map (fun m=>rl.Cw pE m ⟨#[]⟩)).foldl pS []) w5 from⟨BD,by rw[lT.o];exact yN,uf.o.step nw (fun j hj h=>by
         rcases h with h|h
         ·have:=HBP.o;omega
         ·have:=QE.o.block j h;omega)⟩)
        clear BD yN nw KE;go_wp2;go_roundw
        case rel=>exact⟨k+1,v6,ab,bf,H6.o.1,H6.o.2.1,H6.o.2.2⟩
        case measure=>simp[intOf];omega
       ·have qp:¬(k:Int)<(MS.length:Int):=ab;rw[aD ab]at cO;obtain⟨pn,Ch⟩:∃pn,pn=(MS.map (fun m=>rl.Cw pE m ⟨#[]⟩)).foldl pS []:=⟨_,rfl⟩;rw[<-Ch]at cO;have Br:=DN (MS.map (fun m=>rl.Cw pE m ⟨#[]⟩)) [];rw[<-Ch,aj,List.length_nil]at Br;have Ab:=O Br;have Ef:=O Ch;obtain⟨RX,YY⟩:∃RX,RX=BA.map sK:=⟨_,rfl⟩;have ah2:BA.length=RX.length:=by rw[YY,aj]
        have HH3:=O (show ib w5 (.slice ahh BA.length chh) RX from by rw[YY];exact ah0.o.at);have anA:=O (show(zQ.map fun h=>rl.Cw pE (bA []) (bA (nd h)))=RX.map (fun h=>rl.Cw pE ⟨#[]⟩ h)from by rw[YY];exact HLM.o);have Iq:=O ah2;have HS:=O (show adf wr bp vk w5.heap.size pn w5 from⟨sG,cO,cN⟩);clear sG cO cN Ch YY ah2 Br fx hk;go_wp2
        go_loopw[76] (aaz w5.heap.size w5 bp RX (fun h=>rl.Cw pE ⟨#[]⟩ h) pn) (fun t _=>RX.length-(intOf t).toNat)
        case atStart=>exact⟨0,_,aS _,rfl,HS.o.1,HS.o.2.1,HS.o.2.2⟩
        case round =>
         obtain⟨k,vk,hk,rfl,sG,cO,cN⟩:=hrel;by_cases fx:k<RX.length
         ·have ac9:(k:Int)<(BA.length:Int):=by have:=Iq.o;omega
          have Uw:(0:Int)<=(k:Int):=ab;have dL:=O (List.getElem?_eq_getElem fx);have hHs:=HH3.o.iY cN;rw[Iq.o]at hHs ac9 ⊢;rcases hHs with ⟨_,_,_,e,_⟩|⟨bk,o,c,hf,h1,h2,h3,h4⟩
          ·rw[e]at fx;exact absurd fx (cq _)
          cases hf;unfold maxLen at h2;have hc:=h4 k _ dL.o;generalize RX[k]=x at dL hc;have lT:=O (KC (fun h=>rl.Cw pE ⟨#[]⟩ h) pn dL.o);have Br:=DN ((RX.take k).map (fun h=>rl.Cw pE ⟨#[]⟩ h)) pn;rw[aj,aL]at Br;have KE:=O (MW.o wr (HUW.o.trans cN) w5.heap.size bp vk _ ⟨#[]⟩ x HBP.o (by have h1:=HMF.o;have h2:=ahV.o;have h3:=Ab.o;have h4:=Iq.o;omega) sG cO);have uf:=O cN;have QE:=O cO;clear h4 sG cO cN Br
          go_wp2_with fail
          refine KE.o.mono ?_;rintro e w6⟨rfl,v6,BD,yN,nw⟩;have H6:=O (show adf w6 bp v6 w5.heap.size (((RX.take (k+1)).map (fun h=>rl.Cw pE ⟨#[]⟩ h)).foldl pS pn) w5 from⟨BD,by rw[lT.o];exact yN,uf.o.step nw (fun j hj h=>by
           rcases h with h|h
           ·have:=HBP.o;omega
           ·have:=QE.o.block j h;omega)⟩)
          clear BD yN nw KE;go_wp2;rw[<-Iq.o];go_roundw
          case rel=>exact⟨k+1,v6,ab,bf,H6.o.1,H6.o.2.1,H6.o.2.2⟩
          case measure=>have hln:=Iq.o;simp[intOf];omega
         ·have ac9:¬(k:Int)<(BA.length:Int):=by have:=Iq.o;omega
          rw[aD ab]at cO;obtain⟨G,hG⟩:∃G,G=(RX.map (fun h=>rl.Cw pE ⟨#[]⟩ h)).foldl pS pn:=⟨_,rfl⟩;rw[<-hG]at cO;have HGE:=O (show GS=G from by rw[HGR.o,anA.o,hG,Ef.o,HMM.o];rfl);have HWR:=O (HUW.o.trans cN);obtain⟨av,cv,RS⟩:=cO.form;rw[aj]at RS;subst RS;have QE:=O cO;have d0:wr.cell? ⟨bp,0,none⟩=some (.slice av G.length cv):=by simp[World.cell?,sG]
          have HBK:=O sG;have ah4:=O (wT.o wr HWR.o _ G cO.at);obtain⟨e0,e1,e2,e3,e4,e5,e6,e7,e8,e9,e10,e11,e12⟩:=HX.o wr HWR.o;clear sG cO cN hG;have HG3:=O (show RES=if !rl.mS G then .error 6 else .ok G from by rw[<-HGE.o];exact HG2.o);generalize rl.mS G=cv2 at ah4 HG3;go_wp2_with fail
          refine ah4.o.mono ?_;rintro e w7⟨rfl,oa⟩;have d1:w7.cell? ⟨bp,0,none⟩=some (.slice av G.length cv):=by simp[World.cell?,oa.keep HBK.o id]
          have Ih:=O oa;clear oa e0 e1 e2 e3 e4 e5 e6 e7 e8 e9 e10 e11 e12 d0;cases cv2
          ·have HR:=O (show RES=.error 6 from HG3.o);clear HG3;go_wp2;go_ret2;exact vY.bad 6 HR.o (lZ.o.trans (HWR.o.trans Ih.o))
          ·have HR:=O (show RES=.ok G from HG3.o);clear HG3;go_wp2;go_ret2;exact vY.ann HR.o (lZ.o.trans (HWR.o.trans Ih.o)) ((QE.o.fr Ih.o (fun _ _ h=>h)).up qg.o)
