/- Lemmas for the law's walk. -/
import Derived.Test.YtnckmcnffadjoaaGreatDoorPm13
set_option maxRecDepth 100000
set_option maxHeartbeats 16000000
set_option linter.unusedSimpArgs false
namespace Go.Proofs.YtnckmcnffadjoaaGreatDoor
open Go.Proofs.Tryz
open Go.RowKit
variable {base n c k:Nat} {w w':World} {ss:List aj} {x:aj} {ps:List jz} {ws:List Bs} {res:Except Nat (List eo)}
theorem aaA(r:gu Value)(v:Value)(ps:List jz)(w:World)(h:lM w v ps)(hz:lz ps)(ht:xz w)(h0: -9223372036854775808<=r.cX.port)(h1:r.cX.port<=9223372036854775807)(hs:r.cX.host.size<100000) :
  aB 130 #[.agg r.cells.toArray,v] w fun e w'=>e=.returned (.bool (Nf (xf r.cX).data.toList r.fN ps))/\Fr aS w w':=by
 have gK:Hid (Nf (xf r.cX).data.toList r.fN ps=(if !qz ps qZ then false else if(lr ps qZ== [42])&&!r.fN then true else if lr ps qZ !=(xf r.cX).data.toList then false else !r.fN||(lr ps Kl==lS))):=O rfl;generalize Nf (xf r.cX).data.toList r.fN ps=res at gK ⊢;obtain⟨rc,uH⟩:∃rc,rc=r.cells.toArray:=⟨_,rfl⟩;obtain⟨wb,j6⟩:∃wb,wb=w.alloc (.cells rc 37):=⟨_,rfl⟩
 have ks:Fr aS w wb:=by rw[j6];exact(ae aS w).alloc _
 have mf:wb.heap[w.heap.size]?=some (.cells rc 37 (0,0)):=by rw[j6];exact aC _ _
 have HC:=O (show∀U,Fr aS wb U->U.cell? ⟨w.heap.size,1,none⟩=some (.bool r.cX.aE)/\U.cell? ⟨w.heap.size,2,none⟩=some (.string r.cX.host)/\U.cell? ⟨w.heap.size,3,none⟩=some (.int .i64 r.cX.port)/\U.cell? ⟨w.heap.size,11,none⟩=some (.bool r.fN)from fun U hU=>by
  have j:=hU.keep mf id;rw[uH]at j;have hc:∀i u,r.cells[i]?=some u->U.cell? ⟨w.heap.size,i,none⟩=some u:=fun i u hu=>by simp only[World.cell?,j];simpa using hu
  exact⟨hc 1 _ rfl,hc 2 _ rfl,hc 3 _ rfl,hc 11 _ rfl⟩)
 obtain⟨so,hso,yG⟩:=ub ps qZ hz;obtain⟨sc,hsc,hcz⟩:=ub ps Kl hz;have HG:=O (fun(u:World) (hu:Fr aS w u)=>wj v ps qZ u (bh h hu) hz ag so _ hso rfl);have HK:=O (fun(u:World) (hu:Fr aS w u)=>wj v ps Kl u (bh h hu) hz ag sc _ hsc rfl);have HT:=O (fun(u:World) (hu:Fr aS w u)=>U6 r.cX u (ht.fr hu) h0 h1 hs);have mr:=O ks;have qV:=O j6;rw[hso,hsc]at gK;obtain⟨av,cv,hv⟩:=lM.form h;subst hv
 clear h hz ht h0 h1 hs ks mf hso hsc;rw[<-uH];clear uH j6;generalize qz ps Kl=bc at HK;cases hb:qz ps qZ
 ·have HR:=O (show res=false by rw[gK.out,hb];rfl);have Sj:=O (HG.o wb mr.o);rw[hb]at Sj;clear hb gK;go_enter func130,ntmps130;go_wp2_with fail
  rw[<-qV.o];refine Sj.o.mono ?_;rintro e u1⟨rfl,dr⟩;go_wp2;go_ret;exact⟨by rw[HR.o];rfl,mr.o.trans dr⟩
 ·have Sj:=O (HG.o wb mr.o);rw[hb]at Sj gK;clear hb;have HTT:=O (show so.toList=so.data.toList from aO _);generalize xf r.cX=t at *
  cases e1:(so.toList== [42])
  ·have JE:=O (show res=(if so.data.toList !=t.data.toList then false else !r.fN||(sc.data.toList==lS))by rw[gK.out, <-HTT.o,e1];rfl);clear gK;go_enter func130,ntmps130;go_wp2_with fail
   rw[<-qV.o];refine Sj.o.mono ?_;rintro e u1⟨rfl,dr⟩;have lC:=O dr;obtain⟨k1,k2,k3,k4⟩:=HC.o u1 dr;clear dr;go_wp2_with fail
   refine(HT.o u1 (mr.o.trans lC.o)).mono ?_;rintro e u2⟨rfl,dB⟩;have f_:=O (lC.o.trans dB);clear dB k1 k2 k3 k4;cases e2:(so.data.toList==t.data.toList)
   ·have hne:¬so.toList=t.toList:=by
     rw[aO,aO];exact aL.1 e2
    have U4:(so.toList==t.toList)=false:=by rw[aL];exact hne
    have HR:=O (show res=false by rw[JE.o];unfold bne;rw[e2];rfl);clear JE e2;go_wp2;go_ret;exact⟨by rw[HR.o];rfl,mr.o.trans f_.o⟩
   ·have heq:so.toList=t.toList:=by
     rw[aO,aO];exact dW.1 e2
    have Nd:=O (show res=(!r.fN||(sc.data.toList==lS))by rw[JE.o];unfold bne;rw[e2];rfl);have HEQ:=O heq;have U4:(so.toList==t.toList)=true:=by rw[dW];exact heq
    clear JE e2 heq;go_wp2_with fail
    refine(HK.o u2 (mr.o.trans f_.o)).mono ?_;rintro e u3⟨rfl,iz⟩;have iA:=O (f_.o.trans iz);obtain⟨k1,k2,k3,k4⟩:=HC.o u3 iA.o;clear iz;have Sk:=O (show sc.toList=sc.data.toList from aO _);cases e4:r.fN
    ·rw[e4]at k4;have HR:=O (show res=true by rw[Nd.o,e4];rfl);clear e4;go_wp2;go_ret;exact⟨by rw[HR.o];rfl,mr.o.trans iA.o⟩
    ·rw[e4]at k4 Nd;clear e4;cases e3:(sc.toList== [116,114,117,101])
     ·have HR:=O (show res=false by rw[Nd.o, <-Sk.o];exact e3);go_wp2;go_ret;exact⟨by rw[HR.o];rfl,mr.o.trans iA.o⟩
     ·have HR:=O (show res=true by rw[Nd.o, <-Sk.o];exact e3);go_wp2;go_ret;exact⟨by rw[HR.o];rfl,mr.o.trans iA.o⟩
  ·cases e5:r.fN
   ·have HR:=O (show res=true by rw[gK.out, <-HTT.o,e1,e5];rfl);clear gK;go_enter func130,ntmps130;go_wp2_with fail
    rw[<-qV.o];refine Sj.o.mono ?_;rintro e u1⟨rfl,dr⟩;have lC:=O dr;obtain⟨k1,k2,k3,k4⟩:=HC.o u1 dr;clear dr;rw[e5]at k4;clear e5;go_wp2;go_ret;exact⟨by rw[HR.o];rfl,mr.o.trans lC.o⟩
   ·have JE:=O (show res=(if so.data.toList !=t.data.toList then false else !true||(sc.data.toList==lS))by rw[gK.out, <-HTT.o,e1,e5];rfl);clear gK;go_enter func130,ntmps130;go_wp2_with fail
    rw[<-qV.o];refine Sj.o.mono ?_;rintro e u1⟨rfl,dr⟩;have lC:=O dr;obtain⟨k1,k2,k3,k4⟩:=HC.o u1 dr;clear dr;rw[e5]at k4 HC;clear e5;go_wp2_with fail
    refine(HT.o u1 (mr.o.trans lC.o)).mono ?_;rintro e u2⟨rfl,dB⟩;have f_:=O (lC.o.trans dB);clear dB k1 k2 k3 k4;cases e2:(so.data.toList==t.data.toList)
    ·have hne:¬so.toList=t.toList:=by
      rw[aO,aO];exact aL.1 e2
     have U4:(so.toList==t.toList)=false:=by rw[aL];exact hne
     have HR:=O (show res=false by rw[JE.o];unfold bne;rw[e2];rfl);clear JE e2;go_wp2;go_ret;exact⟨by rw[HR.o];rfl,mr.o.trans f_.o⟩
    ·have heq:so.toList=t.toList:=by
      rw[aO,aO];exact dW.1 e2
     have Nd:=O (show res=(!true||(sc.data.toList==lS))by rw[JE.o];unfold bne;rw[e2];rfl);have HEQ:=O heq;have U4:(so.toList==t.toList)=true:=by rw[dW];exact heq
     clear JE e2 heq;go_wp2_with fail
     refine(HK.o u2 (mr.o.trans f_.o)).mono ?_;rintro e u3⟨rfl,iz⟩;have iA:=O (f_.o.trans iz);obtain⟨k1,k2,k3,k4⟩:=HC.o u3 iA.o;clear iz;have Sk:=O (show sc.toList=sc.data.toList from aO _);cases e3:(sc.toList== [116,114,117,101])
     ·have HR:=O (show res=false by rw[Nd.o, <-Sk.o];exact e3);go_wp2;go_ret;exact⟨by rw[HR.o];rfl,mr.o.trans iA.o⟩
     ·have HR:=O (show res=true by rw[Nd.o, <-Sk.o];exact e3);go_wp2;go_ret;exact⟨by rw[HR.o];rfl,mr.o.trans iA.o⟩
theorem Strs.put{g:Nat}(h:Strs base w (.slice (some ⟨g,0,none⟩) n c) ss){j:Nat}(x:aj) :
  Strs base (w.setCell ⟨g,j,none⟩ (.string x)) (.slice (some ⟨g,0,none⟩) n c) (ss.set j x):=by
 obtain⟨h1,h2⟩:=h;refine⟨aR,?_⟩;rcases h2 with ⟨hv,_⟩|⟨g',cap,cur,hv,hg,hh,h3,h4,h5,h6⟩
 ·cases hv
 ·have e1:g'=g/\n=ss.length/\c=cap:=by
   injection hv with a1 a2 a3
   injection a1 with a1
   injection a1 with a1
   exact⟨a1.symm,a2,a3⟩
  obtain⟨rfl,rfl,rfl⟩:=e1;refine Or.inr ⟨g',c,cur.setIfInBounds j (.string x),by rw[ed],hg,cg hh _ _,by rw[ed];exact h3,h4,by simpa using h5,?_⟩;rw[ed,List.map_set, <-h6,Array.toList_setIfInBounds,List.take_set]
def ajJ(base:Nat)(u:World)(hv:Value)(ss:List aj)(t:Value)(wr:World):Prop :=
 ∃k:Nat,k<=ss.length/\t=.int .i64 k/\Strs base wr hv ((ss.take k).map th++ss.drop k)/\Fr (own hv) u wr
theorem WE(h:ss[k]?=some x):((ss.take k).map th++ss.drop k).set k (th x)=(ss.take (k+1)).map th++ss.drop (k+1):=by
 obtain⟨hk,e⟩:=List.getElem?_eq_some_iff.1 h;have hl:((ss.take k).map th).length=k:=bI;rw[List.set_append_right _ _ ab,hl,Nat.sub_self,cU hk,List.set_cons_zero,dZ h,bG,cK];rfl
theorem WG(h:ss[k]?=some x):((ss.take k).map th++ss.drop k)[k]?=some x:=by
 obtain⟨hk,e⟩:=List.getElem?_eq_some_iff.1 h;have hl:((ss.take k).map th).length=k:=bI;rw[List.getElem?_append_right ab,hl,Nat.sub_self,cU hk];simp[e]
theorem Er:∀(f:Nat) (r:Bs) (ws:List Bs),lR f r=.ok ws->∀w∈ws,w.length<=r.length
 |0,r,ws,h,w,hw=>by rw[lR]at h;cases h;cases hw
 |f+1,r,ws,h,w,hw=>by
  rw[lR]at h;have h1:=qg dN r;have h2:=qg fW (r.dropWhile dN);have h3:=qg dN ((r.dropWhile dN).dropWhile fW);have h4:=pK fW (r.dropWhile dN);have eb:∀u∈(if((r.dropWhile dN).takeWhile fW).isEmpty then []else [(r.dropWhile dN).takeWhile fW]),u.length<=r.length:=by
   intro u hu;split at hu
   ·cases hu
   ·simp at hu;subst hu;omega
  cases e:((r.dropWhile dN).dropWhile fW).dropWhile dN with
  |nil =>
   rw[e]at h;simp only at h;cases h;exact eb w hw
  |cons c r4 =>
   rw[e]at h h3;simp only at h;split at h
   ·cases hr:lR f r4 with
    |error m=>rw[hr]at h;cases h
    |ok w2 =>
     rw[hr]at h;cases h;rcases bR.1 hw with g|g
     ·exact eb w g
     ·have:=Er f r4 w2 hr w g;simp at h3;omega
   ·cases h
theorem Ox{n:Bs}(hz:lz ps)(h:lf ps n=some ws):∀w∈ws,w.length<=100002000:=by
 obtain⟨s,hs,yG⟩:=ub ps n hz;unfold lf at h;cases hl:g_ (lr ps n)with
 |error e=>rw[hl]at h;cases h
 |ok m =>
  rw[hl]at h;simp only at h;split at h
  ·cases h
  ·cases h;intro w hw;have:=Er _ _ _ hl w hw;rw[hs]at this;have e:s.data.toList.length=s.size:=aR;omega
theorem G1{n:Bs}(h:lf ps n=some ws):ws.length<=40:=by
 unfold lf at h;cases hl:g_ (lr ps n)with
 |error e=>rw[hl]at h;cases h
 |ok m =>
  rw[hl]at h;simp only at h;split at h
  ·cases h
  ·cases h;omega
theorem Strs.acp{a:eV}(h:Strs base w (.slice a n c) ss)(hne:ss≠ []) :
  ∃g,a=some ⟨g,0,none⟩/\n=ss.length/\base<=g/\g<w.heap.size/\n<=c/\c<=maxLen/\(∀(j:Nat) x,ss[j]?=some x->w.cell? ⟨g,j,none⟩=some (.string x))/\∀i,w.frozen? ⟨g,i,none⟩=false:=by
 have dT:=h.at;obtain⟨h1,h2⟩:=h;rcases h2 with ⟨hv,h0⟩|⟨g,cap,cur,hv,hg,hh,h3,h4,h5,h6⟩
 ·exact absurd (cj h0) hne
 ·cases hv;refine⟨g,rfl,rfl,hg,bj hh,h3,h4,?_,fun i=>by simp[World.frozen?,hh]⟩;rcases dT with ⟨_,_,_,e,_⟩|⟨bk,o,c',hf,g1,g2,g3,g4⟩
  ·exact absurd e hne
  ·cases hf;intro j x hj;have:=g4 j x hj;simpa using this
theorem Oy(w:World)(x:aj):fP (w.alloc (.cells #[.string x] 9)) (.slice (some ⟨w.heap.size,0,none⟩) 1 1) [x]:=by
 refine Or.inr ⟨w.heap.size,0,1,rfl,ay _,by simp[maxLen],aR,fun j y hj=>?_⟩
 match j,hj with
 |0,hj =>
  simp at hj;subst hj;rw[World.cell?_alloc_mark];simp
def wD(res:Except Nat (List eo))(w:World)(e:Ending)(w':World):Prop :=
 Fr aS w w'/\match res with
 | .ok m=>∃v,e=.returned (.tuple #[v,.nilIface])/\OwnRows w.heap.size 155 12 w' v (m.map eo.cells)
 | .error n=>e=.returned (.tuple #[.slice none 0 0,.iface 105 (.int .i64 n)])
theorem wD.bad(n:Nat)(h:res=.error n)(hf:Fr aS w w'):wD res w (.returned (.tuple #[.slice none 0 0,.iface 105 (.int .i64 n)])) w':=by
 subst h;exact⟨hf,rfl⟩
theorem wD.apB{m:List eo}{v:Value}(h:res=.ok m)(hf:Fr aS w w')(ho:OwnRows w.heap.size 155 12 w' v (m.map eo.cells)):wD res w (.returned (.tuple #[v,.nilIface])) w':=by
 subst h;exact⟨hf,v,rfl,ho⟩
def acq(base:Nat)(u:World)(bp:Nat)(ss:List aj)(f:aj->eo)(a0:List eo)(t:Value)(wr:World):Prop :=
 ∃(k:Nat) (v:Value),k<=ss.length/\t=.int .i64 k/\wr.heap[bp]?=some (.cells #[v] 90 (0,0))/\OwnRows base 155 12 wr v ((((ss.take k).map f).foldl qj a0).map eo.cells)/\Fr aS u wr
def ae'(w6:World)(bp:Nat)(v:Value)(base:Nat)(acc:List eo)(w5:World):Prop :=
 w6.heap[bp]?=some (.cells #[v] 90 (0,0))/\OwnRows base 155 12 w6 v (acc.map eo.cells)/\Fr aS w5 w6
theorem LU(f:aj->eo)(a0:List eo)(h:ss[k]?=some x):((ss.take (k+1)).map f).foldl qj a0=qj (((ss.take k).map f).foldl qj a0) (f x):=by
 rw[dZ h,bG,List.foldl_append];rfl
theorem Es(l:List eo):∀a0:List eo,(l.foldl qj a0).length<=a0.length+l.length:=by
 induction l with
 |nil=>intro a0;simp
 |cons p l ih =>
  intro a0;have h1:=ih (qj a0 p);have h2:(qj a0 p).length<=a0.length+1:=by unfold qj;split<;>simp
  simp only[List.foldl_cons,List.length_cons];omega
theorem Sl(r:gu Value)(hs:List ig)(lv:Value)(ps:List jz)(now:Int)(w:World)(hr:oL w r.ey hs)(hl:lM w lv ps)(hz:lz ps)(hq:Gz r hs)(ht:xz w)(p0: -9223372036854775808<=r.cX.port)(p1:r.cX.port<=9223372036854775807)(hh:r.cX.host.size<100000)(n0:0<=now)(n1:now<=1099511627776) :
  aB 65 #[.agg r.cells.toArray,lv,.int .i64 now] w (wD (uw (r.dR hs) (xf r.cX).data.toList ps now) w):=by
 obtain⟨al,cl,hlf⟩:=dK hl;rw[ai]at hlf;subst hlf;obtain⟨n,hn⟩:∃n,n=w.heap.size:=⟨_,rfl⟩;obtain⟨w1,oy⟩:∃w1,w1=((w.alloc (.cells r.cells.toArray 37)).alloc (.cells #[.slice al ps.length cl] 35)).alloc (.cells #[.int .i64 now] 3):=⟨_,rfl⟩;have ks:Fr aS w w1:=by rw[oy];exact(((ae aS w).alloc _).alloc _).alloc _
 have mf:w1.heap[n]?=some (.cells r.cells.toArray 37 (0,0)):=by rw[oy,hn];exact(((ae aS _).alloc _).alloc _).keep (aC _ _) id
 have rZ:w1.heap[n+1]?=some (.cells #[.slice al ps.length cl] 35 (0,0)):=by
  have h:=aC (w.alloc (.cells r.cells.toArray 37)) (.cells #[.slice al ps.length cl] 35);rw[bO, <-hn]at h;rw[oy];exact((ae aS _).alloc _).keep h id
 have Ib:w1.heap[n+1+1]?=some (.cells #[.int .i64 now] 3 (0,0)):=by
  have h:=aC ((w.alloc (.cells r.cells.toArray 37)).alloc (.cells #[.slice al ps.length cl] 35)) (.cells #[.int .i64 now] 3);rw[bO,bO, <-hn]at h;rw[oy];exact h
 have Qg:=O (show∀U,Fr aS w1 U->U.cell? ⟨n+1,0,none⟩=some (.slice al ps.length cl)from fun U hU=>by simp[World.cell?,hU.keep rZ id]);have HX:=O (show∀U,Fr aS w1 U->Bg U n r from fun U hU=>Bg.eL (hU.keep mf id));have HWD:=O (show∀(nm:Bs),nm.length<1000->∀U,Fr aS w1 U->aB 129 #[.slice al ps.length cl,.string (bA nm)] U (GK ps nm U)from fun nm X1 U hU=>RT _ ps nm U (bh hl (ks.trans hU)) hz X1)
 have aaB:=O (show∀U,Fr aS w1 U->aB 130 #[.agg r.cells.toArray,.slice al ps.length cl] U fun e w'=>e=.returned (.bool (Nf (xf r.cX).data.toList r.fN ps))/\Fr aS U w' from fun U hU=>aaA r _ ps U (bh hl (ks.trans hU)) hz (ht.fr (ks.trans hU)) p0 p1 hh);have HMT:=O (show∀U,aB 51 #[.string r.method] U fun e w'=>e=.returned (.string (jL r.method))/\Fr aS U w' from fun U=>xT r.method U hq.1)
 have xg:=O (show∀U,Fr aS w1 U->∀(pv:Value) (m:List eo),qN U pv m->aB 62 #[.agg r.cells.toArray,pv] U fun e w'=>e=.returned (.bool ((r.dR hs).ng m))/\Fr aS U w' from fun U hU pv m Nl=>yp r hs pv m U (bh hr (ks.trans hU)) Nl hq)
 have N9:=O (show∀U,Fr aS w1 U->∀(base bp:Nat) (v:Value) (acc:List eo) (m hd:aj),base<=bp->acc.length<1000000->U.heap[bp]?=some (.cells #[v] 90 (0,0))->OwnRows base 155 12 U v (acc.map eo.cells)->aB 132 #[.string m,.string hd,.pointer (some ⟨n,0,none⟩),.pointer (some ⟨n+1+1,0,none⟩),.pointer (some ⟨n+1,0,none⟩),.pointer (some ⟨bp,0,none⟩)] U fun e w'=>e=.returned (.tuple #[])/\∃v',w'.heap[bp]?=some (.cells #[v'] 90 (0,0))/\OwnRows base 155 12 w' v' ((qj acc ((r.dR hs).Da (now+ni ps) m hd)).map eo.cells)/\Fr (fun k=>k=bp\/own v k) U w' from fun U hU base bp v acc m hd hb hlen hp cR =>
  Z8 base m hd r hs now _ ps acc v n (n+1+1) (n+1) bp U (hU.keep mf id) (hU.keep Ib id) (hU.keep rZ id) hp (bh hl (ks.trans hU)) hz cR hb hlen n0 n1)
 have mr:=O ks;obtain⟨ah,ch,gH⟩:=dK hr;rw[ai]at gH;have hzz:=O hz;clear hr hl hz mf rZ Ib ks ht hq p0 p1 hh n0 n1;have HG:=O (show uw (r.dR hs) (xf r.cX).data.toList ps now=(match lf ps Km,lf ps xX with
  |some ms,some Sm=>if !Nf (xf r.cX).data.toList r.fN ps then .error 6 else if !(r.dR hs).ng ((r.dR hs).bH (now+ni ps) ms Sm)then .error 6 else .ok ((r.dR hs).bH (now+ni ps) ms Sm)
  |_,_=>.error 3)from rfl)
 have HGS:=O (show∀ms Sm,(r.dR hs).bH (now+ni ps) ms Sm=(Sm.map fun h=>(r.dR hs).Da (now+ni ps) (bA []) (bA (nv h))).foldl qj ((if ms.isEmpty then [jL r.method]else ms.map bA).map (fun m=>(r.dR hs).Da (now+ni ps) m (bA [])) |>.foldl qj [])from fun _ _=>rfl);generalize (xf r.cX).data.toList=ajK at *
 obtain⟨part,⟨fs,fh,fp⟩,⟨os,oh,op⟩,path,query,method,ey,fN,body⟩:=r;simp only at gH;subst gH;obtain⟨R,hR⟩:∃R:gu Value,R=⟨part,⟨fs,fh,fp⟩,⟨os,oh,op⟩,path,query,method,.slice ah hs.length ch,fN,body⟩:=⟨_,rfl⟩;rw[<-hR]at HX aaB HMT xg N9 HG HGS ⊢
 have ajL:=O (show R.cells.toArray= #[.int .i64 part,.bool fs,.string fh,.int .i64 fp,.bool os,.string oh,.int .i64 op,.string path,.string query,.string method,.slice ah hs.length ch,.bool fN,.string body]by rw[hR];rfl);have HRL:=O (show∀U,Fr aS w1 U->Bg U n ⟨part,⟨fs,fh,fp⟩,⟨os,oh,op⟩,path,query,method,.slice ah hs.length ch,fN,body⟩from by rw[<-hR];exact HX.o)
 have HMR:=O (show R.method=method by rw[hR]);clear HX;rw[ajL.o]at aaB xg ⊢;rw[HMR.o]at HMT HGS;have HX:=HRL;unfold Bg at HX;dsimp only at HX;unfold gu.cells at oy;dsimp only at oy;clear hR ajL HMR HRL;generalize R.dR hs=rl at *
 generalize R.fN=rw0 at *
 obtain⟨RES,ajM⟩:∃RES,RES=uw rl ajK ps now:=⟨_,rfl⟩;rw[<-ajM]at HG ⊢;clear ajM R;generalize Nf ajK rw0 ps=my at *
 generalize now+ni ps=pT at *
 generalize jL method=mm at *
 subst hn;have c2:=Qg.o w1 (ae _ _);have awu:w.heap.size<=w1.heap.size:=mr.o.size;rw[oy]at c2;go_enter func65,ntmps65;go_wp2_with fail
 rw[<-oy];clear oy c2;refine(HWD.o Km ag w1 (ae _ _)).mono ?_;rintro e u1⟨ui,hm1⟩;have c2:=Qg.o u1 ui;cases hwm:lf ps Km with
 |none =>
  rw[hwm]at hm1 HG;dsimp only at hm1;subst hm1;have HR:=O (show RES=.error 3 from HG.o);clear hwm HG;go_wp2_with fail
  refine(HWD.o xX ag u1 ui).mono ?_;rintro e u2⟨nu,Jw⟩;have tI:=O (mr.o.trans (ui.trans nu));clear ui nu c2;cases hwh:lf ps xX with
  |none =>
   rw[hwh]at Jw;dsimp only at Jw;subst Jw;go_wp2;go_ret2;exact wD.bad 3 HR.o tI.o
  |some yn =>
   rw[hwh]at Jw;obtain⟨hv,rfl,ir⟩:=Jw;obtain⟨ah',ch',KS⟩:=ir.form;subst KS;clear ir;go_wp2;go_ret2;exact wD.bad 3 HR.o tI.o
 |some ms =>
  rw[hwm]at hm1 HG;obtain⟨mv,rfl,hms⟩:=hm1;obtain⟨am,cm,apD⟩:=hms.form;subst apD;go_wp2_with fail
  refine(HWD.o xX ag u1 ui).mono ?_;rintro e u2⟨nu,Jw⟩;have tI:=O (ui.trans nu);have hB1:w1.heap.size<=u1.heap.size:=ui.size;have apE:=O (G1 hwm);clear hwm;have afa:=fun k (hk:(Value.slice am (dU ms).length cm).ownBlock=some k)=>(hms.lt k hk).2;have afb:=hms.fr nu (fun _ h=>absurd h id);clear ui nu c2 hms;cases hwh:lf ps xX with
  |none =>
   rw[hwh]at Jw HG;dsimp only at Jw;subst Jw;have HR:=O (show RES=.error 3 from HG.o);clear hwh HG afa afb;go_wp2;go_ret2;exact wD.bad 3 HR.o (mr.o.trans tI.o)
  |some yn =>
   rw[hwh]at Jw HG;obtain⟨hv,rfl,ir⟩:=Jw;have hHG:=HG.o;dsimp only at hHG;have HG:=O hHG;clear hHG;obtain⟨ahh,chh,KS⟩:=ir.form;subst KS;have ajP:=O ir;have ajQ:=O (Ox hzz.o hwh);have lD:=O (G1 hwh);have ajR:=O afb;have ajS:=O afa;clear ir afb afa hwh;have c2:=Qg.o u2 tI.o;obtain⟨e0,e1,e2,e3,e4,e5,e6,e7,e8,e9,e10,e11,e12⟩:=HX.o u2 tI.o;go_wp2_with fail
   refine(aaB.o u2 tI.o).mono ?_;rintro e u3⟨rfl,zD⟩;have Yb:=O (tI.o.trans zD);have LV:=O (ajP.o.fr zD (fun _ h=>absurd h id));have acs:=O (ajR.o.fr zD (fun _ h=>absurd h id));have P8:=O hB1;clear zD c2 e0 e1 e2 e3 e4 e5 e6 e7 e8 e9 e10 e11 e12 ajP ajR aaB hB1;cases my
   ·have HR:=O (show RES=.error 6 from HG.o);clear HG;go_wp2;go_ret2;exact wD.bad 6 HR.o (mr.o.trans Yb.o)
   have Tz:=O (HG.o.trans (aq ag));clear HG;obtain⟨yM,hhl⟩:∃yM,yM=dU yn:=⟨_,rfl⟩;have Vo:=O (show∀x∈yM,x.size<17592186044416 from by
    intro x hx;rw[hhl]at hx;obtain⟨y,hy,rfl⟩:=b_.1 hx;have:=ajQ.o y hy;show y.toArray.size<_;simp;omega)
   have HGR:=O (HGS.o ms yn);have ajU:=O (show(dU yn).length<=40 from by have h:=lD.o;unfold dU;rw[ai];exact h);have HLM:=O (show(yn.map fun h=>rl.Da pT (bA []) (bA (nv h)))=(yM.map th).map (fun h=>rl.Da pT (bA []) h)from by
    rw[hhl];unfold dU th bA;simp[iq,Function.comp])
   rw[<-hhl]at LV ajU ⊢;clear HGS ajQ hhl;obtain⟨GS,hGS⟩:∃GS,GS=rl.bH pT ms yn:=⟨_,rfl⟩;rw[<-hGS]at HGR Tz;clear hGS;cases ms
   case' nil =>
    obtain⟨_,_,_,_,_,_,_,_,_,e9,_⟩:=HX.o u3 Yb.o;have po:((dU []).length:Int)=0:=rfl;go_wp2_with fail
    refine(HMT.o u3).mono ?_;rintro e u4⟨rfl,CJ⟩;obtain⟨uL,huL⟩:∃uL,uL=u4.alloc (.cells #[.string mm] 9):=⟨_,rfl⟩;have kQ:Fr aS u3 uL:=by rw[huL];exact CJ.alloc _
    have WH:=O (show fP uL (.slice (some ⟨u4.heap.size,0,none⟩) 1 1) [mm]from by rw[huL];exact Oy u4 mm);have HDJ:=O (show∀k,(Value.slice (some ⟨u4.heap.size,0,none⟩) 1 1).ownBlock=some k->¬own (.slice ahh yM.length chh) k from fun k hk ho=>by
     have h1:=(LV.o.lt k ho).2;have h2:=CJ.size;have e:u4.heap.size=k:=by simpa[Value.ownBlock]using hk
     omega)
    have HHV:=O (LV.o.fr kQ (fun _ h=>absurd h id));have HUL:=O (Yb.o.trans kQ);obtain⟨MS,WI⟩:∃MS:List aj,MS=[mm]:=⟨_,rfl⟩;obtain⟨MA,hMA⟩:∃MA:eV,MA=some ⟨u4.heap.size,0,none⟩:=⟨_,rfl⟩;obtain⟨MC,hMC⟩:∃MC:Nat,MC=1:=⟨_,rfl⟩;have hval:Value.slice (some ⟨u4.heap.size,0,none⟩) 1 1=Value.slice MA MS.length MC:=by rw[hMA,WI,hMC];rfl
    have HMM:=O (show(if([]:List Bs).isEmpty then [mm]else([]:List Bs).map bA)=MS from by rw[WI];rfl);have HMF:=O (show MS.length<=40 from by rw[WI];simp);rw[<-WI]at WH;rw[hval]at WH HDJ;clear e9 po kQ CJ;go_wp2;rw[<-huL];clear hval WI hMA hMC huL
   case' cons m0 ms0 =>
    obtain⟨MS,WI⟩:∃MS:List aj,MS=dU (m0 :: ms0):=⟨_,rfl⟩;have HMM:=O (show(if(m0 :: ms0:List Bs).isEmpty then [mm]else(m0 :: ms0:List Bs).map bA)=MS from by rw[WI];rfl);have HMF:=O (show MS.length<=40 from by rw[WI];have h:=apE.o;unfold dU;rw[ai];exact h);have po:((MS.length:Int)==0)=false:=by rw[aL,WI];unfold dU;simp;omega
    rw[<-WI]at acs ajS ⊢;have WH:=O acs.o.at;have HDJ:=O (show∀k,(Value.slice am MS.length cm).ownBlock=some k->¬own (.slice ahh yM.length chh) k from fun k hk ho=>by
     have h1:=LV.o.block k ho;have h2:=ajS.o k hk;omega)
    have HHV:=O LV.o;have HUL:=O Yb.o;obtain⟨MA,hMA⟩:∃MA,MA=am:=⟨_,rfl⟩;obtain⟨MC,hMC⟩:∃MC,MC=cm:=⟨_,rfl⟩;obtain⟨uL,rfl⟩:∃uL,uL=u3:=⟨_,rfl⟩;rw[<-hMA, <-hMC]at WH HDJ ⊢;clear WI hMA hMC;go_wp2
   all_goals
    go_loopw[51] (ajJ u1.heap.size uL (.slice ahh yM.length chh) yM) (fun t _=>yM.length-(intOf t).toNat)
    case atStart=>exact⟨0,aQ _,rfl,by simpa using HHV.o,ae _ _⟩
    case round =>
     obtain⟨k,hk,rfl,ir,cL⟩:=hrel;by_cases fo:k<yM.length
     ·have pq:(k:Int)<(yM.length:Int):=ab;have N7:(0:Int)<=(k:Int):=ab;have dT:=O (List.getElem?_eq_getElem fo);have iD:=O (bN fo);generalize yM[k]=x at dT iD;have hne:(yM.take k).map th++yM.drop k≠ []:=by
       intro e;have:=ar List.length e;rw[aN,ai,aM,bK,List.length_nil]at this;omega
      obtain⟨gh,hgh,rR,g1,g2,g3,g4,g5,g6⟩:=Strs.acp ir hne;subst hgh;unfold maxLen at g4;have hc:=g5 k x (WG dT.o);have lo:=O (rj x wr (Vo.o x iD.o));clear g5 g6 rR;go_wp2_with fail
      refine lo.o.mono ?_;rintro e wl⟨rfl,EO⟩;have mj:=O (ir.fr EO (fun _ h=>absurd h id));obtain⟨gh',ajY,rR,q1,q2,q3,q4,q5,q6⟩:=Strs.acp mj.o hne;obtain rfl:gh=gh':=by injection ajY with h;injection h
      have sr:=q5 k x (WG dT.o);have lp:=q6 k;have afc:=O (mj.o.put (j:=k) (th x));have tA:=O (show Fr (own (.slice (some ⟨gh,0,none⟩) yM.length chh)) uL (wl.setCell ⟨gh,k,none⟩ (.string (th x)))from(cL.step EO (fun _ _ h=>absurd h id)).setCell (p:=⟨gh,k,none⟩) (fun _=>rfl) _);rw[WE dT.o]at afc;unfold th at afc tA;clear q5 q6 ir cL EO mj lo rR ajY hne;go_wp2;go_roundw
      case rel=>exact⟨k+1,ab,bg,afc.o,tA.o⟩
      case measure=>simp[intOf];omega
     ·have pq:¬(k:Int)<(yM.length:Int):=ab;have ajZ:=O (show Strs u1.heap.size wr (.slice ahh yM.length chh) (yM.map th)from by
       have h:=ir;rw[aD ab,List.drop_of_length_le ab,dV]at h;exact h)
      have apM:=O (WH.o.fr cL HDJ.o);have HUW:=O (show Fr aS w1 wr from HUL.o.step cL (fun j hj ho=>by
       have h1:=ajZ.o.block j ho;have h2:=P8.o;omega))
      clear ir cL HHV WH HDJ HUL;go_wp2;obtain⟨w5,rfl⟩:∃w5,w5=wr:=⟨_,rfl⟩;obtain⟨wq,hwq⟩:∃wq,wq=(w5.alloc (.cells #[] 155)).alloc (.cells #[.slice (some ⟨w5.heap.size,0,none⟩) 0 0] 90):=⟨_,rfl⟩;have hfq:Fr aS w5 wq:=by rw[hwq];exact((ae _ _).alloc _).alloc _
      have hpq:wq.heap[w5.heap.size+1]?=some (.cells #[.slice (some ⟨w5.heap.size,0,none⟩) 0 0] 90 (0,0)):=by
       have h:=aC (w5.alloc (.cells #[] 155)) (.cells #[.slice (some ⟨w5.heap.size,0,none⟩) 0 0] 90);rw[bO]at h;rw[hwq];exact h
      have po:wq.heap[w5.heap.size]?=some (.cells #[] 155 (0,0)):=by rw[hwq];exact((ae aS _).alloc _).keep (aC _ _) id
      have HO0:=O (show OwnRows w5.heap.size 155 12 wq (.slice (some ⟨w5.heap.size,0,none⟩) 0 0) (([]:List eo).map eo.cells)from⟨aR,rfl,Or.inr ⟨w5.heap.size,0, #[],rfl,ay _,po,ay _,ag,rfl,rfl⟩⟩);have HPQ:=O hpq;have HFQ:=O hfq;obtain⟨bp,hbp⟩:∃bp,bp=w5.heap.size+1:=⟨_,rfl⟩;have HBP:=O (show w5.heap.size<=bp from ab)
      have pV:=O (show w.heap.size<=w5.heap.size from by have:=mr.o.size;have:=HUW.o.size;omega);rw[<-hwq, <-hbp];rw[<-hbp]at HPQ;clear hfq hpq po hwq hbp pq hk fo;go_loopw[66] (acq w5.heap.size w5 bp MS (fun m=>rl.Da pT m ⟨#[]⟩) []) (fun t _=>MS.length-(intOf t).toNat)
      case atStart=>exact⟨0,_,aQ _,rfl,HPQ.o,HO0.o,HFQ.o⟩
      case round =>
       obtain⟨k,vk,hk,rfl,sX,cR,cL⟩:=hrel;by_cases fo:k<MS.length
       ·have pq:(k:Int)<(MS.length:Int):=ab;have N7:(0:Int)<=(k:Int):=ab;have dT:=O (List.getElem?_eq_getElem fo);rcases apM.o.fI cL with ⟨_,_,_,e,_⟩|⟨bk,o,c,hf,h1,h2,h3,h4⟩
        ·rw[e]at fo;exact absurd fo (ct _)
        cases hf;unfold maxLen at h2;have hc:=h4 k _ dT.o;generalize MS[k]=x at dT hc;have mj:=O (LU (fun m=>rl.Da pT m ⟨#[]⟩) [] dT.o);have Ch:=Es ((MS.take k).map (fun m=>rl.Da pT m ⟨#[]⟩)) [];rw[ai,aM,List.length_nil]at Ch;have LW:=O (N9.o wr (HUW.o.trans cL) w5.heap.size bp vk _ x ⟨#[]⟩ HBP.o (by have:=HMF.o;omega) sX cR);have tA:=O cL;have RV:=O cR;clear h4 sX cR cL Ch;go_wp2_with fail
        refine LW.o.mono ?_;rintro e w6⟨rfl,v6,AZ,zm,nF⟩;have H6:=O (show ae' w6 bp v6 w5.heap.size (((MS.take (k+1)).map (fun m=>rl.Da pT m ⟨#[]⟩)).foldl qj []) w5 from⟨AZ,by rw[mj.o];exact zm,tA.o.step nF (fun j hj h=>by
         rcases h with h|h
         ·have:=HBP.o;omega
         ·have:=RV.o.block j h;omega)⟩)
        clear AZ zm nF LW;go_wp2;go_roundw
        case rel=>exact⟨k+1,v6,ab,bg,H6.o.1,H6.o.2.1,H6.o.2.2⟩
        case measure=>simp[intOf];omega
       ·have pq:¬(k:Int)<(MS.length:Int):=ab;rw[aD ab]at cR;obtain⟨pH,CU⟩:∃pH,pH=(MS.map (fun m=>rl.Da pT m ⟨#[]⟩)).foldl qj []:=⟨_,rfl⟩;rw[<-CU]at cR;have Ch:=Es (MS.map (fun m=>rl.Da pT m ⟨#[]⟩)) [];rw[<-CU,ai,List.length_nil]at Ch;have AL:=O Ch;have E0:=O CU;obtain⟨TK,aaE⟩:∃TK,TK=yM.map th:=⟨_,rfl⟩;have aj1:yM.length=TK.length:=by rw[aaE,ai]
        have HH3:=O (show fP w5 (.slice ahh yM.length chh) TK from by rw[aaE];exact ajZ.o.at);have apO:=O (show(yn.map fun h=>rl.Da pT (bA []) (bA (nv h)))=TK.map (fun h=>rl.Da pT ⟨#[]⟩ h)from by rw[aaE];exact HLM.o);have JF:=O aj1;have HS:=O (show ae' wr bp vk w5.heap.size pH w5 from⟨sX,cR,cL⟩);clear sX cR cL CU aaE aj1 Ch fo hk;go_wp2
        go_loopw[76] (acq w5.heap.size w5 bp TK (fun h=>rl.Da pT ⟨#[]⟩ h) pH) (fun t _=>TK.length-(intOf t).toNat)
        case atStart=>exact⟨0,_,aQ _,rfl,HS.o.1,HS.o.2.1,HS.o.2.2⟩
        case round =>
         obtain⟨k,vk,hk,rfl,sX,cR,cL⟩:=hrel;by_cases fo:k<TK.length
         ·have ae0:(k:Int)<(yM.length:Int):=by have:=JF.o;omega
          have N7:(0:Int)<=(k:Int):=ab;have dT:=O (List.getElem?_eq_getElem fo);have hHs:=HH3.o.fI cL;rw[JF.o]at hHs ae0 ⊢;rcases hHs with ⟨_,_,_,e,_⟩|⟨bk,o,c,hf,h1,h2,h3,h4⟩
          ·rw[e]at fo;exact absurd fo (ct _)
          cases hf;unfold maxLen at h2;have hc:=h4 k _ dT.o;generalize TK[k]=x at dT hc;have mj:=O (LU (fun h=>rl.Da pT ⟨#[]⟩ h) pH dT.o);have Ch:=Es ((TK.take k).map (fun h=>rl.Da pT ⟨#[]⟩ h)) pH;rw[ai,aM]at Ch;have LW:=O (N9.o wr (HUW.o.trans cL) w5.heap.size bp vk _ ⟨#[]⟩ x HBP.o (by have h1:=HMF.o;have h2:=ajU.o;have h3:=AL.o;have h4:=JF.o;omega) sX cR);have tA:=O cL;have RV:=O cR;clear h4 sX cR cL Ch
          go_wp2_with fail
          refine LW.o.mono ?_;rintro e w6⟨rfl,v6,AZ,zm,nF⟩;have H6:=O (show ae' w6 bp v6 w5.heap.size (((TK.take (k+1)).map (fun h=>rl.Da pT ⟨#[]⟩ h)).foldl qj pH) w5 from⟨AZ,by rw[mj.o];exact zm,tA.o.step nF (fun j hj h=>by
           rcases h with h|h
           ·have:=HBP.o;omega
           ·have:=RV.o.block j h;omega)⟩)
          clear AZ zm nF LW;go_wp2;rw[<-JF.o];go_roundw
          case rel=>exact⟨k+1,v6,ab,bg,H6.o.1,H6.o.2.1,H6.o.2.2⟩
          case measure=>have hln:=JF.o;simp[intOf];omega
         ·have ae0:¬(k:Int)<(yM.length:Int):=by have:=JF.o;omega
          rw[aD ab]at cR;obtain⟨G,hG⟩:∃G,G=(TK.map (fun h=>rl.Da pT ⟨#[]⟩ h)).foldl qj pH:=⟨_,rfl⟩;rw[<-hG]at cR;have HGE:=O (show GS=G from by rw[HGR.o,apO.o,hG,E0.o,HMM.o];rfl);have HWR:=O (HUW.o.trans cL);obtain⟨av,cv,TC⟩:=cR.form;rw[ai]at TC;subst TC;have RV:=O cR;have d0:wr.cell? ⟨bp,0,none⟩=some (.slice av G.length cv):=by simp[World.cell?,sX]
          have HBK:=O sX;have aj3:=O (xg.o wr HWR.o _ G cR.at);obtain⟨e0,e1,e2,e3,e4,e5,e6,e7,e8,e9,e10,e11,e12⟩:=HX.o wr HWR.o;clear sX cR cL hG;have VI:=O (show RES=if !rl.ng G then .error 6 else .ok G from by rw[<-HGE.o];exact Tz.o);generalize rl.ng G=cv2 at aj3 VI;go_wp2_with fail
          refine aj3.o.mono ?_;rintro e w7⟨rfl,ov⟩;have d1:w7.cell? ⟨bp,0,none⟩=some (.slice av G.length cv):=by simp[World.cell?,ov.keep HBK.o id]
          have Jt:=O ov;clear ov e0 e1 e2 e3 e4 e5 e6 e7 e8 e9 e10 e11 e12 d0;cases cv2
          ·have HR:=O (show RES=.error 6 from VI.o);clear VI;go_wp2;go_ret2;exact wD.bad 6 HR.o (mr.o.trans (HWR.o.trans Jt.o))
          ·have HR:=O (show RES=.ok G from VI.o);clear VI;go_wp2;go_ret2;exact wD.apB HR.o (mr.o.trans (HWR.o.trans Jt.o)) ((RV.o.fr Jt.o (fun _ _ h=>h)).up pV.o)
