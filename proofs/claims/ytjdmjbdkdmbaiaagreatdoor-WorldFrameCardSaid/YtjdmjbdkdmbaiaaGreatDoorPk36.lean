/- Grant2, FieldsSmall. -/
import Derived.Test.YtjdmjbdkdmbaiaaGreatDoorPk34
set_option maxRecDepth 100000
set_option maxHeartbeats 16000000
set_option linter.unusedSimpArgs false
namespace Go.Proofs.YtjdmjbdkdmbaiaaGreatDoor
open Go.RowKit
theorem Strs.put{base:Nat}{w:World}{g n c:Nat}{ss:List ByteArray}(h:Strs base w (.slice (some ⟨g,0,none⟩) n c) ss){j:Nat}(x:ByteArray) :
  Strs base (w.setCell ⟨g,j,none⟩ (.string x)) (.slice (some ⟨g,0,none⟩) n c) (ss.set j x):=by
 obtain⟨h1,h2⟩:=h;refine⟨by simp,?_⟩;rcases h2 with ⟨hv,_⟩|⟨g',cap,cur,hv,hg,hh,h3,h4,h5,h6⟩
 ·cases hv
 ·have e1:g'=g/\n=ss.length/\c=cap:=by
   injection hv with a1 a2 a3
   injection a1 with a1
   injection a1 with a1
   exact⟨a1.symm,a2,a3⟩
  obtain⟨rfl,rfl,rfl⟩:=e1;refine Or.inr ⟨g',c,cur.setIfInBounds j (.string x),by rw[List.length_set],hg,aP hh _ _,by rw[List.length_set];exact h3,h4,by simpa using h5,?_⟩;rw[List.length_set,List.map_set, <-h6,Array.toList_setIfInBounds,List.take_set]
def aia(base:Nat)(u:World)(hv:Value)(ss:List ByteArray)(t:Value)(wr:World):Prop :=
 ∃k:Nat,k<=ss.length/\t=.int .i64 k/\Strs base wr hv ((ss.take k).map nc++ss.drop k)/\Fr (own hv) u wr
theorem P9{ss:List ByteArray}{k:Nat}{x:ByteArray}(h:ss[k]?=some x):((ss.take k).map nc++ss.drop k).set k (nc x)=(ss.take (k+1)).map nc++ss.drop (k+1):=by
 obtain⟨hk,e⟩:=List.getElem?_eq_some_iff.1 h;have hl:((ss.take k).map nc).length=k:=by simp;omega
 rw[List.set_append_right _ _ (by omega),hl,Nat.sub_self,List.drop_eq_getElem_cons hk,List.set_cons_zero,bz h,List.map_append,List.append_assoc];rfl
theorem P_{ss:List ByteArray}{k:Nat}{x:ByteArray}(h:ss[k]?=some x):((ss.take k).map nc++ss.drop k)[k]?=some x:=by
 obtain⟨hk,e⟩:=List.getElem?_eq_some_iff.1 h;have hl:((ss.take k).map nc).length=k:=by simp;omega
 rw[List.getElem?_append_right (by omega),hl,Nat.sub_self,List.drop_eq_getElem_cons hk];simp[e]
theorem yU:∀(f:Nat) (r:Bs) (ws:List Bs),gy f r=.ok ws->∀w∈ws,w.length<=r.length
 |0,r,ws,h,w,hw=>by rw[gy]at h;cases h;cases hw
 |f+1,r,ws,h,w,hw=>by
  rw[gy]at h;have h1:=kG bh r;have h2:=kG cP (r.dropWhile bh);have h3:=kG bh ((r.dropWhile bh).dropWhile cP);have h4:=kp cP (r.dropWhile bh);have bG:∀u∈(if((r.dropWhile bh).takeWhile cP).isEmpty then []else [(r.dropWhile bh).takeWhile cP]),u.length<=r.length:=by
   intro u hu;split at hu
   ·cases hu
   ·simp at hu;subst hu;omega
  cases e:((r.dropWhile bh).dropWhile cP).dropWhile bh with
  |nil =>
   rw[e]at h;simp only at h;cases h;exact bG w hw
  |cons c r4 =>
   rw[e]at h h3;simp only at h;split at h
   ·cases hr:gy f r4 with
    |error m=>rw[hr]at h;cases h
    |ok w2 =>
     rw[hr]at h;cases h;rcases List.mem_append.1 hw with g|g
     ·exact bG w g
     ·have:=yU f r4 w2 hr w g;simp at h3;omega
   ·cases h
theorem Hn{ps:List ew}{n:Bs}{ws:List Bs}(hz:fT ps)(h:fL ps n=some ws):∀w∈ws,w.length<=100002000:=by
 obtain⟨s,hs,mz⟩:=nO ps n hz;unfold fL at h;cases hl:dz (fQ ps n)with
 |error e=>rw[hl]at h;cases h
 |ok m =>
  rw[hl]at h;simp only at h;split at h
  ·cases h
  ·cases h;intro w hw;have:=yU _ _ _ hl w hw;rw[hs]at this;have e:s.data.toList.length=s.size:=by simp
   omega
theorem Be{ps:List ew}{n:Bs}{ws:List Bs}(h:fL ps n=some ws):ws.length<=40:=by
 unfold fL at h;cases hl:dz (fQ ps n)with
 |error e=>rw[hl]at h;cases h
 |ok m =>
  rw[hl]at h;simp only at h;split at h
  ·cases h
  ·cases h;omega
theorem Strs.XC{base:Nat}{w:World}{a:Option Addr}{n c:Nat}{ss:List ByteArray}(h:Strs base w (.slice a n c) ss)(hne:ss≠ []) :
  ∃g,a=some ⟨g,0,none⟩/\n=ss.length/\base<=g/\g<w.heap.size/\n<=c/\c<=maxLen/\(∀(j:Nat) x,ss[j]?=some x->w.cell? ⟨g,j,none⟩=some (.string x))/\∀i,w.frozen? ⟨g,i,none⟩=false:=by
 have bC:=h.at;obtain⟨h1,h2⟩:=h;rcases h2 with ⟨hv,h0⟩|⟨g,cap,cur,hv,hg,hh,h3,h4,h5,h6⟩
 ·exact absurd (List.eq_nil_of_length_eq_zero h0) hne
 ·cases hv;refine⟨g,rfl,rfl,hg,aj hh,h3,h4,?_,fun i=>by simp[World.frozen?,hh]⟩;rcases bC with ⟨_,_,_,e,_⟩|⟨bk,o,c',hf,g1,g2,g3,g4⟩
  ·exact absurd e hne
  ·cases hf;intro j x hj;have:=g4 j x hj;simpa using this
theorem Ho(w:World)(x:ByteArray):cX (w.alloc (.cells #[.string x] 9)) (.slice (some ⟨w.heap.size,0,none⟩) 1 1) [x]:=by
 refine Or.inr ⟨w.heap.size,0,1,rfl,Nat.le_refl _,by simp[maxLen],by simp,fun j y hj=>?_⟩
 match j,hj with
 |0,hj =>
  simp at hj;subst hj;rw[World.cell?_alloc_mark];simp
def qq(res:Except Nat (List bI))(w:World)(e:Ending)(w':World):Prop :=
 Fr ay w w'/\match res with
 | .ok m=>∃v,e=.returned (.tuple #[v,.nilIface])/\OwnRows w.heap.size 65 12 w' v (m.map bI.cells)
 | .error n=>e=.returned (.tuple #[.slice none 0 0,.iface 116 (.int .i64 n)])
theorem qq.bad{res:Except Nat (List bI)}{w w':World}(n:Nat)(h:res=.error n)(hf:Fr ay w w'):qq res w (.returned (.tuple #[.slice none 0 0,.iface 116 (.int .i64 n)])) w':=by
 subst h;exact⟨hf,rfl⟩
theorem qq.apy{res:Except Nat (List bI)}{w w':World}{m:List bI}{v:Value}(h:res=.ok m)(hf:Fr ay w w')(ho:OwnRows w.heap.size 65 12 w' v (m.map bI.cells)):qq res w (.returned (.tuple #[v,.nilIface])) w':=by
 subst h;exact⟨hf,v,rfl,ho⟩
def XD(base:Nat)(u:World)(bp:Nat)(ss:List ByteArray)(f:ByteArray->bI)(a0:List bI)(t:Value)(wr:World):Prop :=
 ∃(k:Nat) (v:Value),k<=ss.length/\t=.int .i64 k/\wr.heap[bp]?=some (.cells #[v] 60 (0,0))/\OwnRows base 65 12 wr v ((((ss.take k).map f).foldl kJ a0).map bI.cells)/\Fr ay u wr
def aaK(w6:World)(bp:Nat)(v:Value)(base:Nat)(acc:List bI)(w5:World):Prop :=
 w6.heap[bp]?=some (.cells #[v] 60 (0,0))/\OwnRows base 65 12 w6 v (acc.map bI.cells)/\Fr ay w5 w6
theorem E_{ss:List ByteArray}{k:Nat}{x:ByteArray}(f:ByteArray->bI)(a0:List bI)(h:ss[k]?=some x):((ss.take (k+1)).map f).foldl kJ a0=kJ (((ss.take k).map f).foldl kJ a0) (f x):=by
 rw[bz h,List.map_append,List.foldl_append];rfl
theorem yV(l:List bI):∀a0:List bI,(l.foldl kJ a0).length<=a0.length+l.length:=by
 induction l with
 |nil=>intro a0;simp
 |cons p l ih =>
  intro a0;have h1:=ih (kJ a0 p);have h2:(kJ a0 p).length<=a0.length+1:=by unfold kJ;split<;>simp
  simp only[List.foldl_cons,List.length_cons];omega
theorem Mh(r:dp Value)(hs:List dW)(lv:Value)(ps:List ew)(now:Int)(w:World)(hr:kU w r.cU hs)(hl:gu w lv ps)(hz:fT ps)(hq:AQ r hs)(ht:nI w)(p0: -9223372036854775808<=r.aI.port)(p1:r.aI.port<=9223372036854775807)(hh:r.aI.host.size<100000)(n0:0<=now)(n1:now<=1099511627776) :
  Calls Tryz.prog 65 #[.agg r.cells.toArray,lv,.int .i64 now] w (qq (oc (r.bF hs) (ra r.aI).data.toList ps now) w):=by
 obtain⟨al,cl,hlf⟩:=aN.form hl;rw[List.length_map]at hlf;subst hlf;obtain⟨n,hn⟩:∃n,n=w.heap.size:=⟨_,rfl⟩;obtain⟨w1,jt⟩:∃w1,w1=((w.alloc (.cells r.cells.toArray 29)).alloc (.cells #[.slice al ps.length cl] 27)).alloc (.cells #[.int .i64 now] 3):=⟨_,rfl⟩;have fa:Fr ay w w1:=by rw[jt];exact(((Fr.refl ay w).alloc _).alloc _).alloc _
 have gZ:w1.heap[n]?=some (.cells r.cells.toArray 29 (0,0)):=by rw[jt,hn];exact(((Fr.refl ay _).alloc _).alloc _).keep (af _ _) (fun h=>h)
 have ng:w1.heap[n+1]?=some (.cells #[.slice al ps.length cl] 27 (0,0)):=by
  have h:=af (w.alloc (.cells r.cells.toArray 29)) (.cells #[.slice al ps.length cl] 27);rw[World.size_alloc, <-hn]at h;rw[jt];exact((Fr.refl ay _).alloc _).keep h (fun h=>h)
 have BR:w1.heap[n+1+1]?=some (.cells #[.int .i64 now] 3 (0,0)):=by
  have h:=af ((w.alloc (.cells r.cells.toArray 29)).alloc (.cells #[.slice al ps.length cl] 27)) (.cells #[.int .i64 now] 3);rw[World.size_alloc,World.size_alloc, <-hn]at h;rw[jt];exact h
 have Xs:=O (show∀U,Fr ay w1 U->U.cell? ⟨n+1,0,none⟩=some (.slice al ps.length cl)from fun U hU=>by simp[World.cell?,hU.keep ng (fun h=>h)]);have HX:=O (show∀U,Fr ay w1 U->vp U n r from fun U hU=>vp.cR (hU.keep gZ (fun h=>h)))
 have HWD:=O (show∀(nm:Bs),nm.length<1000->∀U,Fr ay w1 U->Calls Tryz.prog 127 #[.slice al ps.length cl,.string (bA nm)] U (Ba ps nm U)from fun nm SW U hU=>LO _ ps nm U (aN.bu hl (fa.trans hU)) hz SW)
 have Vw:=O (show∀U,Fr ay w1 U->Calls Tryz.prog 66 #[.agg r.cells.toArray,.slice al ps.length cl] U fun e w'=>e=.returned (.bool (Gc (ra r.aI).data.toList r.bP ps))/\Fr ay U w' from fun U hU=>Vv r _ ps U (aN.bu hl (fa.trans hU)) hz (ht.fr (fa.trans hU)) p0 p1 hh)
 have HMT:=O (show∀U,Calls Tryz.prog 109 #[.string r.method] U fun e w'=>e=.returned (.string (eD r.method))/\Fr ay U w' from fun U=>rP r.method U hq.1);have wS:=O (show∀U,Fr ay w1 U->∀(pv:Value) (m:List bI),oV U pv m->Calls Tryz.prog 75 #[.agg r.cells.toArray,pv] U fun e w'=>e=.returned (.bool ((r.bF hs).iA m))/\Fr ay U w' from fun U hU pv m Gi=>sH r hs pv m U (aN.bu hr (fa.trans hU)) Gi hq)
 have G':=O (show∀U,Fr ay w1 U->∀(base bp:Nat) (v:Value) (acc:List bI) (m hd:ByteArray),base<=bp->acc.length<1000000->U.heap[bp]?=some (.cells #[v] 60 (0,0))->OwnRows base 65 12 U v (acc.map bI.cells)->Calls Tryz.prog 129 #[.string m,.string hd,.pointer (some ⟨n,0,none⟩),.pointer (some ⟨n+1+1,0,none⟩),.pointer (some ⟨n+1,0,none⟩),.pointer (some ⟨bp,0,none⟩)] U fun e w'=>e=.returned (.tuple #[])/\∃v',w'.heap[bp]?=some (.cells #[v'] 60 (0,0))/\OwnRows base 65 12 w' v' ((kJ acc ((r.bF hs).xF (now+iB ps) m hd)).map bI.cells)/\Fr (fun k=>k=bp\/own v k) U w' from fun U hU base bp v acc m hd hb hlen hp a_ =>
  U9 base m hd r hs now _ ps acc v n (n+1+1) (n+1) bp U (hU.keep gZ (fun h=>h)) (hU.keep BR (fun h=>h)) (hU.keep ng (fun h=>h)) hp (aN.bu hl (fa.trans hU)) hz a_ hb hlen n0 n1)
 have gS:=O fa;obtain⟨ah,ch,df⟩:=aN.form hr;rw[List.length_map]at df;have Vx:=O hz;clear hr hl hz gZ ng BR fa ht hq p0 p1 hh n0 n1;have HG:=O (show oc (r.bF hs) (ra r.aI).data.toList ps now=(match fL ps DI,fL ps rT with
  |some ms,some JZ=>if !Gc (ra r.aI).data.toList r.bP ps then .error 6 else if !(r.bF hs).iA ((r.bF hs).aH (now+iB ps) ms JZ)then .error 6 else .ok ((r.bF hs).aH (now+iB ps) ms JZ)
  |_,_=>.error 3)from rfl)
 have XA:=O (show∀ms JZ,(r.bF hs).aH (now+iB ps) ms JZ=(JZ.map fun h=>(r.bF hs).xF (now+iB ps) (bA []) (bA (iK h))).foldl kJ ((if ms.isEmpty then [eD r.method]else ms.map bA).map (fun m=>(r.bF hs).xF (now+iB ps) m (bA [])) |>.foldl kJ [])from fun _ _=>rfl);generalize (ra r.aI).data.toList=aib at *
 obtain⟨part,⟨fs,fh,fp⟩,⟨os,oh,op⟩,path,query,method,cU,bP,body⟩:=r;simp only at df;subst df;obtain⟨R,hR⟩:∃R:dp Value,R=⟨part,⟨fs,fh,fp⟩,⟨os,oh,op⟩,path,query,method,.slice ah hs.length ch,bP,body⟩:=⟨_,rfl⟩;rw[<-hR]at HX Vw HMT wS G' HG XA ⊢
 have aic:=O (show R.cells.toArray= #[.int .i64 part,.bool fs,.string fh,.int .i64 fp,.bool os,.string oh,.int .i64 op,.string path,.string query,.string method,.slice ah hs.length ch,.bool bP,.string body]by rw[hR];rfl);have HRL:=O (show∀U,Fr ay w1 U->vp U n ⟨part,⟨fs,fh,fp⟩,⟨os,oh,op⟩,path,query,method,.slice ah hs.length ch,bP,body⟩from by rw[<-hR];exact HX.out)
 have HMR:=O (show R.method=method by rw[hR]);clear HX;rw[aic.out]at Vw wS ⊢;rw[HMR.out]at HMT XA;have HX:=HRL;unfold vp at HX;dsimp only at HX;unfold dp.cells at jt;dsimp only at jt;clear hR aic HMR HRL;generalize R.bF hs=rl at *
 generalize R.bP=rw0 at *
 obtain⟨XE,aid⟩:∃XE,XE=oc rl aib ps now:=⟨_,rfl⟩;rw[<-aid]at HG ⊢;clear aid R;generalize Gc aib rw0 ps=my at *
 generalize now+iB ps=kB at *
 generalize eD method=mm at *
 subst hn;have c2:=Xs.out w1 (Fr.refl _ _);have axx:w.heap.size<=w1.heap.size:=gS.out.size;rw[jt]at c2;go_enter Tryz.func65,Tryz.ntmps65;go_wp2_with fail
 rw[<-jt];clear jt c2;refine(HWD.out DI (by decide) w1 (Fr.refl _ _)).mono ?_;rintro e u1⟨rF,hm1⟩;have c2:=Xs.out u1 rF;cases hwm:fL ps DI with
 |none =>
  rw[hwm]at hm1 HG;dsimp only at hm1;subst hm1;have HR:=O (show XE=.error 3 from HG.out);clear hwm HG;go_wp2_with fail
  refine(HWD.out rT (by decide) u1 rF).mono ?_;rintro e u2⟨jZ,CX⟩;have ql:=O (gS.out.trans (rF.trans jZ));clear rF jZ c2;cases Vy:fL ps rT with
  |none =>
   rw[Vy]at CX;dsimp only at CX;subst CX;go_wp2;go_ret2;exact qq.bad 3 HR.out ql.out
  |some sF =>
   rw[Vy]at CX;obtain⟨hv,rfl,fR⟩:=CX;obtain⟨ah',ch',D9⟩:=fR.form;subst D9;clear fR;go_wp2;go_ret2;exact qq.bad 3 HR.out ql.out
 |some ms =>
  rw[hwm]at hm1 HG;obtain⟨mv,rfl,hms⟩:=hm1;obtain⟨am,cm,apA⟩:=hms.form;subst apA;go_wp2_with fail
  refine(HWD.out rT (by decide) u1 rF).mono ?_;rintro e u2⟨jZ,CX⟩;have ql:=O (rF.trans jZ);have hB1:w1.heap.size<=u1.heap.size:=rF.size;have apB:=O (Be hwm);clear hwm;have aaL:=fun k (hk:(Value.slice am (bw ms).length cm).ownBlock=some k)=>(hms.lt k hk).2;have aaM:=hms.fr jZ (fun _ h=>absurd h (fun h=>h));clear rF jZ c2 hms;cases Vy:fL ps rT with
  |none =>
   rw[Vy]at CX HG;dsimp only at CX;subst CX;have HR:=O (show XE=.error 3 from HG.out);clear Vy HG aaL aaM;go_wp2;go_ret2;exact qq.bad 3 HR.out (gS.out.trans ql.out)
  |some sF =>
   rw[Vy]at CX HG;obtain⟨hv,rfl,fR⟩:=CX;have hHG:=HG.out;dsimp only at hHG;have HG:=O hHG;clear hHG;obtain⟨ahh,chh,D9⟩:=fR.form;subst D9;have aih:=O fR;have aii:=O (Hn Vx.out Vy);have fX:=O (Be Vy);have aij:=O aaM;have aik:=O aaL;clear fR aaM aaL Vy;have c2:=Xs.out u2 ql.out;obtain⟨e0,e1,e2,e3,e4,e5,e6,e7,e8,e9,e10,e11,e12⟩:=HX.out u2 ql.out;go_wp2_with fail
   refine(Vw.out u2 ql.out).mono ?_;rintro e u3⟨rfl,pz⟩;have HU3:=O (ql.out.trans pz);have E':=O (aih.out.fr pz (fun _ h=>absurd h (fun h=>h)));have XF:=O (aij.out.fr pz (fun _ h=>absurd h (fun h=>h)));have OL:=O hB1;clear pz c2 e0 e1 e2 e3 e4 e5 e6 e7 e8 e9 e10 e11 e12 aih aij Vw hB1;cases my
   ·have HR:=O (show XE=.error 6 from HG.out);clear HG;go_wp2;go_ret2;exact qq.bad 6 HR.out (gS.out.trans HU3.out)
   have Xh:=O (HG.out.trans (if_neg (by decide)));clear HG;obtain⟨si,hhl⟩:∃si,si=bw sF:=⟨_,rfl⟩;have HSZ:=O (show∀x∈si,x.size<17592186044416 from by
    intro x hx;rw[hhl]at hx;obtain⟨y,hy,rfl⟩:=List.mem_map.1 hx;have:=aii.out y hy;show y.toArray.size<_;simp;omega)
   have Fa:=O (XA.out ms sF);have ail:=O (show(bw sF).length<=40 from by have h:=fX.out;unfold bw;rw[List.length_map];exact h);have HLM:=O (show(sF.map fun h=>rl.xF kB (bA []) (bA (iK h)))=(si.map nc).map (fun h=>rl.xF kB (bA []) h)from by
    rw[hhl];unfold bw nc bA;simp[List.map_map,Function.comp])
   rw[<-hhl]at E' ail ⊢;clear XA aii hhl;obtain⟨GS,hGS⟩:∃GS,GS=rl.aH kB ms sF:=⟨_,rfl⟩;rw[<-hGS]at Fa Xh;clear hGS;cases ms
   case' nil =>
    obtain⟨_,_,_,_,_,_,_,_,_,e9,_⟩:=HX.out u3 HU3.out;have oZ:((bw []).length:Int)=0:=rfl;go_wp2_with fail
    refine(HMT.out u3).mono ?_;rintro e u4⟨rfl,hu4⟩;obtain⟨uL,huL⟩:∃uL,uL=u4.alloc (.cells #[.string mm] 9):=⟨_,rfl⟩;have bT:Fr ay u3 uL:=by rw[huL];exact hu4.alloc _
    have HMV:=O (show cX uL (.slice (some ⟨u4.heap.size,0,none⟩) 1 1) [mm]from by rw[huL];exact Ho u4 mm);have HDJ:=O (show∀k,(Value.slice (some ⟨u4.heap.size,0,none⟩) 1 1).ownBlock=some k->¬own (.slice ahh si.length chh) k from fun k hk ho=>by
     have h1:=(E'.out.lt k ho).2;have h2:=hu4.size;have e:u4.heap.size=k:=by simpa[Value.ownBlock]using hk
     omega)
    have HHV:=O (E'.out.fr bT (fun _ h=>absurd h (fun h=>h)));have HUL:=O (HU3.out.trans bT);obtain⟨MS,P'⟩:∃MS:List ByteArray,MS=[mm]:=⟨_,rfl⟩;obtain⟨MA,hMA⟩:∃MA:Option Addr,MA=some ⟨u4.heap.size,0,none⟩:=⟨_,rfl⟩;obtain⟨MC,hMC⟩:∃MC:Nat,MC=1:=⟨_,rfl⟩;have hval:Value.slice (some ⟨u4.heap.size,0,none⟩) 1 1=Value.slice MA MS.length MC:=by rw[hMA,P',hMC];rfl
    have HMM:=O (show(if([]:List Bs).isEmpty then [mm]else([]:List Bs).map bA)=MS from by rw[P'];rfl);have HMF:=O (show MS.length<=40 from by rw[P'];simp);rw[<-P']at HMV;rw[hval]at HMV HDJ;clear e9 oZ bT hu4;go_wp2;rw[<-huL];clear hval P' hMA hMC huL
   case' cons m0 ms0 =>
    obtain⟨MS,P'⟩:∃MS:List ByteArray,MS=bw (m0 :: ms0):=⟨_,rfl⟩;have HMM:=O (show(if(m0 :: ms0:List Bs).isEmpty then [mm]else(m0 :: ms0:List Bs).map bA)=MS from by rw[P'];rfl);have HMF:=O (show MS.length<=40 from by rw[P'];have h:=apB.out;unfold bw;rw[List.length_map];exact h);have oZ:((MS.length:Int)==0)=false:=by rw[beq_eq_false_iff_ne,P'];unfold bw;simp;omega
    rw[<-P']at XF aik ⊢;have HMV:=O XF.out.at;have HDJ:=O (show∀k,(Value.slice am MS.length cm).ownBlock=some k->¬own (.slice ahh si.length chh) k from fun k hk ho=>by
     have h1:=E'.out.block k ho;have h2:=aik.out k hk;omega)
    have HHV:=O E'.out;have HUL:=O HU3.out;obtain⟨MA,hMA⟩:∃MA,MA=am:=⟨_,rfl⟩;obtain⟨MC,hMC⟩:∃MC,MC=cm:=⟨_,rfl⟩;obtain⟨uL,rfl⟩:∃uL,uL=u3:=⟨_,rfl⟩;rw[<-hMA, <-hMC]at HMV HDJ ⊢;clear P' hMA hMC;go_wp2
   all_goals
    go_loopw[51] (aia u1.heap.size uL (.slice ahh si.length chh) si) (fun t _=>si.length-(intOf t).toNat)
    case atStart=>exact⟨0,Nat.zero_le _,rfl,by simpa using HHV.out,Fr.refl _ _⟩
    case round =>
     obtain⟨k,hk,rfl,fR,aW⟩:=hrel;by_cases cG:k<si.length
     ·have lf:(k:Int)<(si.length:Int):=by omega
      have U8:(0:Int)<=(k:Int):=by omega
      have bC:=O (List.getElem?_eq_getElem cG);have ed:=O (List.getElem_mem cG);generalize si[k]=x at bC ed;have hne:(si.take k).map nc++si.drop k≠ []:=by
       intro e;have:=congrArg List.length e;rw[List.length_append,List.length_map,List.length_take,List.length_drop,List.length_nil]at this;omega
      obtain⟨gh,hgh,mn,g1,g2,g3,g4,g5,g6⟩:=Strs.XC fR hne;subst hgh;unfold maxLen at g4;have hc:=g5 k x (P_ bC.out);have kM:=O (lI x wr (HSZ.out x ed.out));clear g5 g6 mn;go_wp2_with fail
      refine kM.out.mono ?_;rintro e wl⟨rfl,zW⟩;have jn:=O (fR.fr zW (fun _ h=>absurd h (fun h=>h)));obtain⟨gh',aip,mn,q1,q2,q3,q4,q5,q6⟩:=Strs.XC jn.out hne;obtain rfl:gh=gh':=by injection aip with h;injection h
      have nW:=q5 k x (P_ bC.out);have gU:=q6 k;have aaN:=O (jn.out.put (j:=k) (nc x));have py:=O (show Fr (own (.slice (some ⟨gh,0,none⟩) si.length chh)) uL (wl.setCell ⟨gh,k,none⟩ (.string (nc x)))from(aW.step zW (fun _ _ h=>absurd h (fun h=>h))).setCell (p:=⟨gh,k,none⟩) (fun _=>rfl) _);rw[P9 bC.out]at aaN;unfold nc at aaN py;clear q5 q6 fR aW zW jn kM mn aip hne;go_wp2;go_roundw
      case rel=>exact⟨k+1,by omega,by go_num,aaN.out,py.out⟩
      case measure=>simp[intOf];omega
     ·have lf:¬(k:Int)<(si.length:Int):=by omega
      have aiq:=O (show Strs u1.heap.size wr (.slice ahh si.length chh) (si.map nc)from by
       have h:=fR;rw[List.take_of_length_le (by omega),List.drop_of_length_le (by omega),List.append_nil]at h;exact h)
      have apJ:=O (HMV.out.fr aW HDJ.out);have HUW:=O (show Fr ay w1 wr from HUL.out.step aW (fun j hj ho=>by
       have h1:=aiq.out.block j ho;have h2:=OL.out;omega))
      clear fR aW HHV HMV HDJ HUL;go_wp2;obtain⟨w5,rfl⟩:∃w5,w5=wr:=⟨_,rfl⟩;obtain⟨wq,hwq⟩:∃wq,wq=(w5.alloc (.cells #[] 65)).alloc (.cells #[.slice (some ⟨w5.heap.size,0,none⟩) 0 0] 60):=⟨_,rfl⟩;have hfq:Fr ay w5 wq:=by rw[hwq];exact((Fr.refl _ _).alloc _).alloc _
      have WH:wq.heap[w5.heap.size+1]?=some (.cells #[.slice (some ⟨w5.heap.size,0,none⟩) 0 0] 60 (0,0)):=by
       have h:=af (w5.alloc (.cells #[] 65)) (.cells #[.slice (some ⟨w5.heap.size,0,none⟩) 0 0] 60);rw[World.size_alloc]at h;rw[hwq];exact h
      have oZ:wq.heap[w5.heap.size]?=some (.cells #[] 65 (0,0)):=by rw[hwq];exact((Fr.refl ay _).alloc _).keep (af _ _) (fun h=>h)
      have HO0:=O (show OwnRows w5.heap.size 65 12 wq (.slice (some ⟨w5.heap.size,0,none⟩) 0 0) (([]:List bI).map bI.cells)from⟨by simp,rfl,Or.inr ⟨w5.heap.size,0, #[],rfl,Nat.le_refl _,oZ,Nat.le_refl _,by decide,rfl,rfl⟩⟩);have HPQ:=O WH;have J0:=O hfq;obtain⟨bp,hbp⟩:∃bp,bp=w5.heap.size+1:=⟨_,rfl⟩;have Xr:=O (show w5.heap.size<=bp from by omega)
      have mj:=O (show w.heap.size<=w5.heap.size from by have:=gS.out.size;have:=HUW.out.size;omega);rw[<-hwq, <-hbp];rw[<-hbp]at HPQ;clear hfq WH oZ hwq hbp lf hk cG;go_loopw[66] (XD w5.heap.size w5 bp MS (fun m=>rl.xF kB m ⟨#[]⟩) []) (fun t _=>MS.length-(intOf t).toNat)
      case atStart=>exact⟨0,_,Nat.zero_le _,rfl,HPQ.out,HO0.out,J0.out⟩
      case round =>
       obtain⟨k,vk,hk,rfl,o5,a_,aW⟩:=hrel;by_cases cG:k<MS.length
       ·have lf:(k:Int)<(MS.length:Int):=by omega
        have U8:(0:Int)<=(k:Int):=by omega
        have bC:=O (List.getElem?_eq_getElem cG);rcases apJ.out.bu aW with ⟨_,_,_,e,_⟩|⟨bk,o,c,hf,h1,h2,h3,h4⟩
        ·rw[e]at cG;exact absurd cG (Nat.not_lt_zero _)
        cases hf;unfold maxLen at h2;have hc:=h4 k _ bC.out;generalize MS[k]=x at bC hc;have jn:=O (E_ (fun m=>rl.xF kB m ⟨#[]⟩) [] bC.out);have wI:=yV ((MS.take k).map (fun m=>rl.xF kB m ⟨#[]⟩)) [];rw[List.length_map,List.length_take,List.length_nil]at wI;have Fb:=O (G'.out wr (HUW.out.trans aW) w5.heap.size bp vk _ x ⟨#[]⟩ Xr.out (by have:=HMF.out;omega) o5 a_);have py:=O aW;have LQ:=O a_
        clear h4 o5 a_ aW wI;go_wp2_with fail
        refine Fb.out.mono ?_;rintro e w6⟨rfl,v6,wP,tI,jz⟩;have H6:=O (show aaK w6 bp v6 w5.heap.size (((MS.take (k+1)).map (fun m=>rl.xF kB m ⟨#[]⟩)).foldl kJ []) w5 from⟨wP,by rw[jn.out];exact tI,py.out.step jz (fun j hj h=>by
         rcases h with h|h
         ·have:=Xr.out;omega
         ·have:=LQ.out.block j h;omega)⟩)
        clear wP tI jz Fb;go_wp2;go_roundw
        case rel=>exact⟨k+1,v6,by omega,by go_num,H6.out.1,H6.out.2.1,H6.out.2.2⟩
        case measure=>simp[intOf];omega
       ·have lf:¬(k:Int)<(MS.length:Int):=by omega
        rw[List.take_of_length_le (by omega)]at a_;obtain⟨km,xp⟩:∃km,km=(MS.map (fun m=>rl.xF kB m ⟨#[]⟩)).foldl kJ []:=⟨_,rfl⟩;rw[<-xp]at a_;have wI:=yV (MS.map (fun m=>rl.xF kB m ⟨#[]⟩)) [];rw[<-xp,List.length_map,List.length_nil]at wI;have uR:=O wI;have zm:=O xp;obtain⟨J1,Vz⟩:∃J1,J1=si.map nc:=⟨_,rfl⟩;have ais:si.length=J1.length:=by rw[Vz,List.length_map]
        have HH3:=O (show cX w5 (.slice ahh si.length chh) J1 from by rw[Vz];exact aiq.out.at);have apL:=O (show(sF.map fun h=>rl.xF kB (bA []) (bA (iK h)))=J1.map (fun h=>rl.xF kB ⟨#[]⟩ h)from by rw[Vz];exact HLM.out);have FU:=O ais;have HS:=O (show aaK wr bp vk w5.heap.size km w5 from⟨o5,a_,aW⟩);clear o5 a_ aW xp Vz ais wI cG hk;go_wp2
        go_loopw[76] (XD w5.heap.size w5 bp J1 (fun h=>rl.xF kB ⟨#[]⟩ h) km) (fun t _=>J1.length-(intOf t).toNat)
        case atStart=>exact⟨0,_,Nat.zero_le _,rfl,HS.out.1,HS.out.2.1,HS.out.2.2⟩
        case round =>
         obtain⟨k,vk,hk,rfl,o5,a_,aW⟩:=hrel;by_cases cG:k<J1.length
         ·have ait:(k:Int)<(si.length:Int):=by have:=FU.out;omega
          have U8:(0:Int)<=(k:Int):=by omega
          have bC:=O (List.getElem?_eq_getElem cG);have hHs:=HH3.out.bu aW;rw[FU.out]at hHs ait ⊢;rcases hHs with ⟨_,_,_,e,_⟩|⟨bk,o,c,hf,h1,h2,h3,h4⟩
          ·rw[e]at cG;exact absurd cG (Nat.not_lt_zero _)
          cases hf;unfold maxLen at h2;have hc:=h4 k _ bC.out;generalize J1[k]=x at bC hc;have jn:=O (E_ (fun h=>rl.xF kB ⟨#[]⟩ h) km bC.out);have wI:=yV ((J1.take k).map (fun h=>rl.xF kB ⟨#[]⟩ h)) km;rw[List.length_map,List.length_take]at wI;have Fb:=O (G'.out wr (HUW.out.trans aW) w5.heap.size bp vk _ ⟨#[]⟩ x Xr.out (by have h1:=HMF.out;have h2:=ail.out;have h3:=uR.out;have h4:=FU.out;omega) o5 a_)
          have py:=O aW;have LQ:=O a_;clear h4 o5 a_ aW wI;go_wp2_with fail
          refine Fb.out.mono ?_;rintro e w6⟨rfl,v6,wP,tI,jz⟩;have H6:=O (show aaK w6 bp v6 w5.heap.size (((J1.take (k+1)).map (fun h=>rl.xF kB ⟨#[]⟩ h)).foldl kJ km) w5 from⟨wP,by rw[jn.out];exact tI,py.out.step jz (fun j hj h=>by
           rcases h with h|h
           ·have:=Xr.out;omega
           ·have:=LQ.out.block j h;omega)⟩)
          clear wP tI jz Fb;go_wp2;rw[<-FU.out];go_roundw
          case rel=>exact⟨k+1,v6,by omega,by go_num,H6.out.1,H6.out.2.1,H6.out.2.2⟩
          case measure=>have hln:=FU.out;simp[intOf];omega
         ·have ait:¬(k:Int)<(si.length:Int):=by have:=FU.out;omega
          rw[List.take_of_length_le (by omega)]at a_;obtain⟨G,hG⟩:∃G,G=(J1.map (fun h=>rl.xF kB ⟨#[]⟩ h)).foldl kJ km:=⟨_,rfl⟩;rw[<-hG]at a_;have HGE:=O (show GS=G from by rw[Fa.out,apL.out,hG,zm.out,HMM.out];rfl);have HWR:=O (HUW.out.trans aW);obtain⟨av,cv,M8⟩:=a_.form;rw[List.length_map]at M8;subst M8;have LQ:=O a_;have d0:wr.cell? ⟨bp,0,none⟩=some (.slice av G.length cv):=by simp[World.cell?,o5]
          have HBK:=O o5;have aiv:=O (wS.out wr HWR.out _ G a_.at);obtain⟨e0,e1,e2,e3,e4,e5,e6,e7,e8,e9,e10,e11,e12⟩:=HX.out wr HWR.out;clear o5 a_ aW hG;have Pp:=O (show XE=if !rl.iA G then .error 6 else .ok G from by rw[<-HGE.out];exact Xh.out);generalize rl.iA G=cv2 at aiv Pp;go_wp2_with fail
          refine aiv.out.mono ?_;rintro e w7⟨rfl,jC⟩;have d1:w7.cell? ⟨bp,0,none⟩=some (.slice av G.length cv):=by simp[World.cell?,jC.keep HBK.out (fun h=>h)]
          have zv:=O jC;clear jC e0 e1 e2 e3 e4 e5 e6 e7 e8 e9 e10 e11 e12 d0;cases cv2
          ·have HR:=O (show XE=.error 6 from Pp.out);clear Pp;go_wp2;go_ret2;exact qq.bad 6 HR.out (gS.out.trans (HWR.out.trans zv.out))
          ·have HR:=O (show XE=.ok G from Pp.out);clear Pp;go_wp2;go_ret2;exact qq.apy HR.out (gS.out.trans (HWR.out.trans zv.out)) ((LQ.out.fr zv.out (fun _ _ h=>h)).up mj.out)
theorem Qb(c:UInt8)(l:Bs):(hQ c l).1.length<=l.length/\(hQ c l).2.1.length<=l.length:=by
 rcases(IX c l).2 with ⟨_,e⟩|⟨_,e,e2⟩
 ·have h:=congrArg List.length e;rw[List.length_append,List.length_cons]at h;exact⟨by omega,by omega⟩
 ·exact⟨by have h:=congrArg List.length e;omega,by rw[e2];exact Nat.zero_le _⟩
theorem Fe{l:Bs}{p:ew}(h:xE l=some (some p)):p.1.length<=l.length/\p.2.length<=l.length:=by
 unfold xE at h;split at h
 ·cases h
 ·split at h
  ·cases h
  ·cases h;have h1:=Qb 58 (nC l);have h2:=Bf l;have h3:=DB (hQ 58 (nC l)).2.1 [32,9];refine⟨by show(hQ 58 (nC l)).1.length<=_;omega,?_⟩;show(trimB _).length<=_;unfold trimB;omega
theorem nt(N:Nat):∀(ls:List Bs) (acc out:List ew),fE ls acc=.ok out->acc.length<=40->(∀l∈ls,l.length<=N)->(∀p∈acc,p.1.length<=N/\p.2.length<=N)->out.length<=40/\∀p∈out,p.1.length<=N/\p.2.length<=N
 |[],acc,out,h,ha,_,hp=>by rw[fE]at h;cases h;exact⟨ha,hp⟩
 |l :: ls,acc,out,h,ha,hl,hp=>by
  rw[fE]at h;cases hr:xE l with
  |none=>rw[hr]at h;cases h
  |some q =>
   rw[hr]at h;cases q with
   |none=>exact nt N ls acc out h ha (fun m hm=>hl m (List.mem_cons_of_mem _ hm)) hp
   |some p =>
    simp only at h;split at h
    ·cases h
    ·rename_i hn;refine nt N ls (acc++[p]) out h (by rw[List.length_append];simp only[List.length_cons,List.length_nil];omega) (fun m hm=>hl m (List.mem_cons_of_mem _ hm)) (fun x hx=>?_);rcases List.mem_append.1 hx with hx|hx
     ·exact hp x hx
     ·rw[List.mem_singleton.1 hx];have h1:=Fe hr;have h2:=hl l (List.mem_cons_self ..);exact⟨by omega,by omega⟩
theorem Cu{s:Bs}{x:List ew}(h:ik s=.ok x):fT x:=by
 unfold ik at h;split at h
 ·cases h
 ·have h1:=nt 3000 _ _ _ h (Nat.zero_le _) (fun l hl=>by have:=(vu 10 s).2 l hl;omega) (fun _ hp=>by cases hp);exact⟨by omega,fun p hp=>by have:=h1.2 p hp;omega⟩
end Go.Proofs.YtjdmjbdkdmbaiaaGreatDoor
