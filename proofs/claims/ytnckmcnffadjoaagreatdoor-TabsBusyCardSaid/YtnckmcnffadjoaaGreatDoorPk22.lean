/- Lemmas for the law's walk. -/
import Derived.Test.YtnckmcnffadjoaaGreatDoorPk19
import Derived.Test.YtnckmcnffadjoaaGreatDoorPk21
set_option maxRecDepth 100000
set_option maxHeartbeats 16000000
set_option linter.unusedSimpArgs false
namespace Go.Proofs.YtnckmcnffadjoaaGreatDoor
open Go.Proofs.Tryz
open Go.RowKit
variable {base n c k:Nat} {w w':World} {ss:List aj} {x:aj} {ps:List jy} {ws:List Bs} {res:Except Nat (List ef)} {r:ra} {now:Int} {p:ef} {gs:List (aP bD)}
theorem Strs.put{g:Nat}(h:Strs base w (.slice (some ⟨g,0,none⟩) n c) ss){j:Nat}(x:aj) :
  Strs base (w.setCell ⟨g,j,none⟩ (.string x)) (.slice (some ⟨g,0,none⟩) n c) (ss.set j x):=by
 obtain⟨h1,h2⟩:=h;refine⟨aQ,?_⟩;rcases h2 with ⟨hv,_⟩|⟨g',cap,cur,hv,hg,hh,h3,h4,h5,h6⟩
 ·cases hv
 ·have e1:g'=g/\n=ss.length/\c=cap:=by
   injection hv with a1 a2 a3
   injection a1 with a1
   injection a1 with a1
   exact⟨a1.symm,a2,a3⟩
  obtain⟨rfl,rfl,rfl⟩:=e1;refine Or.inr ⟨g',c,cur.setIfInBounds j (.string x),by rw[d_],hg,b_ hh _ _,by rw[d_];exact h3,h4,by simpa using h5,?_⟩;rw[d_,List.map_set, <-h6,Array.toList_setIfInBounds,List.take_set]
def ajU(base:Nat)(u:World)(hv:Value)(ss:List aj)(t:Value)(wr:World):Prop :=
 ∃k:Nat,k<=ss.length/\t=.int .i64 k/\Strs base wr hv ((ss.take k).map tF++ss.drop k)/\Fr (own hv) u wr
theorem WN(h:ss[k]?=some x):((ss.take k).map tF++ss.drop k).set k (tF x)=(ss.take (k+1)).map tF++ss.drop (k+1):=by
 obtain⟨hk,e⟩:=List.getElem?_eq_some_iff.1 h;have hl:((ss.take k).map tF).length=k:=bG;rw[List.set_append_right _ _ ab,hl,Nat.sub_self,cR hk,List.set_cons_zero,dW h,bH,cH];rfl
theorem WO(h:ss[k]?=some x):((ss.take k).map tF++ss.drop k)[k]?=some x:=by
 obtain⟨hk,e⟩:=List.getElem?_eq_some_iff.1 h;have hl:((ss.take k).map tF).length=k:=bG;rw[List.getElem?_append_right ab,hl,Nat.sub_self,cR hk];simp[e]
theorem EL:∀(f:Nat) (r:Bs) (ws:List Bs),lT f r=.ok ws->∀w∈ws,w.length<=r.length
 |0,r,ws,h,w,hw=>by rw[lT]at h;cases h;cases hw
 |f+1,r,ws,h,w,hw=>by
  rw[lT]at h;have h1:=qk dJ r;have h2:=qk fY (r.dropWhile dJ);have h3:=qk dJ ((r.dropWhile dJ).dropWhile fY);have h4:=pN fY (r.dropWhile dJ);have dY:∀u∈(if((r.dropWhile dJ).takeWhile fY).isEmpty then []else [(r.dropWhile dJ).takeWhile fY]),u.length<=r.length:=by
   intro u hu;split at hu
   ·cases hu
   ·simp at hu;subst hu;omega
  cases e:((r.dropWhile dJ).dropWhile fY).dropWhile dJ with
  |nil =>
   rw[e]at h;simp only at h;cases h;exact dY w hw
  |cons c r4 =>
   rw[e]at h h3;simp only at h;split at h
   ·cases hr:lT f r4 with
    |error m=>rw[hr]at h;cases h
    |ok w2 =>
     rw[hr]at h;cases h;rcases bK.1 hw with g|g
     ·exact dY w g
     ·have:=EL f r4 w2 hr w g;simp at h3;omega
   ·cases h
theorem OQ{n:Bs}(hz:lB ps)(h:lf ps n=some ws):∀w∈ws,w.length<=100002000:=by
 obtain⟨s,hs,xM⟩:=uq ps n hz;unfold lf at h;cases hl:gY (lu ps n)with
 |error e=>rw[hl]at h;cases h
 |ok m =>
  rw[hl]at h;simp only at h;split at h
  ·cases h
  ·cases h;intro w hw;have:=EL _ _ _ hl w hw;rw[hs]at this;have e:s.data.toList.length=s.size:=aQ;omega
theorem Hl{n:Bs}(h:lf ps n=some ws):ws.length<=40:=by
 unfold lf at h;cases hl:gY (lu ps n)with
 |error e=>rw[hl]at h;cases h
 |ok m =>
  rw[hl]at h;simp only at h;split at h
  ·cases h
  ·cases h;omega
theorem Strs.acy{a:Option Addr}(h:Strs base w (.slice a n c) ss)(hne:ss≠ []) :
  ∃g,a=some ⟨g,0,none⟩/\n=ss.length/\base<=g/\g<w.heap.size/\n<=c/\c<=maxLen/\(∀(j:Nat) x,ss[j]?=some x->w.cell? ⟨g,j,none⟩=some (.string x))/\∀i,w.frozen? ⟨g,i,none⟩=false:=by
 have dN:=h.at;obtain⟨h1,h2⟩:=h;rcases h2 with ⟨hv,h0⟩|⟨g,cap,cur,hv,hg,hh,h3,h4,h5,h6⟩
 ·exact absurd (cg h0) hne
 ·cases hv;refine⟨g,rfl,rfl,hg,bj hh,h3,h4,?_,fun i=>by simp[World.frozen?,hh]⟩;rcases dN with ⟨_,_,_,e,_⟩|⟨bk,o,c',hf,g1,g2,g3,g4⟩
  ·exact absurd e hne
  ·cases hf;intro j x hj;have:=g4 j x hj;simpa using this
theorem OS(w:World)(x:aj):fN (w.alloc (.cells #[.string x] 9)) (.slice (some ⟨w.heap.size,0,none⟩) 1 1) [x]:=by
 refine Or.inr ⟨w.heap.size,0,1,rfl,ay _,by simp[maxLen],aQ,fun j y hj=>?_⟩
 match j,hj with
 |0,hj =>
  simp at hj;subst hj;rw[World.cell?_alloc_mark];simp
def wZ(res:Except Nat (List ef))(w:World)(e:Ending)(w':World):Prop :=
 Fr aR w w'/\match res with
 | .ok m=>∃v,e=.returned (.tuple #[v,.nilIface])/\OwnRows w.heap.size 155 12 w' v (m.map ef.cells)
 | .error n=>e=.returned (.tuple #[.slice none 0 0,.iface 105 (.int .i64 n)])
theorem wZ.bad(n:Nat)(h:res=.error n)(hf:Fr aR w w'):wZ res w (.returned (.tuple #[.slice none 0 0,.iface 105 (.int .i64 n)])) w':=by
 subst h;exact⟨hf,rfl⟩
theorem wZ.OT{m:List ef}{v:Value}(h:res=.ok m)(hf:Fr aR w w')(ho:OwnRows w.heap.size 155 12 w' v (m.map ef.cells)):wZ res w (.returned (.tuple #[v,.nilIface])) w':=by
 subst h;exact⟨hf,v,rfl,ho⟩
def acz(base:Nat)(u:World)(bp:Nat)(ss:List aj)(f:aj->ef)(a0:List ef)(t:Value)(wr:World):Prop :=
 ∃(k:Nat) (v:Value),k<=ss.length/\t=.int .i64 k/\wr.heap[bp]?=some (.cells #[v] 90 (0,0))/\OwnRows base 155 12 wr v ((((ss.take k).map f).foldl qo a0).map ef.cells)/\Fr aR u wr
def afg(w6:World)(bp:Nat)(v:Value)(base:Nat)(acc:List ef)(w5:World):Prop :=
 w6.heap[bp]?=some (.cells #[v] 90 (0,0))/\OwnRows base 155 12 w6 v (acc.map ef.cells)/\Fr aR w5 w6
theorem Me(f:aj->ef)(a0:List ef)(h:ss[k]?=some x):((ss.take (k+1)).map f).foldl qo a0=qo (((ss.take k).map f).foldl qo a0) (f x):=by
 rw[dW h,bH,List.foldl_append];rfl
theorem EM(l:List ef):∀a0:List ef,(l.foldl qo a0).length<=a0.length+l.length:=by
 induction l with
 |nil=>intro a0;simp
 |cons p l ih =>
  intro a0;have h1:=ih (qo a0 p);have h2:(qo a0 p).length<=a0.length+1:=by unfold qo;split<;>simp
  simp only[List.foldl_cons,List.length_cons];omega
theorem SF(r:gq Value)(hs:List gZ)(lv:Value)(ps:List jy)(now:Int)(w:World)(hr:oO w r.eo hs)(hl:lQ w lv ps)(hz:lB ps)(hq:G0 r hs)(ht:wO w)(p0: -9223372036854775808<=r.dm.port)(p1:r.dm.port<=9223372036854775807)(hh:r.dm.host.size<100000)(n0:0<=now)(n1:now<=1099511627776) :
  Calls prog 65 #[.agg r.cells.toArray,lv,.int .i64 now] w (wZ (uI (r.dS hs) (xH r.dm).data.toList ps now) w):=by
 obtain⟨al,cl,hlf⟩:=dQ hl;rw[ai]at hlf;subst hlf;obtain⟨n,hn⟩:∃n,n=w.heap.size:=⟨_,rfl⟩;obtain⟨w1,oB⟩:∃w1,w1=((w.alloc (.cells r.cells.toArray 37)).alloc (.cells #[.slice al ps.length cl] 35)).alloc (.cells #[.int .i64 now] 3):=⟨_,rfl⟩;have ks:Fr aR w w1:=by rw[oB];exact(((ae aR w).alloc _).alloc _).alloc _
 have mf:w1.heap[n]?=some (.cells r.cells.toArray 37 (0,0)):=by rw[oB,hn];exact(((ae aR _).alloc _).alloc _).keep (aB _ _) id
 have su:w1.heap[n+1]?=some (.cells #[.slice al ps.length cl] 35 (0,0)):=by
  have h:=aB (w.alloc (.cells r.cells.toArray 37)) (.cells #[.slice al ps.length cl] 35);rw[bM, <-hn]at h;rw[oB];exact((ae aR _).alloc _).keep h id
 have IA:w1.heap[n+1+1]?=some (.cells #[.int .i64 now] 3 (0,0)):=by
  have h:=aB ((w.alloc (.cells r.cells.toArray 37)).alloc (.cells #[.slice al ps.length cl] 35)) (.cells #[.int .i64 now] 3);rw[bM,bM, <-hn]at h;rw[oB];exact h
 have Qx:=O (show∀U,Fr aR w1 U->U.cell? ⟨n+1,0,none⟩=some (.slice al ps.length cl)from fun U hU=>by simp[World.cell?,hU.keep su id]);have HX:=O (show∀U,Fr aR w1 U->Bu U n r from fun U hU=>Bu.eI (hU.keep mf id))
 have HWD:=O (show∀(nm:Bs),nm.length<1000->∀U,Fr aR w1 U->Calls prog 129 #[.slice al ps.length cl,.string (bA nm)] U (Hb ps nm U)from fun nm Ye U hU=>Sc _ ps nm U (bg hl (ks.trans hU)) hz Ye)
 have aaN:=O (show∀U,Fr aR w1 U->Calls prog 130 #[.agg r.cells.toArray,.slice al ps.length cl] U fun e w'=>e=.returned (.bool (Nr (xH r.dm).data.toList r.fU ps))/\Fr aR U w' from fun U hU=>aaM r _ ps U (bg hl (ks.trans hU)) hz (ht.fr (ks.trans hU)) p0 p1 hh)
 have HMT:=O (show∀U,Calls prog 51 #[.string r.method] U fun e w'=>e=.returned (.string (jM r.method))/\Fr aR U w' from fun U=>yn r.method U hq.1);have xI:=O (show∀U,Fr aR w1 U->∀(pv:Value) (m:List ef),qQ U pv m->Calls prog 62 #[.agg r.cells.toArray,pv] U fun e w'=>e=.returned (.bool ((r.dS hs).ng m))/\Fr aR U w' from fun U hU pv m Ny=>yL r hs pv m U (bg hr (ks.trans hU)) Ny hq)
 have Oo:=O (show∀U,Fr aR w1 U->∀(base bp:Nat) (v:Value) (acc:List ef) (m hd:aj),base<=bp->acc.length<1000000->U.heap[bp]?=some (.cells #[v] 90 (0,0))->OwnRows base 155 12 U v (acc.map ef.cells)->Calls prog 132 #[.string m,.string hd,.pointer (some ⟨n,0,none⟩),.pointer (some ⟨n+1+1,0,none⟩),.pointer (some ⟨n+1,0,none⟩),.pointer (some ⟨bp,0,none⟩)] U fun e w'=>e=.returned (.tuple #[])/\∃v',w'.heap[bp]?=some (.cells #[v'] 90 (0,0))/\OwnRows base 155 12 w' v' ((qo acc ((r.dS hs).Ds (now+ni ps) m hd)).map ef.cells)/\Fr (fun k=>k=bp\/own v k) U w' from fun U hU base bp v acc m hd hb hlen hp cP =>
  aai base m hd r hs now _ ps acc v n (n+1+1) (n+1) bp U (hU.keep mf id) (hU.keep IA id) (hU.keep su id) hp (bg hl (ks.trans hU)) hz cP hb hlen n0 n1)
 have mr:=O ks;obtain⟨ah,ch,gV⟩:=dQ hr;rw[ai]at gV;have hzz:=O hz;clear hr hl hz mf su IA ks ht hq p0 p1 hh n0 n1;have HG:=O (show uI (r.dS hs) (xH r.dm).data.toList ps now=(match lf ps KE,lf ps yr with
  |some ms,some SH=>if !Nr (xH r.dm).data.toList r.fU ps then .error 6 else if !(r.dS hs).ng ((r.dS hs).bF (now+ni ps) ms SH)then .error 6 else .ok ((r.dS hs).bF (now+ni ps) ms SH)
  |_,_=>.error 3)from rfl)
 have HGS:=O (show∀ms SH,(r.dS hs).bF (now+ni ps) ms SH=(SH.map fun h=>(r.dS hs).Ds (now+ni ps) (bA []) (bA (nw h))).foldl qo ((if ms.isEmpty then [jM r.method]else ms.map bA).map (fun m=>(r.dS hs).Ds (now+ni ps) m (bA [])) |>.foldl qo [])from fun _ _=>rfl);generalize (xH r.dm).data.toList=ajV at *
 obtain⟨part,⟨fs,fh,fp⟩,⟨os,oh,op⟩,path,query,method,eo,fU,body⟩:=r;simp only at gV;subst gV;obtain⟨R,hR⟩:∃R:gq Value,R=⟨part,⟨fs,fh,fp⟩,⟨os,oh,op⟩,path,query,method,.slice ah hs.length ch,fU,body⟩:=⟨_,rfl⟩;rw[<-hR]at HX aaN HMT xI Oo HG HGS ⊢
 have ajW:=O (show R.cells.toArray= #[.int .i64 part,.bool fs,.string fh,.int .i64 fp,.bool os,.string oh,.int .i64 op,.string path,.string query,.string method,.slice ah hs.length ch,.bool fU,.string body]by rw[hR];rfl);have HRL:=O (show∀U,Fr aR w1 U->Bu U n ⟨part,⟨fs,fh,fp⟩,⟨os,oh,op⟩,path,query,method,.slice ah hs.length ch,fU,body⟩from by rw[<-hR];exact HX.o)
 have HMR:=O (show R.method=method by rw[hR]);clear HX;rw[ajW.o]at aaN xI ⊢;rw[HMR.o]at HMT HGS;have HX:=HRL;unfold Bu at HX;dsimp only at HX;unfold gq.cells at oB;dsimp only at oB;clear hR ajW HMR HRL;generalize R.dS hs=rl at *
 generalize R.fU=rw0 at *
 obtain⟨RES,ajX⟩:∃RES,RES=uI rl ajV ps now:=⟨_,rfl⟩;rw[<-ajX]at HG ⊢;clear ajX R;generalize Nr ajV rw0 ps=my at *
 generalize now+ni ps=pX at *
 generalize jM method=mm at *
 subst hn;have c2:=Qx.o w1 (ae _ _);have awz:w.heap.size<=w1.heap.size:=mr.o.size;rw[oB]at c2;go_enter func65,ntmps65;go_wp2_with fail
 rw[<-oB];clear oB c2;refine(HWD.o KE ag w1 (ae _ _)).mono ?_;rintro e u1⟨uA,hm1⟩;have c2:=Qx.o u1 uA;cases hwm:lf ps KE with
 |none =>
  rw[hwm]at hm1 HG;dsimp only at hm1;subst hm1;have HR:=O (show RES=.error 3 from HG.o);clear hwm HG;go_wp2_with fail
  refine(HWD.o yr ag u1 uA).mono ?_;rintro e u2⟨nv,JR⟩;have tW:=O (mr.o.trans (uA.trans nv));clear uA nv c2;cases hwh:lf ps yr with
  |none =>
   rw[hwh]at JR;dsimp only at JR;subst JR;go_wp2;go_ret2;exact wZ.bad 3 HR.o tW.o
  |some yJ =>
   rw[hwh]at JR;obtain⟨hv,rfl,jq⟩:=JR;obtain⟨ah',ch',Lh⟩:=jq.form;subst Lh;clear jq;go_wp2;go_ret2;exact wZ.bad 3 HR.o tW.o
 |some ms =>
  rw[hwm]at hm1 HG;obtain⟨mv,rfl,hms⟩:=hm1;obtain⟨am,cm,apB⟩:=hms.form;subst apB;go_wp2_with fail
  refine(HWD.o yr ag u1 uA).mono ?_;rintro e u2⟨nv,JR⟩;have tW:=O (uA.trans nv);have hB1:w1.heap.size<=u1.heap.size:=uA.size;have apC:=O (Hl hwm);clear hwm;have afh:=fun k (hk:(Value.slice am (dP ms).length cm).ownBlock=some k)=>(hms.lt k hk).2;have afi:=hms.fr nv (fun _ h=>absurd h id);clear uA nv c2 hms;cases hwh:lf ps yr with
  |none =>
   rw[hwh]at JR HG;dsimp only at JR;subst JR;have HR:=O (show RES=.error 3 from HG.o);clear hwh HG afh afi;go_wp2;go_ret2;exact wZ.bad 3 HR.o (mr.o.trans tW.o)
  |some yJ =>
   rw[hwh]at JR HG;obtain⟨hv,rfl,jq⟩:=JR;have hHG:=HG.o;dsimp only at hHG;have HG:=O hHG;clear hHG;obtain⟨ahh,chh,Lh⟩:=jq.form;subst Lh;have aj0:=O jq;have aj1:=O (OQ hzz.o hwh);have lS:=O (Hl hwh);have aj2:=O afi;have aj3:=O afh;clear jq afi afh hwh;have c2:=Qx.o u2 tW.o;obtain⟨e0,e1,e2,e3,e4,e5,e6,e7,e8,e9,e10,e11,e12⟩:=HX.o u2 tW.o;go_wp2_with fail
   refine(aaN.o u2 tW.o).mono ?_;rintro e u3⟨rfl,zV⟩;have Yo:=O (tW.o.trans zV);have Mf:=O (aj0.o.fr zV (fun _ h=>absurd h id));have acB:=O (aj2.o.fr zV (fun _ h=>absurd h id));have Qn:=O hB1;clear zV c2 e0 e1 e2 e3 e4 e5 e6 e7 e8 e9 e10 e11 e12 aj0 aj2 aaN hB1;cases my
   ·have HR:=O (show RES=.error 6 from HG.o);clear HG;go_wp2;go_ret2;exact wZ.bad 6 HR.o (mr.o.trans Yo.o)
   have TM:=O (HG.o.trans (aq ag));clear HG;obtain⟨zb,hhl⟩:∃zb,zb=dP yJ:=⟨_,rfl⟩;have Vz:=O (show∀x∈zb,x.size<17592186044416 from by
    intro x hx;rw[hhl]at hx;obtain⟨y,hy,rfl⟩:=bV.1 hx;have:=aj1.o y hy;show y.toArray.size<_;simp;omega)
   have HGR:=O (HGS.o ms yJ);have aj5:=O (show(dP yJ).length<=40 from by have h:=lS.o;unfold dP;rw[ai];exact h);have HLM:=O (show(yJ.map fun h=>rl.Ds pX (bA []) (bA (nw h)))=(zb.map tF).map (fun h=>rl.Ds pX (bA []) h)from by
    rw[hhl];unfold dP tF bA;simp[im,Function.comp])
   rw[<-hhl]at Mf aj5 ⊢;clear HGS aj1 hhl;obtain⟨GS,hGS⟩:∃GS,GS=rl.bF pX ms yJ:=⟨_,rfl⟩;rw[<-hGS]at HGR TM;clear hGS;cases ms
   case' nil =>
    obtain⟨_,_,_,_,_,_,_,_,_,e9,_⟩:=HX.o u3 Yo.o;have pq:((dP []).length:Int)=0:=rfl;go_wp2_with fail
    refine(HMT.o u3).mono ?_;rintro e u4⟨rfl,C4⟩;obtain⟨uL,huL⟩:∃uL,uL=u4.alloc (.cells #[.string mm] 9):=⟨_,rfl⟩;have kK:Fr aR u3 uL:=by rw[huL];exact C4.alloc _
    have HMV:=O (show fN uL (.slice (some ⟨u4.heap.size,0,none⟩) 1 1) [mm]from by rw[huL];exact OS u4 mm);have HDJ:=O (show∀k,(Value.slice (some ⟨u4.heap.size,0,none⟩) 1 1).ownBlock=some k->¬own (.slice ahh zb.length chh) k from fun k hk ho=>by
     have h1:=(Mf.o.lt k ho).2;have h2:=C4.size;have e:u4.heap.size=k:=by simpa[Value.ownBlock]using hk
     omega)
    have HHV:=O (Mf.o.fr kK (fun _ h=>absurd h id));have HUL:=O (Yo.o.trans kK);obtain⟨MS,WQ⟩:∃MS:List aj,MS=[mm]:=⟨_,rfl⟩;obtain⟨MA,hMA⟩:∃MA:Option Addr,MA=some ⟨u4.heap.size,0,none⟩:=⟨_,rfl⟩;obtain⟨MC,hMC⟩:∃MC:Nat,MC=1:=⟨_,rfl⟩;have hval:Value.slice (some ⟨u4.heap.size,0,none⟩) 1 1=Value.slice MA MS.length MC:=by rw[hMA,WQ,hMC];rfl
    have HMM:=O (show(if([]:List Bs).isEmpty then [mm]else([]:List Bs).map bA)=MS from by rw[WQ];rfl);have HMF:=O (show MS.length<=40 from by rw[WQ];simp);rw[<-WQ]at HMV;rw[hval]at HMV HDJ;clear e9 pq kK C4;go_wp2;rw[<-huL];clear hval WQ hMA hMC huL
   case' cons m0 ms0 =>
    obtain⟨MS,WQ⟩:∃MS:List aj,MS=dP (m0 :: ms0):=⟨_,rfl⟩;have HMM:=O (show(if(m0 :: ms0:List Bs).isEmpty then [mm]else(m0 :: ms0:List Bs).map bA)=MS from by rw[WQ];rfl);have HMF:=O (show MS.length<=40 from by rw[WQ];have h:=apC.o;unfold dP;rw[ai];exact h);have pq:((MS.length:Int)==0)=false:=by rw[aN,WQ];unfold dP;simp;omega
    rw[<-WQ]at acB aj3 ⊢;have HMV:=O acB.o.at;have HDJ:=O (show∀k,(Value.slice am MS.length cm).ownBlock=some k->¬own (.slice ahh zb.length chh) k from fun k hk ho=>by
     have h1:=Mf.o.block k ho;have h2:=aj3.o k hk;omega)
    have HHV:=O Mf.o;have HUL:=O Yo.o;obtain⟨MA,hMA⟩:∃MA,MA=am:=⟨_,rfl⟩;obtain⟨MC,hMC⟩:∃MC,MC=cm:=⟨_,rfl⟩;obtain⟨uL,rfl⟩:∃uL,uL=u3:=⟨_,rfl⟩;rw[<-hMA, <-hMC]at HMV HDJ ⊢;clear WQ hMA hMC;go_wp2
   all_goals
    go_loopw[51] (ajU u1.heap.size uL (.slice ahh zb.length chh) zb) (fun t _=>zb.length-(intOf t).toNat)
    case atStart=>exact⟨0,aI _,rfl,by simpa using HHV.o,ae _ _⟩
    case round =>
     obtain⟨k,hk,rfl,jq,cK⟩:=hrel;by_cases eX:k<zb.length
     ·have py:(k:Int)<(zb.length:Int):=ab;have Om:(0:Int)<=(k:Int):=ab;have dN:=O (List.getElem?_eq_getElem eX);have g_:=O (bL eX);generalize zb[k]=x at dN g_;have hne:(zb.take k).map tF++zb.drop k≠ []:=by
       intro e;have:=ar List.length e;rw[aM,ai,aJ,bJ,List.length_nil]at this;omega
      obtain⟨gh,hgh,rW,g1,g2,g3,g4,g5,g6⟩:=Strs.acy jq hne;subst hgh;unfold maxLen at g4;have hc:=g5 k x (WO dN.o);have lp:=O (ru x wr (Vz.o x g_.o));clear g5 g6 rW;go_wp2_with fail
      refine lp.o.mono ?_;rintro e wl⟨rfl,Fh⟩;have lH:=O (jq.fr Fh (fun _ h=>absurd h id));obtain⟨gh',aj9,rW,q1,q2,q3,q4,q5,q6⟩:=Strs.acy lH.o hne;obtain rfl:gh=gh':=by injection aj9 with h;injection h
      have sN:=q5 k x (WO dN.o);have lq:=q6 k;have afj:=O (lH.o.put (j:=k) (tF x));have sx:=O (show Fr (own (.slice (some ⟨gh,0,none⟩) zb.length chh)) uL (wl.setCell ⟨gh,k,none⟩ (.string (tF x)))from(cK.step Fh (fun _ _ h=>absurd h id)).setCell (p:=⟨gh,k,none⟩) (fun _=>rfl) _);rw[WN dN.o]at afj;unfold tF at afj sx;clear q5 q6 jq cK Fh lH lp rW aj9 hne;go_wp2;go_roundw
      case rel=>exact⟨k+1,ab,a_,afj.o,sx.o⟩
      case measure=>simp[intOf];omega
     ·have py:¬(k:Int)<(zb.length:Int):=ab;have aj_:=O (show Strs u1.heap.size wr (.slice ahh zb.length chh) (zb.map tF)from by
       have h:=jq;rw[aC ab,List.drop_of_length_le ab,dR]at h;exact h)
      have apK:=O (HMV.o.fr cK HDJ.o);have HUW:=O (show Fr aR w1 wr from HUL.o.step cK (fun j hj ho=>by
       have h1:=aj_.o.block j ho;have h2:=Qn.o;omega))
      clear jq cK HHV HMV HDJ HUL;go_wp2;obtain⟨w5,rfl⟩:∃w5,w5=wr:=⟨_,rfl⟩;obtain⟨wq,hwq⟩:∃wq,wq=(w5.alloc (.cells #[] 155)).alloc (.cells #[.slice (some ⟨w5.heap.size,0,none⟩) 0 0] 90):=⟨_,rfl⟩;have hfq:Fr aR w5 wq:=by rw[hwq];exact((ae _ _).alloc _).alloc _
      have hpq:wq.heap[w5.heap.size+1]?=some (.cells #[.slice (some ⟨w5.heap.size,0,none⟩) 0 0] 90 (0,0)):=by
       have h:=aB (w5.alloc (.cells #[] 155)) (.cells #[.slice (some ⟨w5.heap.size,0,none⟩) 0 0] 90);rw[bM]at h;rw[hwq];exact h
      have pq:wq.heap[w5.heap.size]?=some (.cells #[] 155 (0,0)):=by rw[hwq];exact((ae aR _).alloc _).keep (aB _ _) id
      have HO0:=O (show OwnRows w5.heap.size 155 12 wq (.slice (some ⟨w5.heap.size,0,none⟩) 0 0) (([]:List ef).map ef.cells)from⟨aQ,rfl,Or.inr ⟨w5.heap.size,0, #[],rfl,ay _,pq,ay _,ag,rfl,rfl⟩⟩);have HPQ:=O hpq;have HFQ:=O hfq;obtain⟨bp,hbp⟩:∃bp,bp=w5.heap.size+1:=⟨_,rfl⟩;have HBP:=O (show w5.heap.size<=bp from ab)
      have pZ:=O (show w.heap.size<=w5.heap.size from by have:=mr.o.size;have:=HUW.o.size;omega);rw[<-hwq, <-hbp];rw[<-hbp]at HPQ;clear hfq hpq pq hwq hbp py hk eX;go_loopw[66] (acz w5.heap.size w5 bp MS (fun m=>rl.Ds pX m ⟨#[]⟩) []) (fun t _=>MS.length-(intOf t).toNat)
      case atStart=>exact⟨0,_,aI _,rfl,HPQ.o,HO0.o,HFQ.o⟩
      case round =>
       obtain⟨k,vk,hk,rfl,tC,cP,cK⟩:=hrel;by_cases eX:k<MS.length
       ·have py:(k:Int)<(MS.length:Int):=ab;have Om:(0:Int)<=(k:Int):=ab;have dN:=O (List.getElem?_eq_getElem eX);rcases apK.o.fH cK with ⟨_,_,_,e,_⟩|⟨bk,o,c,hf,h1,h2,h3,h4⟩
        ·rw[e]at eX;exact absurd eX (bS _)
        cases hf;unfold maxLen at h2;have hc:=h4 k _ dN.o;generalize MS[k]=x at dN hc;have lH:=O (Me (fun m=>rl.Ds pX m ⟨#[]⟩) [] dN.o);have Cs:=EM ((MS.take k).map (fun m=>rl.Ds pX m ⟨#[]⟩)) [];rw[ai,aJ,List.length_nil]at Cs;have Mg:=O (Oo.o wr (HUW.o.trans cK) w5.heap.size bp vk _ x ⟨#[]⟩ HBP.o (by have:=HMF.o;omega) tC cP);have sx:=O cK;have Se:=O cP;clear h4 tC cP cK Cs;go_wp2_with fail
        refine Mg.o.mono ?_;rintro e w6⟨rfl,v6,Bk,zF,nF⟩;have H6:=O (show afg w6 bp v6 w5.heap.size (((MS.take (k+1)).map (fun m=>rl.Ds pX m ⟨#[]⟩)).foldl qo []) w5 from⟨Bk,by rw[lH.o];exact zF,sx.o.step nF (fun j hj h=>by
         rcases h with h|h
         ·have:=HBP.o;omega
         ·have:=Se.o.block j h;omega)⟩)
        clear Bk zF nF Mg;go_wp2;go_roundw
        case rel=>exact⟨k+1,v6,ab,a_,H6.o.1,H6.o.2.1,H6.o.2.2⟩
        case measure=>simp[intOf];omega
       ·have py:¬(k:Int)<(MS.length:Int):=ab;rw[aC ab]at cP;obtain⟨pK,Dc⟩:∃pK,pK=(MS.map (fun m=>rl.Ds pX m ⟨#[]⟩)).foldl qo []:=⟨_,rfl⟩;rw[<-Dc]at cP;have Cs:=EM (MS.map (fun m=>rl.Ds pX m ⟨#[]⟩)) [];rw[<-Dc,ai,List.length_nil]at Cs;have A':=O Cs;have Fu:=O Dc;obtain⟨TZ,aaQ⟩:∃TZ,TZ=zb.map tF:=⟨_,rfl⟩;have aka:zb.length=TZ.length:=by rw[aaQ,ai]
        have HH3:=O (show fN w5 (.slice ahh zb.length chh) TZ from by rw[aaQ];exact aj_.o.at);have apM:=O (show(yJ.map fun h=>rl.Ds pX (bA []) (bA (nw h)))=TZ.map (fun h=>rl.Ds pX ⟨#[]⟩ h)from by rw[aaQ];exact HLM.o);have Fq:=O aka;have HS:=O (show afg wr bp vk w5.heap.size pK w5 from⟨tC,cP,cK⟩);clear tC cP cK Dc aaQ aka Cs eX hk;go_wp2
        go_loopw[76] (acz w5.heap.size w5 bp TZ (fun h=>rl.Ds pX ⟨#[]⟩ h) pK) (fun t _=>TZ.length-(intOf t).toNat)
        case atStart=>exact⟨0,_,aI _,rfl,HS.o.1,HS.o.2.1,HS.o.2.2⟩
        case round =>
         obtain⟨k,vk,hk,rfl,tC,cP,cK⟩:=hrel;by_cases eX:k<TZ.length
         ·have ae7:(k:Int)<(zb.length:Int):=by have:=Fq.o;omega
          have Om:(0:Int)<=(k:Int):=ab;have dN:=O (List.getElem?_eq_getElem eX);have hHs:=HH3.o.fH cK;rw[Fq.o]at hHs ae7 ⊢;rcases hHs with ⟨_,_,_,e,_⟩|⟨bk,o,c,hf,h1,h2,h3,h4⟩
          ·rw[e]at eX;exact absurd eX (bS _)
          cases hf;unfold maxLen at h2;have hc:=h4 k _ dN.o;generalize TZ[k]=x at dN hc;have lH:=O (Me (fun h=>rl.Ds pX ⟨#[]⟩ h) pK dN.o);have Cs:=EM ((TZ.take k).map (fun h=>rl.Ds pX ⟨#[]⟩ h)) pK;rw[ai,aJ]at Cs;have Mg:=O (Oo.o wr (HUW.o.trans cK) w5.heap.size bp vk _ ⟨#[]⟩ x HBP.o (by have h1:=HMF.o;have h2:=aj5.o;have h3:=A'.o;have h4:=Fq.o;omega) tC cP);have sx:=O cK;have Se:=O cP;clear h4 tC cP cK Cs
          go_wp2_with fail
          refine Mg.o.mono ?_;rintro e w6⟨rfl,v6,Bk,zF,nF⟩;have H6:=O (show afg w6 bp v6 w5.heap.size (((TZ.take (k+1)).map (fun h=>rl.Ds pX ⟨#[]⟩ h)).foldl qo pK) w5 from⟨Bk,by rw[lH.o];exact zF,sx.o.step nF (fun j hj h=>by
           rcases h with h|h
           ·have:=HBP.o;omega
           ·have:=Se.o.block j h;omega)⟩)
          clear Bk zF nF Mg;go_wp2;rw[<-Fq.o];go_roundw
          case rel=>exact⟨k+1,v6,ab,a_,H6.o.1,H6.o.2.1,H6.o.2.2⟩
          case measure=>have hln:=Fq.o;simp[intOf];omega
         ·have ae7:¬(k:Int)<(zb.length:Int):=by have:=Fq.o;omega
          rw[aC ab]at cP;obtain⟨G,hG⟩:∃G,G=(TZ.map (fun h=>rl.Ds pX ⟨#[]⟩ h)).foldl qo pK:=⟨_,rfl⟩;rw[<-hG]at cP;have HGE:=O (show GS=G from by rw[HGR.o,apM.o,hG,Fu.o,HMM.o];rfl);have HWR:=O (HUW.o.trans cK);obtain⟨av,cv,TQ⟩:=cP.form;rw[ai]at TQ;subst TQ;have Se:=O cP;have d0:wr.cell? ⟨bp,0,none⟩=some (.slice av G.length cv):=by simp[World.cell?,tC]
          have HBK:=O tC;have akc:=O (xI.o wr HWR.o _ G cP.at);obtain⟨e0,e1,e2,e3,e4,e5,e6,e7,e8,e9,e10,e11,e12⟩:=HX.o wr HWR.o;clear tC cP cK hG;have VT:=O (show RES=if !rl.ng G then .error 6 else .ok G from by rw[<-HGE.o];exact TM.o);generalize rl.ng G=cv2 at akc VT;go_wp2_with fail
          refine akc.o.mono ?_;rintro e w7⟨rfl,nI⟩;have d1:w7.cell? ⟨bp,0,none⟩=some (.slice av G.length cv):=by simp[World.cell?,nI.keep HBK.o id]
          have Gt:=O nI;clear nI e0 e1 e2 e3 e4 e5 e6 e7 e8 e9 e10 e11 e12 d0;cases cv2
          ·have HR:=O (show RES=.error 6 from VT.o);clear VT;go_wp2;go_ret2;exact wZ.bad 6 HR.o (mr.o.trans (HWR.o.trans Gt.o))
          ·have HR:=O (show RES=.ok G from VT.o);clear VT;go_wp2;go_ret2;exact wZ.OT HR.o (mr.o.trans (HWR.o.trans Gt.o)) ((Se.o.fr Gt.o (fun _ _ h=>h)).up pZ.o)
theorem WS(c:UInt8)(l:Bs):(mE c l).1.length<=l.length/\(mE c l).2.1.length<=l.length:=by
 rcases(PM c l).2 with ⟨_,e⟩|⟨_,e,e2⟩
 ·have h:=ar List.length e;rw[aM,List.length_cons]at h;exact⟨ab,ab⟩
 ·exact⟨by have h:=ar List.length e;omega,by rw[e2];exact aI _⟩
theorem Mi{l:Bs}{p:jy}(h:Dr l=some (some p)):p.1.length<=l.length/\p.2.length<=l.length:=by
 unfold Dr at h;split at h
 ·cases h
 ·split at h
  ·cases h
  ·cases h;have h1:=WS 58 (ua l);have h2:=Hm l;have h3:=Kw (mE 58 (ua l)).2.1 [32,9];refine⟨by show(mE 58 (ua l)).1.length<=_;omega,?_⟩;show(trimB _).length<=_;unfold trimB;omega
theorem tS(N:Nat):∀(ls:List Bs) (acc out:List jy),kU ls acc=.ok out->acc.length<=40->(∀l∈ls,l.length<=N)->(∀p∈acc,p.1.length<=N/\p.2.length<=N)->out.length<=40/\∀p∈out,p.1.length<=N/\p.2.length<=N
 |[],acc,out,h,ha,_,hp=>by rw[kU]at h;cases h;exact⟨ha,hp⟩
 |l :: ls,acc,out,h,ha,hl,hp=>by
  rw[kU]at h;cases hr:Dr l with
  |none=>rw[hr]at h;cases h
  |some q =>
   rw[hr]at h;cases q with
   |none=>exact tS N ls acc out h ha (fun m hm=>hl m (bN _ hm)) hp
   |some p =>
    simp only at h;split at h
    ·cases h
    ·rename_i hn;refine tS N ls (acc++[p]) out h (by rw[aM];simp only[List.length_cons,List.length_nil];omega) (fun m hm=>hl m (bN _ hm)) (fun x hx=>?_);rcases bK.1 hx with hx|hx
     ·exact hp x hx
     ·rw[cE.1 hx];have h1:=Mi hr;have h2:=hl l (cQ ..);exact⟨ab,ab⟩
theorem Jl{s:Bs}{x:List jy}(h:mQ s=.ok x):lB x:=by
 unfold mQ at h;split at h
 ·cases h
 ·have h1:=tS 3000 _ _ _ h (aI _) (fun l hl=>by have:=(BF 10 s).2 l hl;omega) (fun _ hp=>by cases hp);exact⟨ab,fun p hp=>by have:=h1.2 p hp;omega⟩
def akf(ps:List ef)(r:ra)(now:Int)(w1:World)(out t:Value)(wr:World):Prop :=
 ∃k:Nat,k<=ps.length/\t=.int .i64 k/\OwnRows w1.heap.size 155 12 wr out ((je (ps.take k) r now).map ef.cells)/\Fr aR w1 wr
theorem aaR{ps:List ef}(h:ps[k]?=some p)(hm:r.Uw now p=true):je (ps.take (k+1)) r now=je (ps.take k) r now++[p]:=by
 unfold je;rw[dW h,cC];simp[hm]
theorem WT{ps:List ef}(h:ps[k]?=some p)(hm:r.Uw now p=false):je (ps.take (k+1)) r now=je (ps.take k) r now:=by
 unfold je;rw[dW h,cC];simp[hm]
theorem aaS(base:Nat)(w:World)(b:Nat)(v:Value)(ps:List ef)(r:gq Value)(hs:List gZ)(now:Int)(h:eO base w b v ps)(hlen:ps.length<1000000) :
  Calls prog 63 #[.pointer (some ⟨b,0,none⟩),.agg r.cells.toArray,.int .i64 now] w fun e w'=>∃v',e=.returned v'/\OwnRows w.heap.size 155 12 w' v' ((je ps (r.dS hs) now).map ef.cells)/\Fr aR w w':=by
 obtain⟨rc,uS⟩:∃rc,rc=r.cells.toArray:=⟨_,rfl⟩;obtain⟨w1,oB⟩:∃w1,w1=w.alloc (.cells rc 37):=⟨_,rfl⟩;have df:Fr aR w w1:=by rw[oB];exact(ae _ _).alloc _
 have mf:w1.heap[w.heap.size]?=some (.cells rc 37 (0,0)):=by rw[oB];exact aB _ _
 have h1:=h.dh df;obtain⟨ak,ck,TQ⟩:=h.form;subst TQ;have mq:dV 12 w1 (.slice ak ps.length ck) (ps.map ef.cells):=h1.rows.at
 have HC:=O (show∀U,Fr aR w1 U->U.cell? ⟨w.heap.size,1,none⟩=some (.bool r.dm.aF)/\U.cell? ⟨w.heap.size,2,none⟩=some (.string r.dm.host)/\U.cell? ⟨w.heap.size,3,none⟩=some (.int .i64 r.dm.port)/\U.cell? ⟨w.heap.size,4,none⟩=some (.bool r.o.aF)/\U.cell? ⟨w.heap.size,5,none⟩=some (.string r.o.host)/\U.cell? ⟨w.heap.size,6,none⟩=some (.int .i64 r.o.port)/\U.cell? ⟨w.heap.size,7,none⟩=some (.string r.path)/\U.cell? ⟨w.heap.size,8,none⟩=some (.string r.query)/\U.cell? ⟨w.heap.size,11,none⟩=some (.bool r.fU)from fun U hU=>by
  have j:=hU.keep mf id;rw[uS]at j;have hc:∀i u,r.cells[i]?=some u->U.cell? ⟨w.heap.size,i,none⟩=some u:=fun i u hu=>by simp only[World.cell?,j];simpa using hu
  exact⟨hc 1 _ rfl,hc 2 _ rfl,hc 3 _ rfl,hc 4 _ rfl,hc 5 _ rfl,hc 6 _ rfl,hc 7 _ rfl,hc 8 _ rfl,hc 11 _ rfl⟩)
 have HM:=O (show∀p:ef,(r.dS hs).Uw now p=(p.alive now&&(p.dm.ll r.dm&&((p.o.ll r.o&&(p.path.toList==r.path.toList&&p.query.toList==r.query.toList))&&(p.fU||!r.fU))))from fun _=>rfl);generalize r.dS hs=rl at HM ⊢;have c0:=h1.c0;rw[oB]at c0;have IG:=O oB;have k_:=O df;have Cp:w.heap.size<=w1.heap.size:=df.size;rw[<-uS];clear oB df mf h1 h uS;go_enter func63,ntmps63;go_wp2_with fail
 rw[<-IG.o];go_loopw[7,15] (akf ps rl now w1) (fun _ t _=>ps.length-(intOf t).toNat)
 case atStart=>exact⟨0,aI _,rfl,dv _ _ _ _,ae _ _⟩
 case round =>
  obtain⟨k,hk,rfl,ho,cK⟩:=hrel;obtain⟨ao,co,MY⟩:=ho.form;rw[ai]at MY;subst MY;have Tw:(je (ps.take k) rl now).length<=1000000:=by
   have h1:=bQ (rl.Uw now) (ps.take k);rw[aJ]at h1;unfold je;omega
  by_cases eX:k<ps.length
  ·have py:(k:Int)<(ps.length:Int):=ab;have dN:=O (List.getElem?_eq_getElem eX);generalize ps[k]=p at dN;have lZ:dV 12 wr (.slice ak ps.length ck) (ps.map ef.cells):=bg mq cK;rcases lZ.2 with ⟨_,_,_,e,_⟩|⟨bk,of,c,hf,g1,g2,g3,g4⟩
   ·have:ps.length=0:=by have:=ar List.length e;simpa using this
    omega
   rw[ai]at hf g1;cases hf;unfold maxLen at g2;obtain⟨x,hx⟩:∃x,x=p.cells:=⟨_,rfl⟩;have lF:x.length=12:=by rw[hx];rfl
   have dY:∀u∈x,u.oneCell'=true:=by rw[hx];exact p.uk
   have hcell:=g4 k x (by rw[List.getElem?_map,dN.o,hx];rfl);have jq:=fun W=>run_storeCells_new (P:=prog) W 155 FJ x (by rw[lF];rfl) dY;have D8:(prog.info? 155).map (·.size)=some x.length:=Bo lF;have afn:=O (show(prog.info? 155).map (·.size)=some x.toArray.size by rw[aW];exact D8);clear g4 lZ;have HX:=O hx;have IP:=O D8;have xE:=O dY;have apT:=O (aB wr (.cells x.toArray 155))
   have dy:Fr aR wr (wr.alloc (.cells x.toArray 155)):=(ae _ _).alloc _;have HP:=O (show∀U,Fr aR (wr.alloc (.cells x.toArray 155)) U->U.heap[wr.heap.size]?=some (.cells x.toArray 155 (0,0))from fun U hU=>hU.keep (aB _ _) id)
   have HPC:=O (show∀U,Fr aR (wr.alloc (.cells x.toArray 155)) U->U.cell? ⟨wr.heap.size,0,none⟩=some (.bool p.dm.aF)/\U.cell? ⟨wr.heap.size,1,none⟩=some (.string p.dm.host)/\U.cell? ⟨wr.heap.size,2,none⟩=some (.int .i64 p.dm.port)/\U.cell? ⟨wr.heap.size,3,none⟩=some (.bool p.o.aF)/\U.cell? ⟨wr.heap.size,4,none⟩=some (.string p.o.host)/\U.cell? ⟨wr.heap.size,5,none⟩=some (.int .i64 p.o.port)/\U.cell? ⟨wr.heap.size,6,none⟩=some (.string p.path)/\U.cell? ⟨wr.heap.size,7,none⟩=some (.string p.query)/\U.cell? ⟨wr.heap.size,8,none⟩=some (.bool p.fU)from fun U hU=>by
    have j:=HP.o U hU;rw[HX.o]at j;have hc:∀i u,p.cells[i]?=some u->U.cell? ⟨wr.heap.size,i,none⟩=some u:=fun i u hu=>by simp only[World.cell?,j];simpa using hu
    exact⟨hc 0 _ rfl,hc 1 _ rfl,hc 2 _ rfl,hc 3 _ rfl,hc 4 _ rfl,hc 5 _ rfl,hc 6 _ rfl,hc 7 _ rfl,hc 8 _ rfl⟩)
   have A':=O (show∀U,Calls prog 124 #[.agg x.toArray,.int .i64 now] U fun e w'=>e=.returned (.bool (p.alive now))/\Fr aR U w' from fun U=>by rw[HX.o];exact G3 p now U);have hwr:w.heap.size<=wr.heap.size:=by have:=cK.size;omega
   have sx:=O (cK.trans dy);have HO:=O (show∀U,Fr aR (wr.alloc (.cells x.toArray 155)) U->OwnRows w1.heap.size 155 12 U (.slice ao (je (ps.take k) rl now).length co) ((je (ps.take k) rl now).map ef.cells)from fun U hU=>(ho.alloc _).fr hU (fun _ _ h=>h));have T3:=O (HM.o p);have EO:=O (fun hm=>aaR (r:=rl) (now:=now) dN.o hm);have w_:=O (fun hm=>WT (r:=rl) (now:=now) dN.o hm)
   obtain⟨fs,kJ⟩:∃fs,fs=je (ps.take k) rl now:=⟨_,rfl⟩;rw[<-kJ]at HO EO w_ Tw ⊢;clear hx D8 dY ho dy cK kJ;go_wp2_with (first|((with_reducible refine cY 18 ?_);refine aU rfl 155 (.tmp 17) rfl bk (of+k*12) rfl x _ hcell underlying155 rfl IP.o ?_)|((with_reducible refine cY 19 ?_);refine aH rfl 155 (.tmp 9) rfl wr.heap.size rfl _ x.toArray (0,0) _ apT.o underlying155 rfl afn.o ?_)|fail)
   have GJ:=wD x #[.bool false,.string ⟨#[]⟩,.int .i64 0,.bool false,.string ⟨#[]⟩,.int .i64 0,.string ⟨#[]⟩,.string ⟨#[]⟩,.bool false,.string ⟨#[]⟩,.string ⟨#[]⟩,.int .i64 0] (by rw[lF];rfl);clear jq hcell;generalize wr.alloc (.cells x.toArray 155)=W2 at *
   refine(A'.o W2).mono ?_;rintro e w3⟨rfl,iv⟩;obtain⟨p0,p1,p2,p3,p4,p5,p6,p7,p8⟩:=HPC.o w3 iv;have ic:=O (sx.o.trans iv);obtain⟨r1,r2,r3,r4,r5,r6,r7,r8,r11⟩:=HC.o w3 ic.o;have OE:=O (HP.o w3 iv);have yp:=O (HO.o w3 iv);have h33:w1.heap.size<=w3.heap.size:=ic.o.size;have heq:=jz p.dm r.dm;have heu:=Ag p.o p.path p.query r.o r.path r.query;clear A' HP HPC iv;cases ea:p.alive now
   ·have HN:=O (w_.o (by rw[T3.o,ea];rfl));clear T3 EO w_ ea heq heu;go_wp2;go_roundw
    case rel=>exact⟨k+1,ab,a_,by rw[HN.o];exact yp.o,ic.o⟩
    case measure=>simp[intOf];omega
   ·cases e1:p.dm.ll r.dm
    ·rw[e1]at heq;have HN:=O (w_.o (by rw[T3.o,ea,e1];rfl));clear T3 EO w_ ea e1 heu;go_wp2;go_roundw
     case rel=>exact⟨k+1,ab,a_,by rw[HN.o];exact yp.o,ic.o⟩
     case measure=>simp[intOf];omega
    ·rw[e1]at heq;cases e2:(p.o.ll r.o&&(p.path.toList==r.path.toList&&p.query.toList==r.query.toList))
     ·rw[e2]at heu;have HN:=O (w_.o (by rw[T3.o,ea,e1,e2];rfl));clear T3 EO w_ ea e1 e2;go_wp2;go_roundw
      case rel=>exact⟨k+1,ab,a_,by rw[HN.o];exact yp.o,ic.o⟩
      case measure=>simp[intOf];omega
     ·rw[e2]at heu;cases e3:p.fU
      ·rw[e3]at p8;cases e4:r.fU
       ·rw[e4]at r11;have HY:=O (EO.o (by rw[T3.o,ea,e1,e2,e3,e4];rfl));clear T3 EO w_ ea e1 e2 e3 e4
        go_wp2_with (first|((with_reducible refine cY 46 ?_);refine aH rfl 155 (.tmp 9) rfl wr.heap.size rfl _ x.toArray (0,0) _ OE.o underlying155 rfl afn.o ?_)|(at_builtin;refine nQ rfl _ _ 90 155 rfl 12 144 (.agg FJ) underlying90 Bp rfl ag ag w1.heap.size (.slice ao fs.length co) (fs.map ef.cells) rfl (yp.o.alloc _) w3.heap.size 1 x rfl lF xE.o (fun i u hi=>by rw[World.cell?_alloc_mark];simpa using hi) (by rw[ai];omega) bG ?_;intro v' w4 eY Ct))
        have jV:=O ((ic.o.alloc (.cells x.toArray 155)).fQ Ct (fun j hj=>yp.o.block j hj));go_roundw
        case rel=>exact⟨k+1,ab,a_,by rw[HY.o,bH,cA,dn, <-HX.o];exact eY,jV.o⟩
        case measure=>simp[intOf];omega
       ·rw[e4]at r11;have HN:=O (w_.o (by rw[T3.o,ea,e1,e2,e3,e4];rfl));clear T3 EO w_ ea e1 e2 e3 e4;go_wp2;go_roundw
        case rel=>exact⟨k+1,ab,a_,by rw[HN.o];exact yp.o,ic.o⟩
        case measure=>simp[intOf];omega
      ·rw[e3]at p8;have HY:=O (EO.o (by rw[T3.o,ea,e1,e2,e3];rfl));clear T3 EO w_ ea e1 e2 e3
       go_wp2_with (first|((with_reducible refine cY 46 ?_);refine aH rfl 155 (.tmp 9) rfl wr.heap.size rfl _ x.toArray (0,0) _ OE.o underlying155 rfl afn.o ?_)|(at_builtin;refine nQ rfl _ _ 90 155 rfl 12 144 (.agg FJ) underlying90 Bp rfl ag ag w1.heap.size (.slice ao fs.length co) (fs.map ef.cells) rfl (yp.o.alloc _) w3.heap.size 1 x rfl lF xE.o (fun i u hi=>by rw[World.cell?_alloc_mark];simpa using hi) (by rw[ai];omega) bG ?_;intro v' w4 eY Ct))
       have jV:=O ((ic.o.alloc (.cells x.toArray 155)).fQ Ct (fun j hj=>yp.o.block j hj));go_roundw
       case rel=>exact⟨k+1,ab,a_,by rw[HY.o,bH,cA,dn, <-HX.o];exact eY,jV.o⟩
       case measure=>simp[intOf];omega
  ·have py:¬(k:Int)<(ps.length:Int):=ab;have Q3:ps.take k=ps:=aC ab;rw[Q3]at ho Tw ⊢;obtain⟨fs,kJ⟩:∃fs,fs=je ps rl now:=⟨_,rfl⟩;rw[<-kJ]at ho Tw ⊢;have HO:=O ho;have HEQ:=O kJ;clear ho kJ;go_wp2;go_ret;exact⟨.slice ao fs.length co,rfl,by rw[<-HEQ.o];exact HO.o.up Cp,k_.o.trans cK⟩
def x_(ws:List (bI bD)):Prop:=ws.Pairwise fun x y=>Bm x.o x.proxy y=false
theorem Et{o:gz}{proxy:Bool}{x:bI bD}:Bm o proxy x=true↔x.o=o/\x.proxy=proxy:=by
 unfold Bm;rw[cD,gz.xj,dT]
theorem rB(o:gz)(proxy:Bool):∀ws:List (bI bD),(mj o proxy ws).1.Sublist ws
 |[]=>List.Sublist.slnil
 |g :: l=>by
  rw[mj];split
  ·exact List.sublist_cons_self _ _
  ·exact(rB o proxy l).cons_cons _
theorem Eu{o:gz}{proxy:Bool}:∀ {ws:List (bI bD)},x_ ws->∀x∈(mj o proxy ws).1,Bm o proxy x=false
 |[],_,x,hx=>by cases hx
 |g :: l,hu,x,hx=>by
  have hu':=List.pairwise_cons.1 hu;rw[mj]at hx;cases hg:Bm o proxy g
  ·rw[hg]at hx;simp only[cG,eU]at hx;rcases bB.1 hx with rfl|hx
   ·exact hg
   ·exact Eu hu'.2 x hx
  ·rw[hg,az rfl]at hx;have hx:x∈l:=hx;obtain⟨e1,e2⟩:=Et.1 hg;have:=hu'.1 x hx;rw[e1,e2]at this;exact this
theorem x_.sub{ws l:List (bI bD)}(h:x_ ws)(hs:l.Sublist ws):x_ l:=List.Pairwise.sublist hs h
theorem x_.ask{ws:List (bI bD)}(h:x_ ws)(m:bI bD):x_ (Ac ws m):=by
 unfold Ac;refine x_.sub (ws:=(mj m.o m.proxy ws).1++[m]) ?_ (List.drop_sublist _ _);unfold x_;rw[List.pairwise_append];refine⟨h.sub (rB _ _ _),List.pairwise_singleton _ _,fun x hx y hy=>?_⟩;rw[cE]at hy;subst hy;have:=Eu h x hx;rw[Bool.eq_false_iff]at this ⊢;intro e;obtain⟨e1,e2⟩:=Et.1 e;exact this (Et.2 ⟨e1.symm,e2.symm⟩)
def FK(gs:List (aP bD)):Prop:=∀g∈gs,0<=g.count
structure nr (p:dM):Prop where
 uniq:x_ p.waits
 nat:FK p.bF
 tG:p.bF.length<=8/\p.waits.length<=8/\p.book.length<=32/\p.dE.length<=8
theorem nr.no:nr yM:=⟨List.Pairwise.nil,fun _ h=>(by cases h),ag⟩
theorem FK.filter(h:FK gs)(f:aP bD->Bool):FK (gs.filter f):=fun g hg=>h g (fb.1 hg).1
theorem FK.put(h:FK gs){g:aP bD}(hg:0<=g.count):FK (vP gs g):=by
 unfold vP;intro x hx;have hx:=ez hx;rcases bK.1 hx with hx|hx
 ·exact h x (fb.1 hx).1
 ·rw[cE]at hx;rw[hx];exact hg
theorem LJ(gs:List (aP bD))(g:aP bD):(vP gs g).length<=8/\1<=(vP gs g).length:=by
 unfold vP;simp only[bJ,aM,List.length_singleton];omega
theorem Z6(h:FK gs)(o:gz)(proxy:Bool)(path:aj):FK (vQ gs o proxy path).1/\(vQ gs o proxy path).1.length<=gs.length:=by
 unfold vQ;split
 ·split
  ·rename_i g hg;have hk:=(List.getElem?_eq_some_iff.1 hg).1;have hl:FK (gs.take (uh gs o proxy path).toNat++gs.drop ((uh gs o proxy path).toNat+1)):=fun x hx=>by
    rcases bK.1 hx with hx|hx
    ·exact h x (dX hx)
    ·exact h x (ez hx)
   simp only;split
   ·refine⟨hl,?_⟩;simp only[aM,aJ,bJ];omega
   ·refine⟨fun x hx=>?_,?_⟩
    ·rcases bK.1 hx with hx|hx
     ·exact hl x hx
     ·rw[cE]at hx;rw[hx];have:=h g (bT hg);show 0<=g.count+1;omega
    ·simp only[aM,aJ,bJ,List.length_singleton];omega
  ·exact⟨h,ay _⟩
 ·exact⟨h,ay _⟩
theorem nr.sF{p:dM}(h:nr p)(now:Int)(o:iz):nr (sF p now o).1:=by
 obtain⟨hu,hn,f1,f2,f3,f4⟩:=h;unfold Go.Proofs.YtnckmcnffadjoaaGreatDoor.sF;by_cases h1:o.what=1
 ·rw[az h1];have hU:=Z6 hn o.o o.proxy o.path;unfold iw;split
  ·rename_i gs e he;rw[he]at hU;exact⟨hu,hU.1,aD hU.2 f1,f2,f3,f4⟩
  ·rename_i gs g he;rw[he]at hU;split
   ·exact⟨hu,hU.1.filter _,aD (bQ _ _) (aD hU.2 f1),f2,f3,f4⟩
   ·exact⟨hu,hU.1,aD hU.2 f1,f2,f3,f4⟩
 rw[aq h1];by_cases h2:o.what=2
 ·rw[az h2];unfold fJ;split
  ·exact⟨hu,hn,f1,f2,f3,f4⟩
  ·rename_i l _;split
   ·split
    ·rename_i g hg;have hc:0<=g.count:=by
      unfold Es at hg;split at hg
      ·split at hg
       ·cases hg;exact fG _
       ·cases hg
      ·cases hg
     exact⟨hu,hn.put hc,(LJ _ _).1,f2,f3,f4⟩
    ·exact⟨hu.ask _,hn.filter _,aD (bQ _ _) f1,VB _ _,f3,f4⟩
   ·exact⟨hu,hn,f1,f2,f3,f4⟩
 rw[aq h2];by_cases h3:o.what=3
 ·rw[az h3];have hs:=rB o.o o.proxy p.waits;unfold fV;split
  ·rename_i ws e;rw[e]at hs;exact⟨hu.sub hs,hn,f1,aD hs.length_le f2,f3,f4⟩
  ·rename_i ws x e;rw[e]at hs;exact⟨hu.sub hs,hn.put (fG _),(LJ _ _).1,aD hs.length_le f2,f3,f4⟩
 rw[aq h3];by_cases h4:o.what=4
 ·rw[az h4];exact⟨hu,hn,f1,f2,f3,f4⟩
 rw[aq h4];by_cases h5:o.what=5
 ·rw[az h5];unfold gP;split
  ·exact⟨hu,hn,f1,f2,f3,f4⟩
  ·split
   ·exact⟨hu,hn,f1,f2,aD (bQ _ _) f3,f4⟩
   ·exact⟨hu,hn,f1,f2,KB _ _ _,f4⟩
 rw[aq h5];by_cases h6:o.what=6
 ·rw[az h6];exact⟨hu,hn,f1,f2,f3,f4⟩
 rw[aq h6];by_cases h7:o.what=7
 ·rw[az h7];unfold jR;split
  ·exact⟨hu,hn,f1,f2,f3,f4⟩
  ·refine⟨hu,hn,f1,f2,f3,?_⟩;show(xZ p.dE o.o o.cert).length<=8;unfold xZ;simp only[bJ];omega
 rw[aq h7];unfold pA;split
 ·exact nr.no
 ·have UG:nr (uT p o.o):=⟨hu.sub List.filter_sublist,hn.filter _,aD (bQ _ _) f1,aD (bQ _ _) f2,f3,f4⟩;split
  ·exact⟨UG.uniq,UG.nat,UG.tG.1,UG.tG.2.1,aD (bQ _ _) f3,aD (bQ _ _) f4⟩
  ·exact UG
structure ya (w:dx):Prop where
 part:∀k,nr (w.part k)
 now:0<=w.now/\w.now<=1099511627776
theorem ya.new:ya yN:=⟨fun _=>nr.no,ag,ag⟩
theorem ya.iC{w:dx}(h:ya w)(o:iz):ya (iC w o).1:=by
 cases hr:o.right
 ·rw[th hr];exact h
 ·by_cases hw:o.what=10
  ·rw[rX hr hw];split
   ·exact h
   ·rename_i hn;refine⟨h.part,?_⟩;show 0<=w.now+o.n/\w.now+o.n<=1099511627776;have:=h.now;omega
  ·rw[qt hr hw];refine⟨fun k=>?_,h.now⟩;by_cases hk:k=o.part.toNat
   ·subst hk;rw[kR];exact(h.part _).sF _ _
   ·rw[mW _ _ hk];exact h.part k
