/- Covers, DigAdd. -/
import Derived.Test.YtjdmjbdkdmbaiaaGreatDoorPk12
import Derived.Test.YtjdmjbdkdmbaiaaGreatDoorPk22
set_option maxRecDepth 100000
set_option maxHeartbeats 16000000
set_option linter.unusedSimpArgs false
namespace Go.Proofs.YtjdmjbdkdmbaiaaGreatDoor
open Go.RowKit
structure dp (D:Type) where
 part:Int
 aI:cO
 o:cO
 path:ByteArray
 query:ByteArray
 method:ByteArray
 cU:D
 bP:Bool
 body:ByteArray
def dp.cells(r:dp Value):List Value:=[.int .i64 r.part,.bool r.aI.ae,.string r.aI.host,.int .i64 r.aI.port,.bool r.o.ae,.string r.o.host,.int .i64 r.o.port,.string r.path,.string r.query,.string r.method,r.cU,.bool r.bP,.string r.body]
def dp.bF{D:Type}(r:dp D)(hs:List dW):lu:=⟨r.aI,r.o,r.path,r.query,r.method,hs,r.bP⟩
def oV(w:World)(v:Value)(ps:List bI):Prop:=aN 12 w v (ps.map bI.cells)
def Cd(x:List Value):bI:=⟨⟨cB x 0,cS x 1,cI x 2⟩,⟨cB x 3,cS x 4,cI x 5⟩,cS x 6,cS x 7,cB x 8,cS x 9,cS x 10,cI x 11⟩
theorem yz(ps:List bI)(f:bI->Bool):(ps.map bI.cells).any (fun x=>f (Cd x))=ps.any f:=by
 rw[List.any_map];rfl
theorem OY(p:bI)(m:ByteArray)(r:dp Value)(bm br:Nat)(w:World)(hm:w.heap[bm]?=some (.cells #[.string m] 9 (0,0)))(hr:w.heap[br]?=some (.cells r.cells.toArray 29 (0,0))) :
  Calls Tryz.prog 147 #[.agg p.cells.toArray,.pointer (some ⟨bm,0,none⟩),.pointer (some ⟨br,0,none⟩)] w fun e w'=>e=.returned (.bool (p.lets m r.bP))/\Fr ay w w':=by
 unfold bI.cells;unfold dp.cells at hr;have dF:Fr ay w _:=(Fr.refl ay w).alloc (.cells #[.bool p.aI.ae,.string p.aI.host,.int .i64 p.aI.port,.bool p.o.ae,.string p.o.host,.int .i64 p.o.port,.string p.path,.string p.query,.bool p.bP,.string p.method,.string p.head,.int .i64 p.kB] 65);have CX:=dF.keep hm (fun h=>h);have kR:=dF.keep hr (fun h=>h)
 have cm:(w.alloc (.cells #[.bool p.aI.ae,.string p.aI.host,.int .i64 p.aI.port,.bool p.o.ae,.string p.o.host,.int .i64 p.o.port,.string p.path,.string p.query,.bool p.bP,.string p.method,.string p.head,.int .i64 p.kB] 65)).cell? ⟨bm,0,none⟩=some (.string m):=by simp[World.cell?,CX]
 clear CX;have nj:=O dF;cases e1:(p.method.toList==m.toList)
 ·cases e2:(p.method.toList==star)
  ·have HR:=O (show p.lets m r.bP=false by unfold bI.lets;rw[e1,e2];rfl);have WX:(p.method.toList== [42])=false:=e2;clear dF hm hr e2;go_enter Tryz.func147,Tryz.ntmps147;go_wp2;go_ret;exact⟨by rw[HR.out];rfl,nj.out⟩
  ·have WX:(p.method.toList== [42])=true:=e2;have cw:(w.alloc (.cells #[.bool p.aI.ae,.string p.aI.host,.int .i64 p.aI.port,.bool p.o.ae,.string p.o.host,.int .i64 p.o.port,.string p.path,.string p.query,.bool p.bP,.string p.method,.string p.head,.int .i64 p.kB] 65)).cell? ⟨br,11,none⟩=some (.bool r.bP):=by simp[World.cell?,kR]
   cases e3:r.bP
   ·have HR:=O (show p.lets m false=true by unfold bI.lets;rw[e1,e2];rfl);rw[e3]at cw;clear dF hm hr e2 kR e3;go_enter Tryz.func147,Tryz.ntmps147;go_wp2;go_ret;exact⟨by rw[HR.out];rfl,nj.out⟩
   ·have HR:=O (show p.lets m true=false by unfold bI.lets;rw[e1,e2];rfl);rw[e3]at cw;clear dF hm hr e2 kR e3;go_enter Tryz.func147,Tryz.ntmps147;go_wp2;go_ret;exact⟨by rw[HR.out];rfl,nj.out⟩
 ·have HR:=O (show p.lets m r.bP=true by unfold bI.lets;rw[e1];rfl);clear dF hm hr;go_enter Tryz.func147,Tryz.ntmps147;go_wp2;go_ret;exact⟨by rw[HR.out];rfl,nj.out⟩
theorem Er(p:bI)(m:ByteArray)(r:dp Value)(bm br:Nat)(w:World)(hm:w.heap[bm]?=some (.cells #[.string m] 9 (0,0)))(hr:w.heap[br]?=some (.cells r.cells.toArray 29 (0,0))) :
  Calls Tryz.prog 149 #[.agg p.cells.toArray,.pointer (some ⟨bm,0,none⟩),.pointer (some ⟨br,0,none⟩)] w fun e w'=>e=.returned (.bool (p.iq m r.bP))/\Fr ay w w':=by
 unfold bI.cells;unfold dp.cells at hr;have dF:Fr ay w _:=(Fr.refl ay w).alloc (.cells #[.bool p.aI.ae,.string p.aI.host,.int .i64 p.aI.port,.bool p.o.ae,.string p.o.host,.int .i64 p.o.port,.string p.path,.string p.query,.bool p.bP,.string p.method,.string p.head,.int .i64 p.kB] 65);have CX:=dF.keep hm (fun h=>h);have kR:=dF.keep hr (fun h=>h)
 have cm:(w.alloc (.cells #[.bool p.aI.ae,.string p.aI.host,.int .i64 p.aI.port,.bool p.o.ae,.string p.o.host,.int .i64 p.o.port,.string p.path,.string p.query,.bool p.bP,.string p.method,.string p.head,.int .i64 p.kB] 65)).cell? ⟨bm,0,none⟩=some (.string m):=by simp[World.cell?,CX]
 clear CX;have nj:=O dF;cases e1:(p.head.toList==m.toList)
 ·cases e2:(p.head.toList==star)
  ·have HR:=O (show p.iq m r.bP=false by unfold bI.iq;rw[e1,e2];rfl);have WX:(p.head.toList== [42])=false:=e2;clear dF hm hr e2;go_enter Tryz.func149,Tryz.ntmps149;go_wp2;go_ret;exact⟨by rw[HR.out];rfl,nj.out⟩
  ·have WX:(p.head.toList== [42])=true:=e2;have cw:(w.alloc (.cells #[.bool p.aI.ae,.string p.aI.host,.int .i64 p.aI.port,.bool p.o.ae,.string p.o.host,.int .i64 p.o.port,.string p.path,.string p.query,.bool p.bP,.string p.method,.string p.head,.int .i64 p.kB] 65)).cell? ⟨br,11,none⟩=some (.bool r.bP):=by simp[World.cell?,kR]
   cases e3:r.bP
   ·rw[e3]at cw;cases e4:(m.toList==WC)
    ·have HR:=O (show p.iq m false=true by unfold bI.iq;rw[e1,e2];unfold bne;rw[e4];rfl);have e4':(m.toList== [97,117,116,104,111,114,105,122,97,116,105,111,110])=false:=e4;clear dF hm hr e2 kR e3 e4;go_enter Tryz.func149,Tryz.ntmps149;go_wp2;go_ret;exact⟨by rw[HR.out];rfl,nj.out⟩
    ·have HR:=O (show p.iq m false=false by unfold bI.iq;rw[e1,e2];unfold bne;rw[e4];rfl);have e4':(m.toList== [97,117,116,104,111,114,105,122,97,116,105,111,110])=true:=e4;clear dF hm hr e2 kR e3 e4;go_enter Tryz.func149,Tryz.ntmps149;go_wp2;go_ret;exact⟨by rw[HR.out];rfl,nj.out⟩
   ·have HR:=O (show p.iq m true=false by unfold bI.iq;rw[e1,e2];rfl);rw[e3]at cw;clear dF hm hr e2 kR e3;go_enter Tryz.func149,Tryz.ntmps149;go_wp2;go_ret;exact⟨by rw[HR.out];rfl,nj.out⟩
 ·have HR:=O (show p.iq m r.bP=true by unfold bI.iq;rw[e1];rfl);clear dF hm hr;go_enter Tryz.func149,Tryz.ntmps149;go_wp2;go_ret;exact⟨by rw[HR.out];rfl,nj.out⟩
theorem yA(g:Nat)(cap:Array Value)(p:List Value->Bool)(v:Value)(xs:List (List Value))(bl:Nat)(w:World)(eg:∀args w,(callFunc g args).run Tryz.prog w=.ok (.enter g args) w)(hp:dn ay w g cap p xs)(hv:aN 12 w v xs)(hl:w.heap[bl]?=some (.cells #[v] 60 (0,0))) :
  Calls Tryz.prog 145 #[.func (.func g) #[] cap,.pointer (some ⟨bl,0,none⟩)] w fun e w'=>e=.returned (.bool (xs.any p))/\Fr ay w w':=by
 have hc:=O (wR g cap p v xs w eg hp hv);obtain⟨av,cv,rfl⟩:=hv.form;have c0:w.cell? ⟨bl,0,none⟩=some (.slice av xs.length cv):=by simp[World.cell?,hl]
 clear hv hl hp;go_enter Tryz.func145,Tryz.ntmps145;go_wp2_with fail
 refine hc.out.mono ?_;rintro e u⟨rfl,hf⟩;go_wp2;go_ret;exact⟨rfl,hf⟩
def AQ(r:dp Value)(hs:List dW):Prop:=r.method.size<100000/\hs.length<100000/\∀p∈hs,p.1.size<100000/\p.2.size<100000
def Xj(hs:List ByteArray)(bP:Bool)(ps:List bI)(w:World)(t:Value)(wr:World):Prop :=
 ∃k:Nat,k<=hs.length/\t=.int .i64 k/\(hs.take k).all (fun h=>ps.any (bI.iq h bP))=true/\Fr ay w wr
theorem oC{α:Type}{p:α->Bool}{l:List α}{k:Nat}{x:α}(h:l[k]?=some x)(hn:(l.take k).all p=true)(hp:p x=true):(l.take (k+1)).all p=true:=by
 rw[bz h,List.all_append,hn];simp[hp]
theorem sG{α:Type}{p:α->Bool}{l:List α}{k:Nat}{x:α}(h:l[k]?=some x)(hp:p x=false):l.all p=false:=by
 rw[List.all_eq_false];exact⟨x,List.mem_of_getElem? h,by simp[hp]⟩
theorem sH(r:dp Value)(hs:List dW)(v:Value)(ps:List bI)(w:World)(hr:kU w r.cU hs)(hv:oV w v ps)(hz:AQ r hs) :
  Calls Tryz.prog 75 #[.agg r.cells.toArray,v] w fun e w'=>e=.returned (.bool ((r.bF hs).iA ps))/\Fr ay w w':=by
 have di:=O (show(r.bF hs).iA ps=((lp (eD r.method)||ps.any (bI.lets (eD r.method) r.bP))&&(rQ hs).all fun h=>ps.any (bI.iq h r.bP))from rfl);generalize (r.bF hs).iA ps=res at di ⊢;obtain⟨av,cv,D9⟩:=aN.form hv;rw[List.length_map]at D9;subst D9;obtain⟨ah,ch,df⟩:=aN.form hr;rw[List.length_map]at df;obtain⟨rc,nw⟩:∃rc,rc=r.cells.toArray:=⟨_,rfl⟩
 obtain⟨wb,eQ⟩:∃wb,wb=(w.alloc (.cells rc 29)).alloc (.cells #[.slice av ps.length cv] 60):=⟨_,rfl⟩;have fa:Fr ay w wb:=by rw[eQ];exact((Fr.refl ay w).alloc _).alloc _
 have hsb:wb.heap.size=w.heap.size+2:=by rw[eQ];simp
 have gZ:wb.heap[w.heap.size]?=some (.cells rc 29 (0,0)):=by rw[eQ];exact((Fr.refl ay _).alloc _).keep (af _ _) (fun h=>h)
 have ng:wb.heap[w.heap.size+1]?=some (.cells #[.slice av ps.length cv] 60 (0,0)):=by
  have h:=af (w.alloc (.cells rc 29)) (.cells #[.slice av ps.length cv] 60);rw[World.size_alloc]at h;rw[eQ];exact h
 have HC:=O (show∀U,Fr ay wb U->U.heap[w.heap.size]?=some (.cells r.cells.toArray 29 (0,0))/\U.heap[w.heap.size+1]?=some (.cells #[.slice av ps.length cv] 60 (0,0))from fun U hU=>⟨by rw[<-nw];exact hU.keep gZ (fun h=>h),hU.keep ng (fun h=>h)⟩)
 have HX:=O (show∀U,Fr ay wb U->U.cell? ⟨w.heap.size,9,none⟩=some (.string r.method)/\U.cell? ⟨w.heap.size,10,none⟩=some (.slice ah hs.length ch)from fun U hU=>by
  have j:=(HC.out U hU).1;unfold dp.cells at j;rw[df]at j;simp[World.cell?,j])
 have HV:=O (show∀U,Fr ay w U->oV U (.slice av ps.length cv) ps from fun U hU=>aN.bu hv hU);have HH:=O (show∀U,Fr ay w U->kU U (.slice ah hs.length ch) hs from fun U hU=>by rw[<-df];exact aN.bu hr hU);have HZ:=O hz;have gS:=O fa;have lq:=O eQ;have Jc:=O nw;clear hv hr hz fa eQ gZ ng;rw[<-nw];clear nw;obtain⟨c9,FT⟩:=HX.out wb (Fr.refl _ _);rw[lq.out]at c9 FT;go_enter Tryz.func75,Tryz.ntmps75
 go_wp2_with fail
 rw[<-lq.out];refine(rP r.method wb HZ.out.1).mono ?_;rintro e u1⟨rfl,bt⟩;obtain⟨m,hm⟩:∃m,m=eD r.method:=⟨_,rfl⟩;rw[<-hm]at di ⊢;clear hm;obtain⟨w1,jt⟩:∃w1,w1=u1.alloc (.cells #[.string m] 9):=⟨_,rfl⟩;have hmb:w1.heap[u1.heap.size]?=some (.cells #[.string m] 9 (0,0)):=by rw[jt];exact af _ _
 have bq:Fr ay wb w1:=by rw[jt];exact bt.alloc _
 have D3:=O jt;have gV:=O bq;have k0:w1.cell? ⟨u1.heap.size,0,none⟩=some (.string m):=by simp[World.cell?,hmb]
 have HMB:=O hmb;clear bt bq c9 FT jt hmb;go_wp2_with fail
 rw[<-D3.out];refine(F9 m w1).mono ?_;rintro e u2⟨rfl,rfl⟩
 -- the method is allowed
 have Xk:=O (show Calls Tryz.prog 145 #[.func (.func 147) #[] #[.pointer (some ⟨u1.heap.size,0,none⟩),.pointer (some ⟨w.heap.size,0,none⟩)],.pointer (some ⟨w.heap.size+1,0,none⟩)] w1 fun e w'=>e=.returned (.bool (ps.any (bI.lets m r.bP)))/\Fr ay w1 w' from by
  rw[<-yz];refine yA _ _ (fun x=>bI.lets m r.bP (Cd x)) _ _ _ w1 Tryz.call147 ?_ (HV.out w1 (gS.out.trans gV.out)) (HC.out w1 gV.out).2;intro x hx u hu;obtain⟨p,hp,rfl⟩:=List.mem_map.1 hx;exact OY p m r _ _ u (hu.keep HMB.out (fun h=>h)) ((HC.out u (gV.out.trans hu)).1))
 cases kz:lp m
 ·cases nv:ps.any (bI.lets m r.bP)
  ·have HR:=O (show res=false by rw[di.out,kz,nv];rfl);rw[nv]at Xk;clear kz nv di;go_wp2_with fail
   refine Xk.out.mono ?_;rintro e u3⟨rfl,dv⟩;go_wp2;go_ret;exact⟨by rw[HR.out];rfl,(gS.out.trans gV.out).trans dv⟩
  ·have GW:=O (show res=(rQ hs).all (fun h=>ps.any (bI.iq h r.bP))by rw[di.out,kz,nv];rfl);rw[nv]at Xk;clear kz nv di;go_wp2_with fail
   refine Xk.out.mono ?_;rintro e u3⟨rfl,dv⟩;have dV:=O (gV.out.trans dv);obtain⟨c9,FT⟩:=HX.out _ dV.out;clear dv Xk;go_wp2_with fail
   refine(Af hs _ u3 (HH.out u3 (gS.out.trans dV.out)) HZ.out.2.1 HZ.out.2.2).mono ?_;rintro e u4⟨uv,rfl,fR,bT⟩;obtain⟨au,cu,huf⟩:=fR.form;obtain⟨nl,mn⟩:∃nl,nl=rQ hs:=⟨_,rfl⟩;rw[<-mn]at fR huf GW;subst huf;have fu:=O (dV.out.trans bT);have jn:=O fR.at;clear bT fR mn c9 FT;go_wp2;go_loopw[26] (Xj nl r.bP ps u4) (fun i _=>nl.length-(intOf i).toNat)
   case atStart=>exact⟨0,Nat.zero_le _,rfl,rfl,Fr.refl _ _⟩
   case round =>
    obtain⟨k,hk,rfl,dy,aW⟩:=hrel;have uR:=O dy;clear dy;by_cases cG:k<nl.length
    ·have lf:(k:Int)<(nl.length:Int):=by omega
     rcases jn.out.bu aW with ⟨_,_,_,e,_⟩|⟨bk,o,c,hf,h1,h2,h3,h4⟩
     ·rw[e]at cG;exact absurd cG (Nat.not_lt_zero _)
     ·cases hf;unfold maxLen at h2;have bC:=O (List.getElem?_eq_getElem cG);have hc:=h4 k _ bC.out;generalize nl[k]=x at bC hc;clear h4;obtain⟨wx,GX⟩:∃wx,wx=wr.alloc (.cells #[.string x] 9):=⟨_,rfl⟩;have TZ:wx.heap[wr.heap.size]?=some (.cells #[.string x] 9 (0,0)):=by rw[GX];exact af _ _
      have Dm:Fr ay wr wx:=by rw[GX];exact(Fr.refl _ _).alloc _
      have xi:=O ((fu.out.trans aW).trans Dm);have UM:=O (show Calls Tryz.prog 145 #[.func (.func 149) #[] #[.pointer (some ⟨wr.heap.size,0,none⟩),.pointer (some ⟨w.heap.size,0,none⟩)],.pointer (some ⟨w.heap.size+1,0,none⟩)] wx fun e w'=>e=.returned (.bool (ps.any (bI.iq x r.bP)))/\Fr ay wx w' from by
       rw[<-yz];refine yA _ _ (fun y=>bI.iq x r.bP (Cd y)) _ _ _ wx Tryz.call149 ?_ (HV.out wx (gS.out.trans xi.out)) (HC.out wx xi.out).2;intro y hy u hu;obtain⟨p,hp,rfl⟩:=List.mem_map.1 hy;exact Er p x r _ _ u (hu.keep TZ (fun h=>h)) ((HC.out u (xi.out.trans hu)).1))
      have M6:=O GX;have py:=O (aW.trans Dm);clear GX;cases dL:ps.any (bI.iq x r.bP)
      ·have HR:=O (show res=false by rw[GW.out];exact sG bC.out dL);rw[dL]at UM;clear dL;go_wp2_with fail
       rw[<-M6.out];refine UM.out.mono ?_;rintro e u6⟨rfl,jz⟩;go_wp2;go_ret;exact⟨by rw[HR.out];rfl,(gS.out.trans xi.out).trans jz⟩
      ·have kT:=O (oC bC.out uR.out dL);rw[dL]at UM;clear dL;go_wp2_with fail
       rw[<-M6.out];refine UM.out.mono ?_;rintro e u6⟨rfl,jz⟩;go_wp2;go_roundw
       case rel=>exact⟨k+1,by omega,by go_num,kT.out,py.out.trans jz⟩
       case measure=>simp[intOf];omega
    ·have lf:¬(k:Int)<(nl.length:Int):=by omega
     have HR:=O (show res=true by rw[GW.out];have h:=uR.out;rwa [List.take_of_length_le (by omega)]at h);go_wp2;go_ret;exact⟨by rw[HR.out];rfl,gS.out.trans (fu.out.trans aW)⟩
 ·have GW:=O (show res=(rQ hs).all (fun h=>ps.any (bI.iq h r.bP))by rw[di.out,kz];simp);clear kz di Xk;obtain⟨c9,FT⟩:=HX.out _ gV.out;go_wp2_with fail
  refine(Af hs _ w1 (HH.out w1 (gS.out.trans gV.out)) HZ.out.2.1 HZ.out.2.2).mono ?_;rintro e u4⟨uv,rfl,fR,bT⟩;obtain⟨au,cu,huf⟩:=fR.form;obtain⟨nl,mn⟩:∃nl,nl=rQ hs:=⟨_,rfl⟩;rw[<-mn]at fR huf GW;subst huf;have fu:=O (gV.out.trans bT);have jn:=O fR.at;clear bT fR mn c9 FT;go_wp2;go_loopw[26] (Xj nl r.bP ps u4) (fun i _=>nl.length-(intOf i).toNat)
  case atStart=>exact⟨0,Nat.zero_le _,rfl,rfl,Fr.refl _ _⟩
  case round =>
   obtain⟨k,hk,rfl,dy,aW⟩:=hrel;have uR:=O dy;clear dy;by_cases cG:k<nl.length
   ·have lf:(k:Int)<(nl.length:Int):=by omega
    rcases jn.out.bu aW with ⟨_,_,_,e,_⟩|⟨bk,o,c,hf,h1,h2,h3,h4⟩
    ·rw[e]at cG;exact absurd cG (Nat.not_lt_zero _)
    ·cases hf;unfold maxLen at h2;have bC:=O (List.getElem?_eq_getElem cG);have hc:=h4 k _ bC.out;generalize nl[k]=x at bC hc;clear h4;obtain⟨wx,GX⟩:∃wx,wx=wr.alloc (.cells #[.string x] 9):=⟨_,rfl⟩;have TZ:wx.heap[wr.heap.size]?=some (.cells #[.string x] 9 (0,0)):=by rw[GX];exact af _ _
     have Dm:Fr ay wr wx:=by rw[GX];exact(Fr.refl _ _).alloc _
     have xi:=O ((fu.out.trans aW).trans Dm);have UM:=O (show Calls Tryz.prog 145 #[.func (.func 149) #[] #[.pointer (some ⟨wr.heap.size,0,none⟩),.pointer (some ⟨w.heap.size,0,none⟩)],.pointer (some ⟨w.heap.size+1,0,none⟩)] wx fun e w'=>e=.returned (.bool (ps.any (bI.iq x r.bP)))/\Fr ay wx w' from by
      rw[<-yz];refine yA _ _ (fun y=>bI.iq x r.bP (Cd y)) _ _ _ wx Tryz.call149 ?_ (HV.out wx (gS.out.trans xi.out)) (HC.out wx xi.out).2;intro y hy u hu;obtain⟨p,hp,rfl⟩:=List.mem_map.1 hy;exact Er p x r _ _ u (hu.keep TZ (fun h=>h)) ((HC.out u (xi.out.trans hu)).1))
     have M6:=O GX;have py:=O (aW.trans Dm);clear GX;cases dL:ps.any (bI.iq x r.bP)
     ·have HR:=O (show res=false by rw[GW.out];exact sG bC.out dL);rw[dL]at UM;clear dL;go_wp2_with fail
      rw[<-M6.out];refine UM.out.mono ?_;rintro e u6⟨rfl,jz⟩;go_wp2;go_ret;exact⟨by rw[HR.out];rfl,(gS.out.trans xi.out).trans jz⟩
     ·have kT:=O (oC bC.out uR.out dL);rw[dL]at UM;clear dL;go_wp2_with fail
      rw[<-M6.out];refine UM.out.mono ?_;rintro e u6⟨rfl,jz⟩;go_wp2;go_roundw
      case rel=>exact⟨k+1,by omega,by go_num,kT.out,py.out.trans jz⟩
      case measure=>simp[intOf];omega
   ·have lf:¬(k:Int)<(nl.length:Int):=by omega
    have HR:=O (show res=true by rw[GW.out];have h:=uR.out;rwa [List.take_of_length_le (by omega)]at h);go_wp2;go_ret;exact⟨by rw[HR.out];rfl,gS.out.trans (fu.out.trans aW)⟩
theorem Lu(r:dp Value)(hs:List dW)(w:World)(hr:kU w r.cU hs)(hz:AQ r hs) :
  Calls Tryz.prog 28 #[.agg r.cells.toArray] w fun e w'=>e=.returned (.bool (r.bF hs).needs)/\Fr ay w w':=by
 have di:=O (show(r.bF hs).needs=(!r.aI.eN r.o&&!(r.bF hs).iA [])from rfl);generalize (r.bF hs).needs=res at di ⊢;have hne:=vO r.aI r.o;obtain⟨wb,eQ⟩:∃wb,wb=w.alloc (.cells r.cells.toArray 29):=⟨_,rfl⟩;have fa:Fr ay w wb:=by rw[eQ];exact(Fr.refl ay w).alloc _
 have gZ:wb.heap[w.heap.size]?=some (.cells r.cells.toArray 29 (0,0)):=by rw[eQ];exact af _ _
 have iE:∀i u,r.cells[i]?=some u->wb.cell? ⟨w.heap.size,i,none⟩=some u:=fun i u hu=>by
  simp only[World.cell?,gZ];simpa using hu
 have c1:=iE 1 _ rfl;have c2:=iE 2 _ rfl;have c3:=iE 3 _ rfl;have c4:=iE 4 _ rfl;have c5:=iE 5 _ rfl;have c6:=iE 6 _ rfl;have wS:=O (sH r hs (.slice none 0 0) [] wb (aN.bu hr fa) (show aN 12 wb _ []from⟨by simp,Or.inl ⟨_,_,rfl,rfl,fun _=>rfl⟩⟩) hz);have gS:=O fa;have c7:=iE 7 _ rfl;have c8:=iE 8 _ rfl;have c9:=iE 9 _ rfl;have FT:=iE 10 _ rfl;have Xl:=iE 11 _ rfl;have c12:=iE 12 _ rfl
 have c0:=iE 0 _ rfl;obtain⟨ah,ch,df⟩:=aN.form hr;rw[List.length_map]at df;have nw:r.cells=[.int .i64 r.part,.bool r.aI.ae,.string r.aI.host,.int .i64 r.aI.port,.bool r.o.ae,.string r.o.host,.int .i64 r.o.port,.string r.path,.string r.query,.string r.method,.slice ah hs.length ch,.bool r.bP,.string r.body]:=by unfold dp.cells;rw[df]
 rw[df]at FT;rw[nw]at wS eQ ⊢;have lq:=O eQ;clear df nw iE gZ fa eQ hr hz;cases e1:r.aI.eN r.o
 ·have HR:=O (show res=!(r.bF hs).iA []by rw[di.out,e1];rfl);rw[e1]at hne;clear di e1;rw[lq.out]at c0 c1 c2 c3 c4 c5 c6 c7 c8 c9 FT Xl c12;go_enter Tryz.func28,Tryz.ntmps28;go_wp2_with fail
  rw[<-lq.out];refine wS.out.mono ?_;rintro e u⟨rfl,hf⟩;go_wp2;go_ret;exact⟨by rw[HR.out];rfl,gS.out.trans hf⟩
 ·have HR:=O (show res=false by rw[di.out,e1];rfl);rw[e1]at hne;clear di e1;rw[lq.out]at c0 c1 c2 c3 c4 c5 c6 c7 c8 c9 FT Xl c12;have HF:=O (lq.out▸gS.out);go_enter Tryz.func28,Tryz.ntmps28;go_wp2;go_ret;exact⟨by rw[HR.out];rfl,HF.out⟩
theorem pM.off{S:Nat->Prop}{B b:Nat}{l:List UInt8}{w w':World}(h:pM B b l w)(hf:Fr S w w')(hb:¬S b)(hS:∀g cur fz,w.heap[g]?=some (.cells cur 5 fz)->¬S g):pM B b l w':=by
 have key:∀p,Lib.BuilderAtF 161 5 B b p (nT l) w->Lib.BuilderAtF 161 5 B b p (nT l) w':=by
  rintro p⟨hB,v,hv,⟨hx,hr⟩,hne⟩;refine⟨hB,v,hf.keep hv hb,⟨hx,?_⟩,hne⟩;rcases hr with hr|⟨g,cap,cur,fz,rfl,h1,hg,h2⟩
  ·exact Or.inl hr
  ·exact Or.inr ⟨g,cap,cur,fz,rfl,h1,hf.keep hg (hS g cur fz hg),h2⟩
 exact h.elim (fun x=>Or.inl (key _ x)) (fun x=>Or.inr (key _ x))
theorem pM.bu{B b:Nat}{l:List UInt8}{w w':World}(h:pM B b l w)(hf:Fr ay w w'):pM B b l w':=h.off hf (fun h=>h) (fun _ _ _ _ h=>h)
def tJ(w:World)(d:Nat)(x:Bool):Prop:=w.heap[d]?=some (.cells #[.bool x] 4 (0,0))
theorem tJ.Gk{b d:Nat}{x:Bool}{w w':World}(h:tJ w d x)(ho:afF b w w')(hd:d≠b):tJ w' d x :=
 ho d _ h (by simpa using hd) (fun c fz e=>by injection e with _ e2;exact absurd e2 (by decide))
def uU(q:Bool)(v:Bs):Bs:=if q then(if jk v then cL v else [])else v
def uV(q:Bool)(v:Bs):Bool:=q&&!jk v
def kW(l nm x:Bs):Bs:=l++((if 7<l.length then [44,32]else [])++(nm++61 :: x))
def T'(B b d:Nat)(l:Bs)(bad:Bool)(nm v:Bs)(q:Bool)(w:World)(e:Ending)(w':World):Prop :=
 e=.returned (.tuple #[])/\pM B b (kW l nm (uU q v)) w'/\tJ w' d (bad||uV q v)/\Below B w w'
theorem SM(a b:Bs):bA a++⟨#[61]⟩++bA b=bA (a++61 :: b):=by
 apply Go.WideShapes.bytes_inj;simp[bA]
theorem DT(v:Bs):(cL v).length<=2*v.length+2:=by
 have:=IQ v;unfold cL;simp;omega
theorem Ua(B b d:Nat)(l nm v:Bs)(bad q:Bool)(w:World)(h:pM B b l w)(hd:tJ w d bad)(hne:d≠b)(FZ:B<=d)(hn:nm.length<=1000)(hv:v.length<=100000)(hl:l.length<=100000000)(hB:B<=w.heap.size) :
  Calls Tryz.prog 94 #[.string (bA nm),.string (bA v),.bool q,.pointer (some ⟨d,0,none⟩),.pointer (some ⟨b,0,none⟩)] w (T' B b d l bad nm v q w):=by
 have z1:(bA nm).size=nm.length:=rfl;have z2:(bA v).size=v.length:=rfl;have z3:(⟨#[61]⟩:ByteArray).size=1:=rfl;cases q with
 |false =>
  have MX:uU false v=v:=rfl;go_enter Tryz.func94,Tryz.ntmps94;go_wp2_with fail
  refine(pN B b l w h).mono ?_;rintro e wl⟨rfl,rfl⟩;by_cases h7:7<l.length
  ·have Ub:(7:Int)<(l.length:Int):=by omega
   go_wp2_with fail
   refine(bE B b l ⟨#[44,32]⟩ w h (by show l.length+2<=_;omega) (Nat.le_trans hB (Below.refl B w).size)).mono ?_;rintro e wx⟨rfl,mB,Ac,BQ⟩;have KL:=(hd).Gk BQ hne;have nE:=O ((Below.refl B w).trans Ac);clear BQ Ac;go_wp2_with fail
   rw[show bA nm++⟨#[61]⟩++bA v=bA (nm++61 :: v)from SM nm v];refine(bE B b _ (bA (nm++61 :: v)) wx mB (by show(l++[44,32]).length+(nm++61 :: v).length<=_;simp;omega) (Nat.le_trans hB nE.out.size)).mono ?_;rintro e wy⟨rfl,mi,Am,BS⟩;have BU:=KL.Gk BS hne;go_wp2;go_end0;refine⟨rfl,?_,(by rw[show uV false v=false from rfl,Bool.or_false];exact BU),nE.out.trans Am⟩
   have e:kW l nm v=l++(⟨#[44,32]⟩:ByteArray).data.toList++(bA (nm++61 :: v)).data.toList:=by unfold kW;rw[if_pos h7,cN];simp
   rw[MX,e];exact mi
  ·have Ub:¬(7:Int)<(l.length:Int):=by omega
   go_wp2_with fail
   rw[show bA nm++⟨#[61]⟩++bA v=bA (nm++61 :: v)from SM nm v];refine(bE B b l (bA (nm++61 :: v)) w h (by show l.length+(nm++61 :: v).length<=_;simp;omega) (Nat.le_trans hB (Below.refl B w).size)).mono ?_;rintro e wy⟨rfl,mi,Am,BS⟩;have BU:=(hd).Gk BS hne;go_wp2;go_end0;refine⟨rfl,?_,(by rw[show uV false v=false from rfl,Bool.or_false];exact BU),(Below.refl B w).trans Am⟩
   have e:kW l nm v=l++(bA (nm++61 :: v)).data.toList:=by unfold kW;rw[if_neg h7,cN];simp
   rw[MX,e];exact mi
 |true =>
  have c0:∀U,Fr ay w U->U.cell? ⟨d,0,none⟩=some (.bool bad)/\U.frozen? ⟨d,0,none⟩=false:=fun U hU=>by
   have h1:=hU.keep hd (fun h=>h);exact⟨by simp[World.cell?,h1],by simp[World.frozen?,h1]⟩
  have N0:=O c0;clear c0;cases ht:jk v with
  |true =>
   have MX:uU true v=cL v:=by unfold uU;rw[ht];rfl
   have Uc:uV true v=false:=by unfold uV;rw[ht];rfl
   have hql:=DT v;have z4:(bA (cL v)).size=(cL v).length:=rfl;go_enter Tryz.func94,Tryz.ntmps94;go_wp2_with fail
   refine(zP (bA v) w (by omega)).mono ?_;rintro e w1⟨rfl,bt⟩;rw[cN,if_pos ht];obtain⟨k0,k1⟩:=N0.out w1 bt;obtain⟨w2,bK⟩:∃w2,w2=w1.setCell ⟨d,0,none⟩ (.bool bad):=⟨_,rfl⟩;have zl:=bt.keep hd (fun h=>h);have qE:tJ w2 d bad:=by rw[bK];exact aP zl 0 (.bool bad)
   have bq:Fr (one d) w1 w2:=by rw[bK];exact(Fr.refl (one d) w1).setCell (p:=⟨d,0,none⟩) (fun _=>rfl) _
   have fC:pM B b l w2:=(h.bu bt).off bq (fun e=>hne e.symm) (fun g cur fz hg e=>by have e':g=d:=e;subst e';rw[zl]at hg;injection hg with hg;injection hg with _ hg;exact absurd hg (by decide));have mj:=O (show Below B w w2 from((Fr.bQ bt).mono hB).trans (by rw[bK];exact(Below.refl B w1).setCell (p:=⟨d,0,none⟩) FZ _));have ka:=O bK;clear bK bt bq zl;have hee:(⟨(cL v).toArray⟩:ByteArray)=bA (cL v):=rfl
   rw[hee];cases bad with
   |true =>
    go_wp2_with fail
    rw[<-ka.out];refine(pN B b l w2 fC).mono ?_;rintro e wl⟨rfl,rfl⟩;by_cases h7:7<l.length
    ·have Ub:(7:Int)<(l.length:Int):=by omega
     go_wp2_with fail
     refine(bE B b l ⟨#[44,32]⟩ w2 fC (by show l.length+2<=_;omega) (Nat.le_trans hB (mj.out).size)).mono ?_;rintro e wx⟨rfl,mB,Ac,BQ⟩;have KL:=(qE).Gk BQ hne;have nE:=O ((mj.out).trans Ac);clear BQ Ac;go_wp2_with fail
     rw[show bA nm++⟨#[61]⟩++bA (cL v)=bA (nm++61 :: (cL v))from SM nm (cL v)];refine(bE B b _ (bA (nm++61 :: (cL v))) wx mB (by show(l++[44,32]).length+(nm++61 :: (cL v)).length<=_;simp;omega) (Nat.le_trans hB nE.out.size)).mono ?_;rintro e wy⟨rfl,mi,Am,BS⟩;have BU:=KL.Gk BS hne;go_wp2;go_end0;refine⟨rfl,?_,(by rw[Uc];exact BU),nE.out.trans Am⟩
     have e:kW l nm (cL v)=l++(⟨#[44,32]⟩:ByteArray).data.toList++(bA (nm++61 :: (cL v))).data.toList:=by unfold kW;rw[if_pos h7,cN];simp
     rw[MX,e];exact mi
    ·have Ub:¬(7:Int)<(l.length:Int):=by omega
     go_wp2_with fail
     rw[show bA nm++⟨#[61]⟩++bA (cL v)=bA (nm++61 :: (cL v))from SM nm (cL v)];refine(bE B b l (bA (nm++61 :: (cL v))) w2 fC (by show l.length+(nm++61 :: (cL v)).length<=_;simp;omega) (Nat.le_trans hB (mj.out).size)).mono ?_;rintro e wy⟨rfl,mi,Am,BS⟩;have BU:=(qE).Gk BS hne;go_wp2;go_end0;refine⟨rfl,?_,(by rw[Uc];exact BU),(mj.out).trans Am⟩
     have e:kW l nm (cL v)=l++(bA (nm++61 :: (cL v))).data.toList:=by unfold kW;rw[if_neg h7,cN];simp
     rw[MX,e];exact mi
   |false =>
    go_wp2_with fail
    rw[<-ka.out];refine(pN B b l w2 fC).mono ?_;rintro e wl⟨rfl,rfl⟩;by_cases h7:7<l.length
    ·have Ub:(7:Int)<(l.length:Int):=by omega
     go_wp2_with fail
     refine(bE B b l ⟨#[44,32]⟩ w2 fC (by show l.length+2<=_;omega) (Nat.le_trans hB (mj.out).size)).mono ?_;rintro e wx⟨rfl,mB,Ac,BQ⟩;have KL:=(qE).Gk BQ hne;have nE:=O ((mj.out).trans Ac);clear BQ Ac;go_wp2_with fail
     rw[show bA nm++⟨#[61]⟩++bA (cL v)=bA (nm++61 :: (cL v))from SM nm (cL v)];refine(bE B b _ (bA (nm++61 :: (cL v))) wx mB (by show(l++[44,32]).length+(nm++61 :: (cL v)).length<=_;simp;omega) (Nat.le_trans hB nE.out.size)).mono ?_;rintro e wy⟨rfl,mi,Am,BS⟩;have BU:=KL.Gk BS hne;go_wp2;go_end0;refine⟨rfl,?_,(by rw[Uc];exact BU),nE.out.trans Am⟩
     have e:kW l nm (cL v)=l++(⟨#[44,32]⟩:ByteArray).data.toList++(bA (nm++61 :: (cL v))).data.toList:=by unfold kW;rw[if_pos h7,cN];simp
     rw[MX,e];exact mi
    ·have Ub:¬(7:Int)<(l.length:Int):=by omega
     go_wp2_with fail
     rw[show bA nm++⟨#[61]⟩++bA (cL v)=bA (nm++61 :: (cL v))from SM nm (cL v)];refine(bE B b l (bA (nm++61 :: (cL v))) w2 fC (by show l.length+(nm++61 :: (cL v)).length<=_;simp;omega) (Nat.le_trans hB (mj.out).size)).mono ?_;rintro e wy⟨rfl,mi,Am,BS⟩;have BU:=(qE).Gk BS hne;go_wp2;go_end0;refine⟨rfl,?_,(by rw[Uc];exact BU),(mj.out).trans Am⟩
     have e:kW l nm (cL v)=l++(bA (nm++61 :: (cL v))).data.toList:=by unfold kW;rw[if_neg h7,cN];simp
     rw[MX,e];exact mi
  |false =>
   have MX:uU true v=[]:=by unfold uU;rw[ht];rfl
   have Uc:uV true v=true:=by unfold uV;rw[ht];rfl
   have z4:(bA []).size=0:=rfl;go_enter Tryz.func94,Tryz.ntmps94;go_wp2_with fail
   refine(zP (bA v) w (by omega)).mono ?_;rintro e w1⟨rfl,bt⟩;rw[cN,ht];simp only[Bool.false_eq_true,if_false];obtain⟨k0,k1⟩:=N0.out w1 bt;obtain⟨w2,bK⟩:∃w2,w2=w1.setCell ⟨d,0,none⟩ (.bool true):=⟨_,rfl⟩;have zl:=bt.keep hd (fun h=>h);have qE:tJ w2 d true:=by rw[bK];exact aP zl 0 (.bool true)
   have bq:Fr (one d) w1 w2:=by rw[bK];exact(Fr.refl (one d) w1).setCell (p:=⟨d,0,none⟩) (fun _=>rfl) _
   have fC:pM B b l w2:=(h.bu bt).off bq (fun e=>hne e.symm) (fun g cur fz hg e=>by have e':g=d:=e;subst e';rw[zl]at hg;injection hg with hg;injection hg with _ hg;exact absurd hg (by decide));have mj:=O (show Below B w w2 from((Fr.bQ bt).mono hB).trans (by rw[bK];exact(Below.refl B w1).setCell (p:=⟨d,0,none⟩) FZ _));have ka:=O bK;clear bK bt bq zl;have hee:(⟨#[]⟩:ByteArray)=bA []:=rfl;rw[hee]
   cases bad with
   |true =>
    go_wp2_with fail
    rw[<-ka.out];refine(pN B b l w2 fC).mono ?_;rintro e wl⟨rfl,rfl⟩;by_cases h7:7<l.length
    ·have Ub:(7:Int)<(l.length:Int):=by omega
     go_wp2_with fail
     refine(bE B b l ⟨#[44,32]⟩ w2 fC (by show l.length+2<=_;omega) (Nat.le_trans hB (mj.out).size)).mono ?_;rintro e wx⟨rfl,mB,Ac,BQ⟩;have KL:=(qE).Gk BQ hne;have nE:=O ((mj.out).trans Ac);clear BQ Ac;go_wp2_with fail
     rw[show bA nm++⟨#[61]⟩++bA []=bA (nm++61 :: [])from SM nm []];refine(bE B b _ (bA (nm++61 :: [])) wx mB (by show(l++[44,32]).length+(nm++61 :: []).length<=_;simp;omega) (Nat.le_trans hB nE.out.size)).mono ?_;rintro e wy⟨rfl,mi,Am,BS⟩;have BU:=KL.Gk BS hne;go_wp2;go_end0;refine⟨rfl,?_,(by rw[Uc,Bool.or_true];exact BU),nE.out.trans Am⟩
     have e:kW l nm []=l++(⟨#[44,32]⟩:ByteArray).data.toList++(bA (nm++61 :: [])).data.toList:=by unfold kW;rw[if_pos h7,cN];simp
     rw[MX,e];exact mi
    ·have Ub:¬(7:Int)<(l.length:Int):=by omega
     go_wp2_with fail
     rw[show bA nm++⟨#[61]⟩++bA []=bA (nm++61 :: [])from SM nm []];refine(bE B b l (bA (nm++61 :: [])) w2 fC (by show l.length+(nm++61 :: []).length<=_;simp;omega) (Nat.le_trans hB (mj.out).size)).mono ?_;rintro e wy⟨rfl,mi,Am,BS⟩;have BU:=(qE).Gk BS hne;go_wp2;go_end0;refine⟨rfl,?_,(by rw[Uc,Bool.or_true];exact BU),(mj.out).trans Am⟩
     have e:kW l nm []=l++(bA (nm++61 :: [])).data.toList:=by unfold kW;rw[if_neg h7,cN];simp
     rw[MX,e];exact mi
   |false =>
    go_wp2_with fail
    rw[<-ka.out];refine(pN B b l w2 fC).mono ?_;rintro e wl⟨rfl,rfl⟩;by_cases h7:7<l.length
    ·have Ub:(7:Int)<(l.length:Int):=by omega
     go_wp2_with fail
     refine(bE B b l ⟨#[44,32]⟩ w2 fC (by show l.length+2<=_;omega) (Nat.le_trans hB (mj.out).size)).mono ?_;rintro e wx⟨rfl,mB,Ac,BQ⟩;have KL:=(qE).Gk BQ hne;have nE:=O ((mj.out).trans Ac);clear BQ Ac;go_wp2_with fail
     rw[show bA nm++⟨#[61]⟩++bA []=bA (nm++61 :: [])from SM nm []];refine(bE B b _ (bA (nm++61 :: [])) wx mB (by show(l++[44,32]).length+(nm++61 :: []).length<=_;simp;omega) (Nat.le_trans hB nE.out.size)).mono ?_;rintro e wy⟨rfl,mi,Am,BS⟩;have BU:=KL.Gk BS hne;go_wp2;go_end0;refine⟨rfl,?_,(by rw[Uc,Bool.or_true];exact BU),nE.out.trans Am⟩
     have e:kW l nm []=l++(⟨#[44,32]⟩:ByteArray).data.toList++(bA (nm++61 :: [])).data.toList:=by unfold kW;rw[if_pos h7,cN];simp
     rw[MX,e];exact mi
    ·have Ub:¬(7:Int)<(l.length:Int):=by omega
     go_wp2_with fail
     rw[show bA nm++⟨#[61]⟩++bA []=bA (nm++61 :: [])from SM nm []];refine(bE B b l (bA (nm++61 :: [])) w2 fC (by show l.length+(nm++61 :: []).length<=_;simp;omega) (Nat.le_trans hB (mj.out).size)).mono ?_;rintro e wy⟨rfl,mi,Am,BS⟩;have BU:=(qE).Gk BS hne;go_wp2;go_end0;refine⟨rfl,?_,(by rw[Uc,Bool.or_true];exact BU),(mj.out).trans Am⟩
     have e:kW l nm []=l++(bA (nm++61 :: [])).data.toList:=by unfold kW;rw[if_neg h7,cN];simp
     rw[MX,e];exact mi
end Go.Proofs.YtjdmjbdkdmbaiaaGreatDoor
