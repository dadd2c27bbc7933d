/- Lemmas for the law's walk. -/
import Derived.Test.YtjndhcngnghpiaaGreatDoorPn9
set_option maxRecDepth 100000
set_option maxHeartbeats 16000000
set_option linter.unusedSimpArgs false
namespace Go.Proofs.YtjndhcngnghpiaaGreatDoor
open Go.Proofs.Tryz
open Go.RowKit
variable {D:Type} {k B b base:Nat} {S:dB} {l:aH} {w w':World}
structure gl (D:Type) where
 part:Int
 cW:gq
 o:gq
 path:aj
 query:aj
 method:aj
 en:D
 fN:Bool
 body:aj
def gl.cells(r:gl Value):aX:=[.int .i64 r.part,.bool r.cW.aE,.string r.cW.host,.int .i64 r.cW.port,.bool r.o.aE,.string r.o.host,.int .i64 r.o.port,.string r.path,.string r.query,.string r.method,r.en,.bool r.fN,.string r.body]
def gl.dS(r:gl D)(hs:List gY):qO:=⟨r.cW,r.o,r.path,r.query,r.method,hs,r.fN⟩
def qF(w:World)(v:Value)(ps:List ef):Prop:=dV 12 w v (ps.map ef.cells)
def Ia(x:aX):ef:=⟨⟨cB x 0,cS x 1,cI x 2⟩,⟨cB x 3,cS x 4,cI x 5⟩,cS x 6,cS x 7,cB x 8,cS x 9,cS x 10,cI x 11⟩
theorem DM(ps:List ef)(f:ef->Bool):(ps.map ef.cells).any (fun x=>f (Ia x))=ps.any f:=by
 rw[List.any_map];rfl
theorem U9(p:ef)(m:aj)(r:gl Value)(bm br:Nat)(w:World)(hm:w.heap[bm]?=some (.cells #[.string m] 9 (0,0)))(hr:w.heap[br]?=some (.cells r.cells.toArray 29 (0,0))) :
  aB 127 #[.agg p.cells.toArray,.pointer (some ⟨bm,0,none⟩),.pointer (some ⟨br,0,none⟩)] w fun e w'=>e=.returned (.bool (p.lets m r.fN))/\Fr aS w w':=by
 unfold ef.cells;unfold gl.cells at hr;have gO:Fr aS w _:=(ae aS w).alloc (.cells #[.bool p.cW.aE,.string p.cW.host,.int .i64 p.cW.port,.bool p.o.aE,.string p.o.host,.int .i64 p.o.port,.string p.path,.string p.query,.bool p.fN,.string p.method,.string p.head,.int .i64 p.pL] 137);have Je:=gO.keep hm id;have ob:=gO.keep hr id
 have cm:(w.alloc (.cells #[.bool p.cW.aE,.string p.cW.host,.int .i64 p.cW.port,.bool p.o.aE,.string p.o.host,.int .i64 p.o.port,.string p.path,.string p.query,.bool p.fN,.string p.method,.string p.head,.int .i64 p.pL] 137)).cell? ⟨bm,0,none⟩=some (.string m):=by simp[World.cell?,Je]
 clear Je;have rT:=O gO;cases e1:(p.method.toList==m.toList)
 ·cases e2:(p.method.toList==star)
  ·have HR:=O (show p.lets m r.fN=false by unfold ef.lets;rw[e1,e2];rfl);have e2':(p.method.toList== [42])=false:=e2;clear gO hm hr e2;go_enter func127,ntmps127;go_wp2;go_ret;exact⟨by rw[HR.o];rfl,rT.o⟩
  ·have e2':(p.method.toList== [42])=true:=e2;have cw:(w.alloc (.cells #[.bool p.cW.aE,.string p.cW.host,.int .i64 p.cW.port,.bool p.o.aE,.string p.o.host,.int .i64 p.o.port,.string p.path,.string p.query,.bool p.fN,.string p.method,.string p.head,.int .i64 p.pL] 137)).cell? ⟨br,11,none⟩=some (.bool r.fN):=by simp[World.cell?,ob]
   cases e3:r.fN
   ·have HR:=O (show p.lets m false=true by unfold ef.lets;rw[e1,e2];rfl);rw[e3]at cw;clear gO hm hr e2 ob e3;go_enter func127,ntmps127;go_wp2;go_ret;exact⟨by rw[HR.o];rfl,rT.o⟩
   ·have HR:=O (show p.lets m true=false by unfold ef.lets;rw[e1,e2];rfl);rw[e3]at cw;clear gO hm hr e2 ob e3;go_enter func127,ntmps127;go_wp2;go_ret;exact⟨by rw[HR.o];rfl,rT.o⟩
 ·have HR:=O (show p.lets m r.fN=true by unfold ef.lets;rw[e1];rfl);clear gO hm hr;go_enter func127,ntmps127;go_wp2;go_ret;exact⟨by rw[HR.o];rfl,rT.o⟩
theorem KP(p:ef)(m:aj)(r:gl Value)(bm br:Nat)(w:World)(hm:w.heap[bm]?=some (.cells #[.string m] 9 (0,0)))(hr:w.heap[br]?=some (.cells r.cells.toArray 29 (0,0))) :
  aB 129 #[.agg p.cells.toArray,.pointer (some ⟨bm,0,none⟩),.pointer (some ⟨br,0,none⟩)] w fun e w'=>e=.returned (.bool (p.mR m r.fN))/\Fr aS w w':=by
 unfold ef.cells;unfold gl.cells at hr;have gO:Fr aS w _:=(ae aS w).alloc (.cells #[.bool p.cW.aE,.string p.cW.host,.int .i64 p.cW.port,.bool p.o.aE,.string p.o.host,.int .i64 p.o.port,.string p.path,.string p.query,.bool p.fN,.string p.method,.string p.head,.int .i64 p.pL] 137);have Je:=gO.keep hm id;have ob:=gO.keep hr id
 have cm:(w.alloc (.cells #[.bool p.cW.aE,.string p.cW.host,.int .i64 p.cW.port,.bool p.o.aE,.string p.o.host,.int .i64 p.o.port,.string p.path,.string p.query,.bool p.fN,.string p.method,.string p.head,.int .i64 p.pL] 137)).cell? ⟨bm,0,none⟩=some (.string m):=by simp[World.cell?,Je]
 clear Je;have rT:=O gO;cases e1:(p.head.toList==m.toList)
 ·cases e2:(p.head.toList==star)
  ·have HR:=O (show p.mR m r.fN=false by unfold ef.mR;rw[e1,e2];rfl);have e2':(p.head.toList== [42])=false:=e2;clear gO hm hr e2;go_enter func129,ntmps129;go_wp2;go_ret;exact⟨by rw[HR.o];rfl,rT.o⟩
  ·have e2':(p.head.toList== [42])=true:=e2;have cw:(w.alloc (.cells #[.bool p.cW.aE,.string p.cW.host,.int .i64 p.cW.port,.bool p.o.aE,.string p.o.host,.int .i64 p.o.port,.string p.path,.string p.query,.bool p.fN,.string p.method,.string p.head,.int .i64 p.pL] 137)).cell? ⟨br,11,none⟩=some (.bool r.fN):=by simp[World.cell?,ob]
   cases e3:r.fN
   ·rw[e3]at cw;cases e4:(m.toList==aaY)
    ·have HR:=O (show p.mR m false=true by unfold ef.mR;rw[e1,e2];unfold bne;rw[e4];rfl);have e4':(m.toList== [97,117,116,104,111,114,105,122,97,116,105,111,110])=false:=e4;clear gO hm hr e2 ob e3 e4;go_enter func129,ntmps129;go_wp2;go_ret;exact⟨by rw[HR.o];rfl,rT.o⟩
    ·have HR:=O (show p.mR m false=false by unfold ef.mR;rw[e1,e2];unfold bne;rw[e4];rfl);have e4':(m.toList== [97,117,116,104,111,114,105,122,97,116,105,111,110])=true:=e4;clear gO hm hr e2 ob e3 e4;go_enter func129,ntmps129;go_wp2;go_ret;exact⟨by rw[HR.o];rfl,rT.o⟩
   ·have HR:=O (show p.mR m true=false by unfold ef.mR;rw[e1,e2];rfl);rw[e3]at cw;clear gO hm hr e2 ob e3;go_enter func129,ntmps129;go_wp2;go_ret;exact⟨by rw[HR.o];rfl,rT.o⟩
 ·have HR:=O (show p.mR m r.fN=true by unfold ef.mR;rw[e1];rfl);clear gO hm hr;go_enter func129,ntmps129;go_wp2;go_ret;exact⟨by rw[HR.o];rfl,rT.o⟩
theorem DN(g:Nat)(cap:bS)(p:aX->Bool)(v:Value)(xs:cY)(bl:Nat)(w:World)(eg:∀args w,(callFunc g args).run prog w=.ok (.enter g args) w)(hp:gL aS w g cap p xs)(hv:dV 12 w v xs)(hl:w.heap[bl]?=some (.cells #[v] 119 (0,0))) :
  aB 124 #[.func (.func g) #[] cap,.pointer (some ⟨bl,0,none⟩)] w fun e w'=>e=.returned (.bool (xs.any p))/\Fr aS w w':=by
 have hc:=O (B8 g cap p v xs w eg hp hv);obtain⟨av,cv,rfl⟩:=hv.form;have c0:w.cell? ⟨bl,0,none⟩=some (.slice av xs.length cv):=by simp[World.cell?,hl]
 clear hv hl hp;go_enter func124,ntmps124;go_wp2_with fail
 refine hc.o.mono ?_;rintro e u⟨rfl,hf⟩;go_wp2;go_ret;exact⟨rfl,hf⟩
def Gc(r:gl Value)(hs:List gY):Prop:=r.method.size<100000/\hs.length<100000/\∀p∈hs,p.1.size<100000/\p.2.size<100000
def abD(hs:List aj)(fN:Bool)(ps:List ef)(w:World)(t:Value)(wr:World):Prop :=
 ∃k:Nat,k<=hs.length/\t=.int .i64 k/\(hs.take k).all (fun h=>ps.any (ef.mR h fN))=true/\Fr aS w wr
theorem uw{α:Type}{p:α->Bool}{l:List α}{x:α}(h:l[k]?=some x)(hn:(l.take k).all p=true)(hp:p x=true):(l.take (k+1)).all p=true:=by
 rw[dW h,jP,hn];simp[hp]
theorem yg{α:Type}{p:α->Bool}{l:List α}{x:α}(h:l[k]?=some x)(hp:p x=false):l.all p=false:=by
 rw[iZ];exact⟨x,cj h,by simp[hp]⟩
theorem yh(r:gl Value)(hs:List gY)(v:Value)(ps:List ef)(w:World)(hr:oD w r.en hs)(hv:qF w v ps)(hz:Gc r hs) :
  aB 84 #[.agg r.cells.toArray,v] w fun e w'=>e=.returned (.bool ((r.dS hs).mV ps))/\Fr aS w w':=by
 have gG:=O (show(r.dS hs).mV ps=((qJ (jD r.method)||ps.any (ef.lets (jD r.method) r.fN))&&(xM hs).all fun h=>ps.any (ef.mR h r.fN))from rfl);generalize (r.dS hs).mV ps=res at gG ⊢;obtain⟨av,cv,Kv⟩:=dI hv;rw[ai]at Kv;subst Kv;obtain⟨ah,ch,gD⟩:=dI hr;rw[ai]at gD;obtain⟨rc,ux⟩:∃rc,rc=r.cells.toArray:=⟨_,rfl⟩
 obtain⟨wb,jQ⟩:∃wb,wb=(w.alloc (.cells rc 29)).alloc (.cells #[.slice av ps.length cv] 119):=⟨_,rfl⟩;have kf:Fr aS w wb:=by rw[jQ];exact((ae aS w).alloc _).alloc _
 have hsb:wb.heap.size=w.heap.size+2:=by rw[jQ];simp
 have lW:wb.heap[w.heap.size]?=some (.cells rc 29 (0,0)):=by rw[jQ];exact((ae aS _).alloc _).keep (aC _ _) id
 have rS:wb.heap[w.heap.size+1]?=some (.cells #[.slice av ps.length cv] 119 (0,0)):=by
  have h:=aC (w.alloc (.cells rc 29)) (.cells #[.slice av ps.length cv] 119);rw[bN]at h;rw[jQ];exact h
 have HC:=O (show∀U,Fr aS wb U->U.heap[w.heap.size]?=some (.cells r.cells.toArray 29 (0,0))/\U.heap[w.heap.size+1]?=some (.cells #[.slice av ps.length cv] 119 (0,0))from fun U hU=>⟨by rw[<-ux];exact hU.keep lW id,hU.keep rS id⟩);have HX:=O (show∀U,Fr aS wb U->U.cell? ⟨w.heap.size,9,none⟩=some (.string r.method)/\U.cell? ⟨w.heap.size,10,none⟩=some (.slice ah hs.length ch)from fun U hU=>by
  have j:=(HC.o U hU).1;unfold gl.cells at j;rw[gD]at j;simp[World.cell?,j])
 have HV:=O (show∀U,Fr aS w U->qF U (.slice av ps.length cv) ps from fun U hU=>bh hv hU);have HH:=O (show∀U,Fr aS w U->oD U (.slice ah hs.length ch) hs from fun U hU=>by rw[<-gD];exact bh hr hU);have HZ:=O hz;have mh:=O kf;have qL:=O jQ;have Pk:=O ux;clear hv hr hz kf jQ lW rS;rw[<-ux];clear ux;obtain⟨c9,Gd⟩:=HX.o wb (ae _ _);rw[qL.o]at c9 Gd;go_enter func84,ntmps84;go_wp2_with fail
 rw[<-qL.o];refine(xL r.method wb HZ.o.1).mono ?_;rintro e u1⟨rfl,dn⟩;obtain⟨m,hm⟩:∃m,m=jD r.method:=⟨_,rfl⟩;rw[<-hm]at gG ⊢;clear hm;obtain⟨w1,oq⟩:∃w1,w1=u1.alloc (.cells #[.string m] 9):=⟨_,rfl⟩;have hmb:w1.heap[u1.heap.size]?=some (.cells #[.string m] 9 (0,0)):=by rw[oq];exact aC _ _
 have dz:Fr aS wb w1:=by rw[oq];exact dn.alloc _
 have Ho:=O oq;have lq:=O dz;have k0:w1.cell? ⟨u1.heap.size,0,none⟩=some (.string m):=by simp[World.cell?,hmb]
 have HMB:=O hmb;clear dn dz c9 Gd oq hmb;go_wp2_with fail
 rw[<-Ho.o];refine(MM m w1).mono ?_;rintro e u2⟨rfl,rfl⟩
 -- the method is allowed
 have wJ:=O (show aB 124 #[.func (.func 127) #[] #[.pointer (some ⟨u1.heap.size,0,none⟩),.pointer (some ⟨w.heap.size,0,none⟩)],.pointer (some ⟨w.heap.size+1,0,none⟩)] w1 fun e w'=>e=.returned (.bool (ps.any (ef.lets m r.fN)))/\Fr aS w1 w' from by
  rw[<-DM];refine DN _ _ (fun x=>ef.lets m r.fN (Ia x)) _ _ _ w1 call127 ?_ (HV.o w1 (mh.o.trans lq.o)) (HC.o w1 lq.o).2;intro x hx u hu;obtain⟨p,hp,rfl⟩:=bZ.1 hx;exact U9 p m r _ _ u (hu.keep HMB.o id) ((HC.o u (lq.o.trans hu)).1))
 cases oZ:qJ m
 ·cases sG:ps.any (ef.lets m r.fN)
  ·have HR:=O (show res=false by rw[gG.o,oZ,sG];rfl);rw[sG]at wJ;clear oZ sG gG;go_wp2_with fail
   refine wJ.o.mono ?_;rintro e u3⟨rfl,il⟩;go_wp2;go_ret;exact⟨by rw[HR.o];rfl,(mh.o.trans lq.o).trans il⟩
  ·have NC:=O (show res=(xM hs).all (fun h=>ps.any (ef.mR h r.fN))by rw[gG.o,oZ,sG];rfl);rw[sG]at wJ;clear oZ sG gG;go_wp2_with fail
   refine wJ.o.mono ?_;rintro e u3⟨rfl,il⟩;have iq:=O (lq.o.trans il);obtain⟨c9,Gd⟩:=HX.o _ iq.o;clear il wJ;go_wp2_with fail
   refine(Fz hs _ u3 (HH.o u3 (mh.o.trans iq.o)) HZ.o.2.1 HZ.o.2.2).mono ?_;rintro e u4⟨uv,rfl,jq,kD⟩;obtain⟨au,cu,huf⟩:=jq.form;obtain⟨nl,rJ⟩:∃nl,nl=xM hs:=⟨_,rfl⟩;rw[<-rJ]at jq huf NC;subst huf;have jO:=O (iq.o.trans kD);have l_:=O jq.at;clear kD jq rJ c9 Gd;go_wp2;go_loopw[26] (abD nl r.fN ps u4) (fun i _=>nl.length-(intOf i).toNat)
   case atStart=>exact⟨0,aQ _,rfl,rfl,ae _ _⟩
   case round =>
    obtain⟨k,hk,rfl,iL,cL⟩:=hrel;have Ax:=O iL;clear iL;by_cases fk:k<nl.length
    ·have o_:(k:Int)<(nl.length:Int):=ab;rcases l_.o.fG cL with ⟨_,_,_,e,_⟩|⟨bk,o,c,hf,h1,h2,h3,h4⟩
     ·rw[e]at fk;exact absurd fk (cq _)
     ·cases hf;unfold maxLen at h2;have dP:=O (List.getElem?_eq_getElem fk);have hc:=h4 k _ dP.o;generalize nl[k]=x at dP hc;clear h4;obtain⟨wx,ND⟩:∃wx,wx=wr.alloc (.cells #[.string x] 9):=⟨_,rfl⟩;have Yv:wx.heap[wr.heap.size]?=some (.cells #[.string x] 9 (0,0)):=by rw[ND];exact aC _ _
      have JK:Fr aS wr wx:=by rw[ND];exact(ae _ _).alloc _
      have Cp:=O ((jO.o.trans cL).trans JK);have Ze:=O (show aB 124 #[.func (.func 129) #[] #[.pointer (some ⟨wr.heap.size,0,none⟩),.pointer (some ⟨w.heap.size,0,none⟩)],.pointer (some ⟨w.heap.size+1,0,none⟩)] wx fun e w'=>e=.returned (.bool (ps.any (ef.mR x r.fN)))/\Fr aS wx w' from by
       rw[<-DM];refine DN _ _ (fun y=>ef.mR x r.fN (Ia y)) _ _ _ wx call129 ?_ (HV.o wx (mh.o.trans Cp.o)) (HC.o wx Cp.o).2;intro y hy u hu;obtain⟨p,hp,rfl⟩:=bZ.1 hy;exact KP p x r _ _ u (hu.keep Yv id) ((HC.o u (Cp.o.trans hu)).1))
      have Tf:=O ND;have sX:=O (cL.trans JK);clear ND;cases ja:ps.any (ef.mR x r.fN)
      ·have HR:=O (show res=false by rw[NC.o];exact yg dP.o ja);rw[ja]at Ze;clear ja;go_wp2_with fail
       rw[<-Tf.o];refine Ze.o.mono ?_;rintro e u6⟨rfl,nz⟩;go_wp2;go_ret;exact⟨by rw[HR.o];rfl,(mh.o.trans Cp.o).trans nz⟩
      ·have pV:=O (uw dP.o Ax.o ja);rw[ja]at Ze;clear ja;go_wp2_with fail
       rw[<-Tf.o];refine Ze.o.mono ?_;rintro e u6⟨rfl,nz⟩;go_wp2;go_roundw
       case rel=>exact⟨k+1,ab,bg,pV.o,sX.o.trans nz⟩
       case measure=>simp[intOf];omega
    ·have o_:¬(k:Int)<(nl.length:Int):=ab;have HR:=O (show res=true by rw[NC.o];have h:=Ax.o;rwa [aD ab]at h);go_wp2;go_ret;exact⟨by rw[HR.o];rfl,mh.o.trans (jO.o.trans cL)⟩
 ·have NC:=O (show res=(xM hs).all (fun h=>ps.any (ef.mR h r.fN))by rw[gG.o,oZ];simp);clear oZ gG wJ;obtain⟨c9,Gd⟩:=HX.o _ lq.o;go_wp2_with fail
  refine(Fz hs _ w1 (HH.o w1 (mh.o.trans lq.o)) HZ.o.2.1 HZ.o.2.2).mono ?_;rintro e u4⟨uv,rfl,jq,kD⟩;obtain⟨au,cu,huf⟩:=jq.form;obtain⟨nl,rJ⟩:∃nl,nl=xM hs:=⟨_,rfl⟩;rw[<-rJ]at jq huf NC;subst huf;have jO:=O (lq.o.trans kD);have l_:=O jq.at;clear kD jq rJ c9 Gd;go_wp2;go_loopw[26] (abD nl r.fN ps u4) (fun i _=>nl.length-(intOf i).toNat)
  case atStart=>exact⟨0,aQ _,rfl,rfl,ae _ _⟩
  case round =>
   obtain⟨k,hk,rfl,iL,cL⟩:=hrel;have Ax:=O iL;clear iL;by_cases fk:k<nl.length
   ·have o_:(k:Int)<(nl.length:Int):=ab;rcases l_.o.fG cL with ⟨_,_,_,e,_⟩|⟨bk,o,c,hf,h1,h2,h3,h4⟩
    ·rw[e]at fk;exact absurd fk (cq _)
    ·cases hf;unfold maxLen at h2;have dP:=O (List.getElem?_eq_getElem fk);have hc:=h4 k _ dP.o;generalize nl[k]=x at dP hc;clear h4;obtain⟨wx,ND⟩:∃wx,wx=wr.alloc (.cells #[.string x] 9):=⟨_,rfl⟩;have Yv:wx.heap[wr.heap.size]?=some (.cells #[.string x] 9 (0,0)):=by rw[ND];exact aC _ _
     have JK:Fr aS wr wx:=by rw[ND];exact(ae _ _).alloc _
     have Cp:=O ((jO.o.trans cL).trans JK);have Ze:=O (show aB 124 #[.func (.func 129) #[] #[.pointer (some ⟨wr.heap.size,0,none⟩),.pointer (some ⟨w.heap.size,0,none⟩)],.pointer (some ⟨w.heap.size+1,0,none⟩)] wx fun e w'=>e=.returned (.bool (ps.any (ef.mR x r.fN)))/\Fr aS wx w' from by
      rw[<-DM];refine DN _ _ (fun y=>ef.mR x r.fN (Ia y)) _ _ _ wx call129 ?_ (HV.o wx (mh.o.trans Cp.o)) (HC.o wx Cp.o).2;intro y hy u hu;obtain⟨p,hp,rfl⟩:=bZ.1 hy;exact KP p x r _ _ u (hu.keep Yv id) ((HC.o u (Cp.o.trans hu)).1))
     have Tf:=O ND;have sX:=O (cL.trans JK);clear ND;cases ja:ps.any (ef.mR x r.fN)
     ·have HR:=O (show res=false by rw[NC.o];exact yg dP.o ja);rw[ja]at Ze;clear ja;go_wp2_with fail
      rw[<-Tf.o];refine Ze.o.mono ?_;rintro e u6⟨rfl,nz⟩;go_wp2;go_ret;exact⟨by rw[HR.o];rfl,(mh.o.trans Cp.o).trans nz⟩
     ·have pV:=O (uw dP.o Ax.o ja);rw[ja]at Ze;clear ja;go_wp2_with fail
      rw[<-Tf.o];refine Ze.o.mono ?_;rintro e u6⟨rfl,nz⟩;go_wp2;go_roundw
      case rel=>exact⟨k+1,ab,bg,pV.o,sX.o.trans nz⟩
      case measure=>simp[intOf];omega
   ·have o_:¬(k:Int)<(nl.length:Int):=ab;have HR:=O (show res=true by rw[NC.o];have h:=Ax.o;rwa [aD ab]at h);go_wp2;go_ret;exact⟨by rw[HR.o];rfl,mh.o.trans (jO.o.trans cL)⟩
theorem Rj(r:gl Value)(hs:List gY)(w:World)(hr:oD w r.en hs)(hz:Gc r hs) :
  aB 83 #[.agg r.cells.toArray] w fun e w'=>e=.returned (.bool (r.dS hs).needs)/\Fr aS w w':=by
 have gG:=O (show(r.dS hs).needs=(!r.cW.kV r.o&&!(r.dS hs).mV [])from rfl);generalize (r.dS hs).needs=res at gG ⊢;have hne:=Bn r.cW r.o;obtain⟨wb,jQ⟩:∃wb,wb=w.alloc (.cells r.cells.toArray 29):=⟨_,rfl⟩;have kf:Fr aS w wb:=by rw[jQ];exact(ae aS w).alloc _
 have lW:wb.heap[w.heap.size]?=some (.cells r.cells.toArray 29 (0,0)):=by rw[jQ];exact aC _ _
 have mZ:∀i u,r.cells[i]?=some u->wb.cell? ⟨w.heap.size,i,none⟩=some u:=fun i u hu=>by
  simp only[World.cell?,lW];simpa using hu
 have c1:=mZ 1 _ rfl;have c2:=mZ 2 _ rfl;have c3:=mZ 3 _ rfl;have c4:=mZ 4 _ rfl;have c5:=mZ 5 _ rfl;have c6:=mZ 6 _ rfl;have wY:=O (yh r hs (.slice none 0 0) [] wb (bh hr kf) (show dV 12 wb _ []from⟨aR,Or.inl ⟨_,_,rfl,rfl,fun _=>rfl⟩⟩) hz);have mh:=O kf;have c7:=mZ 7 _ rfl;have c8:=mZ 8 _ rfl;have c9:=mZ 9 _ rfl;have Gd:=mZ 10 _ rfl;have Tg:=mZ 11 _ rfl;have c12:=mZ 12 _ rfl;have c0:=mZ 0 _ rfl
 obtain⟨ah,ch,gD⟩:=dI hr;rw[ai]at gD;have ux:r.cells=[.int .i64 r.part,.bool r.cW.aE,.string r.cW.host,.int .i64 r.cW.port,.bool r.o.aE,.string r.o.host,.int .i64 r.o.port,.string r.path,.string r.query,.string r.method,.slice ah hs.length ch,.bool r.fN,.string r.body]:=by unfold gl.cells;rw[gD]
 rw[gD]at Gd;rw[ux]at wY jQ ⊢;have qL:=O jQ;clear gD ux mZ lW kf jQ hr hz;cases e1:r.cW.kV r.o
 ·have HR:=O (show res=!(r.dS hs).mV []by rw[gG.o,e1];rfl);rw[e1]at hne;clear gG e1;rw[qL.o]at c0 c1 c2 c3 c4 c5 c6 c7 c8 c9 Gd Tg c12;go_enter func83,ntmps83;go_wp2_with fail
  rw[<-qL.o];refine wY.o.mono ?_;rintro e u⟨rfl,hf⟩;go_wp2;go_ret;exact⟨by rw[HR.o];rfl,mh.o.trans hf⟩
 ·have HR:=O (show res=false by rw[gG.o,e1];rfl);rw[e1]at hne;clear gG e1;rw[qL.o]at c0 c1 c2 c3 c4 c5 c6 c7 c8 c9 Gd Tg c12;have HF:=O (qL.o▸mh.o);go_enter func83,ntmps83;go_wp2;go_ret;exact⟨by rw[HR.o];rfl,HF.o⟩
theorem vA.off(h:vA B b l w)(hf:Fr S w w')(hb:¬S b)(hS:∀g cur fz,w.heap[g]?=some (.cells cur 5 fz)->¬S g):vA B b l w':=by
 have key:∀p,Lib.BuilderAtF 189 5 B b p (tU l) w->Lib.BuilderAtF 189 5 B b p (tU l) w':=by
  rintro p⟨hB,v,hv,⟨hx,hr⟩,hne⟩;refine⟨hB,v,hf.keep hv hb,⟨hx,?_⟩,hne⟩;rcases hr with hr|⟨g,cap,cur,fz,rfl,h1,hg,h2⟩
  ·exact Or.inl hr
  ·exact Or.inr ⟨g,cap,cur,fz,rfl,h1,hf.keep hg (hS g cur fz hg),h2⟩
 exact h.elim (fun x=>Or.inl (key _ x)) (fun x=>Or.inr (key _ x))
theorem vA.fG(h:vA B b l w)(hf:Fr aS w w'):vA B b l w':=h.off hf id (fun _ _ _ _ h=>h)
def zd(w:World)(d:Nat)(x:Bool):Prop:=w.heap[d]?=some (.cells #[.bool x] 4 (0,0))
theorem zd.M0{d:Nat}{x:Bool}(h:zd w d x)(ho:agG b w w')(hd:d≠b):zd w' d x :=
 ho d _ h (by simpa using hd) (fun c fz e=>by injection e with _ e2;exact absurd e2 ag)
def AA(q:Bool)(v:Bs):Bs:=if q then(if nU v then fQ v else [])else v
def AB(q:Bool)(v:Bs):Bool:=q&&!nU v
def qq(l nm x:Bs):Bs:=l++((if 7<l.length then [44,32]else [])++(nm++61 :: x))
def YE(B b d:Nat)(l:Bs)(bad:Bool)(nm v:Bs)(q:Bool)(w:World)(e:Ending)(w':World):Prop :=
 e=.returned (.tuple #[])/\vA B b (qq l nm (AA q v)) w'/\zd w' d (bad||AB q v)/\Below B w w'
theorem Xr(a b:Bs):bA a++⟨#[61]⟩++bA b=bA (a++61 :: b):=by
 apply Go.WideShapes.bytes_inj;simp[bA]
theorem Ke(v:Bs):(fQ v).length<=2*v.length+2:=by
 have:=O0 v;unfold fQ;simp;omega
theorem YF(B b d:Nat)(l nm v:Bs)(bad q:Bool)(w:World)(h:vA B b l w)(hd:zd w d bad)(hne:d≠b)(MH:B<=d)(hn:nm.length<=1000)(hv:v.length<=100000)(hl:l.length<=100000000)(hB:B<=w.heap.size) :
  aB 106 #[.string (bA nm),.string (bA v),.bool q,.pointer (some ⟨d,0,none⟩),.pointer (some ⟨b,0,none⟩)] w (YE B b d l bad nm v q w):=by
 have z1:(bA nm).size=nm.length:=rfl;have z2:(bA v).size=v.length:=rfl;have z3:(⟨#[61]⟩:aj).size=1:=rfl;cases q with
 |false =>
  have SV:AA false v=v:=rfl;go_enter func106,ntmps106;go_wp2_with fail
  refine(vB B b l w h).mono ?_;rintro e wl⟨rfl,rfl⟩;by_cases h7:7<l.length
  ·have YG:(7:Int)<(l.length:Int):=ab;go_wp2_with fail
   refine(ec B b l ⟨#[44,32]⟩ w h (by show l.length+2<=_;omega) (aF hB (Below.refl B w).size)).mono ?_;rintro e wx⟨rfl,p_,Fv,C5⟩;have QJ:=(hd).M0 C5 hne;have tG:=O ((Below.refl B w).trans Fv);clear C5 Fv;go_wp2_with fail
   rw[show bA nm++⟨#[61]⟩++bA v=bA (nm++61 :: v)from Xr nm v];refine(ec B b _ (bA (nm++61 :: v)) wx p_ (by show(l++[44,32]).length+(nm++61 :: v).length<=_;simp;omega) (aF hB tG.o.size)).mono ?_;rintro e wy⟨rfl,qM,FF,Hk⟩;have Hl:=QJ.M0 Hk hne;go_wp2;go_end0;refine⟨rfl,?_,(by rw[show AB false v=false from rfl,Bool.or_false];exact Hl),tG.o.trans FF⟩
   have e:qq l nm v=l++(⟨#[44,32]⟩:aj).data.toList++(bA (nm++61 :: v)).data.toList:=by unfold qq;rw[aA h7,fT];simp
   rw[SV,e];exact qM
  ·have YG:¬(7:Int)<(l.length:Int):=ab;go_wp2_with fail
   rw[show bA nm++⟨#[61]⟩++bA v=bA (nm++61 :: v)from Xr nm v];refine(ec B b l (bA (nm++61 :: v)) w h (by show l.length+(nm++61 :: v).length<=_;simp;omega) (aF hB (Below.refl B w).size)).mono ?_;rintro e wy⟨rfl,qM,FF,Hk⟩;have Hl:=(hd).M0 Hk hne;go_wp2;go_end0;refine⟨rfl,?_,(by rw[show AB false v=false from rfl,Bool.or_false];exact Hl),(Below.refl B w).trans FF⟩
   have e:qq l nm v=l++(bA (nm++61 :: v)).data.toList:=by unfold qq;rw[ar h7,fT];simp
   rw[SV,e];exact qM
 |true =>
  have c0:∀U,Fr aS w U->U.cell? ⟨d,0,none⟩=some (.bool bad)/\U.frozen? ⟨d,0,none⟩=false:=fun U hU=>by
   have h1:=hU.keep hd id;exact⟨by simp[World.cell?,h1],by simp[World.frozen?,h1]⟩
  have Uc:=O c0;clear c0;cases ht:nU v with
  |true =>
   have SV:AA true v=fQ v:=by unfold AA;rw[ht];rfl
   have YH:AB true v=false:=by unfold AB;rw[ht];rfl
   have hql:=Ke v;have z4:(bA (fQ v)).size=(fQ v).length:=rfl;go_enter func106,ntmps106;go_wp2_with fail
   refine(Fg (bA v) w ab).mono ?_;rintro e w1⟨rfl,dn⟩;rw[fT,aA ht];obtain⟨k0,k1⟩:=Uc.o w1 dn;obtain⟨w2,eA⟩:∃w2,w2=w1.setCell ⟨d,0,none⟩ (.bool bad):=⟨_,rfl⟩;have yJ:=dn.keep hd id;have su:zd w2 d bad:=by rw[eA];exact b_ yJ 0 (.bool bad)
   have dz:Fr (one d) w1 w2:=by rw[eA];exact(ae (one d) w1).setCell (p:=⟨d,0,none⟩) (fun _=>rfl) _
   have ko:vA B b l w2:=(h.fG dn).off dz (fun e=>hne e.symm) (fun g cur fz hg e=>by have e':g=d:=e;subst e';rw[yJ]at hg;injection hg with hg;injection hg with _ hg;exact absurd hg ag);have pN:=O (show Below B w w2 from((ow dn).mono hB).trans (by rw[eA];exact(Below.refl B w1).setCell (p:=⟨d,0,none⟩) MH _));have nD:=O eA;clear eA dn dz yJ;have hee:(⟨(fQ v).toArray⟩:aj)=bA (fQ v):=rfl;rw[hee]
   cases bad with
   |true =>
    go_wp2_with fail
    rw[<-nD.o];refine(vB B b l w2 ko).mono ?_;rintro e wl⟨rfl,rfl⟩;by_cases h7:7<l.length
    ·have YG:(7:Int)<(l.length:Int):=ab;go_wp2_with fail
     refine(ec B b l ⟨#[44,32]⟩ w2 ko (by show l.length+2<=_;omega) (aF hB (pN.o).size)).mono ?_;rintro e wx⟨rfl,p_,Fv,C5⟩;have QJ:=(su).M0 C5 hne;have tG:=O ((pN.o).trans Fv);clear C5 Fv;go_wp2_with fail
     rw[show bA nm++⟨#[61]⟩++bA (fQ v)=bA (nm++61 :: (fQ v))from Xr nm (fQ v)];refine(ec B b _ (bA (nm++61 :: (fQ v))) wx p_ (by show(l++[44,32]).length+(nm++61 :: (fQ v)).length<=_;simp;omega) (aF hB tG.o.size)).mono ?_;rintro e wy⟨rfl,qM,FF,Hk⟩;have Hl:=QJ.M0 Hk hne;go_wp2;go_end0;refine⟨rfl,?_,(by rw[YH];exact Hl),tG.o.trans FF⟩
     have e:qq l nm (fQ v)=l++(⟨#[44,32]⟩:aj).data.toList++(bA (nm++61 :: (fQ v))).data.toList:=by unfold qq;rw[aA h7,fT];simp
     rw[SV,e];exact qM
    ·have YG:¬(7:Int)<(l.length:Int):=ab;go_wp2_with fail
     rw[show bA nm++⟨#[61]⟩++bA (fQ v)=bA (nm++61 :: (fQ v))from Xr nm (fQ v)];refine(ec B b l (bA (nm++61 :: (fQ v))) w2 ko (by show l.length+(nm++61 :: (fQ v)).length<=_;simp;omega) (aF hB (pN.o).size)).mono ?_;rintro e wy⟨rfl,qM,FF,Hk⟩;have Hl:=(su).M0 Hk hne;go_wp2;go_end0;refine⟨rfl,?_,(by rw[YH];exact Hl),(pN.o).trans FF⟩
     have e:qq l nm (fQ v)=l++(bA (nm++61 :: (fQ v))).data.toList:=by unfold qq;rw[ar h7,fT];simp
     rw[SV,e];exact qM
   |false =>
    go_wp2_with fail
    rw[<-nD.o];refine(vB B b l w2 ko).mono ?_;rintro e wl⟨rfl,rfl⟩;by_cases h7:7<l.length
    ·have YG:(7:Int)<(l.length:Int):=ab;go_wp2_with fail
     refine(ec B b l ⟨#[44,32]⟩ w2 ko (by show l.length+2<=_;omega) (aF hB (pN.o).size)).mono ?_;rintro e wx⟨rfl,p_,Fv,C5⟩;have QJ:=(su).M0 C5 hne;have tG:=O ((pN.o).trans Fv);clear C5 Fv;go_wp2_with fail
     rw[show bA nm++⟨#[61]⟩++bA (fQ v)=bA (nm++61 :: (fQ v))from Xr nm (fQ v)];refine(ec B b _ (bA (nm++61 :: (fQ v))) wx p_ (by show(l++[44,32]).length+(nm++61 :: (fQ v)).length<=_;simp;omega) (aF hB tG.o.size)).mono ?_;rintro e wy⟨rfl,qM,FF,Hk⟩;have Hl:=QJ.M0 Hk hne;go_wp2;go_end0;refine⟨rfl,?_,(by rw[YH];exact Hl),tG.o.trans FF⟩
     have e:qq l nm (fQ v)=l++(⟨#[44,32]⟩:aj).data.toList++(bA (nm++61 :: (fQ v))).data.toList:=by unfold qq;rw[aA h7,fT];simp
     rw[SV,e];exact qM
    ·have YG:¬(7:Int)<(l.length:Int):=ab;go_wp2_with fail
     rw[show bA nm++⟨#[61]⟩++bA (fQ v)=bA (nm++61 :: (fQ v))from Xr nm (fQ v)];refine(ec B b l (bA (nm++61 :: (fQ v))) w2 ko (by show l.length+(nm++61 :: (fQ v)).length<=_;simp;omega) (aF hB (pN.o).size)).mono ?_;rintro e wy⟨rfl,qM,FF,Hk⟩;have Hl:=(su).M0 Hk hne;go_wp2;go_end0;refine⟨rfl,?_,(by rw[YH];exact Hl),(pN.o).trans FF⟩
     have e:qq l nm (fQ v)=l++(bA (nm++61 :: (fQ v))).data.toList:=by unfold qq;rw[ar h7,fT];simp
     rw[SV,e];exact qM
  |false =>
   have SV:AA true v=[]:=by unfold AA;rw[ht];rfl
   have YH:AB true v=true:=by unfold AB;rw[ht];rfl
   have z4:(bA []).size=0:=rfl;go_enter func106,ntmps106;go_wp2_with fail
   refine(Fg (bA v) w ab).mono ?_;rintro e w1⟨rfl,dn⟩;rw[fT,ht];simp only[cJ,eV];obtain⟨k0,k1⟩:=Uc.o w1 dn;obtain⟨w2,eA⟩:∃w2,w2=w1.setCell ⟨d,0,none⟩ (.bool true):=⟨_,rfl⟩;have yJ:=dn.keep hd id;have su:zd w2 d true:=by rw[eA];exact b_ yJ 0 (.bool true)
   have dz:Fr (one d) w1 w2:=by rw[eA];exact(ae (one d) w1).setCell (p:=⟨d,0,none⟩) (fun _=>rfl) _
   have ko:vA B b l w2:=(h.fG dn).off dz (fun e=>hne e.symm) (fun g cur fz hg e=>by have e':g=d:=e;subst e';rw[yJ]at hg;injection hg with hg;injection hg with _ hg;exact absurd hg ag);have pN:=O (show Below B w w2 from((ow dn).mono hB).trans (by rw[eA];exact(Below.refl B w1).setCell (p:=⟨d,0,none⟩) MH _));have nD:=O eA;clear eA dn dz yJ;have hee:(⟨#[]⟩:aj)=bA []:=rfl;rw[hee];cases bad with
   |true =>
    go_wp2_with fail
    rw[<-nD.o];refine(vB B b l w2 ko).mono ?_;rintro e wl⟨rfl,rfl⟩;by_cases h7:7<l.length
    ·have YG:(7:Int)<(l.length:Int):=ab;go_wp2_with fail
     refine(ec B b l ⟨#[44,32]⟩ w2 ko (by show l.length+2<=_;omega) (aF hB (pN.o).size)).mono ?_;rintro e wx⟨rfl,p_,Fv,C5⟩;have QJ:=(su).M0 C5 hne;have tG:=O ((pN.o).trans Fv);clear C5 Fv;go_wp2_with fail
     rw[show bA nm++⟨#[61]⟩++bA []=bA (nm++61 :: [])from Xr nm []];refine(ec B b _ (bA (nm++61 :: [])) wx p_ (by show(l++[44,32]).length+(nm++61 :: []).length<=_;simp;omega) (aF hB tG.o.size)).mono ?_;rintro e wy⟨rfl,qM,FF,Hk⟩;have Hl:=QJ.M0 Hk hne;go_wp2;go_end0;refine⟨rfl,?_,(by rw[YH,ka];exact Hl),tG.o.trans FF⟩
     have e:qq l nm []=l++(⟨#[44,32]⟩:aj).data.toList++(bA (nm++61 :: [])).data.toList:=by unfold qq;rw[aA h7,fT];simp
     rw[SV,e];exact qM
    ·have YG:¬(7:Int)<(l.length:Int):=ab;go_wp2_with fail
     rw[show bA nm++⟨#[61]⟩++bA []=bA (nm++61 :: [])from Xr nm []];refine(ec B b l (bA (nm++61 :: [])) w2 ko (by show l.length+(nm++61 :: []).length<=_;simp;omega) (aF hB (pN.o).size)).mono ?_;rintro e wy⟨rfl,qM,FF,Hk⟩;have Hl:=(su).M0 Hk hne;go_wp2;go_end0;refine⟨rfl,?_,(by rw[YH,ka];exact Hl),(pN.o).trans FF⟩;have e:qq l nm []=l++(bA (nm++61 :: [])).data.toList:=by unfold qq;rw[ar h7,fT];simp
     rw[SV,e];exact qM
   |false =>
    go_wp2_with fail
    rw[<-nD.o];refine(vB B b l w2 ko).mono ?_;rintro e wl⟨rfl,rfl⟩;by_cases h7:7<l.length
    ·have YG:(7:Int)<(l.length:Int):=ab;go_wp2_with fail
     refine(ec B b l ⟨#[44,32]⟩ w2 ko (by show l.length+2<=_;omega) (aF hB (pN.o).size)).mono ?_;rintro e wx⟨rfl,p_,Fv,C5⟩;have QJ:=(su).M0 C5 hne;have tG:=O ((pN.o).trans Fv);clear C5 Fv;go_wp2_with fail
     rw[show bA nm++⟨#[61]⟩++bA []=bA (nm++61 :: [])from Xr nm []];refine(ec B b _ (bA (nm++61 :: [])) wx p_ (by show(l++[44,32]).length+(nm++61 :: []).length<=_;simp;omega) (aF hB tG.o.size)).mono ?_;rintro e wy⟨rfl,qM,FF,Hk⟩;have Hl:=QJ.M0 Hk hne;go_wp2;go_end0;refine⟨rfl,?_,(by rw[YH,ka];exact Hl),tG.o.trans FF⟩
     have e:qq l nm []=l++(⟨#[44,32]⟩:aj).data.toList++(bA (nm++61 :: [])).data.toList:=by unfold qq;rw[aA h7,fT];simp
     rw[SV,e];exact qM
    ·have YG:¬(7:Int)<(l.length:Int):=ab;go_wp2_with fail
     rw[show bA nm++⟨#[61]⟩++bA []=bA (nm++61 :: [])from Xr nm []];refine(ec B b l (bA (nm++61 :: [])) w2 ko (by show l.length+(nm++61 :: []).length<=_;simp;omega) (aF hB (pN.o).size)).mono ?_;rintro e wy⟨rfl,qM,FF,Hk⟩;have Hl:=(su).M0 Hk hne;go_wp2;go_end0;refine⟨rfl,?_,(by rw[YH,ka];exact Hl),(pN.o).trans FF⟩;have e:qq l nm []=l++(bA (nm++61 :: [])).data.toList:=by unfold qq;rw[ar h7,fT];simp
     rw[SV,e];exact qM
def aP.used(g:aP D):aP D:={g with count:=g.count+1}
def u0(gs:List (aP bE))(o:gq)(proxy:Bool)(path:aj):List (aP bE)×Except Nat (aP bE) :=
 if 0<=tL gs o proxy path then
  match gs[(tL gs o proxy path).toNat]? with
  |some g =>
   let l:=gs.take (tL gs o proxy path).toNat++gs.drop ((tL gs o proxy path).toNat+1)
   if 4294967295<=g.count then(l,.error 12)else(l++[g.used],.ok g.used)
  |none=>(gs,.error 8)
 else(gs,.error 8)
def qU(base:Nat)(w:World)(b:Nat)(gv wv:Value)(ws:List (bI bE))(u:List (aP bE)×Except Nat (aP bE))(e:Ending)(w':World):Prop :=
 kr base w b gv wv u.1 ws w'/\match u.2 with
 | .error n=>e=.returned (.tuple #[.agg eS,.iface 82 (.int .i64 n)])
 | .ok g=>∃r:aP Value,e=.returned (.tuple #[.agg r.cells.toArray,.nilIface])/\r.Reads (du base w') g/\∀u∈r.cells,u.oneCell'=true
theorem kr.same{gv wv:Value}{gs:List (aP bE)}{ws:List (bI bE)}(h:dD base w b gv wv gs ws)(hf:Fr aS w w'):kr base w b gv wv gs ws w' :=
 ⟨gv,wv,h.di hf,hf.mono (fun _ _ h=>absurd h id),fun _ hk=>Or.inl hk⟩
theorem Nt{base:Nat}{w5 w6:World}{b gg cap i n:Nat}{wv:Value}{ls:List (aP bE)}{ws:List (bI bE)}{rs:List (aP Value)}(h5:dD base w5 b (.slice (some ⟨gg,0,none⟩) ls.length cap) wv ls ws)
  (hb:kT (aP.Reads (du base w5)) rs ls)(zc:OwnRows base 133 16 w6 (.slice (some ⟨gg,0,none⟩) (i+(ls.length-n)) cap) ((rs.map aP.cells).take i++(rs.map aP.cells).drop n))(nz:Fr (one gg) w5 w6) :
  dD base (w6.setCell ⟨b,0,none⟩ (.slice (some ⟨gg,0,none⟩) (i+(ls.length-n)) cap)) b (.slice (some ⟨gg,0,none⟩) (i+(ls.length-n)) cap) wv (ls.take i++ls.drop n) ws /\
  Fr (dv b (.slice (some ⟨gg,0,none⟩) ls.length cap) wv) w5 (w6.setCell ⟨b,0,none⟩ (.slice (some ⟨gg,0,none⟩) (i+(ls.length-n)) cap))/\w6.cell? ⟨b,0,none⟩=some (.slice (some ⟨gg,0,none⟩) ls.length cap)/\w6.frozen? ⟨b,0,none⟩=false:=by
 have k_:=h5.low;have dX:∀k,one gg k->own (.slice (some ⟨gg,0,none⟩) ls.length cap) k:=fun k hk=>by have e:k=gg:=hk;rw[e];rfl
 have mO:rR base w5 (one gg):=fun k hk hl=>h5.off k (Or.inr (Or.inl (dX k hk))) hl;have sO:=nz.keep h5.eJ (fun h=>h5.gb (dX _ h));have zx:jY base w6 wv ws:=h5.waits.fr nz mO (fun k hk hg=>h5.gw (dX _ hg) hk);have hm:=hb.mono (fun _ _ h=>h.mono (fun _ _ h=>h.fr nz mO));have hg6:fZ base w6 (.slice (some ⟨gg,0,none⟩) (i+(ls.length-n)) cap) (ls.take i++ls.drop n):=by
  refine⟨rs.take i++rs.drop n,?_,(hm.take i).app (hm.drop n)⟩;rw[bG,List.map_take,List.map_drop];exact zc
 have T':Fr (dv b (.slice (some ⟨gg,0,none⟩) ls.length cap) wv) w5 w6:=nz.mono (fun k _ hk=>Or.inr (Or.inl (dX k hk)));exact⟨nF k_ sO hg6 zx,T'.setCell (p:=⟨b,0,none⟩) (fun _=>Or.inl rfl) _,by simp[World.cell?,sO],by simp[World.frozen?,sO]⟩
theorem Y9(base:Nat)(w:World)(b:Nat)(gv wv:Value)(gs:List (aP bE))(ws:List (bI bE))(o:gq)(proxy:Bool)(path:aj)(h:dD base w b gv wv gs ws)(Nn:gs.length<34359738368)(Mv:∀g∈gs,0<=g.count) :
  aB 70 #[.pointer (some ⟨b,0,none⟩),.agg o.cells.toArray,.bool proxy,.string path] w (qU base w b gv wv ws (u0 gs o proxy path)):=by
 unfold gq.cells;have tV:=h.lt;have k_:=h.low;have oW:Fr aS w _:=((ae aS w).alloc (.cells #[.bool o.aE,.string o.host,.int .i64 o.port] 24)).alloc (.cells eS 133);have b1:=aC (w.alloc (.cells #[.bool o.aE,.string o.host,.int .i64 o.port] 24)) (.cells eS 133);rw[show(w.alloc (.cells #[.bool o.aE,.string o.host,.int .i64 o.port] 24)).heap.size=w.heap.size+1 from aR]at b1;have h1:=h.di oW
 have abx:=O (UM base _ b gv wv gs ws o proxy path h1);have PN:=O b1;clear b1;go_enter func70,ntmps70;go_wp2_with fail
 generalize (w.alloc (.cells _ 24)).alloc _=W at *
 refine abx.o.mono ?_;rintro e u1⟨rfl,dn⟩;have UO:=O (dn.keep PN.o id);have HF:=oW.trans dn;have h2:=h1.di dn;clear abx PN oW dn h1;have yf:w.heap.size+1<u1.heap.size:=bj UO.o;rcases UQ gs o proxy path with ⟨k,hk,he⟩|he
 ·obtain⟨bk,c,dz,sG,r,dX,hr,hcell⟩:=h2.bU.at hk;subst dz;unfold maxLen at sG;have d0:=h2.c0;obtain⟨x,hx⟩:∃x,x=r.cells:=⟨_,rfl⟩;have lp:x.length=16:=by rw[hx];rfl
  have jq:=fun W=>run_storeCells_new (P:=prog) W 133 #[.bool false,.string ⟨#[]⟩,.int .i64 0,.bool false,.string ⟨#[]⟩,.string ⟨#[]⟩,.int .i64 0,.string ⟨#[]⟩,.string ⟨#[]⟩,.string ⟨#[]⟩,.bool false,.string ⟨#[]⟩,.bool false,.slice none 0 0,.int .i64 0,.slice none 0 0] x (by rw[lp];rfl) (by rw[hx];exact dX);have Dx:=O (show(prog.info? 133).map (·.size)=some x.length by rw[lp];kernel_rfl)
  have Nu:r.count=gs[k].count:=hr.2.2.2.2.2.1;have hc0:0<=r.count:=by rw[Nu];exact Mv _ (bM hk)
  have HX:=O hx;have HE:=O he;rw[<-hx]at hcell;have hub:b<u1.heap.size:=h2.lt;have gO:Fr aS u1 (u1.alloc (.cells x.toArray 133)):=(ae aS u1).alloc _;have p_:(u1.alloc (.cells x.toArray 133)).heap[u1.heap.size]?=some (.cells x.toArray 133 (0,0)):=aC _ _;have h3:=h2.di gO;have rq:=hr.mono (fun _ _ h=>h.di gO);obtain⟨rs,ho,hb⟩:=h3.bU;have uT:=O (show(rs.map aP.cells).length=gs.length by rw[ai,hb.len])
  have qz:=O (FX base bk c k (k+1) (rs.map aP.cells) _ (by rw[uT.o];exact ho) ab (by rw[uT.o];omega));rw[uT.o,show((k+1:Nat):Int)=(k:Int)+1 from ab]at qz;have anA:bk<u1.heap.size:=by
   obtain⟨cc,e⟩:=h2.tN (k:=bk) rfl;exact bj e
  have tG:=O p_;have HCO:=O Nu;have UU:=O rq;have wU:=O dX;rw[he];clear hx he p_ Nu hr rq dX h2;go_wp2_with (first|((with_reducible refine dk 27 ?_);refine a_ rfl 133 (.tmp 26) rfl bk (k*16) rfl x _ hcell underlying133 rfl Dx.o ?_)|fail)
  clear jq hcell d0;have ix:base<=u1.heap.size:=ab;have Re:Fr aS w (u1.alloc (.cells x.toArray 133)):=HF.alloc _;have Fv:u1.heap.size<(u1.alloc (.cells x.toArray 133)).heap.size:=aR;have b1v:=O (gO.keep UO.o id);generalize u1.alloc (.cells x.toArray 133)=V at *
  refine qz.o.mono ?_;rintro e w2⟨rfl,qN,dz⟩;obtain⟨h4,Td,d2,e2⟩:=Nt h3 hb (by exact qN) dz;obtain⟨l,hl⟩:∃l,l=gs.take k++gs.drop (k+1):=⟨_,rfl⟩;have hm:k+(gs.length-(k+1))=l.length:=by rw[hl,aN,aM,bJ];omega
  have hlen:l.length<=gs.length:=ab;rw[<-hl]at h4;rw[hm]at h4 Td ⊢;have HL:=O hl;clear hl hm;have KH:rR base V (own (.slice (some ⟨bk,0,none⟩) gs.length c)):=ho.off (ay _) ag;have KI:rR base V (one bk):=fun j hj hl=>KH j (by have e:j=bk:=hj;rw[e];rfl) hl;have zy:=dz.keep tG.o (fun h=>by have e:u1.heap.size=bk:=h;omega)
  have UW:=dz.keep b1v.o (fun hh=>by have e:w.heap.size+1=bk:=hh;obtain⟨cc,e2⟩:=h.tN (k:=bk) rfl;have:=bj e2;omega);have vn:=UU.o.mono (fun _ _ h=>h.fr dz KI);have c14:w2.cell? ⟨u1.heap.size,14,none⟩=some (.int .i64 r.count):=by
   have e:=HX.o;simp only[World.cell?,zy,e];rfl
  have f14:w2.frozen? ⟨u1.heap.size,14,none⟩=false:=by simp[World.frozen?,zy]
  have UX:w2.heap[b]?=some (.cells #[.slice (some ⟨bk,0,none⟩) gs.length c,wv] 118 (0,0)):=dz.keep h3.eJ (fun h=>h3.gb (by have e:b=bk:=h;rw[e];rfl));have kf:Fr (one b) w2 (w2.setCell ⟨b,0,none⟩ (.slice (some ⟨bk,0,none⟩) l.length c)):=(ae (one b) w2).setCell (p:=⟨b,0,none⟩) (fun _=>rfl) _;have UY:rR base w2 (one b):=by
   rintro j rfl _;exact⟨k_,fun cc f e=>by rw[UX]at e;cases e⟩
  have DH:=kf.keep zy (fun h=>by have e:u1.heap.size=b:=h;omega);have Rf:=kf.keep UW (fun h=>by have e:w.heap.size+1=b:=h;omega);have Bu:=vn.mono (fun _ _ h=>h.fr kf UY);have hFw:Fr (dv b (.slice (some ⟨bk,0,none⟩) gs.length c) wv) w (w2.setCell ⟨b,0,none⟩ (.slice (some ⟨bk,0,none⟩) l.length c)):=fU (Re.mono (fun _ _ h=>absurd h id)) Td (fun _ _ h=>h)
  have kX:∀j,dv b (.slice (some ⟨bk,0,none⟩) l.length c) wv j->dv b (.slice (some ⟨bk,0,none⟩) gs.length c) wv j:=fun j hj=>by
   rcases hj with h|h|h
   ·exact Or.inl h
   ·exact Or.inr (Or.inl h)
   ·exact Or.inr (Or.inr h)
  have H4:=O h4;have rC:=O hFw
  try clear qz
  try clear qN
  try clear ho
  try clear hb
  try clear UX
  try clear kf
  try clear UY
  try clear zy
  try clear UW
  try clear vn
  try clear Td
  try clear KI
  try clear KH
  try clear h3
  try clear Re
  try clear Td
  try clear tG
  try clear UU
  try clear b1v
  try clear UO
  try clear HF
  try clear h4
  try clear hFw
  have adu:=O DH;have UZ:=O Rf;clear DH Rf;by_cases aby:4294967295<=r.count
  ·have hu:=O (show u0 gs o proxy path=(l,.error 12)by
    rw[HL.o];unfold u0;rw[HE.o,aA ab,show((k:Int)).toNat=k from aR,List.getElem?_eq_getElem hk];simp only;rw[<-HCO.o,aA aby])
   go_wp2_with (first|((with_reducible refine cV 133 ?_);refine aG rfl 133 (.tmp 8) (.tmp 42) rfl (w.heap.size+1) eS rfl rfl _ eS UZ.o af rfl ya ?_)|fail)
   refine aU (results_cell_tmp bC _ _ (w.heap.size+1) 133 eS (0,0) _ rfl (aY _ (w.heap.size+1) _ _ _ _ UZ.o) underlying133 rfl af) rfl ?_;unfold qU;rw[hu.o];have hFr:Fr (one (w.heap.size+1)) (w2.setCell ⟨b,0,none⟩ (.slice (some ⟨bk,0,none⟩) l.length c)) ((w2.setCell ⟨b,0,none⟩ (.slice (some ⟨bk,0,none⟩) l.length c)).setRow (w.heap.size+1) eS):=(ae (one (w.heap.size+1)) _).setRow (fun _=>rfl) _
   have hne:∀j,dv b (.slice (some ⟨bk,0,none⟩) gs.length c) wv j->j<w.heap.size:=fun j hj=>by
    rcases hj with hj|hj|hj
    ·omega
    ·obtain⟨cc,e⟩:=h.tN hj;exact bj e
    ·obtain⟨cc,e⟩:=h.vP hj;exact bj e
   refine⟨⟨_,_,H4.o.fr hFr ?_ ?_ ?_ ?_,rC.o.step hFr ?_,fun j hj=>Or.inl (kX j hj)⟩,rfl⟩
   ·rintro j rfl _;exact⟨ab,fun cc f e=>by rw[UZ.o]at e;cases e⟩
   ·intro hh;have e:b=w.heap.size+1:=hh;omega
   ·intro j hj hh;have e:j=w.heap.size+1:=hh;have:=hne j (kX j (Or.inr (Or.inl hj)));omega
   ·intro j hj hh;have e:j=w.heap.size+1:=hh;have:=hne j (kX j (Or.inr (Or.inr hj)));omega
   ·intro j hj hh;have e:j=w.heap.size+1:=hh;omega
  ·have hu:=O (show u0 gs o proxy path=(l++[gs[k].used],.ok gs[k].used)by
    rw[HL.o];unfold u0;rw[HE.o,aA ab,show((k:Int)).toNat=k from aR,List.getElem?_eq_getElem hk];simp only;rw[<-HCO.o,ar aby])
   have hne:∀j,dv b (.slice (some ⟨bk,0,none⟩) gs.length c) wv j->j<w.heap.size:=fun j hj=>by
    rcases hj with hj|hj|hj
    ·omega
    ·obtain⟨cc,e⟩:=h.tN hj;exact bj e
    ·obtain⟨cc,e⟩:=h.vP hj;exact bj e
   go_wp2_with fail
   clear d2 e2 c14 f14;generalize w2.setCell ⟨b,0,none⟩ (.slice (some ⟨bk,0,none⟩) l.length c)=w3 at *
   have ahG:(w3.setCell ⟨u1.heap.size,14,none⟩ (.int .i64 (r.count+1))).heap[u1.heap.size]?=some (.cells r.used.cells.toArray 133 (0,0)):=by
    have e:=adu.o;rw[HX.o]at e;exact b_ e 14 _
   have JK:Fr (one u1.heap.size) w3 (w3.setCell ⟨u1.heap.size,14,none⟩ (.int .i64 (r.count+1))):=(ae (one u1.heap.size) w3).setCell (p:=⟨u1.heap.size,14,none⟩) (fun _=>rfl) _;have adv:rR base w3 (one u1.heap.size):=by
    rintro j rfl _;exact⟨ix,fun cc f e=>by rw[adu.o]at e;cases e⟩
   have pV:¬dv b (.slice (some ⟨bk,0,none⟩) l.length c) wv u1.heap.size:=fun hh=>by
    have:=hne _ (kX _ hh);omega
   have h5:=H4.o.fr JK adv (fun hh=>by have e:b=u1.heap.size:=hh;omega) (fun j hj hh=>by have e:j=u1.heap.size:=hh;subst e;exact pV (Or.inr (Or.inl hj))) (fun j hj hh=>by have e:j=u1.heap.size:=hh;subst e;exact pV (Or.inr (Or.inr hj)));have Ja:aP.Reads (du base (w3.setCell ⟨u1.heap.size,14,none⟩ (.int .i64 (r.count+1)))) r.used gs[k].used:=by
    obtain⟨q1,q2,q3,q4,q5,q6,q7⟩:=Bu.mono (fun _ _ h=>h.fr JK adv);exact⟨q1,q2,q3,q4,q5,by show r.count+1=gs[k].count+1;rw[q6],q7⟩
   have ahH:=O (JK.keep UZ.o (fun hh=>by have e:w.heap.size+1=u1.heap.size:=hh;omega));have adw:Fr (dv b (.slice (some ⟨bk,0,none⟩) gs.length c) wv) w (w3.setCell ⟨u1.heap.size,14,none⟩ (.int .i64 (r.count+1))):=rC.o.step JK (fun j hj hh=>by have e:j=u1.heap.size:=hh;omega);have abz:∀u∈r.used.cells,u.oneCell'=true:=by
    intro u hu;simp only[aP.cells,aP.used,bB,cz,dU]at hu;have ho:=wU.o;simp only[aP.cells,bB,cz,dU]at ho;rcases hu with rfl|rfl|rfl|rfl|rfl|rfl|rfl|rfl|rfl|rfl|rfl|rfl|rfl|rfl|rfl|rfl<;>first|rfl|exact ho _ aR
   have abA:=O abz;have adx:=O ahG;have Jh:=O Ja;have auq:w.heap.size<=w3.heap.size:=rC.o.size;clear abz Bu JK adv adu UZ H4 rC ahG Ja;generalize w3.setCell ⟨u1.heap.size,14,none⟩ (.int .i64 (r.count+1))=w4 at *
   have om:∀i u,r.used.cells[i]?=some u->w4.cell? ⟨u1.heap.size,i,none⟩=some u:=fun i u hu=>by
    simp only[World.cell?,adx.o];simpa using hu
   have x0:=om 0 _ rfl;have x1:=om 1 _ rfl;have x2:=om 2 _ rfl;have x3:=om 3 _ rfl;have x4:=om 4 _ rfl;have x5:=om 5 _ rfl;have x6:=om 6 _ rfl;have x7:=om 7 _ rfl;have x8:=om 8 _ rfl;have x9:=om 9 _ rfl;have Y7:=om 10 _ rfl;have Y8:=om 11 _ rfl;have x12:=om 12 _ rfl;have x13:=om 13 _ rfl;have x14:=om 14 _ rfl;have x15:=om 15 _ rfl;have d0:=h5.c0;have e0:=h5.free 0;have tK:b<w4.heap.size:=h5.lt
   have Yx:u1.heap.size<w4.heap.size:=bj adx.o;obtain⟨i0,qp,o9,kQ,ld⟩:=info_parts x_;obtain⟨rs5,Mq,EU⟩:=h5.bU;have HO5:=O Mq;have HB5:=O EU;have KJ:w4.ownsRow base 133 16 (.slice (some ⟨bk,0,none⟩) l.length c) l.length (rs5.map aP.cells).flatten:=by
    have hh:=Mq.2;rw[ai,EU.len]at hh;exact hh
   have Ai:¬own (.slice (some ⟨bk,0,none⟩) l.length c) b:=h5.gb;clear Mq EU om;simp only[aP.used]at x0 x1 x2 x3 x4 x5 x6 x7 x8 x9 Y7 Y8 x12 x13 x14 x15
   go_region_law ((with_reducible refine mL ⟨some 55,_,_,_,_,_⟩ ?_)
                  refine step_append_lies _ bC _ _ _ bC base 133 i0 _ 16 216 underlying85 qp o9 kQ ld rfl ab (.slice (some ⟨bk,0,none⟩) l.length c) l.length _ bC (by repeat(first|exact KJ|apply World.ownsRow.alloc|apply World.ownsRow.drew)) ⟨w4.heap.size,0,none⟩ 1 1 r.used.cells bC bC (kF w4 r.used.cells _) abA.o ab ft ab bH (w4.heap.size+1) aR ?_
                  intro gg cap w5 vG js dP acU
                  have qR:Fr (own (.slice (some ⟨bk,0,none⟩) l.length c)) w4 w5:=fl (by repeat(first|exact ae _ _|apply az|apply bz)) js (fun _ hk _=>hk)
                  have k4:w5.cell? ⟨b,0,none⟩=some (.slice (some ⟨bk,0,none⟩) l.length c):=(qR.cell (p:=⟨b,0,none⟩) tK Ai).trans d0
                  have e4:w5.frozen? ⟨b,0,none⟩=false:=(qR.frozen (p:=⟨b,0,none⟩) tK Ai).trans e0)
   all_goals
    obtain⟨h6,hF6,ET⟩:=FZ (m:=gs[k].used) h5 HO5.o HB5.o (ae _ _) Jh.o abA.o qR vG (dP.imp id (fun h=>ab));have hnr:¬dv b (.slice (some ⟨bk,0,none⟩) l.length c) wv (w.heap.size+1):=fun hh=>by have:=hne _ (kX _ hh);omega
    have ahJ:=O (hF6.keep adx.o pV);have anC:=O (hF6.keep ahH.o hnr);have SS:=Jh.o.mono (fun _ _ h=>h.fr hF6 h5.off);have anD:=O (adw.step hF6 (fun j hj hb=>kX j hb));have Y_:∀j,dv b (.slice (some ⟨gg,0,none⟩) (l.length+1) cap) wv j->dv b (.slice (some ⟨bk,0,none⟩) gs.length c) wv j\/w.heap.size<=j:=fun j hj=>by
     rcases ET j hj with h|h
     ·exact Or.inl (kX j h)
     ·exact Or.inr (by have:=adw.size;omega)
    have H6:=O h6;have AJ:base<=(w5.setCell ⟨b,0,none⟩ (.slice (some ⟨gg,0,none⟩) (l.length+1) cap)).heap.size:=by have:=h6.lt;omega
    have fB:=O (ur base r.used gs[k].used _ AJ SS);clear x0 x1 x2 x3 x4 x5 x6 x7 x8 x9 Y7 Y8 x12 x13 x14 x15 d0 e0 k4 e4 js vG KJ h6 hF6 SS qR h5 AJ;generalize w5.setCell ⟨b,0,none⟩ (.slice (some ⟨gg,0,none⟩) (l.length+1) cap)=w6 at *
    obtain⟨y,hy⟩:∃y,y=r.used.cells:=⟨_,rfl⟩;have CP:y.length=16:=by rw[hy];rfl
    rw[<-hy]at ahJ fB;have hyi:=O (show(prog.info? 133).map (·.size)=some y.toArray.size by rw[aZ,CP];kernel_rfl);clear hy;go_wp2_with (first|((with_reducible refine dk 58 ?_);refine aI rfl 133 (.tmp 11) rfl u1.heap.size rfl _ y.toArray (0,0) _ ahJ.o underlying133 rfl hyi.o ?_)|fail)
    refine fB.o.mono ?_;intro e w7 Np;obtain⟨r7,rfl,SS,U0,og⟩:=Np;have b7:=O (og.keep anC.o id);have h7:=H6.o.di og;have Tc:=anD.o.trans (og.mono (fun _ _ h=>absurd h id));have yC:(prog.info? 133).map (·.size)=some r7.cells.toArray.size:=af;obtain⟨z,hz⟩:∃z,z=r7.cells:=⟨_,rfl⟩;have HZ:=O hz;have ahK:=O U0;rw[<-hz]at yC U0 ⊢;have kQ:=O (bW U0);have Xp:=O (show eS.size=z.toArray.size by rw[hz];rfl)
    clear hz fB;go_wp2_with (first|((with_reducible refine cV 133 ?_);refine aG rfl 133 (.tmp 8) (.tmp 59) rfl (w.heap.size+1) z.toArray rfl rfl _ eS b7.o yC Xp.o kQ.o ?_)|fail)
    have rG:rR base w7 (one (w.heap.size+1)):=by
     rintro j rfl hj;exact⟨ab,fun c f e=>by rw[b7.o]at e;cases e⟩
    have kx:Fr (one (w.heap.size+1)) w7 (w7.setRow (w.heap.size+1) z.toArray):=(ae (one (w.heap.size+1)) w7).setRow (fun _=>rfl) _;refine aU (results_cell_tmp bC _ _ (w.heap.size+1) 133 z.toArray (0,0) _ rfl (aY w7 (w.heap.size+1) _ _ _ _ b7.o) underlying133 rfl yC) rfl ?_;have adz:¬dv b (.slice (some ⟨gg,0,none⟩) (l.length+1) cap) wv (w.heap.size+1):=fun hh=>by
     have hk7:∃cc t f,w7.heap[w.heap.size+1]?=some (.cells cc t f):=⟨_,_,_,b7.o⟩;rcases ET _ hh with h8|h8
     ·exact hnr h8
     ·have:=adw.size;have:=bj ahH.o;omega
    unfold qU;rw[hu.o];rw[HZ.o]at *
    refine⟨⟨_,_,h7.fr kx rG (fun hh=>adz (Or.inl (by have e:b=w.heap.size+1:=hh;rw[e]))) (fun j hj hh=>adz (Or.inr (Or.inl (by have e:j=w.heap.size+1:=hh;rw[<-e];exact hj)))) (fun j hj hh=>adz (Or.inr (Or.inr (by have e:j=w.heap.size+1:=hh;rw[<-e];exact hj)))),Tc.step kx (fun j hj hh=>by have e:j=w.heap.size+1:=hh;omega),Y_⟩,r7,rfl,SS.mono (fun _ _ h=>h.fr kx rG),ahK.o⟩
 ·have hu:=O (show u0 gs o proxy path=(gs,.error 8)by unfold u0;rw[he];rfl);rw[he];have hp:=kr.same h (HF.setRow (g:=w.heap.size+1) (fun h=>absurd h ab) eS);clear h2 h;go_wp2_with (first|((with_reducible refine cV 133 ?_);refine aG rfl 133 (.tmp 8) (.tmp 19) rfl (w.heap.size+1) eS rfl rfl _ eS UO.o af rfl ya ?_)|fail)
  refine aU (results_cell_tmp bC _ _ (w.heap.size+1) 133 eS (0,0) _ rfl (aY u1 (w.heap.size+1) _ _ _ _ UO.o) underlying133 rfl af) rfl ?_;unfold qU;rw[hu.o];exact⟨hp,rfl⟩
def XA(o:gq)(g:aP bE):Bool:=g.o.kV o
def Nv(o:gq)(g:bI bE):Bool:=g.o.kV o
def PO(o:gq)(x:aX):Bool:=(agw x).kV o
theorem Nw(g:aP Value)(o:gq)(bo:Nat)(w:World)(ho:w.heap[bo]?=some (.cells #[.bool o.aE,.string o.host,.int .i64 o.port] 24 (0,0))) :
  aB 149 #[.agg g.cells.toArray,.pointer (some ⟨bo,0,none⟩)] w fun e w'=>e=.returned (.bool (PO o g.cells))/\Fr aS w w':=by
 have hC:=O (show PO o g.cells=g.o.kV o from rfl);have heq:=jo g.o o;rw[hC.o];unfold aP.cells;have gO:Fr aS w _:=(ae aS w).alloc (.cells #[.bool g.o.aE,.string g.o.host,.int .i64 g.o.port,.bool g.proxy,.string g.user,.string g.pass,.int .i64 g.a.scheme,.string g.a.aK,.string g.a.bq,.string g.a.cy,.bool g.a.cA,.string g.a.eF,.bool g.a.cN,g.a.dom,.int .i64 g.count,g.paths] 133)
 have qN:=O (gO.keep ho id);clear hC ho;go_enter func149,ntmps149;go_wp2_with (first|((with_reducible refine dk 6 ?_);refine aI rfl 24 (.tmp 1) rfl bo rfl _ _ (0,0) _ qN.o underlying24 rfl af ?_)|fail)
 go_ret;exact⟨rfl,gO⟩
theorem Nx(g:bI Value)(o:gq)(bo:Nat)(w:World)(ho:w.heap[bo]?=some (.cells #[.bool o.aE,.string o.host,.int .i64 o.port] 24 (0,0))) :
  aB 151 #[.agg g.cells.toArray,.pointer (some ⟨bo,0,none⟩)] w fun e w'=>e=.returned (.bool (PO o g.cells))/\Fr aS w w':=by
 have hC:=O (show PO o g.cells=g.o.kV o from rfl);have heq:=jo g.o o;rw[hC.o];unfold bI.cells;have gO:Fr aS w _:=(ae aS w).alloc (.cells #[.bool g.o.aE,.string g.o.host,.int .i64 g.o.port,.bool g.proxy,.string g.path,.int .i64 g.a.scheme,.string g.a.aK,.string g.a.bq,.string g.a.cy,.bool g.a.cA,.string g.a.eF,.bool g.a.cN,g.a.dom] 129);have qN:=O (gO.keep ho id);clear hC ho
 go_enter func151,ntmps151;go_wp2_with (first|((with_reducible refine dk 6 ?_);refine aI rfl 24 (.tmp 1) rfl bo rfl _ _ (0,0) _ qN.o underlying24 rfl af ?_)|fail)
 go_ret;exact⟨rfl,gO⟩
theorem DI(S:dB)(w:World)(o:gq)(bo:Nat)(rs:List (aP Value))
  (ho:w.heap[bo]?=some (.cells #[.bool o.aE,.string o.host,.int .i64 o.port] 24 (0,0)))(h1:¬S bo) :
  gL S w 149 #[.pointer (some ⟨bo,0,none⟩)] (PO o) (rs.map aP.cells):=by
 intro x hx u hu;obtain⟨r,hr0,rfl⟩:=bZ.1 hx;exact Nw r o bo u (hu.keep ho h1)
theorem DJ(S:dB)(w:World)(o:gq)(bo:Nat)(rs:List (bI Value))
  (ho:w.heap[bo]?=some (.cells #[.bool o.aE,.string o.host,.int .i64 o.port] 24 (0,0)))(h1:¬S bo) :
  gL S w 151 #[.pointer (some ⟨bo,0,none⟩)] (PO o) (rs.map bI.cells):=by
 intro x hx u hu;obtain⟨r,hr0,rfl⟩:=bZ.1 hx;exact Nx r o bo u (hu.keep ho h1)
theorem Rh{r:aP Value}{g:aP bE}(h:aP.Reads (du base w) r g)(o:gq):PO o r.cells=XA o g:=by
 unfold XA;rw[<-h.1];rfl
theorem Ny{r:bI Value}{g:bI bE}(h:bI.Reads (du base w) r g)(o:gq):PO o r.cells=Nv o g:=by
 unfold Nv;rw[<-h.1];rfl
theorem jY.zv{base:Nat}{w:World}{v:Value}{rs:List (bI Value)}{gs:List (bI bE)}{p:aX->Bool}{q:bI bE->Bool}(h1:OwnRows base 129 13 w v ((rs.map bI.cells).filter (fun x=>!p x)))(h2:kT (bI.Reads (du base w)) rs gs)
  (hpq:∀r g,bI.Reads (du base w) r g->p r.cells=q g):jY base w v (gs.filter (fun g=>!q g))/\((rs.map bI.cells).filter (fun x=>!p x)).length=(gs.filter (fun g=>!q g)).length:=by
 have hb:kT (bI.Reads (du base w)) (rs.filter (fun r=>!p r.cells)) (gs.filter (fun g=>!q g)):=h2.filter (fun r g h=>by rw[hpq r g h]);have he:(rs.map bI.cells).filter (fun x=>!p x)=(rs.filter (fun r=>!p r.cells)).map bI.cells:=by rw[List.filter_map];rfl
 refine⟨⟨_,by rw[he]at h1;exact h1,hb⟩,?_⟩;rw[he,ai,hb.len]
def wI(base:Nat)(w:World)(b:Nat)(gv wv:Value)(gs:List (aP bE))(ws:List (bI bE))(o:gq)(e:Ending)(w':World):Prop :=
 e=.returned (.int .i64 ((gs.length:Int)-((gs.filter (fun g=>!XA o g)).length:Int)))/\kr base w b gv wv (gs.filter (fun g=>!XA o g)) (ws.filter (fun g=>!Nv o g)) w'
theorem F2(base:Nat)(w:World)(b:Nat)(gv wv:Value)(gs:List (aP bE))(ws:List (bI bE))(o:gq)(h:dD base w b gv wv gs ws)(Nn:gs.length<34359738368) :
  aB 92 #[.pointer (some ⟨b,0,none⟩),.agg o.cells.toArray] w (wI base w b gv wv gs ws o):=by
 unfold gq.cells;obtain⟨av,cv,hv⟩:=h.bU.form;obtain⟨aw,cw,hw⟩:=h.waits.form;subst hv hw;have tV:=h.lt;have k_:=h.low;have oW:Fr aS w (w.alloc (.cells #[.bool o.aE,.string o.host,.int .i64 o.port] 24)):=(ae aS w).alloc _;have b0:(w.alloc (.cells #[.bool o.aE,.string o.host,.int .i64 o.port] 24)).heap[w.heap.size]?=some (.cells #[.bool o.aE,.string o.host,.int .i64 o.port] 24 (0,0)):=aC _ _
 have h1:=h.di oW;have h0:=h1.c0;have B0:=O b0;clear b0;go_enter func92,ntmps92;go_wp2_with fail
 clear h0;generalize w.alloc (.cells _ 24)=W at *
 obtain⟨rs,Az,qN⟩:=h1.bU;have hW:w.heap.size<=W.heap.size:=oW.size;have Xz:∀k,own (.slice av gs.length cv) k->k<w.heap.size:=fun k hk=>by
  obtain⟨c,e⟩:=h.tN hk;exact bj e
 have hkw:∀k,own (.slice aw ws.length cw) k->k<w.heap.size:=fun k hk=>by
  obtain⟨c,e⟩:=h.vP hk;exact bj e
 have hd:=O (xo base 149 #[.pointer (some ⟨w.heap.size,0,none⟩)] (PO o) _ _ W call149
  (DI _ W o w.heap.size rs B0.o (fun hk=>by have:=Xz _ hk;omega)) Az)
 refine hd.o.mono ?_;rintro e w2⟨a2,c2,rfl,xN,dz,fA⟩;have US:=qN.mono (fun _ _ h=>h.mono (fun _ _ h=>h.fr dz (fun k hk hl=>h1.off k (Or.inr (Or.inl hk)) hl)));obtain⟨Xt,Y6⟩:=fZ.zv xN US (fun r g h=>Rh h o);rw[Y6]at Xt fA ⊢;have ko:=dz.keep h1.eJ h1.gb;have eA:=h1.waits.fr dz (fun k hk hl=>h1.off k (Or.inr (Or.inl hk)) hl) (fun k hk hg=>h1.gw hg hk);have qH:=nF k_ ko Xt eA
 have c0:w2.cell? ⟨b,0,none⟩=some (.slice av gs.length cv):=by simp[World.cell?,ko]
 have f0:w2.frozen? ⟨b,0,none⟩=false:=by simp[World.frozen?,ko]
 have YV:Fr (dv b (.slice av gs.length cv) (.slice aw ws.length cw)) w w2:=fU (oW.mono (fun _ _ h=>absurd h id)) dz (fun k _ hk=>Or.inr (Or.inl hk));have HB:=YV.setCell (p:=⟨b,0,none⟩) (fun _=>Or.inl rfl) (.slice a2 (gs.filter (fun g=>!XA o g)).length c2);have ahL:=dz.keep B0.o (fun hk=>by have:=Xz _ hk;omega)
 have adD:(w2.setCell ⟨b,0,none⟩ (.slice a2 (gs.filter (fun g=>!XA o g)).length c2)).heap[w.heap.size]?=_:=(sT ab 0 _).trans ahL;have kX:∀k,dv b (.slice a2 (gs.filter (fun g=>!XA o g)).length c2) (.slice aw ws.length cw) k->dv b (.slice av gs.length cv) (.slice aw ws.length cw) k\/w.heap.size<=k:=by
  intro k hk;unfold dv at hk;rw[fA]at hk;exact Or.inl hk
 have zt:(gs.filter (fun g=>!XA o g)).length<=gs.length:=bT _ _;clear hd Az qN US xN ko eA Xt h1 Xz Y6 YV ahL;obtain⟨fs,kx⟩:∃fs,fs=gs.filter (fun g=>!XA o g):=⟨_,rfl⟩;rw[<-kx]at qH fA HB kX adD zt ⊢;have UT:=O kx;have ahM:=O qH;have HBO:=O adD;have k1:=qH.c1;clear kx qH adD;go_wp2_with fail
 clear c0 f0 k1;generalize w2.setCell ⟨b,0,none⟩ (.slice a2 fs.length c2)=w3 at *
 have h3:=ahM.o;obtain⟨rw',hq1,hq2⟩:=h3.waits;have hd:=O (EW base 151 #[.pointer (some ⟨w.heap.size,0,none⟩)] (PO o) _ _ w3 call151
  (DJ _ w3 o w.heap.size rw' HBO.o (fun hk=>by have:=hkw _ hk;omega)) hq1)
 refine hd.o.mono ?_;rintro e w4⟨a4,c4,rfl,YX,kD,eZ⟩;have ahN:=hq2.mono (fun _ _ h=>h.mono (fun _ _ h=>h.fr kD (fun k hk hl=>h3.off k (Or.inr (Or.inr hk)) hl)));obtain⟨hwi,Ew⟩:=jY.zv YX ahN (fun r g h=>Ny h o);rw[Ew]at hwi eZ ⊢;have tK:=kD.keep h3.eJ h3.wb;have BU:=h3.bU.fr kD (fun k hk hl=>h3.off k (Or.inr (Or.inr hk)) hl) (fun k hk hg=>h3.gw hk hg);have qH:=dD.adq k_ tK BU hwi
 have c1:w4.cell? ⟨b,1,none⟩=some (.slice aw ws.length cw):=by simp[World.cell?,tK]
 have f1:w4.frozen? ⟨b,1,none⟩=false:=by simp[World.frozen?,tK]
 have Y':=HB.step kD (fun k _ hk=>Or.inr (Or.inr hk));have HB5:=Y'.setCell (p:=⟨b,1,none⟩) (fun _=>Or.inl rfl) (.slice a4 (ws.filter (fun g=>!Nv o g)).length c4);have U2:∀k,dv b (.slice a2 fs.length c2) (.slice a4 (ws.filter (fun g=>!Nv o g)).length c4) k->dv b (.slice av gs.length cv) (.slice aw ws.length cw) k\/w.heap.size<=k:=by
  intro k hk;refine kX k ?_;unfold dv at hk ⊢;rw[eZ]at hk;exact hk
 obtain⟨fw,BZ⟩:∃fw,fw=ws.filter (fun g=>!Nv o g):=⟨_,rfl⟩;rw[<-BZ]at qH eZ HB5 U2 ⊢;have rC:=O BZ;have ahO:=O qH;have anF:=O HB5;have k0:=qH.c0;clear BZ qH hd hq1 hq2 ahN YX hwi Ew tK BU h3 HB Y' HB5 kX ahM HBO;go_wp2_with fail
 go_ret;unfold wI;rw[<-UT.o, <-rC.o];exact⟨rfl,_,_,ahO.o,anF.o,U2⟩
theorem OwnRows.Ge{e:TypeId}{v:Value}{xs:cY}(h:OwnRows b e k w v xs){g:Nat}(hg:own v g):∃c,w.heap[g]?=some (.cells c e (0,0)):=by
 obtain⟨cap,cur,_,_,h2,_⟩:=h.open hg;exact⟨cur,h2⟩
structure eN (base:Nat) (w:World) (b:Nat) (v:Value) (ps:List ef):Prop where
 low:base<=b
 eJ:w.heap[b]?=some (.cells #[v] 121 (0,0))
 rows:OwnRows base 137 12 w v (ps.map ef.cells)
def iu(b:Nat)(v:Value):dB:=fun k=>k=b\/own v k
def DP(base:Nat)(w:World)(b:Nat)(v:Value)(ps:List ef)(w':World):Prop :=
 ∃v',eN base w' b v' ps/\Fr (iu b v) w w'/\∀k,iu b v' k->iu b v k\/w.heap.size<=k
section
variable {base : Nat} {w w' : World} {b : Nat} {v : Value} {ps : List ef}
theorem eN.lt(h:eN base w b v ps):b<w.heap.size:=bj h.eJ
theorem eN.c0(h:eN base w b v ps):w.cell? ⟨b,0,none⟩=some v:=by simp[World.cell?,h.eJ]
theorem eN.free(h:eN base w b v ps)(k:Nat):w.frozen? ⟨b,k,none⟩=false:=by simp[World.frozen?,h.eJ]
theorem eN.form(h:eN base w b v ps):∃a c,v=.slice a ps.length c:=by
 obtain⟨a,c,e⟩:=h.rows.form;exact⟨a,c,by rw[e,ai]⟩
theorem eN.DQ(h:eN base w b v ps)(hk:own v k):k<w.heap.size:=h.rows.lt k hk
theorem eN.nb(h:eN base w b v ps):¬own v b:=fun hk=>by
 obtain⟨c,e⟩:=h.rows.Ge hk;rw[h.eJ]at e;cases e
theorem eN.jf(h:eN base w b v ps)(hk:iu b v k):k<w.heap.size:=by
 rcases hk with rfl|hk
 ·exact h.lt
 ·exact h.DQ hk
theorem eN.fr(h:eN base w b v ps)(hf:Fr S w w')(hn:∀k,iu b v k->¬S k):eN base w' b v ps :=
 ⟨h.low,hf.keep h.eJ (hn b (Or.inl rfl)),h.rows.fr hf (fun k hk=>hn k (Or.inr hk))⟩
theorem eN.di(h:eN base w b v ps)(hf:Fr aS w w'):eN base w' b v ps:=h.fr hf (fun _ _ h=>h)
end
theorem eN.set{base:Nat}{w:World}{b:Nat}{v0 v:Value}{ps:List ef}(hl:base<=b)(hb:w.heap[b]?=some (.cells #[v0] 121 (0,0)))(hr:OwnRows base 137 12 w v (ps.map ef.cells)) :
  eN base (w.setCell ⟨b,0,none⟩ v) b v ps:=by
 have kx:Fr (one b) w (w.setCell ⟨b,0,none⟩ v):=(ae (one b) w).setCell (p:=⟨b,0,none⟩) (fun _=>rfl) _;refine⟨hl,b_ hb 0 v,hr.fr kx ?_⟩;rintro k hk rfl;obtain⟨c,e⟩:=hr.Ge hk;rw[hb]at e;cases e
theorem KQ(p q:ef)(w:World):(binOp .eql 137 (.agg p.cells.toArray) (.agg q.cells.toArray)).run prog w=.ok (.bool (p.kV q)) w:=by
 obtain⟨⟨a,b,c⟩,⟨d,e,f⟩,g,i,j,k,l,m⟩:=p;obtain⟨⟨a',b',c'⟩,⟨d',e',f'⟩,g',i',j',k',l',m'⟩:=q;unfold ef.cells;go_simp;simp only[show∀(P:Prop) [Decidable P] (W:World) (b:Bool),(if P then(Result.ok (Value.bool b) W:Result Value)else .ok (.bool false) W)=.ok (.bool (decide P&&b)) W from fun P _ W b=>by by_cases h:P<;>simp[h]]
 congr 2
 rw[fb];simp only[ef.kV,gq.kV,cF,dF,dT,and_assoc,iE]
abbrev oM := @eN.set
