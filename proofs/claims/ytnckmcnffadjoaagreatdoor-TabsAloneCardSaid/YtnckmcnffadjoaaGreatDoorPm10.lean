/- Lemmas for the law's walk. -/
import Derived.Test.YtnckmcnffadjoaaGreatDoorPm9
set_option maxRecDepth 100000
set_option maxHeartbeats 16000000
set_option linter.unusedSimpArgs false
namespace Go.Proofs.YtnckmcnffadjoaaGreatDoor
open Go.Proofs.Tryz
open Go.RowKit
variable {D:Type} {k B b base:Nat} {S:dC} {l:aI} {w w':World}
structure gu (D:Type) where
 part:Int
 cX:gA
 o:gA
 path:aj
 query:aj
 method:aj
 ey:D
 fN:Bool
 body:aj
def gu.cells(r:gu Value):aX:=[.int .i64 r.part,.bool r.cX.aE,.string r.cX.host,.int .i64 r.cX.port,.bool r.o.aE,.string r.o.host,.int .i64 r.o.port,.string r.path,.string r.query,.string r.method,r.ey,.bool r.fN,.string r.body]
def gu.dR(r:gu D)(hs:List ig):qY:=⟨r.cX,r.o,r.path,r.query,r.method,hs,r.fN⟩
def qN(w:World)(v:Value)(ps:List eo):Prop:=dY 12 w v (ps.map eo.cells)
def IB(x:aX):eo:=⟨⟨cB x 0,cS x 1,cI x 2⟩,⟨cB x 3,cS x 4,cI x 5⟩,cS x 6,cS x 7,cB x 8,cS x 9,cS x 10,cI x 11⟩
theorem D4(ps:List eo)(f:eo->Bool):(ps.map eo.cells).any (fun x=>f (IB x))=ps.any f:=by
 rw[List.any_map];rfl
theorem Vt(p:eo)(m:aj)(r:gu Value)(bm br:Nat)(w:World)(hm:w.heap[bm]?=some (.cells #[.string m] 9 (0,0)))(hr:w.heap[br]?=some (.cells r.cells.toArray 37 (0,0))) :
  aB 121 #[.agg p.cells.toArray,.pointer (some ⟨bm,0,none⟩),.pointer (some ⟨br,0,none⟩)] w fun e w'=>e=.returned (.bool (p.lets m r.fN))/\Fr aS w w':=by
 unfold eo.cells;unfold gu.cells at hr;have gS:Fr aS w _:=(ae aS w).alloc (.cells #[.bool p.cX.aE,.string p.cX.host,.int .i64 p.cX.port,.bool p.o.aE,.string p.o.host,.int .i64 p.o.port,.string p.path,.string p.query,.bool p.fN,.string p.method,.string p.head,.int .i64 p.pT] 155);have Jw:=gS.keep hm id;have ot:=gS.keep hr id
 have cm:(w.alloc (.cells #[.bool p.cX.aE,.string p.cX.host,.int .i64 p.cX.port,.bool p.o.aE,.string p.o.host,.int .i64 p.o.port,.string p.path,.string p.query,.bool p.fN,.string p.method,.string p.head,.int .i64 p.pT] 155)).cell? ⟨bm,0,none⟩=some (.string m):=by simp[World.cell?,Jw]
 clear Jw;have r_:=O gS;cases e1:(p.method.toList==m.toList)
 ·cases e2:(p.method.toList==star)
  ·have HR:=O (show p.lets m r.fN=false by unfold eo.lets;rw[e1,e2];rfl);have e2':(p.method.toList== [42])=false:=e2;clear gS hm hr e2;go_enter func121,ntmps121;go_wp2;go_ret;exact⟨by rw[HR.o];rfl,r_.o⟩
  ·have e2':(p.method.toList== [42])=true:=e2;have cw:(w.alloc (.cells #[.bool p.cX.aE,.string p.cX.host,.int .i64 p.cX.port,.bool p.o.aE,.string p.o.host,.int .i64 p.o.port,.string p.path,.string p.query,.bool p.fN,.string p.method,.string p.head,.int .i64 p.pT] 155)).cell? ⟨br,11,none⟩=some (.bool r.fN):=by simp[World.cell?,ot]
   cases e3:r.fN
   ·have HR:=O (show p.lets m false=true by unfold eo.lets;rw[e1,e2];rfl);rw[e3]at cw;clear gS hm hr e2 ot e3;go_enter func121,ntmps121;go_wp2;go_ret;exact⟨by rw[HR.o];rfl,r_.o⟩
   ·have HR:=O (show p.lets m true=false by unfold eo.lets;rw[e1,e2];rfl);rw[e3]at cw;clear gS hm hr e2 ot e3;go_enter func121,ntmps121;go_wp2;go_ret;exact⟨by rw[HR.o];rfl,r_.o⟩
 ·have HR:=O (show p.lets m r.fN=true by unfold eo.lets;rw[e1];rfl);clear gS hm hr;go_enter func121,ntmps121;go_wp2;go_ret;exact⟨by rw[HR.o];rfl,r_.o⟩
theorem Lj(p:eo)(m:aj)(r:gu Value)(bm br:Nat)(w:World)(hm:w.heap[bm]?=some (.cells #[.string m] 9 (0,0)))(hr:w.heap[br]?=some (.cells r.cells.toArray 37 (0,0))) :
  aB 123 #[.agg p.cells.toArray,.pointer (some ⟨bm,0,none⟩),.pointer (some ⟨br,0,none⟩)] w fun e w'=>e=.returned (.bool (p.mW m r.fN))/\Fr aS w w':=by
 unfold eo.cells;unfold gu.cells at hr;have gS:Fr aS w _:=(ae aS w).alloc (.cells #[.bool p.cX.aE,.string p.cX.host,.int .i64 p.cX.port,.bool p.o.aE,.string p.o.host,.int .i64 p.o.port,.string p.path,.string p.query,.bool p.fN,.string p.method,.string p.head,.int .i64 p.pT] 155);have Jw:=gS.keep hm id;have ot:=gS.keep hr id
 have cm:(w.alloc (.cells #[.bool p.cX.aE,.string p.cX.host,.int .i64 p.cX.port,.bool p.o.aE,.string p.o.host,.int .i64 p.o.port,.string p.path,.string p.query,.bool p.fN,.string p.method,.string p.head,.int .i64 p.pT] 155)).cell? ⟨bm,0,none⟩=some (.string m):=by simp[World.cell?,Jw]
 clear Jw;have r_:=O gS;cases e1:(p.head.toList==m.toList)
 ·cases e2:(p.head.toList==star)
  ·have HR:=O (show p.mW m r.fN=false by unfold eo.mW;rw[e1,e2];rfl);have e2':(p.head.toList== [42])=false:=e2;clear gS hm hr e2;go_enter func123,ntmps123;go_wp2;go_ret;exact⟨by rw[HR.o];rfl,r_.o⟩
  ·have e2':(p.head.toList== [42])=true:=e2;have cw:(w.alloc (.cells #[.bool p.cX.aE,.string p.cX.host,.int .i64 p.cX.port,.bool p.o.aE,.string p.o.host,.int .i64 p.o.port,.string p.path,.string p.query,.bool p.fN,.string p.method,.string p.head,.int .i64 p.pT] 155)).cell? ⟨br,11,none⟩=some (.bool r.fN):=by simp[World.cell?,ot]
   cases e3:r.fN
   ·rw[e3]at cw;cases e4:(m.toList==abx)
    ·have HR:=O (show p.mW m false=true by unfold eo.mW;rw[e1,e2];unfold bne;rw[e4];rfl);have e4':(m.toList== [97,117,116,104,111,114,105,122,97,116,105,111,110])=false:=e4;clear gS hm hr e2 ot e3 e4;go_enter func123,ntmps123;go_wp2;go_ret;exact⟨by rw[HR.o];rfl,r_.o⟩
    ·have HR:=O (show p.mW m false=false by unfold eo.mW;rw[e1,e2];unfold bne;rw[e4];rfl);have e4':(m.toList== [97,117,116,104,111,114,105,122,97,116,105,111,110])=true:=e4;clear gS hm hr e2 ot e3 e4;go_enter func123,ntmps123;go_wp2;go_ret;exact⟨by rw[HR.o];rfl,r_.o⟩
   ·have HR:=O (show p.mW m true=false by unfold eo.mW;rw[e1,e2];rfl);rw[e3]at cw;clear gS hm hr e2 ot e3;go_enter func123,ntmps123;go_wp2;go_ret;exact⟨by rw[HR.o];rfl,r_.o⟩
 ·have HR:=O (show p.mW m r.fN=true by unfold eo.mW;rw[e1];rfl);clear gS hm hr;go_enter func123,ntmps123;go_wp2;go_ret;exact⟨by rw[HR.o];rfl,r_.o⟩
theorem D5(g:Nat)(cap:bS)(p:aX->Bool)(v:Value)(xs:cZ)(bl:Nat)(w:World)(eg:∀args w,(callFunc g args).run prog w=.ok (.enter g args) w)(hp:gP aS w g cap p xs)(hv:dY 12 w v xs)(hl:w.heap[bl]?=some (.cells #[v] 90 (0,0))) :
  aB 118 #[.func (.func g) #[] cap,.pointer (some ⟨bl,0,none⟩)] w fun e w'=>e=.returned (.bool (xs.any p))/\Fr aS w w':=by
 have hc:=O (Cp g cap p v xs w eg hp hv);obtain⟨av,cv,rfl⟩:=hv.form;have c0:w.cell? ⟨bl,0,none⟩=some (.slice av xs.length cv):=by simp[World.cell?,hl]
 clear hv hl hp;go_enter func118,ntmps118;go_wp2_with fail
 refine hc.o.mono ?_;rintro e u⟨rfl,hf⟩;go_wp2;go_ret;exact⟨rfl,hf⟩
def Gz(r:gu Value)(hs:List ig):Prop:=r.method.size<100000/\hs.length<100000/\∀p∈hs,p.1.size<100000/\p.2.size<100000
def ab9(hs:List aj)(fN:Bool)(ps:List eo)(w:World)(t:Value)(wr:World):Prop :=
 ∃k:Nat,k<=hs.length/\t=.int .i64 k/\(hs.take k).all (fun h=>ps.any (eo.mW h fN))=true/\Fr aS w wr
theorem uG{α:Type}{p:α->Bool}{l:List α}{x:α}(h:l[k]?=some x)(hn:(l.take k).all p=true)(hp:p x=true):(l.take (k+1)).all p=true:=by
 rw[dZ h,j5,hn];simp[hp]
theorem yo{α:Type}{p:α->Bool}{l:List α}{x:α}(h:l[k]?=some x)(hp:p x=false):l.all p=false:=by
 rw[jh];exact⟨x,cq h,by simp[hp]⟩
theorem yp(r:gu Value)(hs:List ig)(v:Value)(ps:List eo)(w:World)(hr:oL w r.ey hs)(hv:qN w v ps)(hz:Gz r hs) :
  aB 62 #[.agg r.cells.toArray,v] w fun e w'=>e=.returned (.bool ((r.dR hs).ng ps))/\Fr aS w w':=by
 have gK:=O (show(r.dR hs).ng ps=((qU (jL r.method)||ps.any (eo.lets (jL r.method) r.fN))&&(xU hs).all fun h=>ps.any (eo.mW h r.fN))from rfl);generalize (r.dR hs).ng ps=res at gK ⊢;obtain⟨av,cv,KS⟩:=dK hv;rw[ai]at KS;subst KS;obtain⟨ah,ch,gH⟩:=dK hr;rw[ai]at gH;obtain⟨rc,uH⟩:∃rc,rc=r.cells.toArray:=⟨_,rfl⟩
 obtain⟨wb,j6⟩:∃wb,wb=(w.alloc (.cells rc 37)).alloc (.cells #[.slice av ps.length cv] 90):=⟨_,rfl⟩;have ks:Fr aS w wb:=by rw[j6];exact((ae aS w).alloc _).alloc _
 have hsb:wb.heap.size=w.heap.size+2:=by rw[j6];simp
 have mf:wb.heap[w.heap.size]?=some (.cells rc 37 (0,0)):=by rw[j6];exact((ae aS _).alloc _).keep (aC _ _) id
 have rZ:wb.heap[w.heap.size+1]?=some (.cells #[.slice av ps.length cv] 90 (0,0)):=by
  have h:=aC (w.alloc (.cells rc 37)) (.cells #[.slice av ps.length cv] 90);rw[bO]at h;rw[j6];exact h
 have HC:=O (show∀U,Fr aS wb U->U.heap[w.heap.size]?=some (.cells r.cells.toArray 37 (0,0))/\U.heap[w.heap.size+1]?=some (.cells #[.slice av ps.length cv] 90 (0,0))from fun U hU=>⟨by rw[<-uH];exact hU.keep mf id,hU.keep rZ id⟩);have HX:=O (show∀U,Fr aS wb U->U.cell? ⟨w.heap.size,9,none⟩=some (.string r.method)/\U.cell? ⟨w.heap.size,10,none⟩=some (.slice ah hs.length ch)from fun U hU=>by
  have j:=(HC.o U hU).1;unfold gu.cells at j;rw[gH]at j;simp[World.cell?,j])
 have HV:=O (show∀U,Fr aS w U->qN U (.slice av ps.length cv) ps from fun U hU=>bh hv hU);have HH:=O (show∀U,Fr aS w U->oL U (.slice ah hs.length ch) hs from fun U hU=>by rw[<-gH];exact bh hr hU);have HZ:=O hz;have mr:=O ks;have qV:=O j6;have PE:=O uH;clear hv hr hz ks j6 mf rZ;rw[<-uH];clear uH;obtain⟨c9,GA⟩:=HX.o wb (ae _ _);rw[qV.o]at c9 GA;go_enter func62,ntmps62;go_wp2_with fail
 rw[<-qV.o];refine(xT r.method wb HZ.o.1).mono ?_;rintro e u1⟨rfl,dr⟩;obtain⟨m,hm⟩:∃m,m=jL r.method:=⟨_,rfl⟩;rw[<-hm]at gK ⊢;clear hm;obtain⟨w1,oy⟩:∃w1,w1=u1.alloc (.cells #[.string m] 9):=⟨_,rfl⟩;have hmb:w1.heap[u1.heap.size]?=some (.cells #[.string m] 9 (0,0)):=by rw[oy];exact aC _ _
 have dB:Fr aS wb w1:=by rw[oy];exact dr.alloc _
 have Ii:=O oy;have lC:=O dB;have k0:w1.cell? ⟨u1.heap.size,0,none⟩=some (.string m):=by simp[World.cell?,hmb]
 have X8:=O hmb;clear dr dB c9 GA oy hmb;go_wp2_with fail
 rw[<-Ii.o];refine(M_ m w1).mono ?_;rintro e u2⟨rfl,rfl⟩
 -- the method is allowed
 have wV:=O (show aB 118 #[.func (.func 121) #[] #[.pointer (some ⟨u1.heap.size,0,none⟩),.pointer (some ⟨w.heap.size,0,none⟩)],.pointer (some ⟨w.heap.size+1,0,none⟩)] w1 fun e w'=>e=.returned (.bool (ps.any (eo.lets m r.fN)))/\Fr aS w1 w' from by
  rw[<-D4];refine D5 _ _ (fun x=>eo.lets m r.fN (IB x)) _ _ _ w1 call121 ?_ (HV.o w1 (mr.o.trans lC.o)) (HC.o w1 lC.o).2;intro x hx u hu;obtain⟨p,hp,rfl⟩:=b_.1 hx;exact Vt p m r _ _ u (hu.keep X8.o id) ((HC.o u (lC.o.trans hu)).1))
 cases pj:qU m
 ·cases sN:ps.any (eo.lets m r.fN)
  ·have HR:=O (show res=false by rw[gK.o,pj,sN];rfl);rw[sN]at wV;clear pj sN gK;go_wp2_with fail
   refine wV.o.mono ?_;rintro e u3⟨rfl,iz⟩;go_wp2;go_ret;exact⟨by rw[HR.o];rfl,(mr.o.trans lC.o).trans iz⟩
  ·have NY:=O (show res=(xU hs).all (fun h=>ps.any (eo.mW h r.fN))by rw[gK.o,pj,sN];rfl);rw[sN]at wV;clear pj sN gK;go_wp2_with fail
   refine wV.o.mono ?_;rintro e u3⟨rfl,iz⟩;have iA:=O (lC.o.trans iz);obtain⟨c9,GA⟩:=HX.o _ iA.o;clear iz wV;go_wp2_with fail
   refine(FX hs _ u3 (HH.o u3 (mr.o.trans iA.o)) HZ.o.2.1 HZ.o.2.2).mono ?_;rintro e u4⟨uv,rfl,ir,kQ⟩;obtain⟨au,cu,huf⟩:=ir.form;obtain⟨nl,rR⟩:∃nl,nl=xU hs:=⟨_,rfl⟩;rw[<-rR]at ir huf NY;subst huf;have jZ:=O (iA.o.trans kQ);have mj:=O ir.at;clear kQ ir rR c9 GA;go_wp2;go_loopw[26] (ab9 nl r.fN ps u4) (fun i _=>nl.length-(intOf i).toNat)
   case atStart=>exact⟨0,aQ _,rfl,rfl,ae _ _⟩
   case round =>
    obtain⟨k,hk,rfl,iX,cL⟩:=hrel;have AL:=O iX;clear iX;by_cases fo:k<nl.length
    ·have pq:(k:Int)<(nl.length:Int):=ab;rcases mj.o.fI cL with ⟨_,_,_,e,_⟩|⟨bk,o,c,hf,h1,h2,h3,h4⟩
     ·rw[e]at fo;exact absurd fo (ct _)
     ·cases hf;unfold maxLen at h2;have dT:=O (List.getElem?_eq_getElem fo);have hc:=h4 k _ dT.o;generalize nl[k]=x at dT hc;clear h4;obtain⟨wx,NZ⟩:∃wx,wx=wr.alloc (.cells #[.string x] 9):=⟨_,rfl⟩;have Y0:wx.heap[wr.heap.size]?=some (.cells #[.string x] 9 (0,0)):=by rw[NZ];exact aC _ _
      have J2:Fr aS wr wx:=by rw[NZ];exact(ae _ _).alloc _
      have CH:=O ((jZ.o.trans cL).trans J2);have ZK:=O (show aB 118 #[.func (.func 123) #[] #[.pointer (some ⟨wr.heap.size,0,none⟩),.pointer (some ⟨w.heap.size,0,none⟩)],.pointer (some ⟨w.heap.size+1,0,none⟩)] wx fun e w'=>e=.returned (.bool (ps.any (eo.mW x r.fN)))/\Fr aS wx w' from by
       rw[<-D4];refine D5 _ _ (fun y=>eo.mW x r.fN (IB y)) _ _ _ wx call123 ?_ (HV.o wx (mr.o.trans CH.o)) (HC.o wx CH.o).2;intro y hy u hu;obtain⟨p,hp,rfl⟩:=b_.1 hy;exact Lj p x r _ _ u (hu.keep Y0 id) ((HC.o u (CH.o.trans hu)).1))
      have TA:=O NZ;have tA:=O (cL.trans J2);clear NZ;cases jk:ps.any (eo.mW x r.fN)
      ·have HR:=O (show res=false by rw[NY.o];exact yo dT.o jk);rw[jk]at ZK;clear jk;go_wp2_with fail
       rw[<-TA.o];refine ZK.o.mono ?_;rintro e u6⟨rfl,nF⟩;go_wp2;go_ret;exact⟨by rw[HR.o];rfl,(mr.o.trans CH.o).trans nF⟩
      ·have qe:=O (uG dT.o AL.o jk);rw[jk]at ZK;clear jk;go_wp2_with fail
       rw[<-TA.o];refine ZK.o.mono ?_;rintro e u6⟨rfl,nF⟩;go_wp2;go_roundw
       case rel=>exact⟨k+1,ab,bg,qe.o,tA.o.trans nF⟩
       case measure=>simp[intOf];omega
    ·have pq:¬(k:Int)<(nl.length:Int):=ab;have HR:=O (show res=true by rw[NY.o];have h:=AL.o;rwa [aD ab]at h);go_wp2;go_ret;exact⟨by rw[HR.o];rfl,mr.o.trans (jZ.o.trans cL)⟩
 ·have NY:=O (show res=(xU hs).all (fun h=>ps.any (eo.mW h r.fN))by rw[gK.o,pj];simp);clear pj gK wV;obtain⟨c9,GA⟩:=HX.o _ lC.o;go_wp2_with fail
  refine(FX hs _ w1 (HH.o w1 (mr.o.trans lC.o)) HZ.o.2.1 HZ.o.2.2).mono ?_;rintro e u4⟨uv,rfl,ir,kQ⟩;obtain⟨au,cu,huf⟩:=ir.form;obtain⟨nl,rR⟩:∃nl,nl=xU hs:=⟨_,rfl⟩;rw[<-rR]at ir huf NY;subst huf;have jZ:=O (lC.o.trans kQ);have mj:=O ir.at;clear kQ ir rR c9 GA;go_wp2;go_loopw[26] (ab9 nl r.fN ps u4) (fun i _=>nl.length-(intOf i).toNat)
  case atStart=>exact⟨0,aQ _,rfl,rfl,ae _ _⟩
  case round =>
   obtain⟨k,hk,rfl,iX,cL⟩:=hrel;have AL:=O iX;clear iX;by_cases fo:k<nl.length
   ·have pq:(k:Int)<(nl.length:Int):=ab;rcases mj.o.fI cL with ⟨_,_,_,e,_⟩|⟨bk,o,c,hf,h1,h2,h3,h4⟩
    ·rw[e]at fo;exact absurd fo (ct _)
    ·cases hf;unfold maxLen at h2;have dT:=O (List.getElem?_eq_getElem fo);have hc:=h4 k _ dT.o;generalize nl[k]=x at dT hc;clear h4;obtain⟨wx,NZ⟩:∃wx,wx=wr.alloc (.cells #[.string x] 9):=⟨_,rfl⟩;have Y0:wx.heap[wr.heap.size]?=some (.cells #[.string x] 9 (0,0)):=by rw[NZ];exact aC _ _
     have J2:Fr aS wr wx:=by rw[NZ];exact(ae _ _).alloc _
     have CH:=O ((jZ.o.trans cL).trans J2);have ZK:=O (show aB 118 #[.func (.func 123) #[] #[.pointer (some ⟨wr.heap.size,0,none⟩),.pointer (some ⟨w.heap.size,0,none⟩)],.pointer (some ⟨w.heap.size+1,0,none⟩)] wx fun e w'=>e=.returned (.bool (ps.any (eo.mW x r.fN)))/\Fr aS wx w' from by
      rw[<-D4];refine D5 _ _ (fun y=>eo.mW x r.fN (IB y)) _ _ _ wx call123 ?_ (HV.o wx (mr.o.trans CH.o)) (HC.o wx CH.o).2;intro y hy u hu;obtain⟨p,hp,rfl⟩:=b_.1 hy;exact Lj p x r _ _ u (hu.keep Y0 id) ((HC.o u (CH.o.trans hu)).1))
     have TA:=O NZ;have tA:=O (cL.trans J2);clear NZ;cases jk:ps.any (eo.mW x r.fN)
     ·have HR:=O (show res=false by rw[NY.o];exact yo dT.o jk);rw[jk]at ZK;clear jk;go_wp2_with fail
      rw[<-TA.o];refine ZK.o.mono ?_;rintro e u6⟨rfl,nF⟩;go_wp2;go_ret;exact⟨by rw[HR.o];rfl,(mr.o.trans CH.o).trans nF⟩
     ·have qe:=O (uG dT.o AL.o jk);rw[jk]at ZK;clear jk;go_wp2_with fail
      rw[<-TA.o];refine ZK.o.mono ?_;rintro e u6⟨rfl,nF⟩;go_wp2;go_roundw
      case rel=>exact⟨k+1,ab,bg,qe.o,tA.o.trans nF⟩
      case measure=>simp[intOf];omega
   ·have pq:¬(k:Int)<(nl.length:Int):=ab;have HR:=O (show res=true by rw[NY.o];have h:=AL.o;rwa [aD ab]at h);go_wp2;go_ret;exact⟨by rw[HR.o];rfl,mr.o.trans (jZ.o.trans cL)⟩
theorem RA(r:gu Value)(hs:List ig)(w:World)(hr:oL w r.ey hs)(hz:Gz r hs) :
  aB 61 #[.agg r.cells.toArray] w fun e w'=>e=.returned (.bool (r.dR hs).needs)/\Fr aS w w':=by
 have gK:=O (show(r.dR hs).needs=(!r.cX.lj r.o&&!(r.dR hs).ng [])from rfl);generalize (r.dR hs).needs=res at gK ⊢;have hne:=BH r.cX r.o;obtain⟨wb,j6⟩:∃wb,wb=w.alloc (.cells r.cells.toArray 37):=⟨_,rfl⟩;have ks:Fr aS w wb:=by rw[j6];exact(ae aS w).alloc _
 have mf:wb.heap[w.heap.size]?=some (.cells r.cells.toArray 37 (0,0)):=by rw[j6];exact aC _ _
 have np:∀i u,r.cells[i]?=some u->wb.cell? ⟨w.heap.size,i,none⟩=some u:=fun i u hu=>by
  simp only[World.cell?,mf];simpa using hu
 have c1:=np 1 _ rfl;have c2:=np 2 _ rfl;have c3:=np 3 _ rfl;have c4:=np 4 _ rfl;have c5:=np 5 _ rfl;have c6:=np 6 _ rfl;have xg:=O (yp r hs (.slice none 0 0) [] wb (bh hr ks) (show dY 12 wb _ []from⟨aR,Or.inl ⟨_,_,rfl,rfl,fun _=>rfl⟩⟩) hz);have mr:=O ks;have c7:=np 7 _ rfl;have c8:=np 8 _ rfl;have c9:=np 9 _ rfl;have GA:=np 10 _ rfl;have TB:=np 11 _ rfl;have c12:=np 12 _ rfl;have c0:=np 0 _ rfl
 obtain⟨ah,ch,gH⟩:=dK hr;rw[ai]at gH;have uH:r.cells=[.int .i64 r.part,.bool r.cX.aE,.string r.cX.host,.int .i64 r.cX.port,.bool r.o.aE,.string r.o.host,.int .i64 r.o.port,.string r.path,.string r.query,.string r.method,.slice ah hs.length ch,.bool r.fN,.string r.body]:=by unfold gu.cells;rw[gH]
 rw[gH]at GA;rw[uH]at xg j6 ⊢;have qV:=O j6;clear gH uH np mf ks j6 hr hz;cases e1:r.cX.lj r.o
 ·have HR:=O (show res=!(r.dR hs).ng []by rw[gK.o,e1];rfl);rw[e1]at hne;clear gK e1;rw[qV.o]at c0 c1 c2 c3 c4 c5 c6 c7 c8 c9 GA TB c12;go_enter func61,ntmps61;go_wp2_with fail
  rw[<-qV.o];refine xg.o.mono ?_;rintro e u⟨rfl,hf⟩;go_wp2;go_ret;exact⟨by rw[HR.o];rfl,mr.o.trans hf⟩
 ·have HR:=O (show res=false by rw[gK.o,e1];rfl);rw[e1]at hne;clear gK e1;rw[qV.o]at c0 c1 c2 c3 c4 c5 c6 c7 c8 c9 GA TB c12;have HF:=O (qV.o▸mr.o);go_enter func61,ntmps61;go_wp2;go_ret;exact⟨by rw[HR.o];rfl,HF.o⟩
theorem vK.off(h:vK B b l w)(hf:Fr S w w')(hb:¬S b)(hS:∀g cur fz,w.heap[g]?=some (.cells cur 5 fz)->¬S g):vK B b l w':=by
 have key:∀p,Lib.BuilderAtF 179 5 B b p (ue l) w->Lib.BuilderAtF 179 5 B b p (ue l) w':=by
  rintro p⟨hB,v,hv,⟨hx,hr⟩,hne⟩;refine⟨hB,v,hf.keep hv hb,⟨hx,?_⟩,hne⟩;rcases hr with hr|⟨g,cap,cur,fz,rfl,h1,hg,h2⟩
  ·exact Or.inl hr
  ·exact Or.inr ⟨g,cap,cur,fz,rfl,h1,hf.keep hg (hS g cur fz hg),h2⟩
 exact h.elim (fun x=>Or.inl (key _ x)) (fun x=>Or.inr (key _ x))
theorem vK.fI(h:vK B b l w)(hf:Fr aS w w'):vK B b l w':=h.off hf id (fun _ _ _ _ h=>h)
def zo(w:World)(d:Nat)(x:Bool):Prop:=w.heap[d]?=some (.cells #[.bool x] 4 (0,0))
theorem zo.Np{d:Nat}{x:Bool}(h:zo w d x)(ho:ahe b w w')(hd:d≠b):zo w' d x :=
 ho d _ h (by simpa using hd) (fun c fz e=>by injection e with _ e2;exact absurd e2 ag)
def AP(q:Bool)(v:Bs):Bs:=if q then(if n9 v then fS v else [])else v
def AQ(q:Bool)(v:Bs):Bool:=q&&!n9 v
def qB(l nm x:Bs):Bs:=l++((if 7<l.length then [44,32]else [])++(nm++61 :: x))
def Y9(B b d:Nat)(l:Bs)(bad:Bool)(nm v:Bs)(q:Bool)(w:World)(e:Ending)(w':World):Prop :=
 e=.returned (.tuple #[])/\vK B b (qB l nm (AP q v)) w'/\zo w' d (bad||AQ q v)/\Below B w w'
theorem XW(a b:Bs):bA a++⟨#[61]⟩++bA b=bA (a++61 :: b):=by
 apply Go.WideShapes.bytes_inj;simp[bA]
theorem Kw(v:Bs):(fS v).length<=2*v.length+2:=by
 have:=Po v;unfold fS;simp;omega
theorem Y_(B b d:Nat)(l nm v:Bs)(bad q:Bool)(w:World)(h:vK B b l w)(hd:zo w d bad)(hne:d≠b)(M5:B<=d)(hn:nm.length<=1000)(hv:v.length<=100000)(hl:l.length<=100000000)(hB:B<=w.heap.size) :
  aB 99 #[.string (bA nm),.string (bA v),.bool q,.pointer (some ⟨d,0,none⟩),.pointer (some ⟨b,0,none⟩)] w (Y9 B b d l bad nm v q w):=by
 have z1:(bA nm).size=nm.length:=rfl;have z2:(bA v).size=v.length:=rfl;have z3:(⟨#[61]⟩:aj).size=1:=rfl;cases q with
 |false =>
  have Tn:AP false v=v:=rfl;go_enter func99,ntmps99;go_wp2_with fail
  refine(vL B b l w h).mono ?_;rintro e wl⟨rfl,rfl⟩;by_cases h7:7<l.length
  ·have Y':(7:Int)<(l.length:Int):=ab;go_wp2_with fail
   refine(eh B b l ⟨#[44,32]⟩ w h (by show l.length+2<=_;omega) (aG hB (Below.refl B w).size)).mono ?_;rintro e wx⟨rfl,qk,FT,Di⟩;have Q3:=(hd).Np Di hne;have tR:=O ((Below.refl B w).trans FT);clear Di FT;go_wp2_with fail
   rw[show bA nm++⟨#[61]⟩++bA v=bA (nm++61 :: v)from XW nm v];refine(eh B b _ (bA (nm++61 :: v)) wx qk (by show(l++[44,32]).length+(nm++61 :: v).length<=_;simp;omega) (aG hB tR.o.size)).mono ?_;rintro e wy⟨rfl,qW,F8,Ic⟩;have Ie:=Q3.Np Ic hne;go_wp2;go_end0;refine⟨rfl,?_,(by rw[show AQ false v=false from rfl,Bool.or_false];exact Ie),tR.o.trans F8⟩
   have e:qB l nm v=l++(⟨#[44,32]⟩:aj).data.toList++(bA (nm++61 :: v)).data.toList:=by unfold qB;rw[az h7,fU];simp
   rw[Tn,e];exact qW
  ·have Y':¬(7:Int)<(l.length:Int):=ab;go_wp2_with fail
   rw[show bA nm++⟨#[61]⟩++bA v=bA (nm++61 :: v)from XW nm v];refine(eh B b l (bA (nm++61 :: v)) w h (by show l.length+(nm++61 :: v).length<=_;simp;omega) (aG hB (Below.refl B w).size)).mono ?_;rintro e wy⟨rfl,qW,F8,Ic⟩;have Ie:=(hd).Np Ic hne;go_wp2;go_end0;refine⟨rfl,?_,(by rw[show AQ false v=false from rfl,Bool.or_false];exact Ie),(Below.refl B w).trans F8⟩
   have e:qB l nm v=l++(bA (nm++61 :: v)).data.toList:=by unfold qB;rw[aq h7,fU];simp
   rw[Tn,e];exact qW
 |true =>
  have c0:∀U,Fr aS w U->U.cell? ⟨d,0,none⟩=some (.bool bad)/\U.frozen? ⟨d,0,none⟩=false:=fun U hU=>by
   have h1:=hU.keep hd id;exact⟨by simp[World.cell?,h1],by simp[World.frozen?,h1]⟩
  have Uy:=O c0;clear c0;cases ht:n9 v with
  |true =>
   have Tn:AP true v=fS v:=by unfold AP;rw[ht];rfl
   have Za:AQ true v=false:=by unfold AQ;rw[ht];rfl
   have hql:=Kw v;have z4:(bA (fS v)).size=(fS v).length:=rfl;go_enter func99,ntmps99;go_wp2_with fail
   refine(FE (bA v) w ab).mono ?_;rintro e w1⟨rfl,dr⟩;rw[fU,az ht];obtain⟨k0,k1⟩:=Uy.o w1 dr;obtain⟨w2,eE⟩:∃w2,w2=w1.setCell ⟨d,0,none⟩ (.bool bad):=⟨_,rfl⟩;have yS:=dr.keep hd id;have sI:zo w2 d bad:=by rw[eE];exact cg yS 0 (.bool bad)
   have dB:Fr (one d) w1 w2:=by rw[eE];exact(ae (one d) w1).setCell (p:=⟨d,0,none⟩) (fun _=>rfl) _
   have kB:vK B b l w2:=(h.fI dr).off dB (fun e=>hne e.symm) (fun g cur fz hg e=>by have e':g=d:=e;subst e';rw[yS]at hg;injection hg with hg;injection hg with _ hg;exact absurd hg ag);have pV:=O (show Below B w w2 from((oD dr).mono hB).trans (by rw[eE];exact(Below.refl B w1).setCell (p:=⟨d,0,none⟩) M5 _));have nI:=O eE;clear eE dr dB yS;have hee:(⟨(fS v).toArray⟩:aj)=bA (fS v):=rfl;rw[hee]
   cases bad with
   |true =>
    go_wp2_with fail
    rw[<-nI.o];refine(vL B b l w2 kB).mono ?_;rintro e wl⟨rfl,rfl⟩;by_cases h7:7<l.length
    ·have Y':(7:Int)<(l.length:Int):=ab;go_wp2_with fail
     refine(eh B b l ⟨#[44,32]⟩ w2 kB (by show l.length+2<=_;omega) (aG hB (pV.o).size)).mono ?_;rintro e wx⟨rfl,qk,FT,Di⟩;have Q3:=(sI).Np Di hne;have tR:=O ((pV.o).trans FT);clear Di FT;go_wp2_with fail
     rw[show bA nm++⟨#[61]⟩++bA (fS v)=bA (nm++61 :: (fS v))from XW nm (fS v)];refine(eh B b _ (bA (nm++61 :: (fS v))) wx qk (by show(l++[44,32]).length+(nm++61 :: (fS v)).length<=_;simp;omega) (aG hB tR.o.size)).mono ?_;rintro e wy⟨rfl,qW,F8,Ic⟩;have Ie:=Q3.Np Ic hne;go_wp2;go_end0;refine⟨rfl,?_,(by rw[Za];exact Ie),tR.o.trans F8⟩
     have e:qB l nm (fS v)=l++(⟨#[44,32]⟩:aj).data.toList++(bA (nm++61 :: (fS v))).data.toList:=by unfold qB;rw[az h7,fU];simp
     rw[Tn,e];exact qW
    ·have Y':¬(7:Int)<(l.length:Int):=ab;go_wp2_with fail
     rw[show bA nm++⟨#[61]⟩++bA (fS v)=bA (nm++61 :: (fS v))from XW nm (fS v)];refine(eh B b l (bA (nm++61 :: (fS v))) w2 kB (by show l.length+(nm++61 :: (fS v)).length<=_;simp;omega) (aG hB (pV.o).size)).mono ?_;rintro e wy⟨rfl,qW,F8,Ic⟩;have Ie:=(sI).Np Ic hne;go_wp2;go_end0;refine⟨rfl,?_,(by rw[Za];exact Ie),(pV.o).trans F8⟩
     have e:qB l nm (fS v)=l++(bA (nm++61 :: (fS v))).data.toList:=by unfold qB;rw[aq h7,fU];simp
     rw[Tn,e];exact qW
   |false =>
    go_wp2_with fail
    rw[<-nI.o];refine(vL B b l w2 kB).mono ?_;rintro e wl⟨rfl,rfl⟩;by_cases h7:7<l.length
    ·have Y':(7:Int)<(l.length:Int):=ab;go_wp2_with fail
     refine(eh B b l ⟨#[44,32]⟩ w2 kB (by show l.length+2<=_;omega) (aG hB (pV.o).size)).mono ?_;rintro e wx⟨rfl,qk,FT,Di⟩;have Q3:=(sI).Np Di hne;have tR:=O ((pV.o).trans FT);clear Di FT;go_wp2_with fail
     rw[show bA nm++⟨#[61]⟩++bA (fS v)=bA (nm++61 :: (fS v))from XW nm (fS v)];refine(eh B b _ (bA (nm++61 :: (fS v))) wx qk (by show(l++[44,32]).length+(nm++61 :: (fS v)).length<=_;simp;omega) (aG hB tR.o.size)).mono ?_;rintro e wy⟨rfl,qW,F8,Ic⟩;have Ie:=Q3.Np Ic hne;go_wp2;go_end0;refine⟨rfl,?_,(by rw[Za];exact Ie),tR.o.trans F8⟩
     have e:qB l nm (fS v)=l++(⟨#[44,32]⟩:aj).data.toList++(bA (nm++61 :: (fS v))).data.toList:=by unfold qB;rw[az h7,fU];simp
     rw[Tn,e];exact qW
    ·have Y':¬(7:Int)<(l.length:Int):=ab;go_wp2_with fail
     rw[show bA nm++⟨#[61]⟩++bA (fS v)=bA (nm++61 :: (fS v))from XW nm (fS v)];refine(eh B b l (bA (nm++61 :: (fS v))) w2 kB (by show l.length+(nm++61 :: (fS v)).length<=_;simp;omega) (aG hB (pV.o).size)).mono ?_;rintro e wy⟨rfl,qW,F8,Ic⟩;have Ie:=(sI).Np Ic hne;go_wp2;go_end0;refine⟨rfl,?_,(by rw[Za];exact Ie),(pV.o).trans F8⟩
     have e:qB l nm (fS v)=l++(bA (nm++61 :: (fS v))).data.toList:=by unfold qB;rw[aq h7,fU];simp
     rw[Tn,e];exact qW
  |false =>
   have Tn:AP true v=[]:=by unfold AP;rw[ht];rfl
   have Za:AQ true v=true:=by unfold AQ;rw[ht];rfl
   have z4:(bA []).size=0:=rfl;go_enter func99,ntmps99;go_wp2_with fail
   refine(FE (bA v) w ab).mono ?_;rintro e w1⟨rfl,dr⟩;rw[fU,ht];simp only[cJ,eW];obtain⟨k0,k1⟩:=Uy.o w1 dr;obtain⟨w2,eE⟩:∃w2,w2=w1.setCell ⟨d,0,none⟩ (.bool true):=⟨_,rfl⟩;have yS:=dr.keep hd id;have sI:zo w2 d true:=by rw[eE];exact cg yS 0 (.bool true)
   have dB:Fr (one d) w1 w2:=by rw[eE];exact(ae (one d) w1).setCell (p:=⟨d,0,none⟩) (fun _=>rfl) _
   have kB:vK B b l w2:=(h.fI dr).off dB (fun e=>hne e.symm) (fun g cur fz hg e=>by have e':g=d:=e;subst e';rw[yS]at hg;injection hg with hg;injection hg with _ hg;exact absurd hg ag);have pV:=O (show Below B w w2 from((oD dr).mono hB).trans (by rw[eE];exact(Below.refl B w1).setCell (p:=⟨d,0,none⟩) M5 _));have nI:=O eE;clear eE dr dB yS;have hee:(⟨#[]⟩:aj)=bA []:=rfl;rw[hee];cases bad with
   |true =>
    go_wp2_with fail
    rw[<-nI.o];refine(vL B b l w2 kB).mono ?_;rintro e wl⟨rfl,rfl⟩;by_cases h7:7<l.length
    ·have Y':(7:Int)<(l.length:Int):=ab;go_wp2_with fail
     refine(eh B b l ⟨#[44,32]⟩ w2 kB (by show l.length+2<=_;omega) (aG hB (pV.o).size)).mono ?_;rintro e wx⟨rfl,qk,FT,Di⟩;have Q3:=(sI).Np Di hne;have tR:=O ((pV.o).trans FT);clear Di FT;go_wp2_with fail
     rw[show bA nm++⟨#[61]⟩++bA []=bA (nm++61 :: [])from XW nm []];refine(eh B b _ (bA (nm++61 :: [])) wx qk (by show(l++[44,32]).length+(nm++61 :: []).length<=_;simp;omega) (aG hB tR.o.size)).mono ?_;rintro e wy⟨rfl,qW,F8,Ic⟩;have Ie:=Q3.Np Ic hne;go_wp2;go_end0;refine⟨rfl,?_,(by rw[Za,kq];exact Ie),tR.o.trans F8⟩
     have e:qB l nm []=l++(⟨#[44,32]⟩:aj).data.toList++(bA (nm++61 :: [])).data.toList:=by unfold qB;rw[az h7,fU];simp
     rw[Tn,e];exact qW
    ·have Y':¬(7:Int)<(l.length:Int):=ab;go_wp2_with fail
     rw[show bA nm++⟨#[61]⟩++bA []=bA (nm++61 :: [])from XW nm []];refine(eh B b l (bA (nm++61 :: [])) w2 kB (by show l.length+(nm++61 :: []).length<=_;simp;omega) (aG hB (pV.o).size)).mono ?_;rintro e wy⟨rfl,qW,F8,Ic⟩;have Ie:=(sI).Np Ic hne;go_wp2;go_end0;refine⟨rfl,?_,(by rw[Za,kq];exact Ie),(pV.o).trans F8⟩;have e:qB l nm []=l++(bA (nm++61 :: [])).data.toList:=by unfold qB;rw[aq h7,fU];simp
     rw[Tn,e];exact qW
   |false =>
    go_wp2_with fail
    rw[<-nI.o];refine(vL B b l w2 kB).mono ?_;rintro e wl⟨rfl,rfl⟩;by_cases h7:7<l.length
    ·have Y':(7:Int)<(l.length:Int):=ab;go_wp2_with fail
     refine(eh B b l ⟨#[44,32]⟩ w2 kB (by show l.length+2<=_;omega) (aG hB (pV.o).size)).mono ?_;rintro e wx⟨rfl,qk,FT,Di⟩;have Q3:=(sI).Np Di hne;have tR:=O ((pV.o).trans FT);clear Di FT;go_wp2_with fail
     rw[show bA nm++⟨#[61]⟩++bA []=bA (nm++61 :: [])from XW nm []];refine(eh B b _ (bA (nm++61 :: [])) wx qk (by show(l++[44,32]).length+(nm++61 :: []).length<=_;simp;omega) (aG hB tR.o.size)).mono ?_;rintro e wy⟨rfl,qW,F8,Ic⟩;have Ie:=Q3.Np Ic hne;go_wp2;go_end0;refine⟨rfl,?_,(by rw[Za,kq];exact Ie),tR.o.trans F8⟩
     have e:qB l nm []=l++(⟨#[44,32]⟩:aj).data.toList++(bA (nm++61 :: [])).data.toList:=by unfold qB;rw[az h7,fU];simp
     rw[Tn,e];exact qW
    ·have Y':¬(7:Int)<(l.length:Int):=ab;go_wp2_with fail
     rw[show bA nm++⟨#[61]⟩++bA []=bA (nm++61 :: [])from XW nm []];refine(eh B b l (bA (nm++61 :: [])) w2 kB (by show l.length+(nm++61 :: []).length<=_;simp;omega) (aG hB (pV.o).size)).mono ?_;rintro e wy⟨rfl,qW,F8,Ic⟩;have Ie:=(sI).Np Ic hne;go_wp2;go_end0;refine⟨rfl,?_,(by rw[Za,kq];exact Ie),(pV.o).trans F8⟩;have e:qB l nm []=l++(bA (nm++61 :: [])).data.toList:=by unfold qB;rw[aq h7,fU];simp
     rw[Tn,e];exact qW
def aP.used(g:aP D):aP D:={g with count:=g.count+1}
def vr(gs:List (aP bE))(o:gA)(proxy:Bool)(path:aj):List (aP bE)×Except Nat (aP bE) :=
 if 0<=tW gs o proxy path then
  match gs[(tW gs o proxy path).toNat]? with
  |some g =>
   let l:=gs.take (tW gs o proxy path).toNat++gs.drop ((tW gs o proxy path).toNat+1)
   if 4294967295<=g.count then(l,.error 12)else(l++[g.used],.ok g.used)
  |none=>(gs,.error 8)
 else(gs,.error 8)
def re(base:Nat)(w:World)(b:Nat)(gv wv:Value)(ws:List (bJ bE))(u:List (aP bE)×Except Nat (aP bE))(e:Ending)(w':World):Prop :=
 kE base w b gv wv u.1 ws w'/\match u.2 with
 | .error n=>e=.returned (.tuple #[.agg eS,.iface 105 (.int .i64 n)])
 | .ok g=>∃r:aP Value,e=.returned (.tuple #[.agg r.cells.toArray,.nilIface])/\r.Reads (dv base w') g/\∀u∈r.cells,u.oneCell'=true
theorem kE.same{gv wv:Value}{gs:List (aP bE)}{ws:List (bJ bE)}(h:dE base w b gv wv gs ws)(hf:Fr aS w w'):kE base w b gv wv gs ws w' :=
 ⟨gv,wv,h.dm hf,hf.mono (fun _ _ h=>absurd h id),fun _ hk=>Or.inl hk⟩
theorem NP{base:Nat}{w5 w6:World}{b gg cap i n:Nat}{wv:Value}{ls:List (aP bE)}{ws:List (bJ bE)}{rs:List (aP Value)}(h5:dE base w5 b (.slice (some ⟨gg,0,none⟩) ls.length cap) wv ls ws)
  (hb:lg (aP.Reads (dv base w5)) rs ls)(zm:OwnRows base 114 16 w6 (.slice (some ⟨gg,0,none⟩) (i+(ls.length-n)) cap) ((rs.map aP.cells).take i++(rs.map aP.cells).drop n))(nF:Fr (one gg) w5 w6) :
  dE base (w6.setCell ⟨b,0,none⟩ (.slice (some ⟨gg,0,none⟩) (i+(ls.length-n)) cap)) b (.slice (some ⟨gg,0,none⟩) (i+(ls.length-n)) cap) wv (ls.take i++ls.drop n) ws /\
  Fr (dw b (.slice (some ⟨gg,0,none⟩) ls.length cap) wv) w5 (w6.setCell ⟨b,0,none⟩ (.slice (some ⟨gg,0,none⟩) (i+(ls.length-n)) cap))/\w6.cell? ⟨b,0,none⟩=some (.slice (some ⟨gg,0,none⟩) ls.length cap)/\w6.frozen? ⟨b,0,none⟩=false:=by
 have lo:=h5.low;have eb:∀k,one gg k->own (.slice (some ⟨gg,0,none⟩) ls.length cap) k:=fun k hk=>by have e:k=gg:=hk;rw[e];rfl
 have mS:rY base w5 (one gg):=fun k hk hl=>h5.off k (Or.inr (Or.inl (eb k hk))) hl;have sX:=nF.keep h5.eL (fun h=>h5.gb (eb _ h));have zG:ki base w6 wv ws:=h5.waits.fr nF mS (fun k hk hg=>h5.gw (eb _ hg) hk);have hm:=hb.mono (fun _ _ h=>h.mono (fun _ _ h=>h.fr nF mS));have hg6:gi base w6 (.slice (some ⟨gg,0,none⟩) (i+(ls.length-n)) cap) (ls.take i++ls.drop n):=by
  refine⟨rs.take i++rs.drop n,?_,(hm.take i).app (hm.drop n)⟩;rw[bG,List.map_take,List.map_drop];exact zm
 have Uw:Fr (dw b (.slice (some ⟨gg,0,none⟩) ls.length cap) wv) w5 w6:=nF.mono (fun k _ hk=>Or.inr (Or.inl (eb k hk)));exact⟨nK lo sX hg6 zG,Uw.setCell (p:=⟨b,0,none⟩) (fun _=>Or.inl rfl) _,by simp[World.cell?,sX],by simp[World.frozen?,sX]⟩
theorem ZD(base:Nat)(w:World)(b:Nat)(gv wv:Value)(gs:List (aP bE))(ws:List (bJ bE))(o:gA)(proxy:Bool)(path:aj)(h:dE base w b gv wv gs ws)(NJ:gs.length<34359738368)(hcn:∀g∈gs,0<=g.count) :
  aB 48 #[.pointer (some ⟨b,0,none⟩),.agg o.cells.toArray,.bool proxy,.string path] w (re base w b gv wv ws (vr gs o proxy path)):=by
 unfold gA.cells;have uf:=h.lt;have lo:=h.low;have pd:Fr aS w _:=((ae aS w).alloc (.cells #[.bool o.aE,.string o.host,.int .i64 o.port] 32)).alloc (.cells eS 114);have b1:=aC (w.alloc (.cells #[.bool o.aE,.string o.host,.int .i64 o.port] 32)) (.cells eS 114);rw[show(w.alloc (.cells #[.bool o.aE,.string o.host,.int .i64 o.port] 32)).heap.size=w.heap.size+1 from aR]at b1;have h1:=h.dm pd
 have ab3:=O (U8 base _ b gv wv gs ws o proxy path h1);have P8:=O b1;clear b1;go_enter func48,ntmps48;go_wp2_with fail
 generalize (w.alloc (.cells _ 32)).alloc _=W at *
 refine ab3.o.mono ?_;rintro e u1⟨rfl,dr⟩;have U_:=O (dr.keep P8.o id);have HF:=pd.trans dr;have h2:=h1.dm dr;clear ab3 P8 pd dr h1;have yn:w.heap.size+1<u1.heap.size:=bj U_.o;rcases Vb gs o proxy path with ⟨k,hk,he⟩|he
 ·obtain⟨bk,c,dB,sN,r,eb,hr,hcell⟩:=h2.bH.at hk;subst dB;unfold maxLen at sN;have d0:=h2.c0;obtain⟨x,hx⟩:∃x,x=r.cells:=⟨_,rfl⟩;have lB:x.length=16:=by rw[hx];rfl
  have ir:=fun W=>run_storeCells_new (P:=prog) W 114 #[.bool false,.string ⟨#[]⟩,.int .i64 0,.bool false,.string ⟨#[]⟩,.string ⟨#[]⟩,.int .i64 0,.string ⟨#[]⟩,.string ⟨#[]⟩,.string ⟨#[]⟩,.bool false,.string ⟨#[]⟩,.bool false,.slice none 0 0,.int .i64 0,.slice none 0 0] x (by rw[lB];rfl) (by rw[hx];exact eb);have DN:=O (show(prog.info? 114).map (·.size)=some x.length by rw[lB];kernel_rfl)
  have NQ:r.count=gs[k].count:=hr.2.2.2.2.2.1;have hc0:0<=r.count:=by rw[NQ];exact hcn _ (bN hk)
  have HX:=O hx;have HE:=O he;rw[<-hx]at hcell;have hub:b<u1.heap.size:=h2.lt;have gS:Fr aS u1 (u1.alloc (.cells x.toArray 114)):=(ae aS u1).alloc _;have qk:(u1.alloc (.cells x.toArray 114)).heap[u1.heap.size]?=some (.cells x.toArray 114 (0,0)):=aC _ _;have h3:=h2.dm gS;have rF:=hr.mono (fun _ _ h=>h.dm gS);obtain⟨rs,ho,hb⟩:=h3.bH;have ve:=O (show(rs.map aP.cells).length=gs.length by rw[ai,hb.len])
  have qG:=O (Gm base bk c k (k+1) (rs.map aP.cells) _ (by rw[ve.o];exact ho) ab (by rw[ve.o];omega));rw[ve.o,show((k+1:Nat):Int)=(k:Int)+1 from ab]at qG;have aog:bk<u1.heap.size:=by
   obtain⟨cc,e⟩:=h2.tY (k:=bk) rfl;exact bj e
  have tR:=O qk;have HCO:=O NQ;have Vf:=O rF;have xc:=O eb;rw[he];clear hx he qk NQ hr rF eb h2;go_wp2_with (first|((with_reducible refine di 27 ?_);refine a_ rfl 114 (.tmp 26) rfl bk (k*16) rfl x _ hcell underlying114 rfl DN.o ?_)|fail)
  clear ir hcell d0;have iE:base<=u1.heap.size:=ab;have Rw:Fr aS w (u1.alloc (.cells x.toArray 114)):=HF.alloc _;have FT:u1.heap.size<(u1.alloc (.cells x.toArray 114)).heap.size:=aR;have b1v:=O (gS.keep U_.o id);generalize u1.alloc (.cells x.toArray 114)=V at *
  refine qG.o.mono ?_;rintro e w2⟨rfl,qX,dB⟩;obtain⟨h4,Ty,d2,e2⟩:=NP h3 hb (by exact qX) dB;obtain⟨l,hl⟩:∃l,l=gs.take k++gs.drop (k+1):=⟨_,rfl⟩;have hm:k+(gs.length-(k+1))=l.length:=by rw[hl,aN,aM,bK];omega
  have hlen:l.length<=gs.length:=ab;rw[<-hl]at h4;rw[hm]at h4 Ty ⊢;have HL:=O hl;clear hl hm;have Lc:rY base V (own (.slice (some ⟨bk,0,none⟩) gs.length c)):=ho.off (ay _) ag;have Ld:rY base V (one bk):=fun j hj hl=>Lc j (by have e:j=bk:=hj;rw[e];rfl) hl;have zH:=dB.keep tR.o (fun h=>by have e:u1.heap.size=bk:=h;omega)
  have Vg:=dB.keep b1v.o (fun hh=>by have e:w.heap.size+1=bk:=hh;obtain⟨cc,e2⟩:=h.tY (k:=bk) rfl;have:=bj e2;omega);have vA:=Vf.o.mono (fun _ _ h=>h.fr dB Ld);have c14:w2.cell? ⟨u1.heap.size,14,none⟩=some (.int .i64 r.count):=by
   have e:=HX.o;simp only[World.cell?,zH,e];rfl
  have f14:w2.frozen? ⟨u1.heap.size,14,none⟩=false:=by simp[World.frozen?,zH]
  have Vh:w2.heap[b]?=some (.cells #[.slice (some ⟨bk,0,none⟩) gs.length c,wv] 89 (0,0)):=dB.keep h3.eL (fun h=>h3.gb (by have e:b=bk:=h;rw[e];rfl));have ks:Fr (one b) w2 (w2.setCell ⟨b,0,none⟩ (.slice (some ⟨bk,0,none⟩) l.length c)):=(ae (one b) w2).setCell (p:=⟨b,0,none⟩) (fun _=>rfl) _;have Vi:rY base w2 (one b):=by
   rintro j rfl _;exact⟨lo,fun cc f e=>by rw[Vh]at e;cases e⟩
  have DZ:=ks.keep zH (fun h=>by have e:u1.heap.size=b:=h;omega);have Rx:=ks.keep Vg (fun h=>by have e:w.heap.size+1=b:=h;omega);have BN:=vA.mono (fun _ _ h=>h.fr ks Vi);have hFw:Fr (dw b (.slice (some ⟨bk,0,none⟩) gs.length c) wv) w (w2.setCell ⟨b,0,none⟩ (.slice (some ⟨bk,0,none⟩) l.length c)):=fV (Rw.mono (fun _ _ h=>absurd h id)) Ty (fun _ _ h=>h)
  have ll:∀j,dw b (.slice (some ⟨bk,0,none⟩) l.length c) wv j->dw b (.slice (some ⟨bk,0,none⟩) gs.length c) wv j:=fun j hj=>by
   rcases hj with h|h|h
   ·exact Or.inl h
   ·exact Or.inr (Or.inl h)
   ·exact Or.inr (Or.inr h)
  have H4:=O h4;have rK:=O hFw
  try clear qG
  try clear qX
  try clear ho
  try clear hb
  try clear Vh
  try clear ks
  try clear Vi
  try clear zH
  try clear Vg
  try clear vA
  try clear Ty
  try clear Ld
  try clear Lc
  try clear h3
  try clear Rw
  try clear Ty
  try clear tR
  try clear Vf
  try clear b1v
  try clear U_
  try clear HF
  try clear h4
  try clear hFw
  have adZ:=O DZ;have Vj:=O Rx;clear DZ Rx;by_cases ab4:4294967295<=r.count
  ·have hu:=O (show vr gs o proxy path=(l,.error 12)by
    rw[HL.o];unfold vr;rw[HE.o,az ab,show((k:Int)).toNat=k from aR,List.getElem?_eq_getElem hk];simp only;rw[<-HCO.o,az ab4])
   go_wp2_with (first|((with_reducible refine cW 114 ?_);refine aF rfl 114 (.tmp 8) (.tmp 42) rfl (w.heap.size+1) eS rfl rfl _ eS Vj.o af rfl yi ?_)|fail)
   refine aU (results_cell_tmp bC _ _ (w.heap.size+1) 114 eS (0,0) _ rfl (aY _ (w.heap.size+1) _ _ _ _ Vj.o) underlying114 rfl af) rfl ?_;unfold re;rw[hu.o];have hFr:Fr (one (w.heap.size+1)) (w2.setCell ⟨b,0,none⟩ (.slice (some ⟨bk,0,none⟩) l.length c)) ((w2.setCell ⟨b,0,none⟩ (.slice (some ⟨bk,0,none⟩) l.length c)).setRow (w.heap.size+1) eS):=(ae (one (w.heap.size+1)) _).setRow (fun _=>rfl) _
   have hne:∀j,dw b (.slice (some ⟨bk,0,none⟩) gs.length c) wv j->j<w.heap.size:=fun j hj=>by
    rcases hj with hj|hj|hj
    ·omega
    ·obtain⟨cc,e⟩:=h.tY hj;exact bj e
    ·obtain⟨cc,e⟩:=h.vZ hj;exact bj e
   refine⟨⟨_,_,H4.o.fr hFr ?_ ?_ ?_ ?_,rK.o.step hFr ?_,fun j hj=>Or.inl (ll j hj)⟩,rfl⟩
   ·rintro j rfl _;exact⟨ab,fun cc f e=>by rw[Vj.o]at e;cases e⟩
   ·intro hh;have e:b=w.heap.size+1:=hh;omega
   ·intro j hj hh;have e:j=w.heap.size+1:=hh;have:=hne j (ll j (Or.inr (Or.inl hj)));omega
   ·intro j hj hh;have e:j=w.heap.size+1:=hh;have:=hne j (ll j (Or.inr (Or.inr hj)));omega
   ·intro j hj hh;have e:j=w.heap.size+1:=hh;omega
  ·have hu:=O (show vr gs o proxy path=(l++[gs[k].used],.ok gs[k].used)by
    rw[HL.o];unfold vr;rw[HE.o,az ab,show((k:Int)).toNat=k from aR,List.getElem?_eq_getElem hk];simp only;rw[<-HCO.o,aq ab4])
   have hne:∀j,dw b (.slice (some ⟨bk,0,none⟩) gs.length c) wv j->j<w.heap.size:=fun j hj=>by
    rcases hj with hj|hj|hj
    ·omega
    ·obtain⟨cc,e⟩:=h.tY hj;exact bj e
    ·obtain⟨cc,e⟩:=h.vZ hj;exact bj e
   go_wp2_with fail
   clear d2 e2 c14 f14;generalize w2.setCell ⟨b,0,none⟩ (.slice (some ⟨bk,0,none⟩) l.length c)=w3 at *
   have aif:(w3.setCell ⟨u1.heap.size,14,none⟩ (.int .i64 (r.count+1))).heap[u1.heap.size]?=some (.cells r.used.cells.toArray 114 (0,0)):=by
    have e:=adZ.o;rw[HX.o]at e;exact cg e 14 _
   have J2:Fr (one u1.heap.size) w3 (w3.setCell ⟨u1.heap.size,14,none⟩ (.int .i64 (r.count+1))):=(ae (one u1.heap.size) w3).setCell (p:=⟨u1.heap.size,14,none⟩) (fun _=>rfl) _;have ad0:rY base w3 (one u1.heap.size):=by
    rintro j rfl _;exact⟨iE,fun cc f e=>by rw[adZ.o]at e;cases e⟩
   have qe:¬dw b (.slice (some ⟨bk,0,none⟩) l.length c) wv u1.heap.size:=fun hh=>by
    have:=hne _ (ll _ hh);omega
   have h5:=H4.o.fr J2 ad0 (fun hh=>by have e:b=u1.heap.size:=hh;omega) (fun j hj hh=>by have e:j=u1.heap.size:=hh;subst e;exact qe (Or.inr (Or.inl hj))) (fun j hj hh=>by have e:j=u1.heap.size:=hh;subst e;exact qe (Or.inr (Or.inr hj)));have Js:aP.Reads (dv base (w3.setCell ⟨u1.heap.size,14,none⟩ (.int .i64 (r.count+1)))) r.used gs[k].used:=by
    obtain⟨q1,q2,q3,q4,q5,q6,q7⟩:=BN.mono (fun _ _ h=>h.fr J2 ad0);exact⟨q1,q2,q3,q4,q5,by show r.count+1=gs[k].count+1;rw[q6],q7⟩
   have aih:=O (J2.keep Vj.o (fun hh=>by have e:w.heap.size+1=u1.heap.size:=hh;omega));have ad1:Fr (dw b (.slice (some ⟨bk,0,none⟩) gs.length c) wv) w (w3.setCell ⟨u1.heap.size,14,none⟩ (.int .i64 (r.count+1))):=rK.o.step J2 (fun j hj hh=>by have e:j=u1.heap.size:=hh;omega);have ab5:∀u∈r.used.cells,u.oneCell'=true:=by
    intro u hu;simp only[aP.cells,aP.used,bB,cz,dX]at hu;have ho:=xc.o;simp only[aP.cells,bB,cz,dX]at ho;rcases hu with rfl|rfl|rfl|rfl|rfl|rfl|rfl|rfl|rfl|rfl|rfl|rfl|rfl|rfl|rfl|rfl<;>first|rfl|exact ho _ aR
   have ab6:=O ab5;have ad3:=O aif;have JA:=O Js;have au8:w.heap.size<=w3.heap.size:=rK.o.size;clear ab5 BN J2 ad0 adZ Vj H4 rK aif Js;generalize w3.setCell ⟨u1.heap.size,14,none⟩ (.int .i64 (r.count+1))=w4 at *
   have ow:∀i u,r.used.cells[i]?=some u->w4.cell? ⟨u1.heap.size,i,none⟩=some u:=fun i u hu=>by
    simp only[World.cell?,ad3.o];simpa using hu
   have x0:=ow 0 _ rfl;have x1:=ow 1 _ rfl;have x2:=ow 2 _ rfl;have x3:=ow 3 _ rfl;have x4:=ow 4 _ rfl;have x5:=ow 5 _ rfl;have x6:=ow 6 _ rfl;have x7:=ow 7 _ rfl;have x8:=ow 8 _ rfl;have x9:=ow 9 _ rfl;have ZA:=ow 10 _ rfl;have ZB:=ow 11 _ rfl;have x12:=ow 12 _ rfl;have x13:=ow 13 _ rfl;have x14:=ow 14 _ rfl;have x15:=ow 15 _ rfl;have d0:=h5.c0;have e0:=h5.free 0;have tV:b<w4.heap.size:=h5.lt
   have Y2:u1.heap.size<w4.heap.size:=bj ad3.o;obtain⟨i0,qA,po,k_,lp⟩:=info_parts yh;obtain⟨rs5,MN,Fk⟩:=h5.bH;have HO5:=O MN;have HB5:=O Fk;have Lf:w4.ownsRow base 114 16 (.slice (some ⟨bk,0,none⟩) l.length c) l.length (rs5.map aP.cells).flatten:=by
    have hh:=MN.2;rw[ai,Fk.len]at hh;exact hh
   have Ay:¬own (.slice (some ⟨bk,0,none⟩) l.length c) b:=h5.gb;clear MN Fk ow;simp only[aP.used]at x0 x1 x2 x3 x4 x5 x6 x7 x8 x9 ZA ZB x12 x13 x14 x15
   go_region_law ((with_reducible refine mP ⟨some 55,_,_,_,_,_⟩ ?_)
                  refine step_append_lies _ bC _ _ _ bC base 114 i0 _ 16 216 underlying77 qA po k_ lp rfl ab (.slice (some ⟨bk,0,none⟩) l.length c) l.length _ bC (by repeat(first|exact Lf|apply World.ownsRow.alloc|apply World.ownsRow.drew)) ⟨w4.heap.size,0,none⟩ 1 1 r.used.cells bC bC (kR w4 r.used.cells _) ab6.o ab fx ab bI (w4.heap.size+1) aR ?_
                  intro gg cap w5 vQ jC dT adp
                  have q_:Fr (own (.slice (some ⟨bk,0,none⟩) l.length c)) w4 w5:=fq (by repeat(first|exact ae _ _|apply aA|apply bz)) jC (fun _ hk _=>hk)
                  have k4:w5.cell? ⟨b,0,none⟩=some (.slice (some ⟨bk,0,none⟩) l.length c):=(q_.cell (p:=⟨b,0,none⟩) tV Ay).trans d0
                  have e4:w5.frozen? ⟨b,0,none⟩=false:=(q_.frozen (p:=⟨b,0,none⟩) tV Ay).trans e0)
   all_goals
    obtain⟨h6,hF6,Fj⟩:=Gp (m:=gs[k].used) h5 HO5.o HB5.o (ae _ _) JA.o ab6.o q_ vQ (dT.imp id (fun h=>ab));have hnr:¬dw b (.slice (some ⟨bk,0,none⟩) l.length c) wv (w.heap.size+1):=fun hh=>by have:=hne _ (ll _ hh);omega
    have aij:=O (hF6.keep ad3.o qe);have aoi:=O (hF6.keep aih.o hnr);have Tl:=JA.o.mono (fun _ _ h=>h.fr hF6 h5.off);have aoj:=O (ad1.step hF6 (fun j hj hb=>ll j hb));have ZE:∀j,dw b (.slice (some ⟨gg,0,none⟩) (l.length+1) cap) wv j->dw b (.slice (some ⟨bk,0,none⟩) gs.length c) wv j\/w.heap.size<=j:=fun j hj=>by
     rcases Fj j hj with h|h
     ·exact Or.inl (ll j h)
     ·exact Or.inr (by have:=ad1.size;omega)
    have H6:=O h6;have AZ:base<=(w5.setCell ⟨b,0,none⟩ (.slice (some ⟨gg,0,none⟩) (l.length+1) cap)).heap.size:=by have:=h6.lt;omega
    have fD:=O (uE base r.used gs[k].used _ AZ Tl);clear x0 x1 x2 x3 x4 x5 x6 x7 x8 x9 ZA ZB x12 x13 x14 x15 d0 e0 k4 e4 jC vQ Lf h6 hF6 Tl q_ h5 AZ;generalize w5.setCell ⟨b,0,none⟩ (.slice (some ⟨gg,0,none⟩) (l.length+1) cap)=w6 at *
    obtain⟨y,hy⟩:∃y,y=r.used.cells:=⟨_,rfl⟩;have C7:y.length=16:=by rw[hy];rfl
    rw[<-hy]at aij fD;have hyi:=O (show(prog.info? 114).map (·.size)=some y.toArray.size by rw[aZ,C7];kernel_rfl);clear hy;go_wp2_with (first|((with_reducible refine di 58 ?_);refine aH rfl 114 (.tmp 11) rfl u1.heap.size rfl _ y.toArray (0,0) _ aij.o underlying114 rfl hyi.o ?_)|fail)
    refine fD.o.mono ?_;intro e w7 NK;obtain⟨r7,rfl,Tl,Vk,ov⟩:=NK;have b7:=O (ov.keep aoi.o id);have h7:=H6.o.dm ov;have Tx:=aoj.o.trans (ov.mono (fun _ _ h=>absurd h id));have yL:(prog.info? 114).map (·.size)=some r7.cells.toArray.size:=af;obtain⟨z,hz⟩:∃z,z=r7.cells:=⟨_,rfl⟩;have HZ:=O hz;have aik:=O Vk;rw[<-hz]at yL Vk ⊢;have k_:=O (bX Vk);have XV:=O (show eS.size=z.toArray.size by rw[hz];rfl)
    clear hz fD;go_wp2_with (first|((with_reducible refine cW 114 ?_);refine aF rfl 114 (.tmp 8) (.tmp 59) rfl (w.heap.size+1) z.toArray rfl rfl _ eS b7.o yL XV.o k_.o ?_)|fail)
    have rO:rY base w7 (one (w.heap.size+1)):=by
     rintro j rfl hj;exact⟨ab,fun c f e=>by rw[b7.o]at e;cases e⟩
    have kH:Fr (one (w.heap.size+1)) w7 (w7.setRow (w.heap.size+1) z.toArray):=(ae (one (w.heap.size+1)) w7).setRow (fun _=>rfl) _;refine aU (results_cell_tmp bC _ _ (w.heap.size+1) 114 z.toArray (0,0) _ rfl (aY w7 (w.heap.size+1) _ _ _ _ b7.o) underlying114 rfl yL) rfl ?_;have ad5:¬dw b (.slice (some ⟨gg,0,none⟩) (l.length+1) cap) wv (w.heap.size+1):=fun hh=>by
     have hk7:∃cc t f,w7.heap[w.heap.size+1]?=some (.cells cc t f):=⟨_,_,_,b7.o⟩;rcases Fj _ hh with h8|h8
     ·exact hnr h8
     ·have:=ad1.size;have:=bj aih.o;omega
    unfold re;rw[hu.o];rw[HZ.o]at *
    refine⟨⟨_,_,h7.fr kH rO (fun hh=>ad5 (Or.inl (by have e:b=w.heap.size+1:=hh;rw[e]))) (fun j hj hh=>ad5 (Or.inr (Or.inl (by have e:j=w.heap.size+1:=hh;rw[<-e];exact hj)))) (fun j hj hh=>ad5 (Or.inr (Or.inr (by have e:j=w.heap.size+1:=hh;rw[<-e];exact hj)))),Tx.step kH (fun j hj hh=>by have e:j=w.heap.size+1:=hh;omega),ZE⟩,r7,rfl,Tl.mono (fun _ _ h=>h.fr kH rO),aik.o⟩
 ·have hu:=O (show vr gs o proxy path=(gs,.error 8)by unfold vr;rw[he];rfl);rw[he];have hp:=kE.same h (HF.setRow (g:=w.heap.size+1) (fun h=>absurd h ab) eS);clear h2 h;go_wp2_with (first|((with_reducible refine cW 114 ?_);refine aF rfl 114 (.tmp 8) (.tmp 19) rfl (w.heap.size+1) eS rfl rfl _ eS U_.o af rfl yi ?_)|fail)
  refine aU (results_cell_tmp bC _ _ (w.heap.size+1) 114 eS (0,0) _ rfl (aY u1 (w.heap.size+1) _ _ _ _ U_.o) underlying114 rfl af) rfl ?_;unfold re;rw[hu.o];exact⟨hp,rfl⟩
def X5(o:gA)(g:aP bE):Bool:=g.o.lj o
def NR(o:gA)(g:bJ bE):Bool:=g.o.lj o
def P9(o:gA)(x:aX):Bool:=(ag6 x).lj o
theorem NS(g:aP Value)(o:gA)(bo:Nat)(w:World)(ho:w.heap[bo]?=some (.cells #[.bool o.aE,.string o.host,.int .i64 o.port] 32 (0,0))) :
  aB 143 #[.agg g.cells.toArray,.pointer (some ⟨bo,0,none⟩)] w fun e w'=>e=.returned (.bool (P9 o g.cells))/\Fr aS w w':=by
 have hC:=O (show P9 o g.cells=g.o.lj o from rfl);have heq:=jA g.o o;rw[hC.o];unfold aP.cells;have gS:Fr aS w _:=(ae aS w).alloc (.cells #[.bool g.o.aE,.string g.o.host,.int .i64 g.o.port,.bool g.proxy,.string g.user,.string g.pass,.int .i64 g.a.scheme,.string g.a.aK,.string g.a.bq,.string g.a.cy,.bool g.a.cA,.string g.a.eH,.bool g.a.cN,g.a.dom,.int .i64 g.count,g.paths] 114)
 have qX:=O (gS.keep ho id);clear hC ho;go_enter func143,ntmps143;go_wp2_with (first|((with_reducible refine di 6 ?_);refine aH rfl 32 (.tmp 1) rfl bo rfl _ _ (0,0) _ qX.o underlying32 rfl af ?_)|fail)
 go_ret;exact⟨rfl,gS⟩
theorem NT(g:bJ Value)(o:gA)(bo:Nat)(w:World)(ho:w.heap[bo]?=some (.cells #[.bool o.aE,.string o.host,.int .i64 o.port] 32 (0,0))) :
  aB 145 #[.agg g.cells.toArray,.pointer (some ⟨bo,0,none⟩)] w fun e w'=>e=.returned (.bool (P9 o g.cells))/\Fr aS w w':=by
 have hC:=O (show P9 o g.cells=g.o.lj o from rfl);have heq:=jA g.o o;rw[hC.o];unfold bJ.cells;have gS:Fr aS w _:=(ae aS w).alloc (.cells #[.bool g.o.aE,.string g.o.host,.int .i64 g.o.port,.bool g.proxy,.string g.path,.int .i64 g.a.scheme,.string g.a.aK,.string g.a.bq,.string g.a.cy,.bool g.a.cA,.string g.a.eH,.bool g.a.cN,g.a.dom] 133);have qX:=O (gS.keep ho id);clear hC ho
 go_enter func145,ntmps145;go_wp2_with (first|((with_reducible refine di 6 ?_);refine aH rfl 32 (.tmp 1) rfl bo rfl _ _ (0,0) _ qX.o underlying32 rfl af ?_)|fail)
 go_ret;exact⟨rfl,gS⟩
theorem D0(S:dC)(w:World)(o:gA)(bo:Nat)(rs:List (aP Value))
  (ho:w.heap[bo]?=some (.cells #[.bool o.aE,.string o.host,.int .i64 o.port] 32 (0,0)))(h1:¬S bo) :
  gP S w 143 #[.pointer (some ⟨bo,0,none⟩)] (P9 o) (rs.map aP.cells):=by
 intro x hx u hu;obtain⟨r,hr0,rfl⟩:=b_.1 hx;exact NS r o bo u (hu.keep ho h1)
theorem D1(S:dC)(w:World)(o:gA)(bo:Nat)(rs:List (bJ Value))
  (ho:w.heap[bo]?=some (.cells #[.bool o.aE,.string o.host,.int .i64 o.port] 32 (0,0)))(h1:¬S bo) :
  gP S w 145 #[.pointer (some ⟨bo,0,none⟩)] (P9 o) (rs.map bJ.cells):=by
 intro x hx u hu;obtain⟨r,hr0,rfl⟩:=b_.1 hx;exact NT r o bo u (hu.keep ho h1)
theorem Ry{r:aP Value}{g:aP bE}(h:aP.Reads (dv base w) r g)(o:gA):P9 o r.cells=X5 o g:=by
 unfold X5;rw[<-h.1];rfl
theorem NU{r:bJ Value}{g:bJ bE}(h:bJ.Reads (dv base w) r g)(o:gA):P9 o r.cells=NR o g:=by
 unfold NR;rw[<-h.1];rfl
theorem ki.zE{base:Nat}{w:World}{v:Value}{rs:List (bJ Value)}{gs:List (bJ bE)}{p:aX->Bool}{q:bJ bE->Bool}(h1:OwnRows base 133 13 w v ((rs.map bJ.cells).filter (fun x=>!p x)))(h2:lg (bJ.Reads (dv base w)) rs gs)
  (hpq:∀r g,bJ.Reads (dv base w) r g->p r.cells=q g):ki base w v (gs.filter (fun g=>!q g))/\((rs.map bJ.cells).filter (fun x=>!p x)).length=(gs.filter (fun g=>!q g)).length:=by
 have hb:lg (bJ.Reads (dv base w)) (rs.filter (fun r=>!p r.cells)) (gs.filter (fun g=>!q g)):=h2.filter (fun r g h=>by rw[hpq r g h]);have he:(rs.map bJ.cells).filter (fun x=>!p x)=(rs.filter (fun r=>!p r.cells)).map bJ.cells:=by rw[List.filter_map];rfl
 refine⟨⟨_,by rw[he]at h1;exact h1,hb⟩,?_⟩;rw[he,ai,hb.len]
def wU(base:Nat)(w:World)(b:Nat)(gv wv:Value)(gs:List (aP bE))(ws:List (bJ bE))(o:gA)(e:Ending)(w':World):Prop :=
 e=.returned (.int .i64 ((gs.length:Int)-((gs.filter (fun g=>!X5 o g)).length:Int)))/\kE base w b gv wv (gs.filter (fun g=>!X5 o g)) (ws.filter (fun g=>!NR o g)) w'
theorem Gr(base:Nat)(w:World)(b:Nat)(gv wv:Value)(gs:List (aP bE))(ws:List (bJ bE))(o:gA)(h:dE base w b gv wv gs ws)(NJ:gs.length<34359738368) :
  aB 70 #[.pointer (some ⟨b,0,none⟩),.agg o.cells.toArray] w (wU base w b gv wv gs ws o):=by
 unfold gA.cells;obtain⟨av,cv,hv⟩:=h.bH.form;obtain⟨aw,cw,hw⟩:=h.waits.form;subst hv hw;have uf:=h.lt;have lo:=h.low;have pd:Fr aS w (w.alloc (.cells #[.bool o.aE,.string o.host,.int .i64 o.port] 32)):=(ae aS w).alloc _;have b0:(w.alloc (.cells #[.bool o.aE,.string o.host,.int .i64 o.port] 32)).heap[w.heap.size]?=some (.cells #[.bool o.aE,.string o.host,.int .i64 o.port] 32 (0,0)):=aC _ _
 have h1:=h.dm pd;have h0:=h1.c0;have B0:=O b0;clear b0;go_enter func70,ntmps70;go_wp2_with fail
 clear h0;generalize w.alloc (.cells _ 32)=W at *
 obtain⟨rs,AO,qX⟩:=h1.bH;have hW:w.heap.size<=W.heap.size:=pd.size;have X4:∀k,own (.slice av gs.length cv) k->k<w.heap.size:=fun k hk=>by
  obtain⟨c,e⟩:=h.tY hk;exact bj e
 have hkw:∀k,own (.slice aw ws.length cw) k->k<w.heap.size:=fun k hk=>by
  obtain⟨c,e⟩:=h.vZ hk;exact bj e
 have hd:=O (xA base 143 #[.pointer (some ⟨w.heap.size,0,none⟩)] (P9 o) _ _ W call143
  (D0 _ W o w.heap.size rs B0.o (fun hk=>by have:=X4 _ hk;omega)) AO)
 refine hd.o.mono ?_;rintro e w2⟨a2,c2,rfl,xV,dB,fC⟩;have Vd:=qX.mono (fun _ _ h=>h.mono (fun _ _ h=>h.fr dB (fun k hk hl=>h1.off k (Or.inr (Or.inl hk)) hl)));obtain⟨XY,Zz⟩:=gi.zE xV Vd (fun r g h=>Ry h o);rw[Zz]at XY fC ⊢;have kB:=dB.keep h1.eL h1.gb;have eE:=h1.waits.fr dB (fun k hk hl=>h1.off k (Or.inr (Or.inl hk)) hl) (fun k hk hg=>h1.gw hg hk);have qR:=nK lo kB XY eE
 have c0:w2.cell? ⟨b,0,none⟩=some (.slice av gs.length cv):=by simp[World.cell?,kB]
 have f0:w2.frozen? ⟨b,0,none⟩=false:=by simp[World.frozen?,kB]
 have Zo:Fr (dw b (.slice av gs.length cv) (.slice aw ws.length cw)) w w2:=fV (pd.mono (fun _ _ h=>absurd h id)) dB (fun k _ hk=>Or.inr (Or.inl hk));have HB:=Zo.setCell (p:=⟨b,0,none⟩) (fun _=>Or.inl rfl) (.slice a2 (gs.filter (fun g=>!X5 o g)).length c2);have ail:=dB.keep B0.o (fun hk=>by have:=X4 _ hk;omega)
 have ad9:(w2.setCell ⟨b,0,none⟩ (.slice a2 (gs.filter (fun g=>!X5 o g)).length c2)).heap[w.heap.size]?=_:=(tj ab 0 _).trans ail;have ll:∀k,dw b (.slice a2 (gs.filter (fun g=>!X5 o g)).length c2) (.slice aw ws.length cw) k->dw b (.slice av gs.length cv) (.slice aw ws.length cw) k\/w.heap.size<=k:=by
  intro k hk;unfold dw at hk;rw[fC]at hk;exact Or.inl hk
 have zC:(gs.filter (fun g=>!X5 o g)).length<=gs.length:=bU _ _;clear hd AO qX Vd xV kB eE XY h1 X4 Zz Zo ail;obtain⟨fs,kH⟩:∃fs,fs=gs.filter (fun g=>!X5 o g):=⟨_,rfl⟩;rw[<-kH]at qR fC HB ll ad9 zC ⊢;have Ve:=O kH;have aim:=O qR;have HBO:=O ad9;have k1:=qR.c1;clear kH qR ad9;go_wp2_with fail
 clear c0 f0 k1;generalize w2.setCell ⟨b,0,none⟩ (.slice a2 fs.length c2)=w3 at *
 have h3:=aim.o;obtain⟨rw',hq1,hq2⟩:=h3.waits;have hd:=O (Fl base 145 #[.pointer (some ⟨w.heap.size,0,none⟩)] (P9 o) _ _ w3 call145
  (D1 _ w3 o w.heap.size rw' HBO.o (fun hk=>by have:=hkw _ hk;omega)) hq1)
 refine hd.o.mono ?_;rintro e w4⟨a4,c4,rfl,Zq,kQ,fa⟩;have ain:=hq2.mono (fun _ _ h=>h.mono (fun _ _ h=>h.fr kQ (fun k hk hl=>h3.off k (Or.inr (Or.inr hk)) hl)));obtain⟨hwi,EO⟩:=ki.zE Zq ain (fun r g h=>NU h o);rw[EO]at hwi fa ⊢;have tV:=kQ.keep h3.eL h3.wb;have Ci:=h3.bH.fr kQ (fun k hk hl=>h3.off k (Or.inr (Or.inr hk)) hl) (fun k hk hg=>h3.gw hk hg);have qR:=dE.adV lo tV Ci hwi
 have c1:w4.cell? ⟨b,1,none⟩=some (.slice aw ws.length cw):=by simp[World.cell?,tV]
 have f1:w4.frozen? ⟨b,1,none⟩=false:=by simp[World.frozen?,tV]
 have ZF:=HB.step kQ (fun k _ hk=>Or.inr (Or.inr hk));have HB5:=ZF.setCell (p:=⟨b,1,none⟩) (fun _=>Or.inl rfl) (.slice a4 (ws.filter (fun g=>!NR o g)).length c4);have Vm:∀k,dw b (.slice a2 fs.length c2) (.slice a4 (ws.filter (fun g=>!NR o g)).length c4) k->dw b (.slice av gs.length cv) (.slice aw ws.length cw) k\/w.heap.size<=k:=by
  intro k hk;refine ll k ?_;unfold dw at hk ⊢;rw[fa]at hk;exact hk
 obtain⟨fw,MR⟩:∃fw,fw=ws.filter (fun g=>!NR o g):=⟨_,rfl⟩;rw[<-MR]at qR fa HB5 Vm ⊢;have rK:=O MR;have aio:=O qR;have aol:=O HB5;have k0:=qR.c0;clear MR qR hd hq1 hq2 ain Zq hwi EO tV Ci h3 HB ZF HB5 ll aim HBO;go_wp2_with fail
 go_ret;unfold wU;rw[<-Ve.o, <-rK.o];exact⟨rfl,_,_,aio.o,aol.o,Vm⟩
theorem OwnRows.GB{e:TypeId}{v:Value}{xs:cZ}(h:OwnRows b e k w v xs){g:Nat}(hg:own v g):∃c,w.heap[g]?=some (.cells c e (0,0)):=by
 obtain⟨cap,cur,_,_,h2,_⟩:=h.open hg;exact⟨cur,h2⟩
structure eP (base:Nat) (w:World) (b:Nat) (v:Value) (ps:List eo):Prop where
 low:base<=b
 eL:w.heap[b]?=some (.cells #[v] 92 (0,0))
 rows:OwnRows base 155 12 w v (ps.map eo.cells)
def iC(b:Nat)(v:Value):dC:=fun k=>k=b\/own v k
def D6(base:Nat)(w:World)(b:Nat)(v:Value)(ps:List eo)(w':World):Prop :=
 ∃v',eP base w' b v' ps/\Fr (iC b v) w w'/\∀k,iC b v' k->iC b v k\/w.heap.size<=k
section
variable {base : Nat} {w w' : World} {b : Nat} {v : Value} {ps : List eo}
theorem eP.lt(h:eP base w b v ps):b<w.heap.size:=bj h.eL
theorem eP.c0(h:eP base w b v ps):w.cell? ⟨b,0,none⟩=some v:=by simp[World.cell?,h.eL]
theorem eP.free(h:eP base w b v ps)(k:Nat):w.frozen? ⟨b,k,none⟩=false:=by simp[World.frozen?,h.eL]
theorem eP.form(h:eP base w b v ps):∃a c,v=.slice a ps.length c:=by
 obtain⟨a,c,e⟩:=h.rows.form;exact⟨a,c,by rw[e,ai]⟩
theorem eP.D7(h:eP base w b v ps)(hk:own v k):k<w.heap.size:=h.rows.lt k hk
theorem eP.nb(h:eP base w b v ps):¬own v b:=fun hk=>by
 obtain⟨c,e⟩:=h.rows.GB hk;rw[h.eL]at e;cases e
theorem eP.jr(h:eP base w b v ps)(hk:iC b v k):k<w.heap.size:=by
 rcases hk with rfl|hk
 ·exact h.lt
 ·exact h.D7 hk
theorem eP.fr(h:eP base w b v ps)(hf:Fr S w w')(hn:∀k,iC b v k->¬S k):eP base w' b v ps :=
 ⟨h.low,hf.keep h.eL (hn b (Or.inl rfl)),h.rows.fr hf (fun k hk=>hn k (Or.inr hk))⟩
theorem eP.dm(h:eP base w b v ps)(hf:Fr aS w w'):eP base w' b v ps:=h.fr hf (fun _ _ h=>h)
end
theorem eP.set{base:Nat}{w:World}{b:Nat}{v0 v:Value}{ps:List eo}(hl:base<=b)(hb:w.heap[b]?=some (.cells #[v0] 92 (0,0)))(hr:OwnRows base 155 12 w v (ps.map eo.cells)) :
  eP base (w.setCell ⟨b,0,none⟩ v) b v ps:=by
 have kH:Fr (one b) w (w.setCell ⟨b,0,none⟩ v):=(ae (one b) w).setCell (p:=⟨b,0,none⟩) (fun _=>rfl) _;refine⟨hl,cg hb 0 v,hr.fr kH ?_⟩;rintro k hk rfl;obtain⟨c,e⟩:=hr.GB hk;rw[hb]at e;cases e
theorem Lk(p q:eo)(w:World):(binOp .eql 155 (.agg p.cells.toArray) (.agg q.cells.toArray)).run prog w=.ok (.bool (p.lj q)) w:=by
 obtain⟨⟨a,b,c⟩,⟨d,e,f⟩,g,i,j,k,l,m⟩:=p;obtain⟨⟨a',b',c'⟩,⟨d',e',f'⟩,g',i',j',k',l',m'⟩:=q;unfold eo.cells;go_simp;simp only[show∀(P:Prop) [Decidable P] (W:World) (b:Bool),(if P then(Result.ok (Value.bool b) W:Result Value)else .ok (.bool false) W)=.ok (.bool (decide P&&b)) W from fun P _ W b=>by by_cases h:P<;>simp[h]]
 congr 2
 rw[fc];simp only[eo.lj,gA.lj,cF,dG,dW,and_assoc,iM]
abbrev oV := @eP.set
