/- Lemmas for the law's walk. -/
import Derived.Test.YtnckmcnffadjoaaGreatDoorPk13
set_option maxRecDepth 100000
set_option maxHeartbeats 16000000
set_option linter.unusedSimpArgs false
namespace Go.Proofs.YtnckmcnffadjoaaGreatDoor
open Go.Proofs.Tryz
open Go.RowKit
variable {D:Type} {k B b:Nat} {l:aG} {w w':World}
structure gq (D:Type) where
 part:Int
 dm:gz
 o:gz
 path:aj
 query:aj
 method:aj
 eo:D
 fU:Bool
 body:aj
def gq.cells(r:gq Value):List Value:=[.int .i64 r.part,.bool r.dm.aF,.string r.dm.host,.int .i64 r.dm.port,.bool r.o.aF,.string r.o.host,.int .i64 r.o.port,.string r.path,.string r.query,.string r.method,r.eo,.bool r.fU,.string r.body]
def gq.dS(r:gq D)(hs:List gZ):ra:=⟨r.dm,r.o,r.path,r.query,r.method,hs,r.fU⟩
def qQ(w:World)(v:Value)(ps:List ef):Prop:=dV 12 w v (ps.map ef.cells)
def IZ(x:List Value):ef:=⟨⟨cB x 0,cS x 1,cI x 2⟩,⟨cB x 3,cS x 4,cI x 5⟩,cS x 6,cS x 7,cB x 8,cS x 9,cS x 10,cI x 11⟩
theorem Em(ps:List ef)(f:ef->Bool):(ps.map ef.cells).any (fun x=>f (IZ x))=ps.any f:=by
 rw[List.any_map];rfl
theorem VE(p:ef)(m:aj)(r:gq Value)(bm br:Nat)(w:World)(hm:w.heap[bm]?=some (.cells #[.string m] 9 (0,0)))(hr:w.heap[br]?=some (.cells r.cells.toArray 37 (0,0))) :
  Calls prog 121 #[.agg p.cells.toArray,.pointer (some ⟨bm,0,none⟩),.pointer (some ⟨br,0,none⟩)] w fun e w'=>e=.returned (.bool (p.lets m r.fU))/\Fr aR w w':=by
 unfold ef.cells;unfold gq.cells at hr;have gS:Fr aR w _:=(ae aR w).alloc (.cells #[.bool p.dm.aF,.string p.dm.host,.int .i64 p.dm.port,.bool p.o.aF,.string p.o.host,.int .i64 p.o.port,.string p.path,.string p.query,.bool p.fU,.string p.method,.string p.head,.int .i64 p.pX] 155);have JR:=gS.keep hm id;have ox:=gS.keep hr id
 have cm:(w.alloc (.cells #[.bool p.dm.aF,.string p.dm.host,.int .i64 p.dm.port,.bool p.o.aF,.string p.o.host,.int .i64 p.o.port,.string p.path,.string p.query,.bool p.fU,.string p.method,.string p.head,.int .i64 p.pX] 155)).cell? ⟨bm,0,none⟩=some (.string m):=by simp[World.cell?,JR]
 clear JR;have sD:=O gS;cases e1:(p.method.toList==m.toList)
 ·cases e2:(p.method.toList==star)
  ·have HR:=O (show p.lets m r.fU=false by unfold ef.lets;rw[e1,e2];rfl);have e2':(p.method.toList== [42])=false:=e2;clear gS hm hr e2;go_enter func121,ntmps121;go_wp2;go_ret;exact⟨by rw[HR.o];rfl,sD.o⟩
  ·have e2':(p.method.toList== [42])=true:=e2;have cw:(w.alloc (.cells #[.bool p.dm.aF,.string p.dm.host,.int .i64 p.dm.port,.bool p.o.aF,.string p.o.host,.int .i64 p.o.port,.string p.path,.string p.query,.bool p.fU,.string p.method,.string p.head,.int .i64 p.pX] 155)).cell? ⟨br,11,none⟩=some (.bool r.fU):=by simp[World.cell?,ox]
   cases e3:r.fU
   ·have HR:=O (show p.lets m false=true by unfold ef.lets;rw[e1,e2];rfl);rw[e3]at cw;clear gS hm hr e2 ox e3;go_enter func121,ntmps121;go_wp2;go_ret;exact⟨by rw[HR.o];rfl,sD.o⟩
   ·have HR:=O (show p.lets m true=false by unfold ef.lets;rw[e1,e2];rfl);rw[e3]at cw;clear gS hm hr e2 ox e3;go_enter func121,ntmps121;go_wp2;go_ret;exact⟨by rw[HR.o];rfl,sD.o⟩
 ·have HR:=O (show p.lets m r.fU=true by unfold ef.lets;rw[e1];rfl);clear gS hm hr;go_enter func121,ntmps121;go_wp2;go_ret;exact⟨by rw[HR.o];rfl,sD.o⟩
theorem Lz(p:ef)(m:aj)(r:gq Value)(bm br:Nat)(w:World)(hm:w.heap[bm]?=some (.cells #[.string m] 9 (0,0)))(hr:w.heap[br]?=some (.cells r.cells.toArray 37 (0,0))) :
  Calls prog 123 #[.agg p.cells.toArray,.pointer (some ⟨bm,0,none⟩),.pointer (some ⟨br,0,none⟩)] w fun e w'=>e=.returned (.bool (p.mY m r.fU))/\Fr aR w w':=by
 unfold ef.cells;unfold gq.cells at hr;have gS:Fr aR w _:=(ae aR w).alloc (.cells #[.bool p.dm.aF,.string p.dm.host,.int .i64 p.dm.port,.bool p.o.aF,.string p.o.host,.int .i64 p.o.port,.string p.path,.string p.query,.bool p.fU,.string p.method,.string p.head,.int .i64 p.pX] 155);have JR:=gS.keep hm id;have ox:=gS.keep hr id
 have cm:(w.alloc (.cells #[.bool p.dm.aF,.string p.dm.host,.int .i64 p.dm.port,.bool p.o.aF,.string p.o.host,.int .i64 p.o.port,.string p.path,.string p.query,.bool p.fU,.string p.method,.string p.head,.int .i64 p.pX] 155)).cell? ⟨bm,0,none⟩=some (.string m):=by simp[World.cell?,JR]
 clear JR;have sD:=O gS;cases e1:(p.head.toList==m.toList)
 ·cases e2:(p.head.toList==star)
  ·have HR:=O (show p.mY m r.fU=false by unfold ef.mY;rw[e1,e2];rfl);have e2':(p.head.toList== [42])=false:=e2;clear gS hm hr e2;go_enter func123,ntmps123;go_wp2;go_ret;exact⟨by rw[HR.o];rfl,sD.o⟩
  ·have e2':(p.head.toList== [42])=true:=e2;have cw:(w.alloc (.cells #[.bool p.dm.aF,.string p.dm.host,.int .i64 p.dm.port,.bool p.o.aF,.string p.o.host,.int .i64 p.o.port,.string p.path,.string p.query,.bool p.fU,.string p.method,.string p.head,.int .i64 p.pX] 155)).cell? ⟨br,11,none⟩=some (.bool r.fU):=by simp[World.cell?,ox]
   cases e3:r.fU
   ·rw[e3]at cw;cases e4:(m.toList==abJ)
    ·have HR:=O (show p.mY m false=true by unfold ef.mY;rw[e1,e2];unfold bne;rw[e4];rfl);have e4':(m.toList== [97,117,116,104,111,114,105,122,97,116,105,111,110])=false:=e4;clear gS hm hr e2 ox e3 e4;go_enter func123,ntmps123;go_wp2;go_ret;exact⟨by rw[HR.o];rfl,sD.o⟩
    ·have HR:=O (show p.mY m false=false by unfold ef.mY;rw[e1,e2];unfold bne;rw[e4];rfl);have e4':(m.toList== [97,117,116,104,111,114,105,122,97,116,105,111,110])=true:=e4;clear gS hm hr e2 ox e3 e4;go_enter func123,ntmps123;go_wp2;go_ret;exact⟨by rw[HR.o];rfl,sD.o⟩
   ·have HR:=O (show p.mY m true=false by unfold ef.mY;rw[e1,e2];rfl);rw[e3]at cw;clear gS hm hr e2 ox e3;go_enter func123,ntmps123;go_wp2;go_ret;exact⟨by rw[HR.o];rfl,sD.o⟩
 ·have HR:=O (show p.mY m r.fU=true by unfold ef.mY;rw[e1];rfl);clear gS hm hr;go_enter func123,ntmps123;go_wp2;go_ret;exact⟨by rw[HR.o];rfl,sD.o⟩
theorem En(g:Nat)(cap:Array Value)(p:List Value->Bool)(v:Value)(xs:List (List Value))(bl:Nat)(w:World)(eg:∀args w,(callFunc g args).run prog w=.ok (.enter g args) w)(hp:gO aR w g cap p xs)(hv:dV 12 w v xs)(hl:w.heap[bl]?=some (.cells #[v] 90 (0,0))) :
  Calls prog 118 #[.func (.func g) #[] cap,.pointer (some ⟨bl,0,none⟩)] w fun e w'=>e=.returned (.bool (xs.any p))/\Fr aR w w':=by
 have hc:=O (CB g cap p v xs w eg hp hv);obtain⟨av,cv,rfl⟩:=hv.form;have c0:w.cell? ⟨bl,0,none⟩=some (.slice av xs.length cv):=by simp[World.cell?,hl]
 clear hv hl hp;go_enter func118,ntmps118;go_wp2_with fail
 refine hc.o.mono ?_;rintro e u⟨rfl,hf⟩;go_wp2;go_ret;exact⟨rfl,hf⟩
def G0(r:gq Value)(hs:List gZ):Prop:=r.method.size<100000/\hs.length<100000/\∀p∈hs,p.1.size<100000/\p.2.size<100000
def acj(hs:List aj)(fU:Bool)(ps:List ef)(w:World)(t:Value)(wr:World):Prop :=
 ∃k:Nat,k<=hs.length/\t=.int .i64 k/\(hs.take k).all (fun h=>ps.any (ef.mY h fU))=true/\Fr aR w wr
theorem uR{α:Type}{p:α->Bool}{l:List α}{x:α}(h:l[k]?=some x)(hn:(l.take k).all p=true)(hp:p x=true):(l.take (k+1)).all p=true:=by
 rw[dW h,j9,hn];simp[hp]
theorem yK{α:Type}{p:α->Bool}{l:List α}{x:α}(h:l[k]?=some x)(hp:p x=false):l.all p=false:=by
 rw[jl];exact⟨x,bT h,by simp[hp]⟩
theorem yL(r:gq Value)(hs:List gZ)(v:Value)(ps:List ef)(w:World)(hr:oO w r.eo hs)(hv:qQ w v ps)(hz:G0 r hs) :
  Calls prog 62 #[.agg r.cells.toArray,v] w fun e w'=>e=.returned (.bool ((r.dS hs).ng ps))/\Fr aR w w':=by
 have gJ:=O (show(r.dS hs).ng ps=((qX (jM r.method)||ps.any (ef.lets (jM r.method) r.fU))&&(yo hs).all fun h=>ps.any (ef.mY h r.fU))from rfl);generalize (r.dS hs).ng ps=res at gJ ⊢;obtain⟨av,cv,Lh⟩:=dQ hv;rw[ai]at Lh;subst Lh;obtain⟨ah,ch,gV⟩:=dQ hr;rw[ai]at gV;obtain⟨rc,uS⟩:∃rc,rc=r.cells.toArray:=⟨_,rfl⟩
 obtain⟨wb,j_⟩:∃wb,wb=(w.alloc (.cells rc 37)).alloc (.cells #[.slice av ps.length cv] 90):=⟨_,rfl⟩;have ks:Fr aR w wb:=by rw[j_];exact((ae aR w).alloc _).alloc _
 have hsb:wb.heap.size=w.heap.size+2:=by rw[j_];simp
 have mf:wb.heap[w.heap.size]?=some (.cells rc 37 (0,0)):=by rw[j_];exact((ae aR _).alloc _).keep (aB _ _) id
 have su:wb.heap[w.heap.size+1]?=some (.cells #[.slice av ps.length cv] 90 (0,0)):=by
  have h:=aB (w.alloc (.cells rc 37)) (.cells #[.slice av ps.length cv] 90);rw[bM]at h;rw[j_];exact h
 have HC:=O (show∀U,Fr aR wb U->U.heap[w.heap.size]?=some (.cells r.cells.toArray 37 (0,0))/\U.heap[w.heap.size+1]?=some (.cells #[.slice av ps.length cv] 90 (0,0))from fun U hU=>⟨by rw[<-uS];exact hU.keep mf id,hU.keep su id⟩)
 have HX:=O (show∀U,Fr aR wb U->U.cell? ⟨w.heap.size,9,none⟩=some (.string r.method)/\U.cell? ⟨w.heap.size,10,none⟩=some (.slice ah hs.length ch)from fun U hU=>by
  have j:=(HC.o U hU).1;unfold gq.cells at j;rw[gV]at j;simp[World.cell?,j])
 have HV:=O (show∀U,Fr aR w U->qQ U (.slice av ps.length cv) ps from fun U hU=>bg hv hU);have HH:=O (show∀U,Fr aR w U->oO U (.slice ah hs.length ch) hs from fun U hU=>by rw[<-gV];exact bg hr hU);have HZ:=O hz;have mr:=O ks;have qY:=O j_;have PX:=O uS;clear hv hr hz ks j_ mf su;rw[<-uS];clear uS;obtain⟨c9,G1⟩:=HX.o wb (ae _ _);rw[qY.o]at c9 G1;go_enter func62,ntmps62;go_wp2_with fail
 rw[<-qY.o];refine(yn r.method wb HZ.o.1).mono ?_;rintro e u1⟨rfl,df⟩;obtain⟨m,hm⟩:∃m,m=jM r.method:=⟨_,rfl⟩;rw[<-hm]at gJ ⊢;clear hm;obtain⟨w1,oB⟩:∃w1,w1=u1.alloc (.cells #[.string m] 9):=⟨_,rfl⟩;have hmb:w1.heap[u1.heap.size]?=some (.cells #[.string m] 9 (0,0)):=by rw[oB];exact aB _ _
 have dy:Fr aR wb w1:=by rw[oB];exact df.alloc _
 have IG:=O oB;have k_:=O dy;have k0:w1.cell? ⟨u1.heap.size,0,none⟩=some (.string m):=by simp[World.cell?,hmb]
 have HMB:=O hmb;clear df dy c9 G1 oB hmb;go_wp2_with fail
 rw[<-IG.o];refine(Nk m w1).mono ?_;rintro e u2⟨rfl,rfl⟩
 -- the method is allowed
 have xr:=O (show Calls prog 118 #[.func (.func 121) #[] #[.pointer (some ⟨u1.heap.size,0,none⟩),.pointer (some ⟨w.heap.size,0,none⟩)],.pointer (some ⟨w.heap.size+1,0,none⟩)] w1 fun e w'=>e=.returned (.bool (ps.any (ef.lets m r.fU)))/\Fr aR w1 w' from by
  rw[<-Em];refine En _ _ (fun x=>ef.lets m r.fU (IZ x)) _ _ _ w1 call121 ?_ (HV.o w1 (mr.o.trans k_.o)) (HC.o w1 k_.o).2;intro x hx u hu;obtain⟨p,hp,rfl⟩:=bV.1 hx;exact VE p m r _ _ u (hu.keep HMB.o id) ((HC.o u (k_.o.trans hu)).1))
 cases pk:qX m
 ·cases sZ:ps.any (ef.lets m r.fU)
  ·have HR:=O (show res=false by rw[gJ.o,pk,sZ];rfl);rw[sZ]at xr;clear pk sZ gJ;go_wp2_with fail
   refine xr.o.mono ?_;rintro e u3⟨rfl,iv⟩;go_wp2;go_ret;exact⟨by rw[HR.o];rfl,(mr.o.trans k_.o).trans iv⟩
  ·have Ob:=O (show res=(yo hs).all (fun h=>ps.any (ef.mY h r.fU))by rw[gJ.o,pk,sZ];rfl);rw[sZ]at xr;clear pk sZ gJ;go_wp2_with fail
   refine xr.o.mono ?_;rintro e u3⟨rfl,iv⟩;have ic:=O (k_.o.trans iv);obtain⟨c9,G1⟩:=HX.o _ ic.o;clear iv xr;go_wp2_with fail
   refine(Gm hs _ u3 (HH.o u3 (mr.o.trans ic.o)) HZ.o.2.1 HZ.o.2.2).mono ?_;rintro e u4⟨uv,rfl,jq,kK⟩;obtain⟨au,cu,huf⟩:=jq.form;obtain⟨nl,rW⟩:∃nl,nl=yo hs:=⟨_,rfl⟩;rw[<-rW]at jq huf Ob;subst huf;have jV:=O (ic.o.trans kK);have lH:=O jq.at;clear kK jq rW c9 G1;go_wp2;go_loopw[26] (acj nl r.fU ps u4) (fun i _=>nl.length-(intOf i).toNat)
   case atStart=>exact⟨0,aI _,rfl,rfl,ae _ _⟩
   case round =>
    obtain⟨k,hk,rfl,iB,cK⟩:=hrel;have A':=O iB;clear iB;by_cases eX:k<nl.length
    ·have py:(k:Int)<(nl.length:Int):=ab;rcases lH.o.fH cK with ⟨_,_,_,e,_⟩|⟨bk,o,c,hf,h1,h2,h3,h4⟩
     ·rw[e]at eX;exact absurd eX (bS _)
     ·cases hf;unfold maxLen at h2;have dN:=O (List.getElem?_eq_getElem eX);have hc:=h4 k _ dN.o;generalize nl[k]=x at dN hc;clear h4;obtain⟨wx,Oc⟩:∃wx,wx=wr.alloc (.cells #[.string x] 9):=⟨_,rfl⟩;have Zc:wx.heap[wr.heap.size]?=some (.cells #[.string x] 9 (0,0)):=by rw[Oc];exact aB _ _
      have Ki:Fr aR wr wx:=by rw[Oc];exact(ae _ _).alloc _
      have CZ:=O ((jV.o.trans cK).trans Ki);have ZY:=O (show Calls prog 118 #[.func (.func 123) #[] #[.pointer (some ⟨wr.heap.size,0,none⟩),.pointer (some ⟨w.heap.size,0,none⟩)],.pointer (some ⟨w.heap.size+1,0,none⟩)] wx fun e w'=>e=.returned (.bool (ps.any (ef.mY x r.fU)))/\Fr aR wx w' from by
       rw[<-Em];refine En _ _ (fun y=>ef.mY x r.fU (IZ y)) _ _ _ wx call123 ?_ (HV.o wx (mr.o.trans CZ.o)) (HC.o wx CZ.o).2;intro y hy u hu;obtain⟨p,hp,rfl⟩:=bV.1 hy;exact Lz p x r _ _ u (hu.keep Zc id) ((HC.o u (CZ.o.trans hu)).1))
      have TN:=O Oc;have sx:=O (cK.trans Ki);clear Oc;cases jn:ps.any (ef.mY x r.fU)
      ·have HR:=O (show res=false by rw[Ob.o];exact yK dN.o jn);rw[jn]at ZY;clear jn;go_wp2_with fail
       rw[<-TN.o];refine ZY.o.mono ?_;rintro e u6⟨rfl,nF⟩;go_wp2;go_ret;exact⟨by rw[HR.o];rfl,(mr.o.trans CZ.o).trans nF⟩
      ·have qi:=O (uR dN.o A'.o jn);rw[jn]at ZY;clear jn;go_wp2_with fail
       rw[<-TN.o];refine ZY.o.mono ?_;rintro e u6⟨rfl,nF⟩;go_wp2;go_roundw
       case rel=>exact⟨k+1,ab,a_,qi.o,sx.o.trans nF⟩
       case measure=>simp[intOf];omega
    ·have py:¬(k:Int)<(nl.length:Int):=ab;have HR:=O (show res=true by rw[Ob.o];have h:=A'.o;rwa [aC ab]at h);go_wp2;go_ret;exact⟨by rw[HR.o];rfl,mr.o.trans (jV.o.trans cK)⟩
 ·have Ob:=O (show res=(yo hs).all (fun h=>ps.any (ef.mY h r.fU))by rw[gJ.o,pk];simp);clear pk gJ xr;obtain⟨c9,G1⟩:=HX.o _ k_.o;go_wp2_with fail
  refine(Gm hs _ w1 (HH.o w1 (mr.o.trans k_.o)) HZ.o.2.1 HZ.o.2.2).mono ?_;rintro e u4⟨uv,rfl,jq,kK⟩;obtain⟨au,cu,huf⟩:=jq.form;obtain⟨nl,rW⟩:∃nl,nl=yo hs:=⟨_,rfl⟩;rw[<-rW]at jq huf Ob;subst huf;have jV:=O (k_.o.trans kK);have lH:=O jq.at;clear kK jq rW c9 G1;go_wp2;go_loopw[26] (acj nl r.fU ps u4) (fun i _=>nl.length-(intOf i).toNat)
  case atStart=>exact⟨0,aI _,rfl,rfl,ae _ _⟩
  case round =>
   obtain⟨k,hk,rfl,iB,cK⟩:=hrel;have A':=O iB;clear iB;by_cases eX:k<nl.length
   ·have py:(k:Int)<(nl.length:Int):=ab;rcases lH.o.fH cK with ⟨_,_,_,e,_⟩|⟨bk,o,c,hf,h1,h2,h3,h4⟩
    ·rw[e]at eX;exact absurd eX (bS _)
    ·cases hf;unfold maxLen at h2;have dN:=O (List.getElem?_eq_getElem eX);have hc:=h4 k _ dN.o;generalize nl[k]=x at dN hc;clear h4;obtain⟨wx,Oc⟩:∃wx,wx=wr.alloc (.cells #[.string x] 9):=⟨_,rfl⟩;have Zc:wx.heap[wr.heap.size]?=some (.cells #[.string x] 9 (0,0)):=by rw[Oc];exact aB _ _
     have Ki:Fr aR wr wx:=by rw[Oc];exact(ae _ _).alloc _
     have CZ:=O ((jV.o.trans cK).trans Ki);have ZY:=O (show Calls prog 118 #[.func (.func 123) #[] #[.pointer (some ⟨wr.heap.size,0,none⟩),.pointer (some ⟨w.heap.size,0,none⟩)],.pointer (some ⟨w.heap.size+1,0,none⟩)] wx fun e w'=>e=.returned (.bool (ps.any (ef.mY x r.fU)))/\Fr aR wx w' from by
      rw[<-Em];refine En _ _ (fun y=>ef.mY x r.fU (IZ y)) _ _ _ wx call123 ?_ (HV.o wx (mr.o.trans CZ.o)) (HC.o wx CZ.o).2;intro y hy u hu;obtain⟨p,hp,rfl⟩:=bV.1 hy;exact Lz p x r _ _ u (hu.keep Zc id) ((HC.o u (CZ.o.trans hu)).1))
     have TN:=O Oc;have sx:=O (cK.trans Ki);clear Oc;cases jn:ps.any (ef.mY x r.fU)
     ·have HR:=O (show res=false by rw[Ob.o];exact yK dN.o jn);rw[jn]at ZY;clear jn;go_wp2_with fail
      rw[<-TN.o];refine ZY.o.mono ?_;rintro e u6⟨rfl,nF⟩;go_wp2;go_ret;exact⟨by rw[HR.o];rfl,(mr.o.trans CZ.o).trans nF⟩
     ·have qi:=O (uR dN.o A'.o jn);rw[jn]at ZY;clear jn;go_wp2_with fail
      rw[<-TN.o];refine ZY.o.mono ?_;rintro e u6⟨rfl,nF⟩;go_wp2;go_roundw
      case rel=>exact⟨k+1,ab,a_,qi.o,sx.o.trans nF⟩
      case measure=>simp[intOf];omega
   ·have py:¬(k:Int)<(nl.length:Int):=ab;have HR:=O (show res=true by rw[Ob.o];have h:=A'.o;rwa [aC ab]at h);go_wp2;go_ret;exact⟨by rw[HR.o];rfl,mr.o.trans (jV.o.trans cK)⟩
theorem RQ(r:gq Value)(hs:List gZ)(w:World)(hr:oO w r.eo hs)(hz:G0 r hs) :
  Calls prog 61 #[.agg r.cells.toArray] w fun e w'=>e=.returned (.bool (r.dS hs).needs)/\Fr aR w w':=by
 have gJ:=O (show(r.dS hs).needs=(!r.dm.ll r.o&&!(r.dS hs).ng [])from rfl);generalize (r.dS hs).needs=res at gJ ⊢;have hne:=BR r.dm r.o;obtain⟨wb,j_⟩:∃wb,wb=w.alloc (.cells r.cells.toArray 37):=⟨_,rfl⟩;have ks:Fr aR w wb:=by rw[j_];exact(ae aR w).alloc _
 have mf:wb.heap[w.heap.size]?=some (.cells r.cells.toArray 37 (0,0)):=by rw[j_];exact aB _ _
 have np:∀i u,r.cells[i]?=some u->wb.cell? ⟨w.heap.size,i,none⟩=some u:=fun i u hu=>by
  simp only[World.cell?,mf];simpa using hu
 have c1:=np 1 _ rfl;have c2:=np 2 _ rfl;have c3:=np 3 _ rfl;have c4:=np 4 _ rfl;have c5:=np 5 _ rfl;have c6:=np 6 _ rfl;have xI:=O (yL r hs (.slice none 0 0) [] wb (bg hr ks) (show dV 12 wb _ []from⟨aQ,Or.inl ⟨_,_,rfl,rfl,fun _=>rfl⟩⟩) hz);have mr:=O ks;have c7:=np 7 _ rfl;have c8:=np 8 _ rfl;have c9:=np 9 _ rfl;have G1:=np 10 _ rfl;have TP:=np 11 _ rfl;have c12:=np 12 _ rfl;have c0:=np 0 _ rfl
 obtain⟨ah,ch,gV⟩:=dQ hr;rw[ai]at gV;have uS:r.cells=[.int .i64 r.part,.bool r.dm.aF,.string r.dm.host,.int .i64 r.dm.port,.bool r.o.aF,.string r.o.host,.int .i64 r.o.port,.string r.path,.string r.query,.string r.method,.slice ah hs.length ch,.bool r.fU,.string r.body]:=by unfold gq.cells;rw[gV]
 rw[gV]at G1;rw[uS]at xI j_ ⊢;have qY:=O j_;clear gV uS np mf ks j_ hr hz;cases e1:r.dm.ll r.o
 ·have HR:=O (show res=!(r.dS hs).ng []by rw[gJ.o,e1];rfl);rw[e1]at hne;clear gJ e1;rw[qY.o]at c0 c1 c2 c3 c4 c5 c6 c7 c8 c9 G1 TP c12;go_enter func61,ntmps61;go_wp2_with fail
  rw[<-qY.o];refine xI.o.mono ?_;rintro e u⟨rfl,hf⟩;go_wp2;go_ret;exact⟨by rw[HR.o];rfl,mr.o.trans hf⟩
 ·have HR:=O (show res=false by rw[gJ.o,e1];rfl);rw[e1]at hne;clear gJ e1;rw[qY.o]at c0 c1 c2 c3 c4 c5 c6 c7 c8 c9 G1 TP c12;have HF:=O (qY.o▸mr.o);go_enter func61,ntmps61;go_wp2;go_ret;exact⟨by rw[HR.o];rfl,HF.o⟩
theorem wA.off{S:Nat->Prop}(h:wA B b l w)(hf:Fr S w w')(hb:¬S b)(hS:∀g cur fz,w.heap[g]?=some (.cells cur 5 fz)->¬S g):wA B b l w':=by
 have key:∀p,Lib.BuilderAtF 179 5 B b p (ux l) w->Lib.BuilderAtF 179 5 B b p (ux l) w':=by
  rintro p⟨hB,v,hv,⟨hx,hr⟩,hne⟩;refine⟨hB,v,hf.keep hv hb,⟨hx,?_⟩,hne⟩;rcases hr with hr|⟨g,cap,cur,fz,rfl,h1,hg,h2⟩
  ·exact Or.inl hr
  ·exact Or.inr ⟨g,cap,cur,fz,rfl,h1,hf.keep hg (hS g cur fz hg),h2⟩
 exact h.elim (fun x=>Or.inl (key _ x)) (fun x=>Or.inr (key _ x))
theorem wA.fH(h:wA B b l w)(hf:Fr aR w w'):wA B b l w':=h.off hf id (fun _ _ _ _ h=>h)
def zG(w:World)(d:Nat)(x:Bool):Prop:=w.heap[d]?=some (.cells #[.bool x] 4 (0,0))
theorem zG.NC{d:Nat}{x:Bool}(h:zG w d x)(ho:ahp b w w')(hd:d≠b):zG w' d x :=
 ho d _ h (by simpa using hd) (fun c fz e=>by injection e with _ e2;exact absurd e2 ag)
def Bc(q:Bool)(v:Bs):Bs:=if q then(if n_ v then fR v else [])else v
def Bd(q:Bool)(v:Bs):Bool:=q&&!n_ v
def qE(l nm x:Bs):Bs:=l++((if 7<l.length then [44,32]else [])++(nm++61 :: x))
def Zk(B b d:Nat)(l:Bs)(bad:Bool)(nm v:Bs)(q:Bool)(w:World)(e:Ending)(w':World):Prop :=
 e=.returned (.tuple #[])/\wA B b (qE l nm (Bc q v)) w'/\zG w' d (bad||Bd q v)/\Below B w w'
theorem X'(a b:Bs):bA a++⟨#[61]⟩++bA b=bA (a++61 :: b):=by
 apply Go.WideShapes.bytes_inj;simp[bA]
theorem KQ(v:Bs):(fR v).length<=2*v.length+2:=by
 have:=PH v;unfold fR;simp;omega
theorem Zl(B b d:Nat)(l nm v:Bs)(bad q:Bool)(w:World)(h:wA B b l w)(hd:zG w d bad)(hne:d≠b)(Nf:B<=d)(hn:nm.length<=1000)(hv:v.length<=100000)(hl:l.length<=100000000)(hB:B<=w.heap.size) :
  Calls prog 99 #[.string (bA nm),.string (bA v),.bool q,.pointer (some ⟨d,0,none⟩),.pointer (some ⟨b,0,none⟩)] w (Zk B b d l bad nm v q w):=by
 have z1:(bA nm).size=nm.length:=rfl;have z2:(bA v).size=v.length:=rfl;have z3:(⟨#[61]⟩:aj).size=1:=rfl;cases q with
 |false =>
  have TD:Bc false v=v:=rfl;go_enter func99,ntmps99;go_wp2_with fail
  refine(wB B b l w h).mono ?_;rintro e wl⟨rfl,rfl⟩;by_cases h7:7<l.length
  ·have Zm:(7:Int)<(l.length:Int):=ab;go_wp2_with fail
   refine(ec B b l ⟨#[44,32]⟩ w h (by show l.length+2<=_;omega) (aD hB (Below.refl B w).size)).mono ?_;rintro e wx⟨rfl,qp,Gi,DA⟩;have Rf:=(hd).NC DA hne;have ud:=O ((Below.refl B w).trans Gi);clear DA Gi;go_wp2_with fail
   rw[show bA nm++⟨#[61]⟩++bA v=bA (nm++61 :: v)from X' nm v];refine(ec B b _ (bA (nm++61 :: v)) wx qp (by show(l++[44,32]).length+(nm++61 :: v).length<=_;simp;omega) (aD hB ud.o.size)).mono ?_;rintro e wy⟨rfl,qZ,Gu,IB⟩;have IC:=Rf.NC IB hne;go_wp2;go_end0;refine⟨rfl,?_,(by rw[show Bd false v=false from rfl,Bool.or_false];exact IC),ud.o.trans Gu⟩
   have e:qE l nm v=l++(⟨#[44,32]⟩:aj).data.toList++(bA (nm++61 :: v)).data.toList:=by unfold qE;rw[az h7,fT];simp
   rw[TD,e];exact qZ
  ·have Zm:¬(7:Int)<(l.length:Int):=ab;go_wp2_with fail
   rw[show bA nm++⟨#[61]⟩++bA v=bA (nm++61 :: v)from X' nm v];refine(ec B b l (bA (nm++61 :: v)) w h (by show l.length+(nm++61 :: v).length<=_;simp;omega) (aD hB (Below.refl B w).size)).mono ?_;rintro e wy⟨rfl,qZ,Gu,IB⟩;have IC:=(hd).NC IB hne;go_wp2;go_end0;refine⟨rfl,?_,(by rw[show Bd false v=false from rfl,Bool.or_false];exact IC),(Below.refl B w).trans Gu⟩
   have e:qE l nm v=l++(bA (nm++61 :: v)).data.toList:=by unfold qE;rw[aq h7,fT];simp
   rw[TD,e];exact qZ
 |true =>
  have c0:∀U,Fr aR w U->U.cell? ⟨d,0,none⟩=some (.bool bad)/\U.frozen? ⟨d,0,none⟩=false:=fun U hU=>by
   have h1:=hU.keep hd id;exact⟨by simp[World.cell?,h1],by simp[World.frozen?,h1]⟩
  have UJ:=O c0;clear c0;cases ht:n_ v with
  |true =>
   have TD:Bc true v=fR v:=by unfold Bc;rw[ht];rfl
   have Zn:Bd true v=false:=by unfold Bd;rw[ht];rfl
   have hql:=KQ v;have z4:(bA (fR v)).size=(fR v).length:=rfl;go_enter func99,ntmps99;go_wp2_with fail
   refine(F2 (bA v) w ab).mono ?_;rintro e w1⟨rfl,df⟩;rw[fT,az ht];obtain⟨k0,k1⟩:=UJ.o w1 df;obtain⟨w2,eB⟩:∃w2,w2=w1.setCell ⟨d,0,none⟩ (.bool bad):=⟨_,rfl⟩;have zj:=df.keep hd id;have sV:zG w2 d bad:=by rw[eB];exact b_ zj 0 (.bool bad)
   have dy:Fr (one d) w1 w2:=by rw[eB];exact(ae (one d) w1).setCell (p:=⟨d,0,none⟩) (fun _=>rfl) _
   have kC:wA B b l w2:=(h.fH df).off dy (fun e=>hne e.symm) (fun g cur fz hg e=>by have e':g=d:=e;subst e';rw[zj]at hg;injection hg with hg;injection hg with _ hg;exact absurd hg ag);have pZ:=O (show Below B w w2 from((oH df).mono hB).trans (by rw[eB];exact(Below.refl B w1).setCell (p:=⟨d,0,none⟩) Nf _));have nJ:=O eB;clear eB df dy zj;have hee:(⟨(fR v).toArray⟩:aj)=bA (fR v):=rfl;rw[hee]
   cases bad with
   |true =>
    go_wp2_with fail
    rw[<-nJ.o];refine(wB B b l w2 kC).mono ?_;rintro e wl⟨rfl,rfl⟩;by_cases h7:7<l.length
    ·have Zm:(7:Int)<(l.length:Int):=ab;go_wp2_with fail
     refine(ec B b l ⟨#[44,32]⟩ w2 kC (by show l.length+2<=_;omega) (aD hB (pZ.o).size)).mono ?_;rintro e wx⟨rfl,qp,Gi,DA⟩;have Rf:=(sV).NC DA hne;have ud:=O ((pZ.o).trans Gi);clear DA Gi;go_wp2_with fail
     rw[show bA nm++⟨#[61]⟩++bA (fR v)=bA (nm++61 :: (fR v))from X' nm (fR v)];refine(ec B b _ (bA (nm++61 :: (fR v))) wx qp (by show(l++[44,32]).length+(nm++61 :: (fR v)).length<=_;simp;omega) (aD hB ud.o.size)).mono ?_;rintro e wy⟨rfl,qZ,Gu,IB⟩;have IC:=Rf.NC IB hne;go_wp2;go_end0;refine⟨rfl,?_,(by rw[Zn];exact IC),ud.o.trans Gu⟩
     have e:qE l nm (fR v)=l++(⟨#[44,32]⟩:aj).data.toList++(bA (nm++61 :: (fR v))).data.toList:=by unfold qE;rw[az h7,fT];simp
     rw[TD,e];exact qZ
    ·have Zm:¬(7:Int)<(l.length:Int):=ab;go_wp2_with fail
     rw[show bA nm++⟨#[61]⟩++bA (fR v)=bA (nm++61 :: (fR v))from X' nm (fR v)];refine(ec B b l (bA (nm++61 :: (fR v))) w2 kC (by show l.length+(nm++61 :: (fR v)).length<=_;simp;omega) (aD hB (pZ.o).size)).mono ?_;rintro e wy⟨rfl,qZ,Gu,IB⟩;have IC:=(sV).NC IB hne;go_wp2;go_end0;refine⟨rfl,?_,(by rw[Zn];exact IC),(pZ.o).trans Gu⟩
     have e:qE l nm (fR v)=l++(bA (nm++61 :: (fR v))).data.toList:=by unfold qE;rw[aq h7,fT];simp
     rw[TD,e];exact qZ
   |false =>
    go_wp2_with fail
    rw[<-nJ.o];refine(wB B b l w2 kC).mono ?_;rintro e wl⟨rfl,rfl⟩;by_cases h7:7<l.length
    ·have Zm:(7:Int)<(l.length:Int):=ab;go_wp2_with fail
     refine(ec B b l ⟨#[44,32]⟩ w2 kC (by show l.length+2<=_;omega) (aD hB (pZ.o).size)).mono ?_;rintro e wx⟨rfl,qp,Gi,DA⟩;have Rf:=(sV).NC DA hne;have ud:=O ((pZ.o).trans Gi);clear DA Gi;go_wp2_with fail
     rw[show bA nm++⟨#[61]⟩++bA (fR v)=bA (nm++61 :: (fR v))from X' nm (fR v)];refine(ec B b _ (bA (nm++61 :: (fR v))) wx qp (by show(l++[44,32]).length+(nm++61 :: (fR v)).length<=_;simp;omega) (aD hB ud.o.size)).mono ?_;rintro e wy⟨rfl,qZ,Gu,IB⟩;have IC:=Rf.NC IB hne;go_wp2;go_end0;refine⟨rfl,?_,(by rw[Zn];exact IC),ud.o.trans Gu⟩
     have e:qE l nm (fR v)=l++(⟨#[44,32]⟩:aj).data.toList++(bA (nm++61 :: (fR v))).data.toList:=by unfold qE;rw[az h7,fT];simp
     rw[TD,e];exact qZ
    ·have Zm:¬(7:Int)<(l.length:Int):=ab;go_wp2_with fail
     rw[show bA nm++⟨#[61]⟩++bA (fR v)=bA (nm++61 :: (fR v))from X' nm (fR v)];refine(ec B b l (bA (nm++61 :: (fR v))) w2 kC (by show l.length+(nm++61 :: (fR v)).length<=_;simp;omega) (aD hB (pZ.o).size)).mono ?_;rintro e wy⟨rfl,qZ,Gu,IB⟩;have IC:=(sV).NC IB hne;go_wp2;go_end0;refine⟨rfl,?_,(by rw[Zn];exact IC),(pZ.o).trans Gu⟩
     have e:qE l nm (fR v)=l++(bA (nm++61 :: (fR v))).data.toList:=by unfold qE;rw[aq h7,fT];simp
     rw[TD,e];exact qZ
  |false =>
   have TD:Bc true v=[]:=by unfold Bc;rw[ht];rfl
   have Zn:Bd true v=true:=by unfold Bd;rw[ht];rfl
   have z4:(bA []).size=0:=rfl;go_enter func99,ntmps99;go_wp2_with fail
   refine(F2 (bA v) w ab).mono ?_;rintro e w1⟨rfl,df⟩;rw[fT,ht];simp only[cG,eU];obtain⟨k0,k1⟩:=UJ.o w1 df;obtain⟨w2,eB⟩:∃w2,w2=w1.setCell ⟨d,0,none⟩ (.bool true):=⟨_,rfl⟩;have zj:=df.keep hd id;have sV:zG w2 d true:=by rw[eB];exact b_ zj 0 (.bool true)
   have dy:Fr (one d) w1 w2:=by rw[eB];exact(ae (one d) w1).setCell (p:=⟨d,0,none⟩) (fun _=>rfl) _
   have kC:wA B b l w2:=(h.fH df).off dy (fun e=>hne e.symm) (fun g cur fz hg e=>by have e':g=d:=e;subst e';rw[zj]at hg;injection hg with hg;injection hg with _ hg;exact absurd hg ag);have pZ:=O (show Below B w w2 from((oH df).mono hB).trans (by rw[eB];exact(Below.refl B w1).setCell (p:=⟨d,0,none⟩) Nf _));have nJ:=O eB;clear eB df dy zj;have hee:(⟨#[]⟩:aj)=bA []:=rfl;rw[hee];cases bad with
   |true =>
    go_wp2_with fail
    rw[<-nJ.o];refine(wB B b l w2 kC).mono ?_;rintro e wl⟨rfl,rfl⟩;by_cases h7:7<l.length
    ·have Zm:(7:Int)<(l.length:Int):=ab;go_wp2_with fail
     refine(ec B b l ⟨#[44,32]⟩ w2 kC (by show l.length+2<=_;omega) (aD hB (pZ.o).size)).mono ?_;rintro e wx⟨rfl,qp,Gi,DA⟩;have Rf:=(sV).NC DA hne;have ud:=O ((pZ.o).trans Gi);clear DA Gi;go_wp2_with fail
     rw[show bA nm++⟨#[61]⟩++bA []=bA (nm++61 :: [])from X' nm []];refine(ec B b _ (bA (nm++61 :: [])) wx qp (by show(l++[44,32]).length+(nm++61 :: []).length<=_;simp;omega) (aD hB ud.o.size)).mono ?_;rintro e wy⟨rfl,qZ,Gu,IB⟩;have IC:=Rf.NC IB hne;go_wp2;go_end0;refine⟨rfl,?_,(by rw[Zn,kq];exact IC),ud.o.trans Gu⟩
     have e:qE l nm []=l++(⟨#[44,32]⟩:aj).data.toList++(bA (nm++61 :: [])).data.toList:=by unfold qE;rw[az h7,fT];simp
     rw[TD,e];exact qZ
    ·have Zm:¬(7:Int)<(l.length:Int):=ab;go_wp2_with fail
     rw[show bA nm++⟨#[61]⟩++bA []=bA (nm++61 :: [])from X' nm []];refine(ec B b l (bA (nm++61 :: [])) w2 kC (by show l.length+(nm++61 :: []).length<=_;simp;omega) (aD hB (pZ.o).size)).mono ?_;rintro e wy⟨rfl,qZ,Gu,IB⟩;have IC:=(sV).NC IB hne;go_wp2;go_end0;refine⟨rfl,?_,(by rw[Zn,kq];exact IC),(pZ.o).trans Gu⟩;have e:qE l nm []=l++(bA (nm++61 :: [])).data.toList:=by unfold qE;rw[aq h7,fT];simp
     rw[TD,e];exact qZ
   |false =>
    go_wp2_with fail
    rw[<-nJ.o];refine(wB B b l w2 kC).mono ?_;rintro e wl⟨rfl,rfl⟩;by_cases h7:7<l.length
    ·have Zm:(7:Int)<(l.length:Int):=ab;go_wp2_with fail
     refine(ec B b l ⟨#[44,32]⟩ w2 kC (by show l.length+2<=_;omega) (aD hB (pZ.o).size)).mono ?_;rintro e wx⟨rfl,qp,Gi,DA⟩;have Rf:=(sV).NC DA hne;have ud:=O ((pZ.o).trans Gi);clear DA Gi;go_wp2_with fail
     rw[show bA nm++⟨#[61]⟩++bA []=bA (nm++61 :: [])from X' nm []];refine(ec B b _ (bA (nm++61 :: [])) wx qp (by show(l++[44,32]).length+(nm++61 :: []).length<=_;simp;omega) (aD hB ud.o.size)).mono ?_;rintro e wy⟨rfl,qZ,Gu,IB⟩;have IC:=Rf.NC IB hne;go_wp2;go_end0;refine⟨rfl,?_,(by rw[Zn,kq];exact IC),ud.o.trans Gu⟩
     have e:qE l nm []=l++(⟨#[44,32]⟩:aj).data.toList++(bA (nm++61 :: [])).data.toList:=by unfold qE;rw[az h7,fT];simp
     rw[TD,e];exact qZ
    ·have Zm:¬(7:Int)<(l.length:Int):=ab;go_wp2_with fail
     rw[show bA nm++⟨#[61]⟩++bA []=bA (nm++61 :: [])from X' nm []];refine(ec B b l (bA (nm++61 :: [])) w2 kC (by show l.length+(nm++61 :: []).length<=_;simp;omega) (aD hB (pZ.o).size)).mono ?_;rintro e wy⟨rfl,qZ,Gu,IB⟩;have IC:=(sV).NC IB hne;go_wp2;go_end0;refine⟨rfl,?_,(by rw[Zn,kq];exact IC),(pZ.o).trans Gu⟩;have e:qE l nm []=l++(bA (nm++61 :: [])).data.toList:=by unfold qE;rw[aq h7,fT];simp
     rw[TD,e];exact qZ
def aP.used(g:aP D):aP D:={g with count:=g.count+1}
def vQ(gs:List (aP bD))(o:gz)(proxy:Bool)(path:aj):List (aP bD)×Except Nat (aP bD) :=
 if 0<=uh gs o proxy path then
  match gs[(uh gs o proxy path).toNat]? with
  |some g =>
   let l:=gs.take (uh gs o proxy path).toNat++gs.drop ((uh gs o proxy path).toNat+1)
   if 4294967295<=g.count then(l,.error 12)else(l++[g.used],.ok g.used)
  |none=>(gs,.error 8)
 else(gs,.error 8)
def rj(base:Nat)(w:World)(b:Nat)(gv wv:Value)(ws:List (bI bD))(u:List (aP bD)×Except Nat (aP bD))(e:Ending)(w':World):Prop :=
 kF base w b gv wv u.1 ws w'/\match u.2 with
 | .error n=>e=.returned (.tuple #[.agg eS,.iface 105 (.int .i64 n)])
 | .ok g=>∃r:aP Value,e=.returned (.tuple #[.agg r.cells.toArray,.nilIface])/\r.Reads (dr base w') g/\∀u∈r.cells,u.oneCell'=true
theorem kF.same{base:Nat}{gv wv:Value}{gs:List (aP bD)}{ws:List (bI bD)}(h:dB base w b gv wv gs ws)(hf:Fr aR w w'):kF base w b gv wv gs ws w' :=
 ⟨gv,wv,h.dh hf,hf.mono (fun _ _ h=>absurd h id),fun _ hk=>Or.inl hk⟩
theorem N3{base:Nat}{w5 w6:World}{b gg cap i n:Nat}{wv:Value}{ls:List (aP bD)}{ws:List (bI bD)}{rs:List (aP Value)}(h5:dB base w5 b (.slice (some ⟨gg,0,none⟩) ls.length cap) wv ls ws)
  (hb:lg (aP.Reads (dr base w5)) rs ls)(zF:OwnRows base 114 16 w6 (.slice (some ⟨gg,0,none⟩) (i+(ls.length-n)) cap) ((rs.map aP.cells).take i++(rs.map aP.cells).drop n))(nF:Fr (one gg) w5 w6) :
  dB base (w6.setCell ⟨b,0,none⟩ (.slice (some ⟨gg,0,none⟩) (i+(ls.length-n)) cap)) b (.slice (some ⟨gg,0,none⟩) (i+(ls.length-n)) cap) wv (ls.take i++ls.drop n) ws /\
  Fr (dt b (.slice (some ⟨gg,0,none⟩) ls.length cap) wv) w5 (w6.setCell ⟨b,0,none⟩ (.slice (some ⟨gg,0,none⟩) (i+(ls.length-n)) cap))/\w6.cell? ⟨b,0,none⟩=some (.slice (some ⟨gg,0,none⟩) ls.length cap)/\w6.frozen? ⟨b,0,none⟩=false:=by
 have lp:=h5.low;have dY:∀k,one gg k->own (.slice (some ⟨gg,0,none⟩) ls.length cap) k:=fun k hk=>by have e:k=gg:=hk;rw[e];rfl
 have mU:sr base w5 (one gg):=fun k hk hl=>h5.off k (Or.inr (Or.inl (dY k hk))) hl;have tC:=nF.keep h5.eI (fun h=>h5.gb (dY _ h));have zY:kl base w6 wv ws:=h5.waits.fr nF mU (fun k hk hg=>h5.gw (dY _ hg) hk);have hm:=hb.mono (fun _ _ h=>h.mono (fun _ _ h=>h.fr nF mU));have hg6:f_ base w6 (.slice (some ⟨gg,0,none⟩) (i+(ls.length-n)) cap) (ls.take i++ls.drop n):=by
  refine⟨rs.take i++rs.drop n,?_,(hm.take i).app (hm.drop n)⟩;rw[bH,List.map_take,List.map_drop];exact zF
 have UH:Fr (dt b (.slice (some ⟨gg,0,none⟩) ls.length cap) wv) w5 w6:=nF.mono (fun k _ hk=>Or.inr (Or.inl (dY k hk)));exact⟨nL lp tC hg6 zY,UH.setCell (p:=⟨b,0,none⟩) (fun _=>Or.inl rfl) _,by simp[World.cell?,tC],by simp[World.frozen?,tC]⟩
theorem ZQ(base:Nat)(w:World)(b:Nat)(gv wv:Value)(gs:List (aP bD))(ws:List (bI bD))(o:gz)(proxy:Bool)(path:aj)(h:dB base w b gv wv gs ws)(NY:gs.length<34359738368)(hcn:∀g∈gs,0<=g.count) :
  Calls prog 48 #[.pointer (some ⟨b,0,none⟩),.agg o.cells.toArray,.bool proxy,.string path] w (rj base w b gv wv ws (vQ gs o proxy path)):=by
 unfold gz.cells;have sO:=h.lt;have lp:=h.low;have pg:Fr aR w _:=((ae aR w).alloc (.cells #[.bool o.aF,.string o.host,.int .i64 o.port] 32)).alloc (.cells eS 114);have b1:=aB (w.alloc (.cells #[.bool o.aF,.string o.host,.int .i64 o.port] 32)) (.cells eS 114);rw[show(w.alloc (.cells #[.bool o.aF,.string o.host,.int .i64 o.port] 32)).heap.size=w.heap.size+1 from aQ]at b1;have h1:=h.dh pg
 have acd:=O (Vi base _ b gv wv gs ws o proxy path h1);have Qn:=O b1;clear b1;go_enter func48,ntmps48;go_wp2_with fail
 generalize (w.alloc (.cells _ 32)).alloc _=W at *
 refine acd.o.mono ?_;rintro e u1⟨rfl,df⟩;have Vk:=O (df.keep Qn.o id);have HF:=pg.trans df;have h2:=h1.dh df;clear acd Qn pg df h1;have yJ:w.heap.size+1<u1.heap.size:=bj Vk.o;rcases Vm gs o proxy path with ⟨k,hk,he⟩|he
 ·obtain⟨bk,c,dy,sZ,r,dY,hr,hcell⟩:=h2.bF.at hk;subst dy;unfold maxLen at sZ;have d0:=h2.c0;obtain⟨x,hx⟩:∃x,x=r.cells:=⟨_,rfl⟩;have lF:x.length=16:=by rw[hx];rfl
  have jq:=fun W=>run_storeCells_new (P:=prog) W 114 #[.bool false,.string ⟨#[]⟩,.int .i64 0,.bool false,.string ⟨#[]⟩,.string ⟨#[]⟩,.int .i64 0,.string ⟨#[]⟩,.string ⟨#[]⟩,.string ⟨#[]⟩,.bool false,.string ⟨#[]⟩,.bool false,.slice none 0 0,.int .i64 0,.slice none 0 0] x (by rw[lF];rfl) (by rw[hx];exact dY);have D8:=O (show(prog.info? 114).map (·.size)=some x.length by rw[lF];kernel_rfl)
  have N4:r.count=gs[k].count:=hr.2.2.2.2.2.1;have hc0:0<=r.count:=by rw[N4];exact hcn _ (bL hk)
  have HX:=O hx;have HE:=O he;rw[<-hx]at hcell;have hub:b<u1.heap.size:=h2.lt;have gS:Fr aR u1 (u1.alloc (.cells x.toArray 114)):=(ae aR u1).alloc _;have qp:(u1.alloc (.cells x.toArray 114)).heap[u1.heap.size]?=some (.cells x.toArray 114 (0,0)):=aB _ _;have h3:=h2.dh gS;have rJ:=hr.mono (fun _ _ h=>h.dh gS);obtain⟨rs,ho,hb⟩:=h3.bF;have vI:=O (show(rs.map aP.cells).length=gs.length by rw[ai,hb.len])
  have qJ:=O (GK base bk c k (k+1) (rs.map aP.cells) _ (by rw[vI.o];exact ho) ab (by rw[vI.o];omega));rw[vI.o,show((k+1:Nat):Int)=(k:Int)+1 from ab]at qJ;have aod:bk<u1.heap.size:=by
   obtain⟨cc,e⟩:=h2.uj (k:=bk) rfl;exact bj e
  have ud:=O qp;have HCO:=O N4;have Vq:=O rJ;have xE:=O dY;rw[he];clear hx he qp N4 hr rJ dY h2;go_wp2_with (first|((with_reducible refine cY 27 ?_);refine aU rfl 114 (.tmp 26) rfl bk (k*16) rfl x _ hcell underlying114 rfl D8.o ?_)|fail)
  clear jq hcell d0;have iD:base<=u1.heap.size:=ab;have RM:Fr aR w (u1.alloc (.cells x.toArray 114)):=HF.alloc _;have Gi:u1.heap.size<(u1.alloc (.cells x.toArray 114)).heap.size:=aQ;have b1v:=O (gS.keep Vk.o id);generalize u1.alloc (.cells x.toArray 114)=V at *
  refine qJ.o.mono ?_;rintro e w2⟨rfl,q_,dy⟩;obtain⟨h4,TL,d2,e2⟩:=N3 h3 hb (by exact q_) dy;obtain⟨l,hl⟩:∃l,l=gs.take k++gs.drop (k+1):=⟨_,rfl⟩;have hm:k+(gs.length-(k+1))=l.length:=by rw[hl,aM,aJ,bJ];omega
  have hlen:l.length<=gs.length:=ab;rw[<-hl]at h4;rw[hm]at h4 TL ⊢;have HL:=O hl;clear hl hm;have Lt:sr base V (own (.slice (some ⟨bk,0,none⟩) gs.length c)):=ho.off (ay _) ag;have Lu:sr base V (one bk):=fun j hj hl=>Lt j (by have e:j=bk:=hj;rw[e];rfl) hl;have zZ:=dy.keep ud.o (fun h=>by have e:u1.heap.size=bk:=h;omega)
  have Vr:=dy.keep b1v.o (fun hh=>by have e:w.heap.size+1=bk:=hh;obtain⟨cc,e2⟩:=h.uj (k:=bk) rfl;have:=bj e2;omega);have vX:=Vq.o.mono (fun _ _ h=>h.fr dy Lu);have c14:w2.cell? ⟨u1.heap.size,14,none⟩=some (.int .i64 r.count):=by
   have e:=HX.o;simp only[World.cell?,zZ,e];rfl
  have f14:w2.frozen? ⟨u1.heap.size,14,none⟩=false:=by simp[World.frozen?,zZ]
  have Vs:w2.heap[b]?=some (.cells #[.slice (some ⟨bk,0,none⟩) gs.length c,wv] 89 (0,0)):=dy.keep h3.eI (fun h=>h3.gb (by have e:b=bk:=h;rw[e];rfl));have ks:Fr (one b) w2 (w2.setCell ⟨b,0,none⟩ (.slice (some ⟨bk,0,none⟩) l.length c)):=(ae (one b) w2).setCell (p:=⟨b,0,none⟩) (fun _=>rfl) _;have Vt:sr base w2 (one b):=by
   rintro j rfl _;exact⟨lp,fun cc f e=>by rw[Vs]at e;cases e⟩
  have Eh:=ks.keep zZ (fun h=>by have e:u1.heap.size=b:=h;omega);have RN:=ks.keep Vr (fun h=>by have e:w.heap.size+1=b:=h;omega);have BZ:=vX.mono (fun _ _ h=>h.fr ks Vt);have hFw:Fr (dt b (.slice (some ⟨bk,0,none⟩) gs.length c) wv) w (w2.setCell ⟨b,0,none⟩ (.slice (some ⟨bk,0,none⟩) l.length c)):=fX (RM.mono (fun _ _ h=>absurd h id)) TL (fun _ _ h=>h)
  have ln:∀j,dt b (.slice (some ⟨bk,0,none⟩) l.length c) wv j->dt b (.slice (some ⟨bk,0,none⟩) gs.length c) wv j:=fun j hj=>by
   rcases hj with h|h|h
   ·exact Or.inl h
   ·exact Or.inr (Or.inl h)
   ·exact Or.inr (Or.inr h)
  have H4:=O h4;have rO:=O hFw
  try clear qJ
  try clear q_
  try clear ho
  try clear hb
  try clear Vs
  try clear ks
  try clear Vt
  try clear zZ
  try clear Vr
  try clear vX
  try clear TL
  try clear Lu
  try clear Lt
  try clear h3
  try clear RM
  try clear TL
  try clear ud
  try clear Vq
  try clear b1v
  try clear Vk
  try clear HF
  try clear h4
  try clear hFw
  have ad6:=O Eh;have Vu:=O RN;clear Eh RN;by_cases ace:4294967295<=r.count
  ·have hu:=O (show vQ gs o proxy path=(l,.error 12)by
    rw[HL.o];unfold vQ;rw[HE.o,az ab,show((k:Int)).toNat=k from aQ,List.getElem?_eq_getElem hk];simp only;rw[<-HCO.o,az ace])
   go_wp2_with (first|((with_reducible refine cV 114 ?_);refine aE rfl 114 (.tmp 8) (.tmp 42) rfl (w.heap.size+1) eS rfl rfl _ eS Vu.o af rfl yE ?_)|fail)
   refine aS (results_cell_tmp bC _ _ (w.heap.size+1) 114 eS (0,0) _ rfl (aX _ (w.heap.size+1) _ _ _ _ Vu.o) underlying114 rfl af) rfl ?_;unfold rj;rw[hu.o];have hFr:Fr (one (w.heap.size+1)) (w2.setCell ⟨b,0,none⟩ (.slice (some ⟨bk,0,none⟩) l.length c)) ((w2.setCell ⟨b,0,none⟩ (.slice (some ⟨bk,0,none⟩) l.length c)).setRow (w.heap.size+1) eS):=(ae (one (w.heap.size+1)) _).setRow (fun _=>rfl) _
   have hne:∀j,dt b (.slice (some ⟨bk,0,none⟩) gs.length c) wv j->j<w.heap.size:=fun j hj=>by
    rcases hj with hj|hj|hj
    ·omega
    ·obtain⟨cc,e⟩:=h.uj hj;exact bj e
    ·obtain⟨cc,e⟩:=h.wQ hj;exact bj e
   refine⟨⟨_,_,H4.o.fr hFr ?_ ?_ ?_ ?_,rO.o.step hFr ?_,fun j hj=>Or.inl (ln j hj)⟩,rfl⟩
   ·rintro j rfl _;exact⟨ab,fun cc f e=>by rw[Vu.o]at e;cases e⟩
   ·intro hh;have e:b=w.heap.size+1:=hh;omega
   ·intro j hj hh;have e:j=w.heap.size+1:=hh;have:=hne j (ln j (Or.inr (Or.inl hj)));omega
   ·intro j hj hh;have e:j=w.heap.size+1:=hh;have:=hne j (ln j (Or.inr (Or.inr hj)));omega
   ·intro j hj hh;have e:j=w.heap.size+1:=hh;omega
  ·have hu:=O (show vQ gs o proxy path=(l++[gs[k].used],.ok gs[k].used)by
    rw[HL.o];unfold vQ;rw[HE.o,az ab,show((k:Int)).toNat=k from aQ,List.getElem?_eq_getElem hk];simp only;rw[<-HCO.o,aq ace])
   have hne:∀j,dt b (.slice (some ⟨bk,0,none⟩) gs.length c) wv j->j<w.heap.size:=fun j hj=>by
    rcases hj with hj|hj|hj
    ·omega
    ·obtain⟨cc,e⟩:=h.uj hj;exact bj e
    ·obtain⟨cc,e⟩:=h.wQ hj;exact bj e
   go_wp2_with fail
   clear d2 e2 c14 f14;generalize w2.setCell ⟨b,0,none⟩ (.slice (some ⟨bk,0,none⟩) l.length c)=w3 at *
   have aiq:(w3.setCell ⟨u1.heap.size,14,none⟩ (.int .i64 (r.count+1))).heap[u1.heap.size]?=some (.cells r.used.cells.toArray 114 (0,0)):=by
    have e:=ad6.o;rw[HX.o]at e;exact b_ e 14 _
   have Ki:Fr (one u1.heap.size) w3 (w3.setCell ⟨u1.heap.size,14,none⟩ (.int .i64 (r.count+1))):=(ae (one u1.heap.size) w3).setCell (p:=⟨u1.heap.size,14,none⟩) (fun _=>rfl) _;have ad7:sr base w3 (one u1.heap.size):=by
    rintro j rfl _;exact⟨iD,fun cc f e=>by rw[ad6.o]at e;cases e⟩
   have qi:¬dt b (.slice (some ⟨bk,0,none⟩) l.length c) wv u1.heap.size:=fun hh=>by
    have:=hne _ (ln _ hh);omega
   have h5:=H4.o.fr Ki ad7 (fun hh=>by have e:b=u1.heap.size:=hh;omega) (fun j hj hh=>by have e:j=u1.heap.size:=hh;subst e;exact qi (Or.inr (Or.inl hj))) (fun j hj hh=>by have e:j=u1.heap.size:=hh;subst e;exact qi (Or.inr (Or.inr hj)));have JO:aP.Reads (dr base (w3.setCell ⟨u1.heap.size,14,none⟩ (.int .i64 (r.count+1)))) r.used gs[k].used:=by
    obtain⟨q1,q2,q3,q4,q5,q6,q7⟩:=BZ.mono (fun _ _ h=>h.fr Ki ad7);exact⟨q1,q2,q3,q4,q5,by show r.count+1=gs[k].count+1;rw[q6],q7⟩
   have air:=O (Ki.keep Vu.o (fun hh=>by have e:w.heap.size+1=u1.heap.size:=hh;omega));have ad8:Fr (dt b (.slice (some ⟨bk,0,none⟩) gs.length c) wv) w (w3.setCell ⟨u1.heap.size,14,none⟩ (.int .i64 (r.count+1))):=rO.o.step Ki (fun j hj hh=>by have e:j=u1.heap.size:=hh;omega);have acf:∀u∈r.used.cells,u.oneCell'=true:=by
    intro u hu;simp only[aP.cells,aP.used,bB,cq,dU]at hu;have ho:=xE.o;simp only[aP.cells,bB,cq,dU]at ho;rcases hu with rfl|rfl|rfl|rfl|rfl|rfl|rfl|rfl|rfl|rfl|rfl|rfl|rfl|rfl|rfl|rfl<;>first|rfl|exact ho _ aQ
   have acg:=O acf;have ad9:=O aiq;have JT:=O JO;have ava:w.heap.size<=w3.heap.size:=rO.o.size;clear acf BZ Ki ad7 ad6 Vu H4 rO aiq JO;generalize w3.setCell ⟨u1.heap.size,14,none⟩ (.int .i64 (r.count+1))=w4 at *
   have oz:∀i u,r.used.cells[i]?=some u->w4.cell? ⟨u1.heap.size,i,none⟩=some u:=fun i u hu=>by
    simp only[World.cell?,ad9.o];simpa using hu
   have x0:=oz 0 _ rfl;have x1:=oz 1 _ rfl;have x2:=oz 2 _ rfl;have x3:=oz 3 _ rfl;have x4:=oz 4 _ rfl;have x5:=oz 5 _ rfl;have x6:=oz 6 _ rfl;have x7:=oz 7 _ rfl;have x8:=oz 8 _ rfl;have x9:=oz 9 _ rfl;have ZN:=oz 10 _ rfl;have ZO:=oz 11 _ rfl;have x12:=oz 12 _ rfl;have x13:=oz 13 _ rfl;have x14:=oz 14 _ rfl;have x15:=oz 15 _ rfl;have d0:=h5.c0;have e0:=h5.free 0;have vL:b<w4.heap.size:=h5.lt
   have Ze:u1.heap.size<w4.heap.size:=bj ad9.o;obtain⟨i0,qD,pq,kZ,lq⟩:=info_parts yD;obtain⟨rs5,MZ,FH⟩:=h5.bF;have HO5:=O MZ;have HB5:=O FH;have Lv:w4.ownsRow base 114 16 (.slice (some ⟨bk,0,none⟩) l.length c) l.length (rs5.map aP.cells).flatten:=by
    have hh:=MZ.2;rw[ai,FH.len]at hh;exact hh
   have AO:¬own (.slice (some ⟨bk,0,none⟩) l.length c) b:=h5.gb;clear MZ FH oz;simp only[aP.used]at x0 x1 x2 x3 x4 x5 x6 x7 x8 x9 ZN ZO x12 x13 x14 x15
   go_region_law ((with_reducible refine mR ⟨some 55,_,_,_,_,_⟩ ?_)
                  refine step_append_lies _ bC _ _ _ bC base 114 i0 _ 16 216 underlying77 qD pq kZ lq rfl ab (.slice (some ⟨bk,0,none⟩) l.length c) l.length _ bC (by repeat(first|exact Lv|apply World.ownsRow.alloc|apply World.ownsRow.drew)) ⟨w4.heap.size,0,none⟩ 1 1 r.used.cells bC bC (kQ w4 r.used.cells _) acg.o ab fq ab bG (w4.heap.size+1) aQ ?_
                  intro gg cap w5 wG jC dN adv
                  have rf:Fr (own (.slice (some ⟨bk,0,none⟩) l.length c)) w4 w5:=fk (by repeat(first|exact ae _ _|apply aA|apply bz)) jC (fun _ hk _=>hk)
                  have k4:w5.cell? ⟨b,0,none⟩=some (.slice (some ⟨bk,0,none⟩) l.length c):=(rf.cell (p:=⟨b,0,none⟩) vL AO).trans d0
                  have e4:w5.frozen? ⟨b,0,none⟩=false:=(rf.frozen (p:=⟨b,0,none⟩) vL AO).trans e0)
   all_goals
    obtain⟨h6,hF6,FG⟩:=GM (m:=gs[k].used) h5 HO5.o HB5.o (ae _ _) JT.o acg.o rf wG (dN.imp id (fun h=>ab));have hnr:¬dt b (.slice (some ⟨bk,0,none⟩) l.length c) wv (w.heap.size+1):=fun hh=>by have:=hne _ (ln _ hh);omega
    have ait:=O (hF6.keep ad9.o qi);have aof:=O (hF6.keep air.o hnr);have TB:=JT.o.mono (fun _ _ h=>h.fr hF6 h5.off);have aog:=O (ad8.step hF6 (fun j hj hb=>ln j hb));have ZR:∀j,dt b (.slice (some ⟨gg,0,none⟩) (l.length+1) cap) wv j->dt b (.slice (some ⟨bk,0,none⟩) gs.length c) wv j\/w.heap.size<=j:=fun j hj=>by
     rcases FG j hj with h|h
     ·exact Or.inl (ln j h)
     ·exact Or.inr (by have:=ad8.size;omega)
    have H6:=O h6;have Bk:base<=(w5.setCell ⟨b,0,none⟩ (.slice (some ⟨gg,0,none⟩) (l.length+1) cap)).heap.size:=by have:=h6.lt;omega
    have fA:=O (uP base r.used gs[k].used _ Bk TB);clear x0 x1 x2 x3 x4 x5 x6 x7 x8 x9 ZN ZO x12 x13 x14 x15 d0 e0 k4 e4 jC wG Lv h6 hF6 TB rf h5 Bk;generalize w5.setCell ⟨b,0,none⟩ (.slice (some ⟨gg,0,none⟩) (l.length+1) cap)=w6 at *
    obtain⟨y,hy⟩:∃y,y=r.used.cells:=⟨_,rfl⟩;have Dm:y.length=16:=by rw[hy];rfl
    rw[<-hy]at ait fA;have hyi:=O (show(prog.info? 114).map (·.size)=some y.toArray.size by rw[aW,Dm];kernel_rfl);clear hy;go_wp2_with (first|((with_reducible refine cY 58 ?_);refine aH rfl 114 (.tmp 11) rfl u1.heap.size rfl _ y.toArray (0,0) _ ait.o underlying114 rfl hyi.o ?_)|fail)
    refine fA.o.mono ?_;intro e w7 NZ;obtain⟨r7,rfl,TB,Vv,nI⟩:=NZ;have b7:=O (nI.keep aof.o id);have h7:=H6.o.dh nI;have TK:=aog.o.trans (nI.mono (fun _ _ h=>absurd h id));have za:(prog.info? 114).map (·.size)=some r7.cells.toArray.size:=af;obtain⟨z,hz⟩:∃z,z=r7.cells:=⟨_,rfl⟩;have HZ:=O hz;have aiu:=O Vv;rw[<-hz]at za Vv ⊢;have kZ:=O (bW Vv)
    have X_:=O (show eS.size=z.toArray.size by rw[hz];rfl);clear hz fA;go_wp2_with (first|((with_reducible refine cV 114 ?_);refine aE rfl 114 (.tmp 8) (.tmp 59) rfl (w.heap.size+1) z.toArray rfl rfl _ eS b7.o za X_.o kZ.o ?_)|fail)
    have rS:sr base w7 (one (w.heap.size+1)):=by
     rintro j rfl hj;exact⟨ab,fun c f e=>by rw[b7.o]at e;cases e⟩
    have kJ:Fr (one (w.heap.size+1)) w7 (w7.setRow (w.heap.size+1) z.toArray):=(ae (one (w.heap.size+1)) w7).setRow (fun _=>rfl) _;refine aS (results_cell_tmp bC _ _ (w.heap.size+1) 114 z.toArray (0,0) _ rfl (aX w7 (w.heap.size+1) _ _ _ _ b7.o) underlying114 rfl za) rfl ?_;have aea:¬dt b (.slice (some ⟨gg,0,none⟩) (l.length+1) cap) wv (w.heap.size+1):=fun hh=>by
     have hk7:∃cc t f,w7.heap[w.heap.size+1]?=some (.cells cc t f):=⟨_,_,_,b7.o⟩;rcases FG _ hh with h8|h8
     ·exact hnr h8
     ·have:=ad8.size;have:=bj air.o;omega
    unfold rj;rw[hu.o];rw[HZ.o]at *
    refine⟨⟨_,_,h7.fr kJ rS (fun hh=>aea (Or.inl (by have e:b=w.heap.size+1:=hh;rw[e]))) (fun j hj hh=>aea (Or.inr (Or.inl (by have e:j=w.heap.size+1:=hh;rw[<-e];exact hj)))) (fun j hj hh=>aea (Or.inr (Or.inr (by have e:j=w.heap.size+1:=hh;rw[<-e];exact hj)))),TK.step kJ (fun j hj hh=>by have e:j=w.heap.size+1:=hh;omega),ZR⟩,r7,rfl,TB.mono (fun _ _ h=>h.fr kJ rS),aiu.o⟩
 ·have hu:=O (show vQ gs o proxy path=(gs,.error 8)by unfold vQ;rw[he];rfl);rw[he];have hp:=kF.same h (HF.setRow (g:=w.heap.size+1) (fun h=>absurd h ab) eS);clear h2 h;go_wp2_with (first|((with_reducible refine cV 114 ?_);refine aE rfl 114 (.tmp 8) (.tmp 19) rfl (w.heap.size+1) eS rfl rfl _ eS Vk.o af rfl yE ?_)|fail)
  refine aS (results_cell_tmp bC _ _ (w.heap.size+1) 114 eS (0,0) _ rfl (aX u1 (w.heap.size+1) _ _ _ _ Vk.o) underlying114 rfl af) rfl ?_;unfold rj;rw[hu.o];exact⟨hp,rfl⟩
