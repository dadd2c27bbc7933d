/- Rightful, DigSt, Take, SpaceP. -/
import Derived.Test.YtjdmjbdkdmbaiaaGreatDoorPk27
set_option maxRecDepth 100000
set_option maxHeartbeats 16000000
set_option linter.unusedSimpArgs false
namespace Go.Proofs.YtjdmjbdkdmbaiaaGreatDoor
open Go.RowKit
def jx(r:dp Value)(hs:List dW):Bool:=Fx hs&&decide ((r.method.size:Int)+(r.path.size:Int)+(r.query.size:Int)+(r.o.host.size:Int)+(r.aI.host.size:Int)<=600)
theorem CA(r:dp Value)(hs:List dW)(w:World)(hr:kU w r.cU hs)(hl:hs.length<=140737488355328)(Y2:∀p∈hs,p.1.size<=140737488351232/\p.2.size<=140737488351232)(hz:r.Ft) :
  Calls Tryz.prog 52 #[.agg r.cells.toArray] w fun e w'=>e=.returned (.bool (jx r hs))/\Fr ay w w':=by
 obtain⟨z1,z2,z3,z4,z5⟩:=hz;obtain⟨wb,eQ⟩:∃wb,wb=w.alloc (.cells r.cells.toArray 29):=⟨_,rfl⟩;have fa:Fr ay w wb:=by rw[eQ];exact(Fr.refl ay w).alloc _
 have gZ:wb.heap[w.heap.size]?=some (.cells r.cells.toArray 29 (0,0)):=by rw[eQ];exact af _ _
 obtain⟨ah,ch,df⟩:=aN.form hr;rw[List.length_map]at df;have nw:r.cells=[.int .i64 r.part,.bool r.aI.ae,.string r.aI.host,.int .i64 r.aI.port,.bool r.o.ae,.string r.o.host,.int .i64 r.o.port,.string r.path,.string r.query,.string r.method,.slice ah hs.length ch,.bool r.bP,.string r.body]:=by unfold dp.cells;rw[df]
 have HC:=O (show∀U,Fr ay wb U->U.cell? ⟨w.heap.size,2,none⟩=some (.string r.aI.host)/\U.cell? ⟨w.heap.size,5,none⟩=some (.string r.o.host)/\U.cell? ⟨w.heap.size,7,none⟩=some (.string r.path)/\U.cell? ⟨w.heap.size,8,none⟩=some (.string r.query)/\U.cell? ⟨w.heap.size,9,none⟩=some (.string r.method)/\U.cell? ⟨w.heap.size,10,none⟩=some (.slice ah hs.length ch)from fun U hU=>by
  have j:=hU.keep gZ (fun h=>h);rw[nw]at j;simp[World.cell?,j])
 have jF:=O (VI (.slice ah hs.length ch) hs wb (by rw[<-df];exact aN.bu hr fa) hl Y2);rw[nw]at eQ ⊢;have gS:=O fa;have lq:=O eQ;obtain⟨k2,k5,k7,k8,k9,k10⟩:=HC.out wb (Fr.refl _ _);rw[eQ]at k10;clear hr hl Y2 fa gZ df nw eQ k2 k5 k7 k8 k9;cases B4:Fx hs
 ·have HR:=O (show jx r hs=false by unfold jx;rw[B4];rfl);rw[B4]at jF;clear B4;go_enter Tryz.func52,Tryz.ntmps52;go_wp2_with fail
  rw[<-lq.out];refine jF.out.mono ?_;rintro e u⟨rfl,hf⟩;go_wp2;go_ret;exact⟨by rw[HR.out];rfl,gS.out.trans hf⟩
 ·have HR:=O (show jx r hs=decide ((r.method.size:Int)+(r.path.size:Int)+(r.query.size:Int)+(r.o.host.size:Int)+(r.aI.host.size:Int)<=600)by unfold jx;rw[B4];rfl);rw[B4]at jF;clear B4;go_enter Tryz.func52,Tryz.ntmps52;go_wp2_with fail
  rw[<-lq.out];refine jF.out.mono ?_;rintro e u⟨rfl,hf⟩;obtain⟨k2,k5,k7,k8,k9,_⟩:=HC.out u hf;go_wp2;go_ret;exact⟨by rw[HR.out];rfl,gS.out.trans hf⟩
def tP(cH:Int)(aK:ByteArray)(x:je):cE:=⟨cH,x.ar.data.toList,x.aE.data.toList,aK.data.toList,x.aL,x.bU.data.toList,x.user.data.toList,x.target.data.toList,(js x).data.toList,x.aB.data.toList,ez x.n⟩
theorem yd(x:je):(js x).size<=64:=by unfold js;split<;>exact gl _ _
def BX(cH:Int)(aK:ByteArray)(x:je)(n:Int)(w:World)(e:Ending)(w':World):Prop :=
 Fr ay w w'/\(((tP cH aK x).fair=false/\∃t v,e=.returned (.tuple #[.string ⟨#[]⟩,.iface t v]))\/((cH=2\/cH=3)/\n=(x.n:Int)/\1<=x.n/\x.n<=4294967295/\(tP cH aK x).fair=true/\e=.returned (.tuple #[.string (bA (tP cH aK x).text),.nilIface])))
structure St (b d n:Nat) (w2:World) (L:List Item) (W:World):Prop where
 hb:pM b b (pT L) W
 hd:tJ W d (rZ L)
 jE:Below w2.heap.size w2 W
 sz:b<=W.heap.size
 cnt:L.length<=n
 len:(pT L).length<=7+10100*n
theorem KW(l:List Item)(nm v:Bs)(q:Bool){M:Nat}(h:(pT l).length<=M)(hn:nm.length<=20)(hv:v.length<=5000):(pT (l++[(nm,v,q)])).length<=M+10100:=by
 rw[<-DU];have h1:=N3 (pT l) nm (uU q v);have h2:=N2 q v;omega
theorem St.D6{b d n:Nat}{w2 W W':World}{L:List Item}(h:St b d n w2 L W)(hf:Fr ay W W')(hB:b=w2.heap.size):St b d n w2 L W' :=
 ⟨h.hb.bu hf,hf.keep h.hd (fun h=>h),h.jE.trans ((Fr.bQ hf).mono (hB▸h.sz)),Nat.le_trans h.sz hf.size,h.cnt,h.len⟩
theorem St.named{b d n:Nat}{w2 W:World}{L:List Item}(h:St b d n w2 L W):∃M,M=L/\St b d n w2 M W:=⟨L,rfl,h⟩
theorem gq(b d n:Nat)(w2:World)(L:List Item)(W:World)(nm:Bs)(nb:ByteArray)(v:ByteArray)(q:Bool)(wJ:nb=bA nm)(hB:b=w2.heap.size)(Gs:b<d)(hn:n<=20)(SW:nm.length<=20)(hv:v.size<=5000)(h:St b d n w2 L W) :
  Calls Tryz.prog 94 #[.string nb,.string v,.bool q,.pointer (some ⟨d,0,none⟩),.pointer (some ⟨b,0,none⟩)] W (fun e w'=>e=.returned (.tuple #[])/\St b d (n+1) w2 (L++[(nm,v.data.toList,q)]) w'):=by
 subst wJ;have hl:=h.len;have nu:v.data.toList.length<=5000:=by simpa using hv
 have:=Ua b b d (pT L) nm v.data.toList (rZ L) q W h.hb h.hd (by omega) (by omega) (by omega) (by omega) (by omega) h.sz;rw[NA]at this;refine this.mono ?_;rintro e w'⟨rfl,h1,h2,h3⟩;rw[DU]at h1;rw[KQ]at h2;refine⟨rfl,h1,h2,h.jE.trans (hB▸h3),Nat.le_trans h.sz h3.size,by simp;exact h.cnt,?_⟩;exact Nat.le_trans (KW L nm v.data.toList q hl SW nu) (by rw[Nat.mul_add];omega)
theorem kt{w:World}{d:Nat}{x:Bool}(h:tJ w d x):w.cell? ⟨d,0,none⟩=some (.bool x):=by simp[World.cell?,show w.heap[d]?=_ from h]
def qf(o:cO)(proxy:Bool)(g:aG aF):Bool:=g.o.eN o&&g.proxy==proxy
def fk(o:cO)(proxy:Bool):List (aG aF)->List (aG aF)×Option (aG aF)
 |[]=>([],none)
 |g :: l=>if qf o proxy g then(l,some g)else(g :: (fk o proxy l).1,(fk o proxy l).2)
theorem oA{o:cO}{proxy:Bool}:∀ {l:List (aG aF)},l.any (qf o proxy)=false->fk o proxy l=(l,none)
 |[],_=>rfl
 |g :: l,h=>by
  rw[List.any_cons,Bool.or_eq_false_iff]at h;rw[fk,h.1,oA h.2];rfl
theorem AK{o:cO}{proxy:Bool}:∀ {l:List (aG aF)} {k:Nat} {g:aG aF},(l.take k).any (qf o proxy)=false->l[k]?=some g->qf o proxy g=true->fk o proxy l=(l.take k++l.drop (k+1),some g)
 |[],k,g,_,h,_=>by simp at h
 |a :: l,0,g,_,h,hg=>by
  simp at h;subst h;rw[fk,hg];rfl
 |a :: l,k+1,g,ha,h,hg=>by
  rw[List.take_succ_cons,List.any_cons,Bool.or_eq_false_iff]at ha;rw[fk,ha.1,AK ha.2 (by simpa using h) hg];rfl
theorem AL(o:cO)(proxy:Bool):∀(l:List (aG aF)),(fk o proxy l).1.length<=l.length
 |[]=>Nat.le_refl _
 |g :: l=>by
  rw[fk];split
  ·simp
  ·have:=AL o proxy l;simp;omega
def iT(base:Nat)(w:World)(b:Nat)(gv wv:Value)(gs:List (ai aF))(u:List (aG aF)×Option (aG aF))(e:Ending)(w':World):Prop :=
 fj base w b gv wv gs u.1 w'/\match u.2 with
 |none=>e=.returned (.tuple #[.agg rB,.bool false])
 |some g=>∃r:aG Value,e=.returned (.tuple #[.agg r.cells.toArray,.bool true])/\r.Reads (aS base w') g/\∀u∈r.cells,u.oneCell'=true
theorem JK:(rB:Array Value).all (·.oneCell')=true:=all_oneCell_toArray Ca
theorem AM{base:Nat}{w5 w6:World}{b gg cap i n:Nat}{gv:Value}{gs:List (ai aF)}{ls:List (aG aF)}{rs:List (aG Value)}(h5:ba base w5 b gv (.slice (some ⟨gg,0,none⟩) ls.length cap) gs ls)
  (hb:fF (aG.Reads (aS base w5)) rs ls)(tI:OwnRows base 144 13 w6 (.slice (some ⟨gg,0,none⟩) (i+(ls.length-n)) cap) ((rs.map aG.cells).take i++(rs.map aG.cells).drop n))(jz:Fr (one gg) w5 w6) :
  ba base (w6.setCell ⟨b,1,none⟩ (.slice (some ⟨gg,0,none⟩) (i+(ls.length-n)) cap)) b gv (.slice (some ⟨gg,0,none⟩) (i+(ls.length-n)) cap) gs (ls.take i++ls.drop n) /\
  Fr (aY b gv (.slice (some ⟨gg,0,none⟩) ls.length cap)) w5 (w6.setCell ⟨b,1,none⟩ (.slice (some ⟨gg,0,none⟩) (i+(ls.length-n)) cap))/\w6.cell? ⟨b,1,none⟩=some (.slice (some ⟨gg,0,none⟩) ls.length cap)/\w6.frozen? ⟨b,1,none⟩=false:=by
 have kM:=h5.low;have bG:∀k,one gg k->own (.slice (some ⟨gg,0,none⟩) ls.length cap) k:=fun k hk=>by have e:k=gg:=hk;rw[e];rfl
 have kb:lT base w5 (one gg):=fun k hk hl=>h5.off k (Or.inr (Or.inr (bG k hk))) hl;have o5:=jz.keep h5.cR (fun h=>h5.wb (bG _ h));have tY:dx base w6 gv gs:=h5.aH.fr jz kb (fun k hk hg=>h5.gw hk (bG _ hg));have hm:=hb.mono (fun _ _ h=>h.mono (fun _ _ h=>h.fr jz kb));have W_:fq base w6 (.slice (some ⟨gg,0,none⟩) (i+(ls.length-n)) cap) (ls.take i++ls.drop n):=by
  refine⟨rs.take i++rs.drop n,?_,(hm.take i).app (hm.drop n)⟩;rw[List.map_append,List.map_take,List.map_drop];exact tI
 have NY:Fr (aY b gv (.slice (some ⟨gg,0,none⟩) ls.length cap)) w5 w6:=jz.mono (fun k _ hk=>Or.inr (Or.inr (bG k hk)));exact⟨ba.ZS kM o5 tY W_,NY.setCell (p:=⟨b,1,none⟩) (fun _=>Or.inl rfl) _,by simp[World.cell?,o5],by simp[World.frozen?,o5]⟩
theorem fj.agS{base:Nat}{w w':World}{b:Nat}{gv wv:Value}{gs:List (ai aF)}{ws:List (aG aF)}(h:ba base w b gv wv gs ws)(hf:Fr ay w w'):fj base w b gv wv gs ws w' :=
 ⟨gv,wv,h.bd hf,hf.mono (fun _ _ h=>absurd h (fun h=>h)),fun _ hk=>Or.inl hk⟩
def agT(w:World)(ws:List (aG aF))(o:cO)(proxy:Bool)(i:Value)(wr:World):Prop :=
 ∃k:Nat,k<=ws.length/\i=.int .i64 k/\(ws.take k).any (qf o proxy)=false/\Fr ay w wr
theorem Ep(base:Nat)(w:World)(b:Nat)(gv wv:Value)(gs:List (ai aF))(ws:List (aG aF))(o:cO)(proxy:Bool)(h:ba base w b gv wv gs ws)(zW:ws.length<34359738368) :
  Calls Tryz.prog 115 #[.pointer (some ⟨b,0,none⟩),.agg o.cells.toArray,.bool proxy] w (iT base w b gv wv gs (fk o proxy ws)):=by
 unfold cO.cells;have pD:=h.lt;have kM:=h.low;obtain⟨aw,cw,zx⟩:=h.waits.form;subst zx;have iJ:Fr ay w _:=((Fr.refl ay w).alloc (.cells #[.bool o.ae,.string o.host,.int .i64 o.port] 24)).alloc (.cells rB 144);have b1:=af (w.alloc (.cells #[.bool o.ae,.string o.host,.int .i64 o.port] 24)) (.cells rB 144)
 rw[show(w.alloc (.cells #[.bool o.ae,.string o.host,.int .i64 o.port] 24)).heap.size=w.heap.size+1 from by simp]at b1;have b0:=Below.heap_alloc (w.alloc (.cells #[.bool o.ae,.string o.host,.int .i64 o.port] 24)) (.cells rB 144) w.heap.size (by simp);rw[af]at b0;have h1:=h.bd iJ;have c1:=h1.c1;have Un:=O b0;have OL:=O b1;clear b0 b1;go_enter Tryz.func115,Tryz.ntmps115;go_wp2_with fail
 clear c1;generalize (w.alloc (.cells _ 24)).alloc _=W at *
 go_loopw[15] (agT W ws o proxy) (fun i _=>ws.length-(intOf i).toNat)
 case atStart=>exact⟨0,Nat.zero_le _,rfl,rfl,Fr.refl _ _⟩
 case round =>
  obtain⟨k,hk,rfl,dL,aW⟩:=hrel;have UI:=O dL;clear dL;by_cases cG:k<ws.length
  ·obtain⟨bk,c,bt,nv,r,bG,hr,hcell⟩:=(h1.bd aW).waits.at cG;cases bt;unfold maxLen at nv;have bC:=O (List.getElem?_eq_getElem cG);obtain⟨x,hx⟩:∃x,x=r.cells:=⟨_,rfl⟩;have gD:x.length=13:=by rw[hx];rfl
   have fR:=fun W=>run_storeCells_new (P:=Tryz.prog) W 144 rB x (by rw[gD];rfl) (by rw[hx];exact bG);rw[<-hx]at hcell;have JF:=O (Cb gD);have dF:Fr ay wr (wr.alloc (.cells x.toArray 144)):=(Fr.refl ay wr).alloc _;have mB:(wr.alloc (.cells x.toArray 144)).heap[wr.heap.size]?=some (.cells x.toArray 144 (0,0)):=af _ _
   have iE:∀i u,r.cells[i]?=some u->(wr.alloc (.cells x.toArray 144)).cell? ⟨wr.heap.size,i,none⟩=some u:=fun i u hu=>by
    rw[<-hx]at hu;simp only[World.cell?,mB];simpa using hu
   have c0:=iE 0 _ rfl;have c1:=iE 1 _ rfl;have c2:=iE 2 _ rfl;have c3:=iE 3 _ rfl;have heq:=ey r.o o;have ZF:=O (dF.keep (aW.keep Un.out (fun h=>h)) (fun h=>h));have nj:=aW.trans dF;have h3:=h1.bd nj;have oT:=O (hr.mono (fun _ _ h=>h.bd dF));have hq:=O (show qf o proxy ws[k]=(r.o.eN o&&r.proxy==proxy)by unfold qf;rw[hr.1,hr.2.1]);have HX:=O hx;have nE:=O mB;have qY:=O bG
   have AF:wr.heap.size<(wr.alloc (.cells x.toArray 144)).heap.size:=by simp
   clear hx hr dF mB iE bG;cases e1:r.o.eN o
   ·have Cc:=O (any_take_succ bC.out UI.out (by rw[hq.out,e1];rfl))
    go_wp2_with (first|((with_reducible refine ag ⟨some 19,_,_,_,_,_⟩ ?_);go_must(refine wpList_load_mid rfl 144 (.tmp 18) rfl bk (k*13) rfl x _ hcell Tryz.underlying144 rfl JF.out ?_))|((with_reducible refine ag ⟨some 22,_,_,_,_,_⟩ ?_);go_must(refine wpList_load_row rfl 24 (.tmp 4) rfl w.heap.size rfl _ _ (0,0) _ ZF.out Tryz.underlying24 rfl (by kernel_rfl) ?_))|fail)
    go_roundw
    case rel=>exact⟨k+1,by omega,by go_num,Cc.out,nj⟩
    case measure=>simp[intOf];omega
   ·cases e2:r.proxy==proxy
    ·have Cc:=O (any_take_succ bC.out UI.out (by rw[hq.out,e1,e2];rfl))
     go_wp2_with (first|((with_reducible refine ag ⟨some 19,_,_,_,_,_⟩ ?_);go_must(refine wpList_load_mid rfl 144 (.tmp 18) rfl bk (k*13) rfl x _ hcell Tryz.underlying144 rfl JF.out ?_))|((with_reducible refine ag ⟨some 22,_,_,_,_,_⟩ ?_);go_must(refine wpList_load_row rfl 24 (.tmp 4) rfl w.heap.size rfl _ _ (0,0) _ ZF.out Tryz.underlying24 rfl (by kernel_rfl) ?_))|fail)
     go_roundw
     case rel=>exact⟨k+1,by omega,by go_num,Cc.out,nj⟩
     case measure=>simp[intOf];omega
    ·have htk:=O (AK UI.out bC.out (by rw[hq.out,e1,e2];rfl));obtain⟨rs,ho,hb⟩:=h3.waits;have qW:=O (show(rs.map aG.cells).length=ws.length by rw[List.length_map,hb.len]);have ld:=O (AI base bk cw k (k+1) (rs.map aG.cells) _ (by rw[qW.out];exact ho) (by omega) (by rw[qW.out];omega));rw[qW.out,show((k+1:Nat):Int)=(k:Int)+1 from by omega]at ld
     have aoa:bk<w.heap.size:=by obtain⟨cc,e⟩:=h.p_ (k:=bk) rfl;exact aj e
     have d1:=h3.c1;have hF1:=iJ.trans nj;have b1v:=O (nj.keep OL.out (fun h=>h));have awl:w.heap.size+1<W.heap.size:=aj OL.out;have qV:W.heap.size<=wr.heap.size:=aW.size;have hne:∀j,aY b gv (.slice (some ⟨bk,0,none⟩) ws.length cw) j->j<w.heap.size:=fun j hj=>by
      rcases hj with hj|hj|hj
      ·omega
      ·obtain⟨cc,e⟩:=h.nK hj;exact aj e
      ·obtain⟨cc,e⟩:=h.p_ hj;exact aj e
     have hxz:=O (show(rB:Array Value).size=x.toArray.size from OT.trans (by simp[gD]));have sM:=O (show x.toArray.all (·.oneCell')=true from all_oneCell_toArray (by rw[HX.out];exact qY.out));have hxa:=O (show(Tryz.prog.info? 144).map (·.size)=some x.toArray.size by rw[List.size_toArray];exact JF.out);clear nj
     go_wp2_with (first|((with_reducible refine ag ⟨some 19,_,_,_,_,_⟩ ?_);go_must(refine wpList_load_mid rfl 144 (.tmp 18) rfl bk (k*13) rfl x _ hcell Tryz.underlying144 rfl JF.out ?_))|((with_reducible refine ag ⟨some 22,_,_,_,_,_⟩ ?_);go_must(refine wpList_load_row rfl 24 (.tmp 4) rfl w.heap.size rfl _ _ (0,0) _ ZF.out Tryz.underlying24 rfl (by kernel_rfl) ?_))|fail)
     clear fR hcell c0 c1 c2 c3 d1 ZF heq;generalize wr.alloc (.cells x.toArray 144)=V at *
     refine ld.out.mono ?_;rintro e w2⟨rfl,lr,bq⟩;obtain⟨h4,Xc,d2,WX⟩:=AM h3 hb (by exact lr) bq;obtain⟨l,hl⟩:∃l,l=ws.take k++ws.drop (k+1):=⟨_,rfl⟩;have hm:k+(ws.length-(k+1))=l.length:=by rw[hl,List.length_append,List.length_take,List.length_drop];omega
     rw[<-hl]at h4;rw[<-hl]at htk;rw[hm]at h4 Xc ⊢;clear hl hm;have Em:lT base V (own (.slice (some ⟨bk,0,none⟩) ws.length cw)):=ho.off (Nat.le_refl _) (by decide);have En:lT base V (one bk):=fun j hj hl=>Em j (by have e:j=bk:=hj;rw[e];rfl) hl;have tZ:=bq.keep nE.out (fun h=>by have e:wr.heap.size=bk:=h;omega);have OM:=bq.keep b1v.out (fun hh=>by have e:w.heap.size+1=bk:=hh;omega)
     have qX:=oT.out.mono (fun _ _ h=>h.fr bq En);have OO:w2.heap[b]?=some (.cells #[gv,.slice (some ⟨bk,0,none⟩) ws.length cw] 139 (0,0)):=bq.keep h3.cR (fun h=>h3.wb (by have e:b=bk:=h;rw[e];rfl));have fa:Fr (one b) w2 (w2.setCell ⟨b,1,none⟩ (.slice (some ⟨bk,0,none⟩) l.length cw)):=(Fr.refl (one b) w2).setCell (p:=⟨b,1,none⟩) (fun _=>rfl) _;have OP:lT base w2 (one b):=by
      rintro j rfl _;exact⟨kM,fun cc f e=>by rw[OO]at e;cases e⟩
     have yw:=O (fa.keep tZ (fun h=>by have e:wr.heap.size=b:=h;omega));have Lq:=O (fa.keep OM (fun h=>by have e:w.heap.size+1=b:=h;omega));have FK:=O (qX.mono (fun _ _ h=>h.fr fa OP));have hFw:=O (show Fr (aY b gv (.slice (some ⟨bk,0,none⟩) ws.length cw)) w (w2.setCell ⟨b,1,none⟩ (.slice (some ⟨bk,0,none⟩) l.length cw))from Fr.step (hF1.mono (fun _ _ h=>absurd h (fun h=>h))) Xc (fun _ _ h=>h))
     have ia:∀j,aY b gv (.slice (some ⟨bk,0,none⟩) l.length cw) j->aY b gv (.slice (some ⟨bk,0,none⟩) ws.length cw) j:=fun j hj=>by
      rcases hj with h|h|h
      ·exact Or.inl h
      ·exact Or.inr (Or.inl h)
      ·exact Or.inr (Or.inr h)
     have H4:=O h4;clear ld lr ho hb OO fa OP tZ OM qX Xc En Em h3 hF1 nE oT b1v h4
     go_wp2_with (first|((with_reducible refine ag ⟨some 41,_,_,_,_,_⟩ ?_);go_must(refine wpList_load_row rfl 144 (.tmp 9) rfl wr.heap.size rfl _ x.toArray (0,0) _ yw.out Tryz.underlying144 rfl hxa.out ?_))|((with_reducible refine ag ⟨none,.store 144 _ _,_,_,_,_⟩ ?_);go_must(refine wpList_store_row rfl 144 (.tmp 6) (.tmp 41) rfl (w.heap.size+1) x.toArray rfl rfl _ rB Lq.out hxa.out hxz.out sM.out ?_))|fail)
     refine bodyPost_ret (results_cell_tmp (by rfl) _ _ (w.heap.size+1) 144 x.toArray (0,0) _ rfl (setRow_heap _ (w.heap.size+1) _ _ _ _ Lq.out) Tryz.underlying144 rfl hxa.out) rfl ?_;unfold iT;rw[htk.out]
     have hFr:Fr (one (w.heap.size+1)) (w2.setCell ⟨b,1,none⟩ (.slice (some ⟨bk,0,none⟩) l.length cw)) ((w2.setCell ⟨b,1,none⟩ (.slice (some ⟨bk,0,none⟩) l.length cw)).setRow (w.heap.size+1) x.toArray):=(Fr.refl (one (w.heap.size+1)) _).setRow (fun _=>rfl) _;have lZ:lT base (w2.setCell ⟨b,1,none⟩ (.slice (some ⟨bk,0,none⟩) l.length cw)) (one (w.heap.size+1)):=by
      rintro j rfl _;exact⟨by omega,fun cc f e=>by rw[Lq.out]at e;cases e⟩
     refine⟨⟨_,_,H4.out.fr hFr lZ ?_ ?_ ?_,hFw.out.step hFr ?_,fun j hj=>Or.inl (ia j hj)⟩,r,by rw[HX.out];rfl,FK.out.mono (fun _ _ h=>h.fr hFr lZ),qY.out⟩
     ·intro hh;have e:b=w.heap.size+1:=hh;omega
     ·intro j hj hh;have e:j=w.heap.size+1:=hh;have:=hne j (ia j (Or.inr (Or.inl hj)));omega
     ·intro j hj hh;have e:j=w.heap.size+1:=hh;have:=hne j (ia j (Or.inr (Or.inr hj)));omega
     ·intro j hj hh;have e:j=w.heap.size+1:=hh;omega
  ·have hs:=O (oA (o:=o) (proxy:=proxy) (l:=ws) (by have h:=UI.out;rw[List.take_of_length_le (by omega)]at h;exact h));have o9:=O (aW.keep OL.out (fun h=>h));have HF:=iJ.trans aW;have hp:=fj.agS h (HF.setRow (g:=w.heap.size+1) (fun h=>absurd h (by omega)) rB)
   go_wp2_with (first|((with_reducible refine ag ⟨none,.store 144 _ _,_,_,_,_⟩ ?_);go_must(refine wpList_store_row rfl 144 (.tmp 6) (.tmp 43) rfl (w.heap.size+1) rB rfl rfl _ rB o9.out (by kernel_rfl) rfl JK ?_))|fail)
   refine bodyPost_ret (results_cell_tmp (by rfl) _ _ (w.heap.size+1) 144 rB (0,0) _ rfl (setRow_heap wr (w.heap.size+1) _ _ _ _ o9.out) Tryz.underlying144 rfl (by kernel_rfl)) rfl ?_;unfold iT;rw[hs.out];exact⟨hp,rfl⟩
def UK(p:ByteArray):ByteArray:=p.extract 0 (Lib.lastIndexByte p 47+1).toNat
theorem lastIndexByte_bounds(s:ByteArray)(c:Int): -1<=Lib.lastIndexByte s c/\Lib.lastIndexByte s c+1<=s.size:=by
 rcases Lib.lastIndexByte_spec s c with ⟨e,_⟩|⟨i,hi,e,_⟩
 ·rw[e];omega
 ·rw[e];omega
theorem UL(p:ByteArray)(w:World)(hs:p.size<4611686018427387904):Calls Tryz.prog 178 #[.string p] w fun e w'=>e=.returned (.string (UK p))/\w=w':=by
 have hbd:=lastIndexByte_bounds p 47;have hd:=O (show UK p=p.extract 0 (Lib.lastIndexByte p 47+1).toNat from rfl);go_enter Tryz.func178,Tryz.ntmps178;go_wp2_with fail
 refine(Tryz.strings_LastIndexByte p 47 hs w).mono ?_;rintro e w1⟨rfl,rfl⟩;generalize Lib.lastIndexByte p 47=k at *
 have h1:(0:Int)<=k+1:=by omega
 have h2:k+1<=(p.size:Int):=by omega
 go_wp2;go_ret;exact⟨by rw[hd.out];rfl,rfl⟩
theorem aS.lit{k:Nat}(base:Nat)(w:World)(x:ByteArray)(hk:k=w.heap.size):aS base (w.alloc (.cells #[.string x] 9)) (.slice (some ⟨k,0,none⟩) 1 1) [x]:=by
 subst hk;exact aS.aoi base w x
def iG(a:cQ aF)(proxy:Bool)(path:ByteArray):aF :=
 if proxy then [⟨#[47]⟩]else if a.scheme≠1/\a.dom.length=0 then [⟨#[47]⟩]else if a.scheme=1 then [UK path]else a.dom
def lL(base:Nat)(w:World)(l:aF)(e:Ending)(w':World):Prop:=∃v,e=.returned v/\aS base w' v l/\Fr ay w w'
theorem Lt(base:Nat)(r:cQ Value)(a:cQ aF)(proxy:Bool)(path:ByteArray)(w:World)(hr:r.Reads (aS base w) a)(hs:path.size<4611686018427387904) :
  Calls Tryz.prog 116 #[.agg r.cells.toArray,.bool proxy,.string path] w (lL base w (iG a proxy path)):=by
 obtain⟨e1,e2,e3,e4,e5,e6,e7,u_⟩:=hr;obtain⟨ad,cd,Aw⟩:=u_.rd.form;have hAC:r.cells=[.int .i64 a.scheme,.string r.ar,.string r.aE,.string r.aK,.bool r.aL,.string r.bU,.bool r.aX,.slice ad a.dom.length cd]:=by unfold cQ.cells;rw[e1,Aw]
 rw[Aw]at u_;have dF:Fr ay w (w.alloc (.cells #[.int .i64 a.scheme,.string r.ar,.string r.aE,.string r.aK,.bool r.aL,.string r.bU,.bool r.aX,.slice ad a.dom.length cd] 47)):=(Fr.refl ay w).alloc _;have qE:=u_.bd dF;rw[hAC];clear hAC e1 e2 e3 e4 e5 e6 e7 u_ Aw;cases proxy with
 |true =>
  have mH:=O (show iG a true path=[⟨#[47]⟩]from rfl);go_enter Tryz.func116,Tryz.ntmps116;go_wp2;go_ret;unfold lL;rw[mH.out];exact⟨_,rfl,aS.lit base _ _ (by simp),((Fr.refl ay w).alloc _).alloc _⟩
 |false =>
  by_cases h1:a.scheme=1
  ·have mH:=O (show iG a false path=[UK path]by unfold iG;simp[h1]);go_enter Tryz.func116,Tryz.ntmps116;go_wp2_with fail
   refine(UL path _ hs).mono ?_;rintro e w1⟨rfl,rfl⟩;go_wp2;go_ret;unfold lL;rw[mH.out];exact⟨_,rfl,aS.lit base _ _ (by simp),((Fr.refl ay w).alloc _).alloc _⟩
  ·by_cases h2:a.dom.length=0
   ·have mH:=O (show iG a false path=[⟨#[47]⟩]by unfold iG;rw[if_neg (by decide),if_pos ⟨h1,h2⟩]);have h2':((a.dom.length:Nat):Int)=0:=by omega
    go_enter Tryz.func116,Tryz.ntmps116;go_wp2;go_ret;unfold lL;rw[mH.out];exact⟨_,rfl,aS.lit base _ _ (by simp),((Fr.refl ay w).alloc _).alloc _⟩
   ·have mH:=O (show iG a false path=a.dom by unfold iG;rw[if_neg (by decide),if_neg (fun h=>h2 h.2),if_neg h1]);have o9:(a.scheme !=1)=true:=by simp[h1]
    have fC:(((a.dom.length:Nat):Int)==0)=false:=by simp;intro h;exact h2 (by rw[h];rfl)
    have CL:=O (ou base _ _ _ qE);go_enter Tryz.func116,Tryz.ntmps116;go_wp2_with fail
    refine CL.out.mono ?_;rintro e w1⟨a',c',rfl,rk,hf⟩;go_wp2;go_ret;unfold lL;rw[mH.out];exact⟨_,rfl,rk,dF.trans hf⟩
end Go.Proofs.YtjdmjbdkdmbaiaaGreatDoor
