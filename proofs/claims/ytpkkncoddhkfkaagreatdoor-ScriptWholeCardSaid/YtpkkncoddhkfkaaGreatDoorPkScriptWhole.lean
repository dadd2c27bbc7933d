/- ScrRt, ScrWholeW, LiftScriptWhole. -/
import Derived.Test.YtpkkncoddhkfkaaGreatDoorPk9
import Derived.Test.YtpkkncoddhkfkaaGreatDoorTie
import Derived.Test.YtpkkncoddhkfkaaGreatDoorCards
import Derived.LaidMore
import Derived.Lay
set_option maxRecDepth 100000
set_option maxHeartbeats 16000000
set_option linter.unusedSimpArgs false
namespace Go.Proofs.YtpkkncoddhkfkaaGreatDoor
open Go.Proofs.Tryz
open Go.RowKit
variable {l:List ai}
theorem lp(r:aw):dc (et r).1=true:=by
 have h:=dQ (n:=4) ae r;show dc ⟨decide ((cY 4 r).1<3),eB (cY 4 r).1,if(cY 4 r).1<3 then 443 else 80⟩=true;rcases(show(cY 4 r).1=0\/(cY 4 r).1=1\/(cY 4 r).1=2\/(cY 4 r).1=3 from ab)with e|e|e|e<;>rw[e]<;>kernel_rfl
theorem mr(h0:0<l.length)(r:aw):(cQ l r).1∈l:=by
 have hk:=dQ h0 r;have e:(cQ l r).1=l[(cY l.length r).1]'hk:=by
  show l.getD (cY l.length r).1 .empty=_;rw[List.getD_eq_getElem?_getD,List.getElem?_eq_getElem hk];rfl
 rw[e];exact bZ _
theorem po(k:Nat):(fT k).length<=40/\((fT k).all fun p=>kr p.1.data.toList)=true:=by
 refine⟨by have:=(ke k).1;omega,?_⟩;unfold fT;split
 ·rfl
 ·simp only[List.all_cons,List.all_nil,Bool.and_true];split
  ·kernel_rfl
  ·split<;>kernel_rfl
theorem pq{p:ai->Bool}(h:l.all p=true):∀x∈l,p x=true:=cM.1 h
theorem rp(r:aw):(nN r).1.right=true:=by
 obtain⟨h1,⟨l1,l2,l3,l4⟩, -, -, z1, -, z3, -, -, -⟩:=oJ (r:=r) rfl rfl rfl rfl rfl rfl rfl rfl rfl rfl rfl rfl rfl rfl rfl rfl rfl rfl rfl rfl rfl rfl rfl rfl rfl rfl rfl rfl rfl rfl rfl rfl;rw[h1,df.jl];dsimp only;have m1:kr (cQ t2 (cQ t1 (et (et (cY 2 (cY 10 r).2).2).2).2).2).1.data.toList=true:=pq (l:=t2) (p:=fun x=>kr x.data.toList) af _ (mr ae _)
 have m2:((cQ t1 (et (et (cY 2 (cY 10 r).2).2).2).2).1.data.toList.head?==some 47)=true:=pq (l:=t1) (p:=fun x=>x.data.toList.head?==some 47) af _ (mr ae _);have m3:=pq (l:=t1) (p:=fun x=>decide (x.size<=200)) af _ (mr ae (et (et (cY 2 (cY 10 r).2).2).2).2);have hh:=po (cY 4 (cQ t2 (cQ t1 (et (et (cY 2 (cY 10 r).2).2).2).2).2).2).1;unfold dM;rw[lp,lp,m1,m2,m3,hh.2]
 simp only[Bool.true_and,Bool.and_true,aY,cE];have:=hh.1;refine⟨ab,ab,⟨ab,ab,ab⟩,ab⟩
theorem rq{o:df}(h:o.right=true):0<(bd o).1/\dc o.o=true/\dM o.part o.method o.bo=true:=by
 refine⟨?_,?_⟩
 ·unfold bd;rw[aq h]
  repeat' split
  all_goals decide
 ·rw[df.jl]at h;simp only[aY]at h;exact⟨h.2.2.2.2.1,h.2.2.1⟩
theorem iZ:∀(k:Nat) (s:aw),∀m∈du k s,(m.kind=0\/m.kind=2\/m.kind=1/\m.op.right=true)/\0<=m.tab/\m.tab<6
 |0,_,m,h=>by cases h
 |_+1,[],m,h=>by cases h
 |k+1,c :: r,m,h=>by
  unfold du at h;split at h
  ·rcases aD.1 h with rfl|h
   ·exact⟨Or.inr (Or.inr ⟨rfl,rp r⟩),by show(0:Int)<=((c.toNat%6:Nat):Int);omega,by show((c.toNat%6:Nat):Int)<6;omega⟩
   ·exact iZ k _ m h
  ·rcases aD.1 h with rfl|h
   ·refine⟨?_,by show(0:Int)<=((c.toNat%6:Nat):Int);omega,by show((c.toNat%6:Nat):Int)<6;omega⟩;dsimp only;split
    ·exact Or.inr (Or.inl rfl)
    ·exact Or.inl rfl
   ·exact iZ k _ m h
theorem dY(n:Nat)(r:aw):(cY n r).2.length<=r.length:=by
 cases r with
 |nil=>exact ar _
 |cons c r=>exact Nat.le_succ _
def Rd.jn{α:Type}(f:Rd α):Prop:=∀r,(f r).2.length<=r.length
theorem bJ{α β:Type}{f:Rd α}{g:α->Rd β}(hf:Rd.jn f)(hg:∀a,Rd.jn (g a)):Rd.jn (Rd.bind f g):=fun r=>au (hg _ _) (hf r)
theorem hZ{α:Type}(a:α):Rd.jn (Rd.pure a):=fun _=>ar _
theorem lq:Rd.jn et:=bJ (dY 4) fun _=>hZ _
theorem eZ(l:List ai):Rd.jn (cQ l):=bJ (dY _) fun _=>hZ _
theorem uk:Rd.jn nN:=bJ (dY _) fun _=>bJ (dY _) fun _=>bJ lq fun _=>bJ lq fun _=>bJ (eZ _) fun _=>bJ (eZ _) fun _=>bJ (dY _) fun _=>bJ (dY _) fun _=>bJ (dY _) fun _=>bJ (eZ _) fun _=>bJ (eZ _) fun _=>bJ (eZ _) fun _=>bJ (eZ _) fun _=>bJ (dY _) fun _=>bJ (dY _) fun _=>bJ (dY _) fun _=>hZ _
theorem i_:∀(k:Nat) (s:aw),(du k s).length<=s.length
 |0,_=>az _
 |_+1,[]=>ar _
 |k+1,c :: r=>by
  unfold du;split
  ·have:=i_ k (nN r).2;have:=uk r;simp;omega
  ·have:=i_ k r;simp;omega
theorem zN(k:Nat)(c:UInt8)(r:aw):0<(du (k+1) (c :: r)).length:=by
 unfold du;split<;>exact Nat.succ_pos _
theorem i':(prog.info? 37).map (·.zero)=some (some (.agg kf)):=af
structure um (u wr:World) (N:Nat) (y:List Value) (W:World):Prop where
 cR:W.heap[N]?=some (.cells y.toArray 37 (0,0))
 fr:Fr aU u W
theorem um.cell{u wr W:World}{N:Nat}{y:List Value}(h:um u wr N y W){V:World}(hV:Fr aU W V)(j:Nat)(v:Value)(hj:y[j]?=some v):V.cell? ⟨N,j,none⟩=some v:=by
 have k:=hV.keep h.cR (fun h=>h);simp only[World.cell?,k];simpa using hj
theorem ja(s:ai)(z0:s.size<=140737488351232)(w:World)(pw:pK w)(md:lK w)(sh:lL w)(db:ib w 9 .u8 Bn) :
  Calls prog 3 #[.string s] w fun e w'=>e=.returned (.bool true)/\Below w.heap.size w w':=by
 have wN:=O (jm w w (Fr.refl _ _) ⟨⟨db,md,sh⟩,pw⟩);clear pw md sh db;go_enter func3,ntmps3;go_wp2_with fail
 refine wN.o.mono ?_;rintro e y1⟨rfl,dt⟩;have nO:=O dt;clear dt wN;by_cases hb:(3000:Int)<(s.size:Int)
 ·go_wp2;go_ret;exact⟨rfl,nO.o.e8⟩
 ·have CT:=O (ki y1 s);go_wp2_with fail
  refine CT.o.mono ?_;rintro e y2⟨v,rfl,⟨ms,p_,bO,fp⟩,gB⟩;have jD:=O (fun V (hV:Fr aU y2 V)=>bK bO.at hV);have DN:=O (fun V (hV:Fr aU y2 V) x (hx:x∈ms)=>((fp x hx).kept (cK hV)).fit);obtain⟨av,cv,hv⟩:=bO.form;rw[ag]at hv;subst hv;have gL:=O (nO.o.trans gB);have zO:=jA 400 s.data.toList;have F5:=i_ 400 s.data.toList;have Kq:=O (show s.size=0->ms.length=0 from fun h=>by
   have:s.data.toList.length=0:=h;rw[<-p_,ag]at F5;omega)
  have Kr:=O (show 0<s.size->0<ms.length from fun h=>by
   cases hl:s.data.toList with
   |nil =>
    have:s.data.toList.length=s.size:=rfl;rw[hl]at this;simp at this;omega
   |cons c r =>
    have:=zN 399 c r;rw[<-hl, <-p_,ag]at this;exact this)
  rw[<-p_,ag]at zO F5;have Iv:((ms.length:Nat):Int)<=400:=ab;have Ks:((ms.length:Nat):Int)<=(s.size:Int):=by
   have:s.data.toList.length=s.size:=rfl;omega
  have Kt:=O (show∀x∈ms,(x.kind=0\/x.kind=2\/x.kind=1/\(x.o.cH x.hs).right=true)/\0<=x.tab/\x.tab<6 from fun x hx=>iZ 400 s.data.toList (kH x) (by rw[<-p_];exact List.mem_map_of_mem hx));clear gB nO CT bO fp p_ F5;go_wp2;go_loopw[17] (xI y2 ms.length) (fun i _=>ms.length-(intOf i).toNat)
  case atStart=>exact⟨0,az _,rfl,Fr.refl _ _⟩
  case round =>
   obtain⟨k,hk,rfl,hF⟩:=hrel;have jx:=O hF;by_cases h_:k<ms.length
   ·rcases(jD.o wr hF).2 with ⟨_,_,_,e,_⟩|⟨bk,of,c,hf,h1,h2,h3,h4⟩
    ·rw[List.map_eq_nil_iff]at e;rw[e]at h_;exact absurd h_ (bm _)
    rw[ag]at hf;cases hf;have hx:=List.getElem?_eq_getElem h_;generalize ms[k]=x at hx;have ui:x∈ms:=aR hx;obtain⟨uS,Li,DJ⟩:=Kt.o x ui;have Ku:¬x.tab<0:=ab;have Kv:¬(6:Int)<=x.tab:=ab;have HR:=O (show wr.rangeAt bk (of+k*24) x.cells from fun j v hj=>h4 k x.cells (by rw[List.getElem?_map,hx];rfl) j v hj);have Iw:=DN.o wr hF x ui;obtain⟨ah,ch,hh⟩:=cz.form Iw.bo;rw[ag]at hh
    have xE:=O (show x.cells.toArray.all (·.oneCell')=true from all_oneCell_toArray (oX x hh));have nP:=O (show x.cells.length=24 from rfl);obtain⟨N,hN⟩:∃N,N=wr.heap.size:=⟨_,rfl⟩;have rF:=O (show(wr.alloc (.cells kf 37)).heap[N]?=some (.cells kf 37 (0,0))from by rw[hN];exact aB _ _);obtain⟨W1,qo⟩:∃W,W=(wr.alloc (.cells kf 37)).setRow N x.cells.toArray:=⟨_,rfl⟩;have uo:um y2 wr N x.cells W1:=by
     rw[qo];exact⟨gI rF.o,fH (hF.alloc _) (by rw[hN];exact hF.size) _⟩
    have c0:=uo.cell (Fr.refl aU W1) 0 (.int .i64 x.kind) rfl;have c1:=uo.cell (Fr.refl aU W1) 1 (.int .i64 x.tab) rfl;have fJ:=O uo;have HN:=O hN;have Ap:=O qo;have DP:=O hh;have yK:=O (DN.o W1 uo.fr x ui);clear hF h1 h2 h3 h4 hx Iw hh hN qo uo;obtain⟨y,hy⟩:∃y,y=x.cells:=⟨_,rfl⟩;rw[<-hy]at HR xE nP Ap;have HY:=O hy;clear hy;rcases uS with uS|uS|⟨uS,Iy⟩
    ·rw[uS]at c0;clear uS;go_wp2_with (first
      |((with_reducible refine dp ⟨some 20,_,_,_,_,_⟩ ?_)
        go_must(refine wpList_load_mid rfl 37 (.tmp 19) rfl bk (of+k*24) rfl y _ HR.o underlying37 rfl (by rw[nP.o];exact eN (Array.replicate 24 (.int .i64 0)) rfl) ?_)
        go_must(refine dE rfl 37 rfl (some 5) rfl kf i' N HN.o.symm ?_)
        go_must(refine wpList_store_row rfl 37 (.tmp 5) (.tmp 20) rfl N y.toArray rfl rfl 37 kf rF.o (eN _ nP.o) (by rw[show y.toArray.size=y.length from rfl,nP.o];rfl) xE.o ?_)
        go_must(rw[<-Ap.o]))
      |fail)
     go_roundw
     case rel=>exact⟨k+1,ab,bn,fJ.o.fr⟩
     case measure=>simp[intOf];omega
    ·rw[uS]at c0;clear uS;go_wp2_with (first
      |((with_reducible refine dp ⟨some 20,_,_,_,_,_⟩ ?_)
        go_must(refine wpList_load_mid rfl 37 (.tmp 19) rfl bk (of+k*24) rfl y _ HR.o underlying37 rfl (by rw[nP.o];exact eN (Array.replicate 24 (.int .i64 0)) rfl) ?_)
        go_must(refine dE rfl 37 rfl (some 5) rfl kf i' N HN.o.symm ?_)
        go_must(refine wpList_store_row rfl 37 (.tmp 5) (.tmp 20) rfl N y.toArray rfl rfl 37 kf rF.o (eN _ nP.o) (by rw[show y.toArray.size=y.length from rfl,nP.o];rfl) xE.o ?_)
        go_must(rw[<-Ap.o]))
      |fail)
     go_roundw
     case rel=>exact⟨k+1,ab,bn,fJ.o.fr⟩
     case measure=>simp[intOf];omega
    ·obtain⟨BB,Ad,qx⟩:=rq Iy;rw[uS]at c0;have zD:=O (eo W1 x.o x.hs yK.o);obtain⟨cn,zH⟩:∃cn,cn=bd (x.o.cH x.hs):=⟨_,rfl⟩;rw[<-zH]at zD BB;have Kw:¬((cn.1:Nat):Int)=0:=ab;have Dm:=O (show W1.rangeAt N 2 x.o.cells from fun j v hj=>by
      have q:=fJ.o.cell (Fr.refl aU W1) (2+j) v (by rw[Nat.add_comm];exact hj);exact q)
     have kU:=O (show(prog.info? 35).map (·.size)=some x.o.cells.length from af);obtain⟨oc,qG⟩:∃oc,oc=x.o.cells:=⟨_,rfl⟩;rw[<-qG]at zD Dm kU;have HU:=O (show∀V,Fr aU W1 V->Calls prog 8 #[.agg #[.bool x.o.ak.o.ao,.string x.o.ak.o.host,.int .i64 x.o.ak.o.port]] V fun e w'=>e=.returned (.bool true)/\Fr aU V w' from fun V hV=>by
      have q:=iR x.o.ak.o V yK.o.Gt
      rwa [show dc x.o.ak.o=true from Ad]at q)
     have HQ:=O (show∀V,Fr aU W1 V->Calls prog 9 #[.agg #[.int .i64 x.o.ak.part,.bool x.o.ak.bg.ao,.string x.o.ak.bg.host,.int .i64 x.o.ak.bg.port,.bool x.o.ak.o.ao,.string x.o.ak.o.host,.int .i64 x.o.ak.o.port,.string x.o.ak.path,.string x.o.ak.query,.string x.o.ak.method,.slice ah x.hs.length ch,.bool x.o.ak.dB,.string x.o.ak.body]] V fun e w'=>e=.returned (.bool true)/\Fr aU V w' from fun V hV=>by
      have q:=j_ x.o.ak x.hs V (bK yK.o.bo hV) yK.o.ak;rw[show dM x.o.ak.part x.o.ak.method x.hs=true from qx]at q
      rwa [show x.o.ak.cells=[.int .i64 x.o.ak.part,.bool x.o.ak.bg.ao,.string x.o.ak.bg.host,.int .i64 x.o.ak.bg.port,.bool x.o.ak.o.ao,.string x.o.ak.o.host,.int .i64 x.o.ak.o.port,.string x.o.ak.path,.string x.o.ak.query,.string x.o.ak.method,.slice ah x.hs.length ch,.bool x.o.ak.dB,.string x.o.ak.body]by unfold fe.cells;rw[DP.o]]at q)
     clear uS Iy zH qG BB Ad qx;go_wp2_with (first
      |((with_reducible refine dp ⟨some 20,_,_,_,_,_⟩ ?_)
        go_must(refine wpList_load_mid rfl 37 (.tmp 19) rfl bk (of+k*24) rfl y _ HR.o underlying37 rfl (by rw[nP.o];exact eN (Array.replicate 24 (.int .i64 0)) rfl) ?_)
        go_must(refine dE rfl 37 rfl (some 5) rfl kf i' N HN.o.symm ?_)
        go_must(refine wpList_store_row rfl 37 (.tmp 5) (.tmp 20) rfl N y.toArray rfl rfl 37 kf rF.o (eN _ nP.o) (by rw[show y.toArray.size=y.length from rfl,nP.o];rfl) xE.o ?_)
        go_must(rw[<-Ap.o]))
      |((with_reducible refine dp ⟨some 49,_,_,_,_,_⟩ ?_)
        go_must(refine wpList_load_mid rfl 35 (.tmp 48) rfl N 2 rfl oc _ Dm.o underlying35 rfl kU.o ?_))
      |fail)
     refine zD.o.mono ?_;rintro e y4⟨rfl,CU⟩;have d7:=fJ.o.cell CU 7 (.bool x.o.ak.o.ao) rfl;have d8:=fJ.o.cell CU 8 (.string x.o.ak.o.host) rfl;have d9:=fJ.o.cell CU 9 (.int .i64 x.o.ak.o.port) rfl;have nE:=O CU;clear c0 c1 CU zD Dm;go_wp2_with fail
     refine(HU.o _ nE.o).mono ?_;rintro e y5⟨rfl,CR⟩;have px:=O (nE.o.trans CR);clear d7 d8 d9 CR HU;have d3:=fJ.o.cell px.o 3 (.int .i64 x.o.ak.part) rfl;have d4:=fJ.o.cell px.o 4 (.bool x.o.ak.bg.ao) rfl;have d5:=fJ.o.cell px.o 5 (.string x.o.ak.bg.host) rfl;have d6:=fJ.o.cell px.o 6 (.int .i64 x.o.ak.bg.port) rfl;have d7:=fJ.o.cell px.o 7 (.bool x.o.ak.o.ao) rfl
     have d8:=fJ.o.cell px.o 8 (.string x.o.ak.o.host) rfl;have d9:=fJ.o.cell px.o 9 (.int .i64 x.o.ak.o.port) rfl;have d10:=fJ.o.cell px.o 10 (.string x.o.ak.path) rfl;have d11:=fJ.o.cell px.o 11 (.string x.o.ak.query) rfl;have d12:=fJ.o.cell px.o 12 (.string x.o.ak.method) rfl;have d13:=fJ.o.cell px.o 13 (.slice ah x.hs.length ch) (ay some DP.o);have d14:=fJ.o.cell px.o 14 (.bool x.o.ak.dB) rfl
     have d15:=fJ.o.cell px.o 15 (.string x.o.ak.body) rfl;go_wp2_with fail
     refine(HQ.o _ px.o).mono ?_;rintro e y6⟨rfl,CS⟩;have F4:=O (px.o.trans CS);clear d3 d4 d5 d6 d7 d8 d9 d10 d11 d12 d13 d14 d15 CS HQ;go_wp2;go_roundw
     case rel=>exact⟨k+1,ab,bn,fJ.o.fr.trans F4.o⟩
     case measure=>simp[intOf];omega
   ·have Ky:¬(k:Int)<(ms.length:Int):=ab;by_cases Iz:s.size=0
    ·have G1:=Kq.o Iz;obtain rfl:s=⟨#[]⟩:=ByteArray.ext (Array.eq_empty_of_size_eq_zero Iz);clear hF;go_wp2;go_ret;exact⟨rfl,(gL.o.trans jx.o).e8⟩
    ·have qt:0<s.size:=ab;have Ex:=Kr.o qt;have Kz:(((ms.length:Nat):Int)==0)=false:=by simp;intro e;rw[e]at Ex;simp at Ex
     have C7:s.toList.isEmpty=false:=sX qt;clear hF;go_wp2;go_ret;exact⟨rfl,(gL.o.trans jx.o).e8⟩
end Go.Proofs.YtpkkncoddhkfkaaGreatDoor
namespace Go.Proofs.YtpkkncoddhkfkaaGreatDoor.scriptWhole
open Go.Proofs.Tryz
open Go.ChangeShapes Go.WideShapes Go.ChangeAt Go.RowKit
open Go.ChangeMaps (open_string shut_string)
theorem own:ownKnob prog.godebug=none:=af
theorem lifted(os:Os)(started:os.Started)(H:Type)(enc:TypeId×Value->H) :
  ReturnsInHanded {} Tryz.checked os 3 .any (fun w args=>(Rows.scriptWholeSpec.pre enc prog Tryz.f3 Rows.scriptWholeRow.domain false w args/\laidMetH prog Rows.scriptWholeRow.laid w)/\sizedMet enc prog Tryz.f3 (OpenSpec.ofChange Rows.scriptWholeSpec) false w args)
   (Rows.scriptWholeSpec.post enc prog Tryz.f3 false true false false):=by
 refine returnsInHanded_of_change_and (C:=Tryz.checked) (X:=fun w _=>laidMetH prog Rows.scriptWholeRow.laid w) (fun _ _ _ hh h=>h.of_heap hh) own started af func3
  (ChangeSpec.witness_shaped (enc:=enc) (C:=Tryz.checked) (os:=os) (X:=fun w _=>laidMetH prog Rows.scriptWholeRow.laid w) false (World.laidAll prog os Rows.scriptWholeRow.laid) #[.string ByteArray.empty] 8 (World.laidAll_os _ _ _)
   (World.shaped_of_ZipB af af) af af af
   (by rw[MakeChecks.laidMetH_plain _ _ _ af];exact laidMet_laidAll _ af af)) ?_
 intro W base args ds gs before nK hW _ uq hL _;have rv:(DataW.weightsEach prog (Tryz.f3.params.toList++Rows.scriptWholeSpec.plain.varTypes prog) (ds++gs)).all (· <=reachBytes)=true:=uq;clear uq;have hval:∀(j:Nat) t v,Tryz.f3.params[j]?=some t->args[j]?=some v->Value.okWide prog W .any base t v:=nK;have CV:=hW;obtain⟨p,q,CW,hV,rfl,_,_⟩:=hW
 have hA:DataW.TrodAll enc prog W 0 (fun _=>true) true Tryz.f3.params.toList args.toList ds p:=CW;rw[Tryz.params3]at hA hval rv;obtain⟨v0,KA,d0,KB,p0,q0,CX,rfl,rfl,h0,r0⟩:=trodAll_cons hA;obtain⟨rfl,rfl,rfl⟩:=trodAll_nil r0;obtain rfl:args= #[v0]:=by cases args;simp_all
 obtain⟨rfl,rfl⟩:=trodVars_none hV;obtain⟨a0,rfl,rfl,rfl,w0⟩:=open_string underlying9 (hval 0 9 v0 rfl rfl) h0;clear CW nK;rw[MakeChecks.laidMetH_plain _ _ _ af]at hL;have F6:=jW hL (by refine⟨?_,?_⟩<;>repeat(first|exact True.intro|exact List.Mem.head _|refine List.Mem.tail _ ?_));have F7:=je hL (by refine⟨?_,?_⟩<;>repeat(first|exact True.intro|exact List.Mem.head _|refine List.Mem.tail _ ?_))
 have F8:=jf hL (by refine⟨?_,?_⟩<;>repeat(first|exact True.intro|exact List.Mem.head _|refine List.Mem.tail _ ?_));have F9:=jT hL (by refine⟨?_,?_⟩<;>repeat(first|exact True.intro|exact List.Mem.head _|refine List.Mem.tail _ ?_));have z0:a0.size<=140737488351232:=by
  have:=sized_string rv (j:=0) (t:=9) rfl rfl;simpa[reachBytes]using this
 simp only[bH]at CV;refine(ja a0 z0 W F6 F7 F8 F9).mono fun e W' ⟨he,F_⟩=>?_;subst he;exact⟨_,rfl,_,_,_,[],_,[],CV,trodAll_mk1 (shut_bool underlying4 _),(trodAll_cons_mk (shut_string underlying9 w0) trodAll_mk0),rfl,F_.frame _,fun h=>by cases h⟩
end Go.Proofs.YtpkkncoddhkfkaaGreatDoor.scriptWhole
