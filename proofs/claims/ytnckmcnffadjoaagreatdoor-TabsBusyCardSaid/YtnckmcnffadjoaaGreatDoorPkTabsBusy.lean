/- Lemmas for the law's walk. -/
import Derived.Test.YtnckmcnffadjoaaGreatDoorPk35
import Derived.Test.YtnckmcnffadjoaaGreatDoorTie
import Derived.Test.YtnckmcnffadjoaaGreatDoorCards
import Derived.LaidMore
import Derived.Lay
set_option maxRecDepth 100000
set_option maxHeartbeats 16000000
set_option linter.unusedSimpArgs false
namespace Go.Proofs.YtnckmcnffadjoaaGreatDoor
open Go.Proofs.Tryz
open Go.RowKit
def af3(u4:World)(es:List (xK×(jG×List gZ)))(i:Value)(wr:World):Prop:=∃k:Nat,k<=es.length/\i=.int .i64 k/\Fr aR u4 wr
def ak6(u4:World)(l:List xK)(k:Nat)(tb:Nat)(b:Int)(n i:Value)(wr:World):Prop:=∃j:Nat,j<=k/\i=.int .i64 j/\n=.int .i64 (rq (l.take j) tb b:Nat)/\Fr aR u4 wr
theorem XT(l:List xK)(n:Nat)(b:Int):rq l n b<=l.length:=by unfold rq;exact bQ _ _
theorem FW(v:Value)(ms:List tA)(w:World)(st0:xf w v ms)(pw:wO w)(md:tI w)(sh:tL w)(db:om w 9 .u8 Rl) :
  Calls prog 3 #[v] w fun e w'=>e=.returned (.bool true)/\Below w.heap.size w w':=by
 have ht:kG w:=⟨⟨db,md,sh⟩,pw⟩;have lH:=O st0;have HT:=O ht;have xi:=O (Cm w w (ae _ _) ht);clear st0 ht pw md sh db;go_enter func3,ntmps3;go_wp2_with fail
 refine xi.o.mono ?_;rintro e u1⟨rfl,df⟩;have HM:=O (Hz v ms u1 (lH.o.dh df));have k_:=O df;clear df xi;go_wp2_with fail
 refine HM.o.mono ?_;rintro e u2⟨rfl,dy⟩;have fO:=O (k_.o.trans dy);clear dy k_ HM;cases hm:vp ms
 ·clear lH HT;go_wp2;go_ret;exact⟨rfl,fO.o.pD⟩
 ·obtain⟨qB,hlen⟩:=vn.of lH.o hm;obtain⟨tG,KX⟩:=XR qB hlen;have AY:=O (XS ms);have HRN:=O (QO fO.o qB ab HT.o);clear qB hlen tG hm lH HT;go_wp2_with fail
  refine HRN.o.mono ?_;rintro e u3⟨T,rfl,h3⟩;have HSY:=O (BI h3 (show(JY ms).cX.length<1000000 from ab));have ic:=O h3.fr;clear h3 HRN fO;go_wp2_with fail
  refine HSY.o.mono ?_;rintro e u4⟨sv,rfl,Yv,kK⟩;have jV:=O (ic.o.trans kK);obtain⟨es,av,c,F7,rfl,jq⟩:=Yv.open;have af4:es.map (·.1)=(JY ms).cX:=F7;have afF:es.length<=150:=by rw[<-ai (f:=(·.1)),af4];exact KX
  clear Yv kK F7 HSY ic KX;have HES:=O af4;have X5:=O jq;clear af4 jq;go_wp2;go_loopw[4] (af3 u4 es) (fun i _=>es.length-(intOf i).toNat)
  case atStart=>exact⟨0,aI _,rfl,ae _ _⟩
  case round =>
   obtain⟨k,hk,rfl,hF⟩:=hrel;by_cases eX:k<es.length
   ·rcases X5.o with rfl|⟨bk,o0,rfl,hsa⟩
    ·exact absurd eX (bS _)
    ·have hx:=List.getElem?_eq_getElem eX;generalize es[k]=x at hx;obtain⟨ev,o,hs⟩:=x;have QB:=O (show(JY ms).cX[k]?=some ev by rw[<-HES.o,List.getElem?_map,hx];rfl);have HC:=O (fun V (hV:Fr aR u4 V)=>hsa.cell V hV k _ hx);have af6:=O hsa;have sx:=O hF;have c23:wr.cell? ⟨bk,o0+k*28+23,none⟩=some (.int .i64 ev.dI.what):=HC.o wr hF 23 _ rfl;clear hsa hF;by_cases h6:ev.dI.what=6
     ·have HL:=O (AY.o.XA.ev k ev QB.o h6);rw[h6]at c23;clear h6 hx;go_wp2;go_loopw[5,6] (ak6 u4 (JY ms).cX k ev.tab ev.gG) (fun _ i _=>k-(intOf i).toNat)
      case atStart=>exact⟨0,aI _,rfl,rfl,sx.o⟩
      case round =>
       obtain⟨j,hj,rfl,rfl,hF⟩:=hrel;clear c23;by_cases hjk:j<k
       ·have Y9:j<es.length:=ab;have hy:=List.getElem?_eq_getElem Y9;generalize es[j]=y at hy;obtain⟨ej,oj,hj2⟩:=y;have Cx:=O (show rq ((JY ms).cX.take (j+1)) ev.tab ev.gG=rq ((JY ms).cX.take j) ev.tab ev.gG+(if qU ev.tab ev.gG ej then 1 else 0)by
         rw[bZ,show(JY ms).cX[j]?=some ej by rw[<-HES.o,List.getElem?_map,hy];rfl];exact EX _ _ _ _)
        have M8:=O (fun V (hV:Fr aR u4 V)=>af6.o.cell V hV j _ hy);have HR:=O (show wr.rangeAt bk (o0+j*28+1) oj.cells from fun i v hi=>by
         have q:=M8.o wr hF (1+i) v (by
          rw[Nat.add_comm];show(oj.cells++(o_ ej.dI++[.int .i64 ej.gG,.int .i64 ej.fin]))[i]?=some v;rw[List.getElem?_append_left (List.getElem?_eq_some_iff.1 hi).1];exact hi)
         rwa [<-jU]at q)
        have g_:=bT hy;have vt:=xC wr oj hj2 (af6.o.op wr hF _ g_);rw[show oj.dS hj2=ej.op from af6.o.is _ g_]at vt;have zO:=O vt;have ak9:=XT ((JY ms).cX.take j) ev.tab ev.gG;rw[aJ]at ak9;have px:(rq ((JY ms).cX.take j) ev.tab ev.gG:Int)<=150:=ab;clear hy g_ vt ak9;generalize rq ((JY ms).cX.take j) ev.tab ev.gG=n at *
        cases hb:(cJ ej.op).2
        ·rw[hb]at zO;have HIN:=O (show qU ev.tab ev.gG ej=false by unfold qU;rw[hb];rfl);clear hb;go_wp2_with (first|((with_reducible refine cY 40 ?_);refine aU rfl 41 (.tmp 39) rfl bk (o0+j*28+1) rfl oj.cells _ HR.o underlying41 rfl af ?_)|fail)
         refine zO.o.mono ?_;rintro e u5⟨rfl,QQ⟩;have sy:=hF.trans QQ;have d23:u5.cell? ⟨bk,o0+j*28+23,none⟩=some (.int .i64 ej.dI.what):=M8.o u5 sy 23 _ rfl;have d27:u5.cell? ⟨bk,o0+j*28+27,none⟩=some (.int .i64 ej.fin):=M8.o u5 sy 27 _ rfl;have d0:u5.cell? ⟨bk,o0+j*28,none⟩=some (.int .i64 ej.tab):=M8.o u5 sy 0 _ rfl;have k26:u5.cell? ⟨bk,o0+k*28+26,none⟩=some (.int .i64 ev.gG):=HC.o u5 sy 26 _ rfl
         have k0:u5.cell? ⟨bk,o0+k*28,none⟩=some (.int .i64 ev.tab):=HC.o u5 sy 0 _ rfl;have tU:=O sy;clear QQ sy hF;go_wp2_with fail
         go_quiet (fail);go_wp2;go_roundw
         case rel=>exact⟨j+1,ab,a_,by rw[Cx.o,HIN.o];rfl,tU.o.drewN _⟩
         case measure=>simp[intOf];omega
        ·rw[hb]at zO;by_cases h1:ej.dI.what=6
         ·have HIN:=O (show qU ev.tab ev.gG ej=false by unfold qU;rw[hb,bh (fun h=>h h1)];rfl);clear hb;go_wp2_with (first|((with_reducible refine cY 40 ?_);refine aU rfl 41 (.tmp 39) rfl bk (o0+j*28+1) rfl oj.cells _ HR.o underlying41 rfl af ?_)|fail)
          refine zO.o.mono ?_;rintro e u5⟨rfl,QQ⟩;have sy:=hF.trans QQ;have d23:u5.cell? ⟨bk,o0+j*28+23,none⟩=some (.int .i64 ej.dI.what):=M8.o u5 sy 23 _ rfl;have d27:u5.cell? ⟨bk,o0+j*28+27,none⟩=some (.int .i64 ej.fin):=M8.o u5 sy 27 _ rfl;have d0:u5.cell? ⟨bk,o0+j*28,none⟩=some (.int .i64 ej.tab):=M8.o u5 sy 0 _ rfl;have k26:u5.cell? ⟨bk,o0+k*28+26,none⟩=some (.int .i64 ev.gG):=HC.o u5 sy 26 _ rfl
          have k0:u5.cell? ⟨bk,o0+k*28,none⟩=some (.int .i64 ev.tab):=HC.o u5 sy 0 _ rfl;have tU:=O sy;clear QQ sy hF;go_wp2_with fail
          go_quiet (fail);go_wp2;go_roundw
          case rel=>exact⟨j+1,ab,a_,by rw[Cx.o,HIN.o];rfl,tU.o.drewN _⟩
          case measure=>simp[intOf];omega
         ·have b1:(ej.dI.what !=6)=true:=bne_iff_ne.2 h1;by_cases h2:ev.gG<ej.fin
          ·by_cases h3:ej.tab=ev.tab
           ·have HIN:=O (show qU ev.tab ev.gG ej=false by unfold qU;rw[hb,bf h1,bf h2,bh (fun h=>h h3)];rfl);have d2:decide (ev.gG<ej.fin)=true:=bf h2;have d3:decide ((ej.tab:Int)=(ev.tab:Int))=true:=bf ab;have d4:decide (ej.tab=ev.tab)=true:=bf h3;clear hb;go_wp2_with (first|((with_reducible refine cY 40 ?_);refine aU rfl 41 (.tmp 39) rfl bk (o0+j*28+1) rfl oj.cells _ HR.o underlying41 rfl af ?_)|fail)
            refine zO.o.mono ?_;rintro e u5⟨rfl,QQ⟩;have sy:=hF.trans QQ;have d23:u5.cell? ⟨bk,o0+j*28+23,none⟩=some (.int .i64 ej.dI.what):=M8.o u5 sy 23 _ rfl;have d27:u5.cell? ⟨bk,o0+j*28+27,none⟩=some (.int .i64 ej.fin):=M8.o u5 sy 27 _ rfl;have d0:u5.cell? ⟨bk,o0+j*28,none⟩=some (.int .i64 ej.tab):=M8.o u5 sy 0 _ rfl;have k26:u5.cell? ⟨bk,o0+k*28+26,none⟩=some (.int .i64 ev.gG):=HC.o u5 sy 26 _ rfl
            have k0:u5.cell? ⟨bk,o0+k*28,none⟩=some (.int .i64 ev.tab):=HC.o u5 sy 0 _ rfl;have tU:=O sy;clear QQ sy hF;go_wp2_with fail
            go_quiet (fail);go_wp2;go_roundw
            case rel=>exact⟨j+1,ab,a_,by rw[Cx.o,HIN.o];rfl,tU.o.drewN _⟩
            case measure=>simp[intOf];omega
           ·have HIN:=O (show qU ev.tab ev.gG ej=true by unfold qU;rw[hb,bf h1,bf h2,bf h3];rfl);have d2:decide (ev.gG<ej.fin)=true:=bf h2;have d3:decide ((ej.tab:Int)=(ev.tab:Int))=false:=bh ab;have d4:((ej.tab:Int) !=(ev.tab:Int))=true:=bne_iff_ne.2 ab;clear hb
            go_wp2_with (first|((with_reducible refine cY 40 ?_);refine aU rfl 41 (.tmp 39) rfl bk (o0+j*28+1) rfl oj.cells _ HR.o underlying41 rfl af ?_)|fail)
            refine zO.o.mono ?_;rintro e u5⟨rfl,QQ⟩;have sy:=hF.trans QQ;have d23:u5.cell? ⟨bk,o0+j*28+23,none⟩=some (.int .i64 ej.dI.what):=M8.o u5 sy 23 _ rfl;have d27:u5.cell? ⟨bk,o0+j*28+27,none⟩=some (.int .i64 ej.fin):=M8.o u5 sy 27 _ rfl;have d0:u5.cell? ⟨bk,o0+j*28,none⟩=some (.int .i64 ej.tab):=M8.o u5 sy 0 _ rfl;have k26:u5.cell? ⟨bk,o0+k*28+26,none⟩=some (.int .i64 ev.gG):=HC.o u5 sy 26 _ rfl
            have k0:u5.cell? ⟨bk,o0+k*28,none⟩=some (.int .i64 ev.tab):=HC.o u5 sy 0 _ rfl;have tU:=O sy;clear QQ sy hF;go_wp2_with fail
            go_quiet (fail);go_wp2;go_roundw
            case rel=>exact⟨j+1,ab,a_,by rw[Cx.o,HIN.o];go_num,tU.o.drewN _⟩
            case measure=>simp[intOf];omega
          ·have HIN:=O (show qU ev.tab ev.gG ej=false by unfold qU;rw[hb,bf h1,bh h2];rfl);have d2:decide (ev.gG<ej.fin)=false:=bh h2;clear hb;go_wp2_with (first|((with_reducible refine cY 40 ?_);refine aU rfl 41 (.tmp 39) rfl bk (o0+j*28+1) rfl oj.cells _ HR.o underlying41 rfl af ?_)|fail)
           refine zO.o.mono ?_;rintro e u5⟨rfl,QQ⟩;have sy:=hF.trans QQ;have d23:u5.cell? ⟨bk,o0+j*28+23,none⟩=some (.int .i64 ej.dI.what):=M8.o u5 sy 23 _ rfl;have d27:u5.cell? ⟨bk,o0+j*28+27,none⟩=some (.int .i64 ej.fin):=M8.o u5 sy 27 _ rfl;have d0:u5.cell? ⟨bk,o0+j*28,none⟩=some (.int .i64 ej.tab):=M8.o u5 sy 0 _ rfl;have k26:u5.cell? ⟨bk,o0+k*28+26,none⟩=some (.int .i64 ev.gG):=HC.o u5 sy 26 _ rfl
           have k0:u5.cell? ⟨bk,o0+k*28,none⟩=some (.int .i64 ev.tab):=HC.o u5 sy 0 _ rfl;have tU:=O sy;clear QQ sy hF;go_wp2_with fail
           go_quiet (fail);go_wp2;go_roundw
           case rel=>exact⟨j+1,ab,a_,by rw[Cx.o,HIN.o];rfl,tU.o.drewN _⟩
           case measure=>simp[intOf];omega
       ·have aqO:j=k:=ab;subst aqO;have NB:=O hF;have hL:=HL.o;have vt:=XT ((JY ms).cX.take j) ev.tab ev.gG;rw[aJ]at vt;generalize rq ((JY ms).cX.take j) ev.tab ev.gG=n at *
        have h4:¬(n:Int)<=3:=ab;clear hF;go_wp2;go_roundw
        case rel=>exact⟨j+1,ab,a_,NB.o⟩
        case measure=>simp[intOf];omega
     ·clear hx;go_wp2;go_roundw
      case rel=>exact⟨k+1,ab,a_,sx.o⟩
      case measure=>simp[intOf];omega
   ·have NB:=O hF;clear hF;go_wp2;go_ret;exact⟨rfl,(jV.o.trans NB.o).pD⟩
end Go.Proofs.YtnckmcnffadjoaaGreatDoor
namespace Go.Proofs.YtnckmcnffadjoaaGreatDoor.tabsBusy
open Go.Proofs.Tryz
open Go.ChangeShapes Go.WideShapes Go.ChangeAt Go.RowKit
open Go.ChangeMaps (open_string shut_string)
theorem own:ownKnob prog.godebug=none:=af
theorem laidOut:laidOutB prog=true:=af
theorem lifted(os:Os)(started:os.Started)(H:Type)(enc:TypeId×Value->H) :
  ReturnsInHanded {} Tryz.checked os 3 .any (fun w args=>(Rows.tabsBusySpec.pre enc prog Tryz.f3 Rows.tabsBusyRow.domain false w args/\laidMetH prog Rows.tabsBusyRow.laid w)/\sizedMet enc prog Tryz.f3 (OpenSpec.ofChange Rows.tabsBusySpec) false w args)
   (Rows.tabsBusySpec.post enc prog Tryz.f3 false true false false):=by
 refine returnsInHanded_of_change_and (C:=Tryz.checked) (X:=fun w _=>laidMetH prog Rows.tabsBusyRow.laid w) (fun _ _ _ hh h=>h.of_heap hh) own started af func3
  (ChangeSpec.witness_shaped (enc:=enc) (C:=Tryz.checked) (os:=os) (X:=fun w _=>laidMetH prog Rows.tabsBusyRow.laid w) false (World.laidAll prog os Rows.tabsBusyRow.laid) #[.slice none 0 0] 8 (World.laidAll_os _ _ _)
   (World.shaped_of_ZipB af af) af af af
   (by rw[MakeChecks.laidMetH_plain _ _ _ af];exact laidMet_laidAll _ af af)) ?_
 intro W base args ds gs before MO hW _ XU hL _;have xM:(DataW.weightsEach prog (Tryz.f3.params.toList++Rows.tabsBusySpec.plain.varTypes prog) (ds++gs)).all (· <=reachBytes)=true:=XU;clear XU;have hval:∀(j:Nat) t v,Tryz.f3.params[j]?=some t->args[j]?=some v->Value.okWide prog W .any base t v:=MO;have hW':=hW;obtain⟨p,q,hA0,hV,rfl,_,_⟩:=hW
 have hA:DataW.TrodAll enc prog W 0 (fun _=>true) true Tryz.f3.params.toList args.toList ds p:=hA0;rw[Tryz.params3]at hA hval xM;obtain⟨v0,vs0,d0,ds0,p0,q0,ak',rfl,rfl,h0,r0⟩:=trodAll_cons hA;obtain⟨rfl,rfl,rfl⟩:=trodAll_nil r0;obtain rfl:args= #[v0]:=by cases args;simp_all
 obtain⟨rfl,rfl⟩:=trodVars_none hV;have k0:=h0;have lt0:∀x∈p0,x.block<W.heap.size:=by obtain⟨m,hm⟩:=k0;exact DataW.trod_lt m _ _ _ hm
 obtain⟨ss0,st0⟩:=Cl (hval 0 22 v0 rfl rfl) h0 (MH xM (j:=0) (t:=22) rfl rfl);clear hA0 MO;rw[MakeChecks.laidMetH_plain _ _ _ af]at hL;have tb0:=D5 hL (by refine⟨?_,?_⟩<;>repeat(first|exact True.intro|exact List.Mem.head _|refine List.Mem.tail _ ?_));have tb1:=B8 hL (by refine⟨?_,?_⟩<;>repeat(first|exact True.intro|exact List.Mem.head _|refine List.Mem.tail _ ?_))
 have tb2:=B9 hL (by refine⟨?_,?_⟩<;>repeat(first|exact True.intro|exact List.Mem.head _|refine List.Mem.tail _ ?_));have tb3:=DU hL (by refine⟨?_,?_⟩<;>repeat(first|exact True.intro|exact List.Mem.head _|refine List.Mem.tail _ ?_));refine(FW _ ss0  W st0 tb0 tb1 tb2 tb3).mono fun e W' ⟨he,rh⟩=>?_;subst he
 exact⟨_,rfl,_,_,_,[],_,[],hW',trodAll_mk1 (shut_bool underlying4 _),(trodAll_cons_mk (Below.trod laidOut af (of_decide_eq_true af) k0 rh lt0) trodAll_mk0),rfl,rh.frame _,fun h=>by cases h⟩
end Go.Proofs.YtnckmcnffadjoaaGreatDoor.tabsBusy
