/- ScrLongW, LiftScriptLonger. -/
import Derived.Test.YtpkkncoddhkfkaaGreatDoorPk9
import Derived.Test.YtpkkncoddhkfkaaGreatDoorTie
import Derived.Test.YtpkkncoddhkfkaaGreatDoorCards
import Derived.LaidMore
import Derived.Lay
set_option maxRecDepth 100000
set_option maxHeartbeats 16000000
set_option linter.unusedSimpArgs false
namespace Go.Proofs.YtpkkncoddhkfkaaGreatDoor
open Go.Proofs.Tryz
open Go.RowKit
theorem iD(s m:ai)(z0:s.size<=140737488351232)(z1:m.size<=140737488351232)(w:World)(pw:pK w)(md:lK w)(sh:lL w)(db:ib w 9 .u8 Bn) :
  Calls prog 4 #[.string s,.string m] w fun e w'=>e=.returned (.bool true)/\Below w.heap.size w w':=by
 have wN:=O (jm w w (Fr.refl _ _) ⟨⟨db,md,sh⟩,pw⟩);clear pw md sh db;go_enter func4,ntmps4;go_wp2_with fail
 refine wN.o.mono ?_;rintro e y1⟨rfl,dt⟩;have nO:=O dt;clear dt wN;by_cases hb:(3000:Int)<(s.size:Int)+(m.size:Int)
 ·go_wp2;go_ret;exact⟨rfl,nO.o.e8⟩
 ·have CT:=O (ki y1 s);go_wp2_with fail
  refine CT.o.mono ?_;rintro e y2⟨v,rfl,hd,gB⟩;have gL:=O (nO.o.trans gB);have HD:=O hd;have tE:=O (ki y2 (s++m));clear gB nO CT hd;go_wp2_with fail
  refine tE.o.mono ?_;rintro e y3⟨v',rfl,ig,mY⟩;obtain⟨ms,p_,bO, -⟩:=HD.o;obtain⟨ns,F',ur, -⟩:=ig;have jD:=O (fun V (hV:Fr aU y3 V)=>bK bO.at (mY.trans hV));have kt:=O (fun V (hV:Fr aU y3 V)=>bK ur.at hV);obtain⟨av,cv,hv⟩:=bO.form;obtain⟨Lj,Lk,qs⟩:=ur.form;rw[ag]at hv qs;subst hv qs;have vJ:=O (gL.o.trans mY);have wU:=hD 400 s.data.toList m.data.toList;rw[tG]at F';rw[<-p_, <-F']at wU
  have zO:=jA 400 s.data.toList;rw[<-p_,ag]at zO;have hle:ns.length>=ms.length:=by simpa using wU.1
  have Ga:¬((ns.length:Nat):Int)<((ms.length:Nat):Int):=ab;have KC:¬ns.length<ms.length:=ab;have Fg:=O (show∀i (h:i+1<ms.length),∃x y,ms[i]?=some x/\ns[i]?=some y/\kH y=kH x from fun i h=>by
   have q:=wU.2 i (by simpa using h);have hx:=List.getElem?_eq_getElem (show i<ms.length from ab);have hy:=List.getElem?_eq_getElem (show i<ns.length from ab);rw[List.getElem?_map,List.getElem?_map,hx,hy]at q;exact⟨_,_,hx,hy,by simpa using q⟩)
  clear mY gL HD tE bO ur p_ F' wU hle;go_wp2;go_loopw[7] (xI y3 ms.length) (fun i _=>ms.length-(intOf i).toNat)
  case atStart=>exact⟨0,az _,rfl,Fr.refl _ _⟩
  case round =>
   obtain⟨k,hk,rfl,hF⟩:=hrel;have jx:=O hF;clear Ga hb;by_cases h_:k+1<ms.length
   ·have B8:(k:Int)+1<(ms.length:Int):=ab;obtain⟨x,y,hx,hy,IA⟩:=Fg.o k h_;rcases(jD.o wr hF).2 with ⟨_,_,_,e,_⟩|⟨bk,of,c,hf,h1,h2,h3,h4⟩
    ·rw[List.map_eq_nil_iff]at e;rw[e]at h_;exact absurd h_ (bm _)
    rcases(kt.o wr hF).2 with ⟨_,_,_,e,_⟩|⟨sG,wV,c',vD,Du,Fe,KD,yV⟩
    ·rw[List.map_eq_nil_iff]at e;rw[e]at hy;cases hy
    rw[ag]at hf vD;cases hf;cases vD;have d:=h4 k x.cells (by rw[List.getElem?_map,hx];rfl);have d':=yV k y.cells (by rw[List.getElem?_map,hy];rfl);obtain⟨e1,e2,e3,e4,e5,e6,e7⟩:=wj IA;have d0:wr.cell? ⟨bk,of+k*24,none⟩=some (.int .i64 x.kind):=d 0 _ rfl;have d1:wr.cell? ⟨bk,of+k*24+1,none⟩=some (.int .i64 x.tab):=d 1 _ rfl;have d2:wr.cell? ⟨bk,of+k*24+2,none⟩=some (.int .i64 x.o.what):=d 2 _ rfl
    have d7:wr.cell? ⟨bk,of+k*24+7,none⟩=some (.bool x.o.ak.o.ao):=d 7 _ rfl;have d8:wr.cell? ⟨bk,of+k*24+8,none⟩=some (.string x.o.ak.o.host):=d 8 _ rfl;have d9:wr.cell? ⟨bk,of+k*24+9,none⟩=some (.int .i64 x.o.ak.o.port):=d 9 _ rfl;have d10:wr.cell? ⟨bk,of+k*24+10,none⟩=some (.string x.o.ak.path):=d 10 _ rfl;have d11:wr.cell? ⟨bk,of+k*24+11,none⟩=some (.string x.o.ak.query):=d 11 _ rfl
    have d23:wr.cell? ⟨bk,of+k*24+23,none⟩=some (.int .i64 x.o.n):=d 23 _ rfl;have b0:wr.cell? ⟨sG,wV+k*24,none⟩=some (.int .i64 x.kind):=e1▸d' 0 _ rfl;have b1:wr.cell? ⟨sG,wV+k*24+1,none⟩=some (.int .i64 x.tab):=e2▸d' 1 _ rfl;have b2:wr.cell? ⟨sG,wV+k*24+2,none⟩=some (.int .i64 x.o.what):=e3▸d' 2 _ rfl;have b7:wr.cell? ⟨sG,wV+k*24+7,none⟩=some (.bool x.o.ak.o.ao):=e4▸d' 7 _ rfl
    have b8:wr.cell? ⟨sG,wV+k*24+8,none⟩=some (.string x.o.ak.o.host):=e4▸d' 8 _ rfl;have b9:wr.cell? ⟨sG,wV+k*24+9,none⟩=some (.int .i64 x.o.ak.o.port):=e4▸d' 9 _ rfl;have xv:wr.cell? ⟨sG,wV+k*24+10,none⟩=some (.string x.o.ak.path):=e5▸d' 10 _ rfl;have xx:wr.cell? ⟨sG,wV+k*24+11,none⟩=some (.string x.o.ak.query):=e6▸d' 11 _ rfl
    have Ll:wr.cell? ⟨sG,wV+k*24+23,none⟩=some (.int .i64 x.o.n):=e7▸d' 23 _ rfl;have heq:=l8 x.o.ak.o x.o.ak.path x.o.ak.query;generalize x.o.ak.o=o at *
    generalize x.o.ak.path=pa at *
    generalize x.o.ak.query=qu at *
    generalize x.o.what=wh at *
    generalize x.o.n=nn at *
    generalize x.kind=kd at *
    generalize x.tab=tb at *
    have Cb:(0:Int)<=(k:Int):=ab;have FF:(k:Int)<(ms.length:Int):=ab;have Lm:(k:Int)<(ns.length:Int):=ab;clear d d' h4 yV h1 Du h3 KD hF e1 e2 e3 e4 e5 e6 e7 IA hx hy;unfold maxLen at h2 Fe;go_wp2_with fail
    go_quiet (fail);go_wp2;go_roundw
    case rel=>exact⟨k+1,ab,bn,jx.o.drewN _⟩
    case measure=>simp[intOf];omega
   ·have B8:¬(k:Int)+1<(ms.length:Int):=ab;clear hF;go_wp2;go_ret;exact⟨rfl,(vJ.o.trans jx.o).e8⟩
end Go.Proofs.YtpkkncoddhkfkaaGreatDoor
namespace Go.Proofs.YtpkkncoddhkfkaaGreatDoor.scriptLonger
open Go.Proofs.Tryz
open Go.ChangeShapes Go.WideShapes Go.ChangeAt Go.RowKit
open Go.ChangeMaps (open_string shut_string)
theorem own:ownKnob prog.godebug=none:=af
theorem lifted(os:Os)(started:os.Started)(H:Type)(enc:TypeId×Value->H) :
  ReturnsInHanded {} Tryz.checked os 4 .any (fun w args=>(Rows.scriptLongerSpec.pre enc prog Tryz.f4 Rows.scriptLongerRow.domain false w args/\laidMetH prog Rows.scriptLongerRow.laid w)/\sizedMet enc prog Tryz.f4 (OpenSpec.ofChange Rows.scriptLongerSpec) false w args)
   (Rows.scriptLongerSpec.post enc prog Tryz.f4 false true false false):=by
 refine returnsInHanded_of_change_and (C:=Tryz.checked) (X:=fun w _=>laidMetH prog Rows.scriptLongerRow.laid w) (fun _ _ _ hh h=>h.of_heap hh) own started af func4
  (ChangeSpec.witness_shaped (enc:=enc) (C:=Tryz.checked) (os:=os) (X:=fun w _=>laidMetH prog Rows.scriptLongerRow.laid w) false (World.laidAll prog os Rows.scriptLongerRow.laid) #[.string ByteArray.empty,.string ByteArray.empty] 8 (World.laidAll_os _ _ _)
   (World.shaped_of_ZipB af af) af af af
   (by rw[MakeChecks.laidMetH_plain _ _ _ af];exact laidMet_laidAll _ af af)) ?_
 intro W base args ds gs before nK hW _ uq hL _;have rv:(DataW.weightsEach prog (Tryz.f4.params.toList++Rows.scriptLongerSpec.plain.varTypes prog) (ds++gs)).all (· <=reachBytes)=true:=uq;clear uq;have hval:∀(j:Nat) t v,Tryz.f4.params[j]?=some t->args[j]?=some v->Value.okWide prog W .any base t v:=nK;have CV:=hW;obtain⟨p,q,CW,hV,rfl,_,_⟩:=hW
 have hA:DataW.TrodAll enc prog W 0 (fun _=>true) true Tryz.f4.params.toList args.toList ds p:=CW;rw[Tryz.params4]at hA hval rv;obtain⟨v0,KA,d0,KB,p0,q0,CX,rfl,rfl,h0,r0⟩:=trodAll_cons hA;obtain⟨v1,Ln,d1,Lp,p1,q1,rfl,rfl,rfl,h1,r1⟩:=trodAll_cons r0;obtain⟨rfl,rfl,rfl⟩:=trodAll_nil r1;obtain rfl:args= #[v0,v1]:=by cases args;simp_all
 obtain⟨rfl,rfl⟩:=trodVars_none hV;obtain⟨a0,rfl,rfl,rfl,w0⟩:=open_string underlying9 (hval 0 9 v0 rfl rfl) h0;obtain⟨a1,rfl,rfl,rfl,w1⟩:=open_string underlying9 (hval 1 9 v1 rfl rfl) h1;clear CW nK;rw[MakeChecks.laidMetH_plain _ _ _ af]at hL;have F6:=jW hL (by refine⟨?_,?_⟩<;>repeat(first|exact True.intro|exact List.Mem.head _|refine List.Mem.tail _ ?_))
 have F7:=je hL (by refine⟨?_,?_⟩<;>repeat(first|exact True.intro|exact List.Mem.head _|refine List.Mem.tail _ ?_));have F8:=jf hL (by refine⟨?_,?_⟩<;>repeat(first|exact True.intro|exact List.Mem.head _|refine List.Mem.tail _ ?_));have F9:=jT hL (by refine⟨?_,?_⟩<;>repeat(first|exact True.intro|exact List.Mem.head _|refine List.Mem.tail _ ?_));have z0:a0.size<=140737488351232:=by
  have:=sized_string rv (j:=0) (t:=9) rfl rfl;simpa[reachBytes]using this
 have z1:a1.size<=140737488351232:=by
  have:=sized_string rv (j:=1) (t:=9) rfl rfl;simpa[reachBytes]using this
 simp only[bH]at CV;refine(iD a0 a1 z0 z1 W F6 F7 F8 F9).mono fun e W' ⟨he,F_⟩=>?_;subst he;exact⟨_,rfl,_,_,_,[],_,[],CV,trodAll_mk1 (shut_bool underlying4 _),(trodAll_cons_mk (shut_string underlying9 w0) (trodAll_cons_mk (shut_string underlying9 w1) trodAll_mk0)),rfl,F_.frame _,fun h=>by cases h⟩
end Go.Proofs.YtpkkncoddhkfkaaGreatDoor.scriptLonger
