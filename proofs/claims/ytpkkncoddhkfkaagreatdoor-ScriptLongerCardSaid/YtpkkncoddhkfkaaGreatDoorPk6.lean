/- Scr3, TbFar, Scr4, TbC1, ScrRows. -/
import Derived.Test.YtpkkncoddhkfkaaGreatDoorPk5
set_option maxRecDepth 100000
set_option maxHeartbeats 16000000
set_option linter.unusedSimpArgs false
namespace Go.Proofs.YtpkkncoddhkfkaaGreatDoor
open Go.Proofs.Tryz
open Go.RowKit
variable {S:Nat->Prop} {U W:World} {b N:Nat} {v:Value} {ms:List kh} {m:kh} {r:aw}
theorem gJ(x:Array Value)(h:x.size=22):(prog.info? 35).map (·.size)=some x.size:=by rw[h];kernel_rfl
theorem E1(w:World):∀k:Nat,0<k->k<4->(Instr.index 92 (.agg #[.string ⟨#[88,45,65]⟩,.string ⟨#[67,111,110,116,101,110,116,45,84,121,112,101]⟩,.string ⟨#[65,117,116,104,111,114,105,122,97,116,105,111,110]⟩]) (.int .i64 ((k:Int)-1))).run prog w=.ok (.string (if k=1 then⟨#[88,45,65]⟩else if k=2 then⟨#[67,111,110,116,101,110,116,45,84,121,112,101]⟩else⟨#[65,117,116,104,111,114,105,122,97,116,105,111,110]⟩)) w
 |1,_,_=>af
 |2,_,_=>af
 |3,_,_=>af
theorem v8(U:World)(b:Nat)(r:aw)(hb:U.heap[b]?=some (.cells #[.string ⟨r.toArray⟩] 61 (0,0))) :
  Calls prog 17 #[.pointer (some ⟨b,0,none⟩)] U (tv b r U):=by
 obtain⟨w,hw⟩:∃w,w=(U.alloc (.cells #[.int .i64 0,.int .i64 0,.bool false,.string ⟨#[]⟩,.int .i64 0,.bool false,.string ⟨#[]⟩,.int .i64 0,.string ⟨#[]⟩,.string ⟨#[]⟩,.string ⟨#[]⟩,.slice none 0 0,.bool false,.string ⟨#[]⟩,.bool false,.string ⟨#[]⟩,.string ⟨#[]⟩,.string ⟨#[]⟩,.string ⟨#[]⟩,.int .i64 0,.bool false,.int .i64 0] 35)).alloc (.cells #[.int .i64 0,.int .i64 0,.bool false,.string ⟨#[]⟩,.int .i64 0,.bool false,.string ⟨#[]⟩,.int .i64 0,.string ⟨#[]⟩,.string ⟨#[]⟩,.string ⟨#[]⟩,.slice none 0 0,.bool false,.string ⟨#[]⟩,.bool false,.string ⟨#[]⟩,.string ⟨#[]⟩,.string ⟨#[]⟩,.string ⟨#[]⟩,.int .i64 0,.bool false,.int .i64 0] 35):=⟨_,rfl⟩
 obtain⟨R,hR⟩:∃R,R=U.heap.size:=⟨_,rfl⟩;obtain⟨N,hN⟩:∃N,N=R+1:=⟨_,rfl⟩;have Ce:=aJ hb;have yZ:N=(U.alloc (.cells Dn 35)).heap.size:=by rw[hN,hR];exact(Array.size_push _).symm
 have aF:dD U b N R r ([.int .i64 0,.int .i64 0,.bool false,.string ⟨#[]⟩,.int .i64 0,.bool false,.string ⟨#[]⟩,.int .i64 0,.string ⟨#[]⟩,.string ⟨#[]⟩,.string ⟨#[]⟩,.slice none 0 0,.bool false,.string ⟨#[]⟩,.bool false,.string ⟨#[]⟩,.string ⟨#[]⟩,.string ⟨#[]⟩,.string ⟨#[]⟩,.int .i64 0,.bool false,.int .i64 0]) (.slice none 0 0) [] w:=⟨by rw[hw];exact(((Fr.refl aU U).alloc _).alloc _).keep hb (fun h=>h),by rw[hw,yZ];exact aB _ _,by rw[hw,hR];exact((Fr.refl aU _).alloc _).keep (aB _ _) (fun h=>h),by rw[hw];exact((Fr.refl (one b) U).alloc _).alloc _,ab,ab,ab,ab,Ce,ab,aV _ _ _ _⟩
 have HW:=O hw;have HR:=O hR;have HN:=O hN;have cg:=O aF;clear hw hb hR hN Ce aF yZ;go_enter func17,ntmps17;go_wp2_with fail
 rw[<-HW.o, <-HR.o, <-HN.o];refine(cG w b r 10 ae ae cg.o.fj).mono ?_;rintro e u1⟨rfl,h1,h2⟩;have aF:=cg.o.call h2 h1;have HL:=O (dQ (n:=10) ae r);clear h1 h2 cg;obtain⟨a,ha⟩:∃x,x=(cY 10 r).1:=⟨_,rfl⟩;obtain⟨r1,Ad⟩:∃x,x=(cY 10 r).2:=⟨_,rfl⟩;rw[<-ha]at HL ⊢;rw[<-Ad]at aF;have Ha:=O ha;have jD:=O Ad;clear ha Ad;have c0:u1.cell? ⟨N,0,none⟩=some (.int .i64 0):=aF.cell 0 rfl
 have f0:u1.frozen? ⟨N,0,none⟩=false:=aF.free 0;have HS:=O aF;clear aF;go_wp2_with fail
 have aF:dD U b N R r1 [.int .i64 (wrap64 (1+(a:Int))),.int .i64 0,.bool false,.string ⟨#[]⟩,.int .i64 0,.bool false,.string ⟨#[]⟩,.int .i64 0,.string ⟨#[]⟩,.string ⟨#[]⟩,.string ⟨#[]⟩,.slice none 0 0,.bool false,.string ⟨#[]⟩,.bool false,.string ⟨#[]⟩,.string ⟨#[]⟩,.string ⟨#[]⟩,.string ⟨#[]⟩,.int .i64 0,.bool false,.int .i64 0] (.slice none 0 0) [] (u1.setCell ⟨N,0,none⟩ (.int .i64 (wrap64 (1+(a:Int))))):=(HS.o.set 0 (.int .i64 (wrap64 (1+(a:Int)))))
 have hu:∃x,x=(u1.setCell ⟨N,0,none⟩ (.int .i64 (wrap64 (1+(a:Int))))):=⟨_,rfl⟩;obtain⟨u2,hu⟩:=hu;rw[<-hu]at aF;have HU:=O hu;have cg:=O aF;clear hu aF HS c0 f0;rw[<-HU.o];clear HU;refine(cG u2 b r1 2 ae ae cg.o.fj).mono ?_;rintro e u3⟨rfl,h1,h2⟩;have aF:=cg.o.call h2 h1;have HL:=O (dQ (n:=2) ae r1);clear h1 h2 cg;obtain⟨p,hp⟩:∃x,x=(cY 2 r1).1:=⟨_,rfl⟩;obtain⟨r2,qx⟩:∃x,x=(cY 2 r1).2:=⟨_,rfl⟩
 rw[<-hp]at HL ⊢;rw[<-qx]at aF;have Hp:=O hp;have kt:=O qx;clear hp qx;have c1:u3.cell? ⟨N,1,none⟩=some (.int .i64 0):=aF.cell 1 rfl;have f1:u3.frozen? ⟨N,1,none⟩=false:=aF.free 1;have HS:=O aF;clear aF;go_wp2_with fail
 have aF:dD U b N R r2 [.int .i64 (wrap64 (1+(a:Int))),.int .i64 (p:Int),.bool false,.string ⟨#[]⟩,.int .i64 0,.bool false,.string ⟨#[]⟩,.int .i64 0,.string ⟨#[]⟩,.string ⟨#[]⟩,.string ⟨#[]⟩,.slice none 0 0,.bool false,.string ⟨#[]⟩,.bool false,.string ⟨#[]⟩,.string ⟨#[]⟩,.string ⟨#[]⟩,.string ⟨#[]⟩,.int .i64 0,.bool false,.int .i64 0] (.slice none 0 0) [] (u3.setCell ⟨N,1,none⟩ (.int .i64 (p:Int))):=(HS.o.set 1 (.int .i64 (p:Int)))
 have hu:∃x,x=(u3.setCell ⟨N,1,none⟩ (.int .i64 (p:Int))):=⟨_,rfl⟩;obtain⟨u4,hu⟩:=hu;rw[<-hu]at aF;have HU:=O hu;have cg:=O aF;clear hu aF HS c1 f1;rw[<-HU.o];clear HU;refine(nA u4 b r2 cg.o.fj).mono ?_;rintro e u5⟨rfl,h1,h2⟩;have aF:=cg.o.call h2 h1;clear h1 h2 cg;obtain⟨c,hc⟩:∃x,x=(et r2).1:=⟨_,rfl⟩;obtain⟨r3,nb⟩:∃x,x=(et r2).2:=⟨_,rfl⟩;rw[<-hc];rw[<-nb]at aF;have Hc:=O hc;have tA:=O nb
 clear hc nb;have c2:u5.cell? ⟨N,2,none⟩=some (.bool false):=aF.cell 2 rfl;have f2:u5.frozen? ⟨N,2,none⟩=false:=aF.free 2;have c3:u5.cell? ⟨N,3,none⟩=some (.string ⟨#[]⟩):=aF.cell 3 rfl;have f3:u5.frozen? ⟨N,3,none⟩=false:=aF.free 3;have c4:u5.cell? ⟨N,4,none⟩=some (.int .i64 0):=aF.cell 4 rfl;have f4:u5.frozen? ⟨N,4,none⟩=false:=aF.free 4;have HS:=O aF;clear aF;go_wp2_with fail
 have aF:dD U b N R r3 [.int .i64 (wrap64 (1+(a:Int))),.int .i64 (p:Int),.bool c.ao,.string c.host,.int .i64 c.port,.bool false,.string ⟨#[]⟩,.int .i64 0,.string ⟨#[]⟩,.string ⟨#[]⟩,.string ⟨#[]⟩,.slice none 0 0,.bool false,.string ⟨#[]⟩,.bool false,.string ⟨#[]⟩,.string ⟨#[]⟩,.string ⟨#[]⟩,.string ⟨#[]⟩,.int .i64 0,.bool false,.int .i64 0] (.slice none 0 0) [] (((u5.setCell ⟨N,2,none⟩ (.bool c.ao)).setCell ⟨N,3,none⟩ (.string c.host)).setCell ⟨N,4,none⟩ (.int .i64 c.port)):=(((HS.o.set 2 (.bool c.ao)).set 3 (.string c.host)).set 4 (.int .i64 c.port))
 have hu:∃x,x=(((u5.setCell ⟨N,2,none⟩ (.bool c.ao)).setCell ⟨N,3,none⟩ (.string c.host)).setCell ⟨N,4,none⟩ (.int .i64 c.port)):=⟨_,rfl⟩;obtain⟨u6,hu⟩:=hu;rw[<-hu]at aF;have HU:=O hu;have cg:=O aF;clear hu aF HS c2 f2 c3 f3 c4 f4;rw[<-HU.o];clear HU;refine(nA u6 b r3 cg.o.fj).mono ?_;rintro e u7⟨rfl,h1,h2⟩;have aF:=cg.o.call h2 h1;clear h1 h2 cg;obtain⟨d,hd⟩:∃x,x=(et r3).1:=⟨_,rfl⟩
 obtain⟨r4,zV⟩:∃x,x=(et r3).2:=⟨_,rfl⟩;rw[<-hd];rw[<-zV]at aF;have Hd:=O hd;have sM:=O zV;clear hd zV;have c5:u7.cell? ⟨N,5,none⟩=some (.bool false):=aF.cell 5 rfl;have f5:u7.frozen? ⟨N,5,none⟩=false:=aF.free 5;have c6:u7.cell? ⟨N,6,none⟩=some (.string ⟨#[]⟩):=aF.cell 6 rfl;have f6:u7.frozen? ⟨N,6,none⟩=false:=aF.free 6;have c7:u7.cell? ⟨N,7,none⟩=some (.int .i64 0):=aF.cell 7 rfl
 have f7:u7.frozen? ⟨N,7,none⟩=false:=aF.free 7;have HS:=O aF;clear aF;go_wp2_with fail
 have aF:dD U b N R r4 [.int .i64 (wrap64 (1+(a:Int))),.int .i64 (p:Int),.bool c.ao,.string c.host,.int .i64 c.port,.bool d.ao,.string d.host,.int .i64 d.port,.string ⟨#[]⟩,.string ⟨#[]⟩,.string ⟨#[]⟩,.slice none 0 0,.bool false,.string ⟨#[]⟩,.bool false,.string ⟨#[]⟩,.string ⟨#[]⟩,.string ⟨#[]⟩,.string ⟨#[]⟩,.int .i64 0,.bool false,.int .i64 0] (.slice none 0 0) [] (((u7.setCell ⟨N,5,none⟩ (.bool d.ao)).setCell ⟨N,6,none⟩ (.string d.host)).setCell ⟨N,7,none⟩ (.int .i64 d.port)):=(((HS.o.set 5 (.bool d.ao)).set 6 (.string d.host)).set 7 (.int .i64 d.port))
 have hu:∃x,x=(((u7.setCell ⟨N,5,none⟩ (.bool d.ao)).setCell ⟨N,6,none⟩ (.string d.host)).setCell ⟨N,7,none⟩ (.int .i64 d.port)):=⟨_,rfl⟩;obtain⟨u8,hu⟩:=hu;rw[<-hu]at aF;have HU:=O hu;have cg:=O aF;clear hu aF HS c5 f5 c6 f6 c7 f7;rw[show u7.heap.size=u8.heap.size by rw[HU.o];simp];rw[<-HU.o];clear HU;have aF:=cg.o.alloc (.cells (t1.map Value.string).toArray 9)
 change Calls _ _ #[.pointer (some ⟨b,0,none⟩),.slice (some ⟨u8.heap.size,0,none⟩) t1.length _] (u8.alloc (.cells (t1.map Value.string).toArray 9)) _;refine(dF _ b u8.heap.size _ r4 t1 ae ae aF.fj (di u8 t1 9) (fun e=>by have:=aJ cg.o.fj;omega)).mono ?_;rintro e u9⟨rfl,h1,h2⟩;replace aF:=aF.call h2 h1;clear h1 h2 cg;obtain⟨ta,Ae⟩:∃x,x=(cQ t1 r4).1:=⟨_,rfl⟩;obtain⟨r5,qM⟩:∃x,x=(cQ t1 r4).2:=⟨_,rfl⟩
 rw[<-Ae];rw[<-qM]at aF;have Ci:=O Ae;have l7:=O qM;clear Ae qM;have c8:u9.cell? ⟨N,8,none⟩=some (.string ⟨#[]⟩):=aF.cell 8 rfl;have f8:u9.frozen? ⟨N,8,none⟩=false:=aF.free 8;have HS:=O aF;clear aF;go_wp2_with fail
 have aF:dD U b N R r5 [.int .i64 (wrap64 (1+(a:Int))),.int .i64 (p:Int),.bool c.ao,.string c.host,.int .i64 c.port,.bool d.ao,.string d.host,.int .i64 d.port,.string ta,.string ⟨#[]⟩,.string ⟨#[]⟩,.slice none 0 0,.bool false,.string ⟨#[]⟩,.bool false,.string ⟨#[]⟩,.string ⟨#[]⟩,.string ⟨#[]⟩,.string ⟨#[]⟩,.int .i64 0,.bool false,.int .i64 0] (.slice none 0 0) [] (u9.setCell ⟨N,8,none⟩ (.string ta)):=(HS.o.set 8 (.string ta))
 have hu:∃x,x=(u9.setCell ⟨N,8,none⟩ (.string ta)):=⟨_,rfl⟩;obtain⟨Cl,hu⟩:=hu;rw[<-hu]at aF;have HU:=O hu;have cg:=O aF;clear hu aF HS c8 f8;rw[show u9.heap.size=Cl.heap.size by rw[HU.o];simp];rw[<-HU.o];clear HU;have aF:=cg.o.alloc (.cells (t2.map Value.string).toArray 9)
 change Calls _ _ #[.pointer (some ⟨b,0,none⟩),.slice (some ⟨Cl.heap.size,0,none⟩) t2.length _] (Cl.alloc (.cells (t2.map Value.string).toArray 9)) _;refine(dF _ b Cl.heap.size _ r5 t2 ae ae aF.fj (di Cl t2 9) (fun e=>by have:=aJ cg.o.fj;omega)).mono ?_;rintro e Dq⟨rfl,h1,h2⟩;replace aF:=aF.call h2 h1;clear h1 h2 cg;obtain⟨tb,E2⟩:∃x,x=(cQ t2 r5).1:=⟨_,rfl⟩;obtain⟨r6,E3⟩:∃x,x=(cQ t2 r5).2:=⟨_,rfl⟩
 rw[<-E2];rw[<-E3]at aF;have Cj:=O E2;have mB:=O E3;clear E2 E3;have zW:Dq.cell? ⟨N,10,none⟩=some (.string ⟨#[]⟩):=aF.cell 10 rfl;have f10:Dq.frozen? ⟨N,10,none⟩=false:=aF.free 10;have HS:=O aF;clear aF;go_wp2_with fail
 have aF:dD U b N R r6 [.int .i64 (wrap64 (1+(a:Int))),.int .i64 (p:Int),.bool c.ao,.string c.host,.int .i64 c.port,.bool d.ao,.string d.host,.int .i64 d.port,.string ta,.string ⟨#[]⟩,.string tb,.slice none 0 0,.bool false,.string ⟨#[]⟩,.bool false,.string ⟨#[]⟩,.string ⟨#[]⟩,.string ⟨#[]⟩,.string ⟨#[]⟩,.int .i64 0,.bool false,.int .i64 0] (.slice none 0 0) [] (Dq.setCell ⟨N,10,none⟩ (.string tb)):=(HS.o.set 10 (.string tb))
 have hu:∃x,x=(Dq.setCell ⟨N,10,none⟩ (.string tb)):=⟨_,rfl⟩;obtain⟨JE,hu⟩:=hu;rw[<-hu]at aF;have HU:=O hu;have cg:=O aF;clear hu aF HS zW f10;rw[<-HU.o];clear HU;refine(cG JE b r6 4 ae ae cg.o.fj).mono ?_;rintro e ir⟨rfl,h1,h2⟩;have aF:=cg.o.call h2 h1;have HL:=O (dQ (n:=4) ae r6);clear h1 h2 cg;obtain⟨k,hk⟩:∃x,x=(cY 4 r6).1:=⟨_,rfl⟩;obtain⟨r7,E4⟩:∃x,x=(cY 4 r6).2:=⟨_,rfl⟩;rw[<-hk]at HL ⊢
 rw[<-E4]at aF;have Hk:=O hk;have GL:=O E4;clear hk E4;rcases(show k=0\/(0<k/\k<4)by have:=HL.o;omega)with rfl|⟨C9,xG⟩
 ·skip
  have hz:decide (((0:Nat):Int)>0)=false:=rfl;have cg:=O aF;clear aF;go_wp2_with fail
  refine(cG ir b r7 2 ae ae cg.o.fj).mono ?_;rintro e Af⟨rfl,h1,h2⟩;have aF:=cg.o.call h2 h1;have HL:=O (dQ (n:=2) ae r7);clear h1 h2 cg;obtain⟨h,hh⟩:∃x,x=(cY 2 r7).1:=⟨_,rfl⟩;obtain⟨r8,y0⟩:∃x,x=(cY 2 r7).2:=⟨_,rfl⟩;rw[<-hh]at HL ⊢;rw[<-y0]at aF;have Hh:=O hh;have E5:=O y0;clear hh y0;have BV:Af.cell? ⟨N,12,none⟩=some (.bool false):=aF.cell 12 rfl;have f12:Af.frozen? ⟨N,12,none⟩=false:=aF.free 12
  have HS:=O aF;clear aF;go_wp2_with fail
  have aF:dD U b N R r8 [.int .i64 (wrap64 (1+(a:Int))),.int .i64 (p:Int),.bool c.ao,.string c.host,.int .i64 c.port,.bool d.ao,.string d.host,.int .i64 d.port,.string ta,.string ⟨#[]⟩,.string tb,.slice none 0 0,.bool ((h:Int)==1),.string ⟨#[]⟩,.bool false,.string ⟨#[]⟩,.string ⟨#[]⟩,.string ⟨#[]⟩,.string ⟨#[]⟩,.int .i64 0,.bool false,.int .i64 0] (.slice none 0 0) [] (Af.setCell ⟨N,12,none⟩ (.bool ((h:Int)==1))):=(HS.o.set 12 (.bool ((h:Int)==1)))
  have hu:∃x,x=(Af.setCell ⟨N,12,none⟩ (.bool ((h:Int)==1))):=⟨_,rfl⟩;obtain⟨Ag,hu⟩:=hu;rw[<-hu]at aF;have HU:=O hu;have cg:=O aF;clear hu aF HS BV f12;rw[<-HU.o];clear HU;refine(cG Ag b r8 4 ae ae cg.o.fj).mono ?_;rintro e u16⟨rfl,h1,h2⟩;have aF:=cg.o.call h2 h1;have HL:=O (dQ (n:=4) ae r8);clear h1 h2 cg;obtain⟨i,hi⟩:∃x,x=(cY 4 r8).1:=⟨_,rfl⟩;obtain⟨r9,y7⟩:∃x,x=(cY 4 r8).2:=⟨_,rfl⟩;rw[<-hi]at HL ⊢
  rw[<-y7]at aF;have Hi:=O hi;have E6:=O y7;clear hi y7;have E7:u16.cell? ⟨N,14,none⟩=some (.bool false):=aF.cell 14 rfl;have f14:u16.frozen? ⟨N,14,none⟩=false:=aF.free 14;have HS:=O aF;clear aF;go_wp2_with fail
  have aF:dD U b N R r9 [.int .i64 (wrap64 (1+(a:Int))),.int .i64 (p:Int),.bool c.ao,.string c.host,.int .i64 c.port,.bool d.ao,.string d.host,.int .i64 d.port,.string ta,.string ⟨#[]⟩,.string tb,.slice none 0 0,.bool ((h:Int)==1),.string ⟨#[]⟩,.bool ((i:Int)==3),.string ⟨#[]⟩,.string ⟨#[]⟩,.string ⟨#[]⟩,.string ⟨#[]⟩,.int .i64 0,.bool false,.int .i64 0] (.slice none 0 0) [] (u16.setCell ⟨N,14,none⟩ (.bool ((i:Int)==3))):=(HS.o.set 14 (.bool ((i:Int)==3)))
  have hu:∃x,x=(u16.setCell ⟨N,14,none⟩ (.bool ((i:Int)==3))):=⟨_,rfl⟩;obtain⟨tB,hu⟩:=hu;rw[<-hu]at aF;have HU:=O hu;have cg:=O aF;clear hu aF HS E7 f14;rw[show u16.heap.size=tB.heap.size by rw[HU.o];simp];rw[<-HU.o];clear HU;have aF:=cg.o.alloc (.cells (t3.map Value.string).toArray 9)
  change Calls _ _ #[.pointer (some ⟨b,0,none⟩),.slice (some ⟨tB.heap.size,0,none⟩) t3.length _] (tB.alloc (.cells (t3.map Value.string).toArray 9)) _;refine(dF _ b tB.heap.size _ r9 t3 ae ae aF.fj (di tB t3 9) (fun e=>by have:=aJ cg.o.fj;omega)).mono ?_;rintro e tC⟨rfl,h1,h2⟩;replace aF:=aF.call h2 h1;clear h1 h2 cg;obtain⟨tc,y8⟩:∃x,x=(cQ t3 r9).1:=⟨_,rfl⟩;obtain⟨qK,oN⟩:∃x,x=(cQ t3 r9).2:=⟨_,rfl⟩
  rw[<-y8];rw[<-oN]at aF;have z8:=O y8;have y9:=O oN;clear y8 oN;have BM:tC.cell? ⟨N,15,none⟩=some (.string ⟨#[]⟩):=aF.cell 15 rfl;have f15:tC.frozen? ⟨N,15,none⟩=false:=aF.free 15;have HS:=O aF;clear aF;go_wp2_with fail
  have aF:dD U b N R qK [.int .i64 (wrap64 (1+(a:Int))),.int .i64 (p:Int),.bool c.ao,.string c.host,.int .i64 c.port,.bool d.ao,.string d.host,.int .i64 d.port,.string ta,.string ⟨#[]⟩,.string tb,.slice none 0 0,.bool ((h:Int)==1),.string ⟨#[]⟩,.bool ((i:Int)==3),.string tc,.string ⟨#[]⟩,.string ⟨#[]⟩,.string ⟨#[]⟩,.int .i64 0,.bool false,.int .i64 0] (.slice none 0 0) [] (tC.setCell ⟨N,15,none⟩ (.string tc)):=(HS.o.set 15 (.string tc))
  have hu:∃x,x=(tC.setCell ⟨N,15,none⟩ (.string tc)):=⟨_,rfl⟩;obtain⟨tD,hu⟩:=hu;rw[<-hu]at aF;have HU:=O hu;have cg:=O aF;clear hu aF HS BM f15;rw[show tC.heap.size=tD.heap.size by rw[HU.o];simp];rw[<-HU.o];clear HU;have aF:=cg.o.alloc (.cells (t4.map Value.string).toArray 9)
  change Calls _ _ #[.pointer (some ⟨b,0,none⟩),.slice (some ⟨tD.heap.size,0,none⟩) t4.length _] (tD.alloc (.cells (t4.map Value.string).toArray 9)) _;refine(dF _ b tD.heap.size _ qK t4 ae ae aF.fj (di tD t4 9) (fun e=>by have:=aJ cg.o.fj;omega)).mono ?_;rintro e uC⟨rfl,h1,h2⟩;replace aF:=aF.call h2 h1;clear h1 h2 cg;obtain⟨td,rC⟩:∃x,x=(cQ t4 qK).1:=⟨_,rfl⟩;obtain⟨tx,oO⟩:∃x,x=(cQ t4 qK).2:=⟨_,rfl⟩
  rw[<-rC];rw[<-oO]at aF;have z_:=O rC;have y_:=O oO;clear rC oO;have cg:=O aF;clear aF;go_wp2_with fail
  have aF:=cg.o.alloc (.cells (t5.map Value.string).toArray 9);change Calls _ _ #[.pointer (some ⟨b,0,none⟩),.slice (some ⟨uC.heap.size,0,none⟩) t5.length _] (uC.alloc (.cells (t5.map Value.string).toArray 9)) _;refine(dF _ b uC.heap.size _ tx t5 ae ae aF.fj (di uC t5 9) (fun e=>by have:=aJ cg.o.fj;omega)).mono ?_;rintro e rD⟨rfl,h1,h2⟩;replace aF:=aF.call h2 h1;clear h1 h2 cg
  obtain⟨te,za⟩:∃x,x=(cQ t5 tx).1:=⟨_,rfl⟩;obtain⟨qL,oP⟩:∃x,x=(cQ t5 tx).2:=⟨_,rfl⟩;rw[<-za];rw[<-oP]at aF;have Aa:=O za;have zb:=O oP;clear za oP;have E8:rD.cell? ⟨N,16,none⟩=some (.string ⟨#[]⟩):=aF.cell 16 rfl;have f16:rD.frozen? ⟨N,16,none⟩=false:=aF.free 16;have E9:rD.cell? ⟨N,17,none⟩=some (.string ⟨#[]⟩):=aF.cell 17 rfl;have f17:rD.frozen? ⟨N,17,none⟩=false:=aF.free 17;have HS:=O aF;clear aF
  go_wp2_with fail
  have aF:dD U b N R qL [.int .i64 (wrap64 (1+(a:Int))),.int .i64 (p:Int),.bool c.ao,.string c.host,.int .i64 c.port,.bool d.ao,.string d.host,.int .i64 d.port,.string ta,.string ⟨#[]⟩,.string tb,.slice none 0 0,.bool ((h:Int)==1),.string ⟨#[]⟩,.bool ((i:Int)==3),.string tc,.string td,.string te,.string ⟨#[]⟩,.int .i64 0,.bool false,.int .i64 0] (.slice none 0 0) [] ((rD.setCell ⟨N,16,none⟩ (.string td)).setCell ⟨N,17,none⟩ (.string te)):=((HS.o.set 16 (.string td)).set 17 (.string te))
  have hu:∃x,x=((rD.setCell ⟨N,16,none⟩ (.string td)).setCell ⟨N,17,none⟩ (.string te)):=⟨_,rfl⟩;obtain⟨qN,hu⟩:=hu;rw[<-hu]at aF;have HU:=O hu;have cg:=O aF;clear hu aF HS E8 f16 E9 f17;rw[show rD.heap.size=qN.heap.size by rw[HU.o];simp];rw[<-HU.o];clear HU;have aF:=cg.o.alloc (.cells (t6.map Value.string).toArray 9)
  change Calls _ _ #[.pointer (some ⟨b,0,none⟩),.slice (some ⟨qN.heap.size,0,none⟩) t6.length _] (qN.alloc (.cells (t6.map Value.string).toArray 9)) _;refine(dF _ b qN.heap.size _ qL t6 ae ae aF.fj (di qN t6 9) (fun e=>by have:=aJ cg.o.fj;omega)).mono ?_;rintro e uD⟨rfl,h1,h2⟩;replace aF:=aF.call h2 h1;clear h1 h2 cg;obtain⟨tf,zc⟩:∃x,x=(cQ t6 qL).1:=⟨_,rfl⟩;obtain⟨oK,oQ⟩:∃x,x=(cQ t6 qL).2:=⟨_,rfl⟩
  rw[<-zc];rw[<-oQ]at aF;have Ab:=O zc;have zd:=O oQ;clear zc oQ;have E_:uD.cell? ⟨N,18,none⟩=some (.string ⟨#[]⟩):=aF.cell 18 rfl;have f18:uD.frozen? ⟨N,18,none⟩=false:=aF.free 18;have HS:=O aF;clear aF;go_wp2_with fail
  have aF:dD U b N R oK [.int .i64 (wrap64 (1+(a:Int))),.int .i64 (p:Int),.bool c.ao,.string c.host,.int .i64 c.port,.bool d.ao,.string d.host,.int .i64 d.port,.string ta,.string ⟨#[]⟩,.string tb,.slice none 0 0,.bool ((h:Int)==1),.string ⟨#[]⟩,.bool ((i:Int)==3),.string tc,.string td,.string te,.string tf,.int .i64 0,.bool false,.int .i64 0] (.slice none 0 0) [] (uD.setCell ⟨N,18,none⟩ (.string tf)):=(HS.o.set 18 (.string tf))
  have hu:∃x,x=(uD.setCell ⟨N,18,none⟩ (.string tf)):=⟨_,rfl⟩;obtain⟨Ah,hu⟩:=hu;rw[<-hu]at aF;have HU:=O hu;have cg:=O aF;clear hu aF HS E_ f18;rw[<-HU.o];clear HU;refine(cG Ah b oK 4 ae ae cg.o.fj).mono ?_;rintro e Ai⟨rfl,h1,h2⟩;have aF:=cg.o.call h2 h1;have HL:=O (dQ (n:=4) ae oK);clear h1 h2 cg;obtain⟨ca,ze⟩:∃x,x=(cY 4 oK).1:=⟨_,rfl⟩;obtain⟨oL,oT⟩:∃x,x=(cY 4 oK).2:=⟨_,rfl⟩;rw[<-ze]at HL ⊢
  rw[<-oT]at aF;have Ac:=O ze;have zf:=O oT;clear ze oT;have E':Ai.cell? ⟨N,19,none⟩=some (.int .i64 0):=aF.cell 19 rfl;have f19:Ai.frozen? ⟨N,19,none⟩=false:=aF.free 19;have HS:=O aF;clear aF;go_wp2_with fail
  have aF:dD U b N R oL [.int .i64 (wrap64 (1+(a:Int))),.int .i64 (p:Int),.bool c.ao,.string c.host,.int .i64 c.port,.bool d.ao,.string d.host,.int .i64 d.port,.string ta,.string ⟨#[]⟩,.string tb,.slice none 0 0,.bool ((h:Int)==1),.string ⟨#[]⟩,.bool ((i:Int)==3),.string tc,.string td,.string te,.string tf,.int .i64 (ca:Int),.bool false,.int .i64 0] (.slice none 0 0) [] (Ai.setCell ⟨N,19,none⟩ (.int .i64 (ca:Int))):=(HS.o.set 19 (.int .i64 (ca:Int)))
  have hu:∃x,x=(Ai.setCell ⟨N,19,none⟩ (.int .i64 (ca:Int))):=⟨_,rfl⟩;obtain⟨Aj,hu⟩:=hu;rw[<-hu]at aF;have HU:=O hu;have cg:=O aF;clear hu aF HS E' f19;rw[<-HU.o];clear HU;refine(cG Aj b oL 4 ae ae cg.o.fj).mono ?_;rintro e Ak⟨rfl,h1,h2⟩;have aF:=cg.o.call h2 h1;have HL:=O (dQ (n:=4) ae oL);clear h1 h2 cg;obtain⟨al,zg⟩:∃x,x=(cY 4 oL).1:=⟨_,rfl⟩;obtain⟨oM,oU⟩:∃x,x=(cY 4 oL).2:=⟨_,rfl⟩;rw[<-zg]at HL ⊢
  rw[<-oU]at aF;have Ck:=O zg;have zh:=O oU;clear zg oU;have Fa:Ak.cell? ⟨N,20,none⟩=some (.bool false):=aF.cell 20 rfl;have f20:Ak.frozen? ⟨N,20,none⟩=false:=aF.free 20;have HS:=O aF;clear aF;go_wp2_with fail
  have aF:dD U b N R oM [.int .i64 (wrap64 (1+(a:Int))),.int .i64 (p:Int),.bool c.ao,.string c.host,.int .i64 c.port,.bool d.ao,.string d.host,.int .i64 d.port,.string ta,.string ⟨#[]⟩,.string tb,.slice none 0 0,.bool ((h:Int)==1),.string ⟨#[]⟩,.bool ((i:Int)==3),.string tc,.string td,.string te,.string tf,.int .i64 (ca:Int),.bool ((al:Int)==3),.int .i64 0] (.slice none 0 0) [] (Ak.setCell ⟨N,20,none⟩ (.bool ((al:Int)==3))):=(HS.o.set 20 (.bool ((al:Int)==3)))
  have hu:∃x,x=(Ak.setCell ⟨N,20,none⟩ (.bool ((al:Int)==3))):=⟨_,rfl⟩;obtain⟨Al,hu⟩:=hu;rw[<-hu]at aF;have HU:=O hu;have cg:=O aF;clear hu aF HS Fa f20;rw[<-HU.o];clear HU;refine(cG Al b oM 10 ae ae cg.o.fj).mono ?_;rintro e Am⟨rfl,h1,h2⟩;have aF:=cg.o.call h2 h1;have HL:=O (dQ (n:=10) ae oM);clear h1 h2 cg;obtain⟨q,hq⟩:∃x,x=(cY 10 oM).1:=⟨_,rfl⟩;obtain⟨r16,oV⟩:∃x,x=(cY 10 oM).2:=⟨_,rfl⟩
  rw[<-hq]at HL ⊢;rw[<-oV]at aF;have Hq:=O hq;have zi:=O oV;clear hq oV;have JF:Am.cell? ⟨N,21,none⟩=some (.int .i64 0):=aF.cell 21 rfl;have f21:Am.frozen? ⟨N,21,none⟩=false:=aF.free 21;have HS:=O aF;clear aF
  have aF:dD U b N R r16 [.int .i64 (wrap64 (1+(a:Int))),.int .i64 (p:Int),.bool c.ao,.string c.host,.int .i64 c.port,.bool d.ao,.string d.host,.int .i64 d.port,.string ta,.string ⟨#[]⟩,.string tb,.slice none 0 0,.bool ((h:Int)==1),.string ⟨#[]⟩,.bool ((i:Int)==3),.string tc,.string td,.string te,.string tf,.int .i64 (ca:Int),.bool ((al:Int)==3),.int .i64 (q:Int)] (.slice none 0 0) [] (Am.setCell ⟨N,21,none⟩ (.int .i64 (q:Int))):=HS.o.set 21 _
  have HF:=O aF;clear aF HS
  obtain⟨X,hX⟩:∃X:Array Value,X= #[.int .i64 (wrap64 (1+(a:Int))),.int .i64 (p:Int),.bool c.ao,.string c.host,.int .i64 c.port,.bool d.ao,.string d.host,.int .i64 d.port,.string ta,.string ⟨#[]⟩,.string tb,.slice none 0 0,.bool ((h:Int)==1),.string ⟨#[]⟩,.bool ((i:Int)==3),.string tc,.string td,.string te,.string tf,.int .i64 (ca:Int),.bool ((al:Int)==3),.int .i64 (q:Int)]:=⟨_,rfl⟩
  have HB:=O (show(Am.setCell ⟨N,21,none⟩ (.int .i64 (q:Int))).heap[N]?=some (.cells X 35 (0,0))by rw[hX];exact HF.o.cR);have kU:=O (show X.size=22 by rw[hX];rfl);have HO:=O (show X.all (·.oneCell')=true by rw[hX];simp[Value.oneCell']);have HX:=O hX;clear hX
  go_wp2_with (first|((with_reducible refine dC 89 ?_);go_must(refine wpList_load_row rfl 35 (.tmp 3) rfl N rfl _ X (0,0) _ HB.o underlying35 rfl (gJ _ kU.o) ?_);go_must(refine wpList_store_row rfl 35 (.tmp 2) (.tmp 89) rfl R X rfl rfl 35 Dn HF.o.res (gJ _ kU.o) kU.o.symm HO.o ?_))|fail)
  refine bodyPost_ret (results_cell_row bq _ _ R 35 X (0,0) _ rfl (setRow_heap _ R _ _ _ _ HF.o.res) underlying35 rfl (gJ _ kU.o)) rfl ?_;exact tz (oJ Ha.o jD.o Hp.o kt.o Hc.o tA.o Hd.o sM.o Ci.o l7.o Cj.o mB.o Hk.o GL.o Hh.o E5.o Hi.o E6.o z8.o y9.o z_.o y_.o Aa.o zb.o Ab.o zd.o Ac.o zf.o Ck.o zh.o Hq.o zi.o) rfl HF.o _ _ (by rw[HX.o])
 ·skip
  have hz:decide (((k:Nat):Int)>0)=true:=aM ab;have GM:wrap64 ((k:Int)-1)=(k:Int)-1:=IntWalk.wrap64_in _ ab;obtain⟨nm,Fb⟩:∃x:ai,x=(if k=1 then⟨#[88,45,65]⟩else if k=2 then⟨#[67,111,110,116,101,110,116,45,84,121,112,101]⟩else⟨#[65,117,116,104,111,114,105,122,97,116,105,111,110]⟩):=⟨_,rfl⟩
  have x0:∀w:World,(Instr.index 92 (.agg #[.string ⟨#[88,45,65]⟩,.string ⟨#[67,111,110,116,101,110,116,45,84,121,112,101]⟩,.string ⟨#[65,117,116,104,111,114,105,122,97,116,105,111,110]⟩]) (.int .i64 ((k:Int)-1))).run prog w=.ok (.string nm) w:=fun w=>by
   rw[Fb];exact E1 w k C9 xG
  have JG:=O Fb;clear Fb
  replace aF:dD U b N R r7 [.int .i64 (wrap64 (1+(a:Int))),.int .i64 (p:Int),.bool c.ao,.string c.host,.int .i64 c.port,.bool d.ao,.string d.host,.int .i64 d.port,.string ta,.string ⟨#[]⟩,.string tb,.slice none 0 0,.bool false,.string ⟨#[]⟩,.bool false,.string ⟨#[]⟩,.string ⟨#[]⟩,.string ⟨#[]⟩,.string ⟨#[]⟩,.int .i64 0,.bool false,.int .i64 0] (.slice (some ⟨ir.heap.size,0,none⟩) 1 1) [(nm,⟨#[116,101,120,116,47,104,116,109,108]⟩)] (ir.alloc (.cells #[.string nm,.string ⟨#[116,101,120,116,47,104,116,109,108]⟩] 65)):=aF.head (nm,⟨#[116,101,120,116,47,104,116,109,108]⟩)
  have Dh:(ir.alloc (.cells #[.string nm,.string ⟨#[116,101,120,116,47,104,116,109,108]⟩] 65)).cell? ⟨N,11,none⟩=some (.slice none 0 0):=aF.cell 11 rfl;have f11:(ir.alloc (.cells #[.string nm,.string ⟨#[116,101,120,116,47,104,116,109,108]⟩] 65)).frozen? ⟨N,11,none⟩=false:=aF.free 11;have HS:=O aF;clear aF;go_wp2_with fail
  have aF:dD U b N R r7 [.int .i64 (wrap64 (1+(a:Int))),.int .i64 (p:Int),.bool c.ao,.string c.host,.int .i64 c.port,.bool d.ao,.string d.host,.int .i64 d.port,.string ta,.string ⟨#[]⟩,.string tb,(.slice (some ⟨ir.heap.size,0,none⟩) 1 1),.bool false,.string ⟨#[]⟩,.bool false,.string ⟨#[]⟩,.string ⟨#[]⟩,.string ⟨#[]⟩,.string ⟨#[]⟩,.int .i64 0,.bool false,.int .i64 0] (.slice (some ⟨ir.heap.size,0,none⟩) 1 1) [(nm,⟨#[116,101,120,116,47,104,116,109,108]⟩)] ((ir.alloc (.cells #[.string nm,.string ⟨#[116,101,120,116,47,104,116,109,108]⟩] 65)).setCell ⟨N,11,none⟩ ((.slice (some ⟨ir.heap.size,0,none⟩) 1 1))):=(HS.o.set 11 ((.slice (some ⟨ir.heap.size,0,none⟩) 1 1)))
  have hu:∃x,x=((ir.alloc (.cells #[.string nm,.string ⟨#[116,101,120,116,47,104,116,109,108]⟩] 65)).setCell ⟨N,11,none⟩ ((.slice (some ⟨ir.heap.size,0,none⟩) 1 1))):=⟨_,rfl⟩;obtain⟨Af,hu⟩:=hu;rw[<-hu]at aF;have HU:=O hu;have cg:=O aF;clear hu aF HS Dh f11;rw[<-HU.o];clear HU;refine(cG Af b r7 2 ae ae cg.o.fj).mono ?_;rintro e Ag⟨rfl,h1,h2⟩;have aF:=cg.o.call h2 h1;have HL:=O (dQ (n:=2) ae r7)
  clear h1 h2 cg;obtain⟨h,hh⟩:∃x,x=(cY 2 r7).1:=⟨_,rfl⟩;obtain⟨r8,y0⟩:∃x,x=(cY 2 r7).2:=⟨_,rfl⟩;rw[<-hh]at HL ⊢;rw[<-y0]at aF;have Hh:=O hh;have E5:=O y0;clear hh y0;have BV:Ag.cell? ⟨N,12,none⟩=some (.bool false):=aF.cell 12 rfl;have f12:Ag.frozen? ⟨N,12,none⟩=false:=aF.free 12;have HS:=O aF;clear aF;go_wp2_with fail
  have aF:dD U b N R r8 [.int .i64 (wrap64 (1+(a:Int))),.int .i64 (p:Int),.bool c.ao,.string c.host,.int .i64 c.port,.bool d.ao,.string d.host,.int .i64 d.port,.string ta,.string ⟨#[]⟩,.string tb,(.slice (some ⟨ir.heap.size,0,none⟩) 1 1),.bool ((h:Int)==1),.string ⟨#[]⟩,.bool false,.string ⟨#[]⟩,.string ⟨#[]⟩,.string ⟨#[]⟩,.string ⟨#[]⟩,.int .i64 0,.bool false,.int .i64 0] (.slice (some ⟨ir.heap.size,0,none⟩) 1 1) [(nm,⟨#[116,101,120,116,47,104,116,109,108]⟩)] (Ag.setCell ⟨N,12,none⟩ (.bool ((h:Int)==1))):=(HS.o.set 12 (.bool ((h:Int)==1)))
  have hu:∃x,x=(Ag.setCell ⟨N,12,none⟩ (.bool ((h:Int)==1))):=⟨_,rfl⟩;obtain⟨u16,hu⟩:=hu;rw[<-hu]at aF;have HU:=O hu;have cg:=O aF;clear hu aF HS BV f12;rw[<-HU.o];clear HU;refine(cG u16 b r8 4 ae ae cg.o.fj).mono ?_;rintro e tB⟨rfl,h1,h2⟩;have aF:=cg.o.call h2 h1;have HL:=O (dQ (n:=4) ae r8);clear h1 h2 cg;obtain⟨i,hi⟩:∃x,x=(cY 4 r8).1:=⟨_,rfl⟩;obtain⟨r9,y7⟩:∃x,x=(cY 4 r8).2:=⟨_,rfl⟩
  rw[<-hi]at HL ⊢;rw[<-y7]at aF;have Hi:=O hi;have E6:=O y7;clear hi y7;have E7:tB.cell? ⟨N,14,none⟩=some (.bool false):=aF.cell 14 rfl;have f14:tB.frozen? ⟨N,14,none⟩=false:=aF.free 14;have HS:=O aF;clear aF;go_wp2_with fail
  have aF:dD U b N R r9 [.int .i64 (wrap64 (1+(a:Int))),.int .i64 (p:Int),.bool c.ao,.string c.host,.int .i64 c.port,.bool d.ao,.string d.host,.int .i64 d.port,.string ta,.string ⟨#[]⟩,.string tb,(.slice (some ⟨ir.heap.size,0,none⟩) 1 1),.bool ((h:Int)==1),.string ⟨#[]⟩,.bool ((i:Int)==3),.string ⟨#[]⟩,.string ⟨#[]⟩,.string ⟨#[]⟩,.string ⟨#[]⟩,.int .i64 0,.bool false,.int .i64 0] (.slice (some ⟨ir.heap.size,0,none⟩) 1 1) [(nm,⟨#[116,101,120,116,47,104,116,109,108]⟩)] (tB.setCell ⟨N,14,none⟩ (.bool ((i:Int)==3))):=(HS.o.set 14 (.bool ((i:Int)==3)))
  have hu:∃x,x=(tB.setCell ⟨N,14,none⟩ (.bool ((i:Int)==3))):=⟨_,rfl⟩;obtain⟨tC,hu⟩:=hu;rw[<-hu]at aF;have HU:=O hu;have cg:=O aF;clear hu aF HS E7 f14;rw[show tB.heap.size=tC.heap.size by rw[HU.o];simp];rw[<-HU.o];clear HU;have aF:=cg.o.alloc (.cells (t3.map Value.string).toArray 9)
  change Calls _ _ #[.pointer (some ⟨b,0,none⟩),.slice (some ⟨tC.heap.size,0,none⟩) t3.length _] (tC.alloc (.cells (t3.map Value.string).toArray 9)) _;refine(dF _ b tC.heap.size _ r9 t3 ae ae aF.fj (di tC t3 9) (fun e=>by have:=aJ cg.o.fj;omega)).mono ?_;rintro e tD⟨rfl,h1,h2⟩;replace aF:=aF.call h2 h1;clear h1 h2 cg;obtain⟨tc,y8⟩:∃x,x=(cQ t3 r9).1:=⟨_,rfl⟩;obtain⟨qK,oN⟩:∃x,x=(cQ t3 r9).2:=⟨_,rfl⟩
  rw[<-y8];rw[<-oN]at aF;have z8:=O y8;have y9:=O oN;clear y8 oN;have BM:tD.cell? ⟨N,15,none⟩=some (.string ⟨#[]⟩):=aF.cell 15 rfl;have f15:tD.frozen? ⟨N,15,none⟩=false:=aF.free 15;have HS:=O aF;clear aF;go_wp2_with fail
  have aF:dD U b N R qK [.int .i64 (wrap64 (1+(a:Int))),.int .i64 (p:Int),.bool c.ao,.string c.host,.int .i64 c.port,.bool d.ao,.string d.host,.int .i64 d.port,.string ta,.string ⟨#[]⟩,.string tb,(.slice (some ⟨ir.heap.size,0,none⟩) 1 1),.bool ((h:Int)==1),.string ⟨#[]⟩,.bool ((i:Int)==3),.string tc,.string ⟨#[]⟩,.string ⟨#[]⟩,.string ⟨#[]⟩,.int .i64 0,.bool false,.int .i64 0] (.slice (some ⟨ir.heap.size,0,none⟩) 1 1) [(nm,⟨#[116,101,120,116,47,104,116,109,108]⟩)] (tD.setCell ⟨N,15,none⟩ (.string tc)):=(HS.o.set 15 (.string tc))
  have hu:∃x,x=(tD.setCell ⟨N,15,none⟩ (.string tc)):=⟨_,rfl⟩;obtain⟨uC,hu⟩:=hu;rw[<-hu]at aF;have HU:=O hu;have cg:=O aF;clear hu aF HS BM f15;rw[show tD.heap.size=uC.heap.size by rw[HU.o];simp];rw[<-HU.o];clear HU;have aF:=cg.o.alloc (.cells (t4.map Value.string).toArray 9)
  change Calls _ _ #[.pointer (some ⟨b,0,none⟩),.slice (some ⟨uC.heap.size,0,none⟩) t4.length _] (uC.alloc (.cells (t4.map Value.string).toArray 9)) _;refine(dF _ b uC.heap.size _ qK t4 ae ae aF.fj (di uC t4 9) (fun e=>by have:=aJ cg.o.fj;omega)).mono ?_;rintro e rD⟨rfl,h1,h2⟩;replace aF:=aF.call h2 h1;clear h1 h2 cg;obtain⟨td,rC⟩:∃x,x=(cQ t4 qK).1:=⟨_,rfl⟩;obtain⟨tx,oO⟩:∃x,x=(cQ t4 qK).2:=⟨_,rfl⟩
  rw[<-rC];rw[<-oO]at aF;have z_:=O rC;have y_:=O oO;clear rC oO;have cg:=O aF;clear aF;go_wp2_with fail
  have aF:=cg.o.alloc (.cells (t5.map Value.string).toArray 9);change Calls _ _ #[.pointer (some ⟨b,0,none⟩),.slice (some ⟨rD.heap.size,0,none⟩) t5.length _] (rD.alloc (.cells (t5.map Value.string).toArray 9)) _;refine(dF _ b rD.heap.size _ tx t5 ae ae aF.fj (di rD t5 9) (fun e=>by have:=aJ cg.o.fj;omega)).mono ?_;rintro e qN⟨rfl,h1,h2⟩;replace aF:=aF.call h2 h1;clear h1 h2 cg
  obtain⟨te,za⟩:∃x,x=(cQ t5 tx).1:=⟨_,rfl⟩;obtain⟨qL,oP⟩:∃x,x=(cQ t5 tx).2:=⟨_,rfl⟩;rw[<-za];rw[<-oP]at aF;have Aa:=O za;have zb:=O oP;clear za oP;have E8:qN.cell? ⟨N,16,none⟩=some (.string ⟨#[]⟩):=aF.cell 16 rfl;have f16:qN.frozen? ⟨N,16,none⟩=false:=aF.free 16;have E9:qN.cell? ⟨N,17,none⟩=some (.string ⟨#[]⟩):=aF.cell 17 rfl;have f17:qN.frozen? ⟨N,17,none⟩=false:=aF.free 17;have HS:=O aF;clear aF
  go_wp2_with fail
  have aF:dD U b N R qL [.int .i64 (wrap64 (1+(a:Int))),.int .i64 (p:Int),.bool c.ao,.string c.host,.int .i64 c.port,.bool d.ao,.string d.host,.int .i64 d.port,.string ta,.string ⟨#[]⟩,.string tb,(.slice (some ⟨ir.heap.size,0,none⟩) 1 1),.bool ((h:Int)==1),.string ⟨#[]⟩,.bool ((i:Int)==3),.string tc,.string td,.string te,.string ⟨#[]⟩,.int .i64 0,.bool false,.int .i64 0] (.slice (some ⟨ir.heap.size,0,none⟩) 1 1) [(nm,⟨#[116,101,120,116,47,104,116,109,108]⟩)] ((qN.setCell ⟨N,16,none⟩ (.string td)).setCell ⟨N,17,none⟩ (.string te)):=((HS.o.set 16 (.string td)).set 17 (.string te))
  have hu:∃x,x=((qN.setCell ⟨N,16,none⟩ (.string td)).setCell ⟨N,17,none⟩ (.string te)):=⟨_,rfl⟩;obtain⟨uD,hu⟩:=hu;rw[<-hu]at aF;have HU:=O hu;have cg:=O aF;clear hu aF HS E8 f16 E9 f17;rw[show qN.heap.size=uD.heap.size by rw[HU.o];simp];rw[<-HU.o];clear HU;have aF:=cg.o.alloc (.cells (t6.map Value.string).toArray 9)
  change Calls _ _ #[.pointer (some ⟨b,0,none⟩),.slice (some ⟨uD.heap.size,0,none⟩) t6.length _] (uD.alloc (.cells (t6.map Value.string).toArray 9)) _;refine(dF _ b uD.heap.size _ qL t6 ae ae aF.fj (di uD t6 9) (fun e=>by have:=aJ cg.o.fj;omega)).mono ?_;rintro e Ah⟨rfl,h1,h2⟩;replace aF:=aF.call h2 h1;clear h1 h2 cg;obtain⟨tf,zc⟩:∃x,x=(cQ t6 qL).1:=⟨_,rfl⟩;obtain⟨oK,oQ⟩:∃x,x=(cQ t6 qL).2:=⟨_,rfl⟩
  rw[<-zc];rw[<-oQ]at aF;have Ab:=O zc;have zd:=O oQ;clear zc oQ;have E_:Ah.cell? ⟨N,18,none⟩=some (.string ⟨#[]⟩):=aF.cell 18 rfl;have f18:Ah.frozen? ⟨N,18,none⟩=false:=aF.free 18;have HS:=O aF;clear aF;go_wp2_with fail
  have aF:dD U b N R oK [.int .i64 (wrap64 (1+(a:Int))),.int .i64 (p:Int),.bool c.ao,.string c.host,.int .i64 c.port,.bool d.ao,.string d.host,.int .i64 d.port,.string ta,.string ⟨#[]⟩,.string tb,(.slice (some ⟨ir.heap.size,0,none⟩) 1 1),.bool ((h:Int)==1),.string ⟨#[]⟩,.bool ((i:Int)==3),.string tc,.string td,.string te,.string tf,.int .i64 0,.bool false,.int .i64 0] (.slice (some ⟨ir.heap.size,0,none⟩) 1 1) [(nm,⟨#[116,101,120,116,47,104,116,109,108]⟩)] (Ah.setCell ⟨N,18,none⟩ (.string tf)):=(HS.o.set 18 (.string tf))
  have hu:∃x,x=(Ah.setCell ⟨N,18,none⟩ (.string tf)):=⟨_,rfl⟩;obtain⟨Ai,hu⟩:=hu;rw[<-hu]at aF;have HU:=O hu;have cg:=O aF;clear hu aF HS E_ f18;rw[<-HU.o];clear HU;refine(cG Ai b oK 4 ae ae cg.o.fj).mono ?_;rintro e Aj⟨rfl,h1,h2⟩;have aF:=cg.o.call h2 h1;have HL:=O (dQ (n:=4) ae oK);clear h1 h2 cg;obtain⟨ca,ze⟩:∃x,x=(cY 4 oK).1:=⟨_,rfl⟩;obtain⟨oL,oT⟩:∃x,x=(cY 4 oK).2:=⟨_,rfl⟩;rw[<-ze]at HL ⊢
  rw[<-oT]at aF;have Ac:=O ze;have zf:=O oT;clear ze oT;have E':Aj.cell? ⟨N,19,none⟩=some (.int .i64 0):=aF.cell 19 rfl;have f19:Aj.frozen? ⟨N,19,none⟩=false:=aF.free 19;have HS:=O aF;clear aF;go_wp2_with fail
  have aF:dD U b N R oL [.int .i64 (wrap64 (1+(a:Int))),.int .i64 (p:Int),.bool c.ao,.string c.host,.int .i64 c.port,.bool d.ao,.string d.host,.int .i64 d.port,.string ta,.string ⟨#[]⟩,.string tb,(.slice (some ⟨ir.heap.size,0,none⟩) 1 1),.bool ((h:Int)==1),.string ⟨#[]⟩,.bool ((i:Int)==3),.string tc,.string td,.string te,.string tf,.int .i64 (ca:Int),.bool false,.int .i64 0] (.slice (some ⟨ir.heap.size,0,none⟩) 1 1) [(nm,⟨#[116,101,120,116,47,104,116,109,108]⟩)] (Aj.setCell ⟨N,19,none⟩ (.int .i64 (ca:Int))):=(HS.o.set 19 (.int .i64 (ca:Int)))
  have hu:∃x,x=(Aj.setCell ⟨N,19,none⟩ (.int .i64 (ca:Int))):=⟨_,rfl⟩;obtain⟨Ak,hu⟩:=hu;rw[<-hu]at aF;have HU:=O hu;have cg:=O aF;clear hu aF HS E' f19;rw[<-HU.o];clear HU;refine(cG Ak b oL 4 ae ae cg.o.fj).mono ?_;rintro e Al⟨rfl,h1,h2⟩;have aF:=cg.o.call h2 h1;have HL:=O (dQ (n:=4) ae oL);clear h1 h2 cg;obtain⟨al,zg⟩:∃x,x=(cY 4 oL).1:=⟨_,rfl⟩;obtain⟨oM,oU⟩:∃x,x=(cY 4 oL).2:=⟨_,rfl⟩;rw[<-zg]at HL ⊢
  rw[<-oU]at aF;have Ck:=O zg;have zh:=O oU;clear zg oU;have Fa:Al.cell? ⟨N,20,none⟩=some (.bool false):=aF.cell 20 rfl;have f20:Al.frozen? ⟨N,20,none⟩=false:=aF.free 20;have HS:=O aF;clear aF;go_wp2_with fail
  have aF:dD U b N R oM [.int .i64 (wrap64 (1+(a:Int))),.int .i64 (p:Int),.bool c.ao,.string c.host,.int .i64 c.port,.bool d.ao,.string d.host,.int .i64 d.port,.string ta,.string ⟨#[]⟩,.string tb,(.slice (some ⟨ir.heap.size,0,none⟩) 1 1),.bool ((h:Int)==1),.string ⟨#[]⟩,.bool ((i:Int)==3),.string tc,.string td,.string te,.string tf,.int .i64 (ca:Int),.bool ((al:Int)==3),.int .i64 0] (.slice (some ⟨ir.heap.size,0,none⟩) 1 1) [(nm,⟨#[116,101,120,116,47,104,116,109,108]⟩)] (Al.setCell ⟨N,20,none⟩ (.bool ((al:Int)==3))):=(HS.o.set 20 (.bool ((al:Int)==3)))
  have hu:∃x,x=(Al.setCell ⟨N,20,none⟩ (.bool ((al:Int)==3))):=⟨_,rfl⟩;obtain⟨Am,hu⟩:=hu;rw[<-hu]at aF;have HU:=O hu;have cg:=O aF;clear hu aF HS Fa f20;rw[<-HU.o];clear HU;refine(cG Am b oM 10 ae ae cg.o.fj).mono ?_;rintro e Dr⟨rfl,h1,h2⟩;have aF:=cg.o.call h2 h1;have HL:=O (dQ (n:=10) ae oM);clear h1 h2 cg;obtain⟨q,hq⟩:∃x,x=(cY 10 oM).1:=⟨_,rfl⟩;obtain⟨r16,oV⟩:∃x,x=(cY 10 oM).2:=⟨_,rfl⟩
  rw[<-hq]at HL ⊢;rw[<-oV]at aF;have Hq:=O hq;have zi:=O oV;clear hq oV;have JF:Dr.cell? ⟨N,21,none⟩=some (.int .i64 0):=aF.cell 21 rfl;have f21:Dr.frozen? ⟨N,21,none⟩=false:=aF.free 21;have HS:=O aF;clear aF
  have aF:dD U b N R r16 [.int .i64 (wrap64 (1+(a:Int))),.int .i64 (p:Int),.bool c.ao,.string c.host,.int .i64 c.port,.bool d.ao,.string d.host,.int .i64 d.port,.string ta,.string ⟨#[]⟩,.string tb,(.slice (some ⟨ir.heap.size,0,none⟩) 1 1),.bool ((h:Int)==1),.string ⟨#[]⟩,.bool ((i:Int)==3),.string tc,.string td,.string te,.string tf,.int .i64 (ca:Int),.bool ((al:Int)==3),.int .i64 (q:Int)] (.slice (some ⟨ir.heap.size,0,none⟩) 1 1) [(nm,⟨#[116,101,120,116,47,104,116,109,108]⟩)] (Dr.setCell ⟨N,21,none⟩ (.int .i64 (q:Int))):=HS.o.set 21 _
  have HF:=O aF;clear aF HS
  obtain⟨X,hX⟩:∃X:Array Value,X= #[.int .i64 (wrap64 (1+(a:Int))),.int .i64 (p:Int),.bool c.ao,.string c.host,.int .i64 c.port,.bool d.ao,.string d.host,.int .i64 d.port,.string ta,.string ⟨#[]⟩,.string tb,(.slice (some ⟨ir.heap.size,0,none⟩) 1 1),.bool ((h:Int)==1),.string ⟨#[]⟩,.bool ((i:Int)==3),.string tc,.string td,.string te,.string tf,.int .i64 (ca:Int),.bool ((al:Int)==3),.int .i64 (q:Int)]:=⟨_,rfl⟩
  have HB:=O (show(Dr.setCell ⟨N,21,none⟩ (.int .i64 (q:Int))).heap[N]?=some (.cells X 35 (0,0))by rw[hX];exact HF.o.cR);have kU:=O (show X.size=22 by rw[hX];rfl);have HO:=O (show X.all (·.oneCell')=true by rw[hX];simp[Value.oneCell']);have HX:=O hX;clear hX
  go_wp2_with (first|((with_reducible refine dC 89 ?_);go_must(refine wpList_load_row rfl 35 (.tmp 3) rfl N rfl _ X (0,0) _ HB.o underlying35 rfl (gJ _ kU.o) ?_);go_must(refine wpList_store_row rfl 35 (.tmp 2) (.tmp 89) rfl R X rfl rfl 35 Dn HF.o.res (gJ _ kU.o) kU.o.symm HO.o ?_))|fail)
  refine bodyPost_ret (results_cell_row bq _ _ R 35 X (0,0) _ rfl (setRow_heap _ R _ _ _ _ HF.o.res) underlying35 rfl (gJ _ kU.o)) rfl ?_;exact tz (oJ Ha.o jD.o Hp.o kt.o Hc.o tA.o Hd.o sM.o Ci.o l7.o Cj.o mB.o Hk.o GL.o Hh.o E5.o Hi.o E6.o z8.o y9.o z_.o y_.o Aa.o zb.o Ab.o zd.o Ac.o zf.o Ck.o zh.o Hq.o zi.o) (by rw[JG.o];exact aj ab) HF.o _ _ (by rw[HX.o])
def o7(e:TypeId):Prop:=(bP e/\e≠88)/\e≠65/\e≠80/\e≠72/\e≠9
theorem wy:o7 3:=by unfold o7 bP;decide
theorem tI:o7 113:=by unfold o7 bP;decide
theorem l9:o7 51:=by unfold o7 bP;decide
section
variable {xw : Option (Nat × bu)} {base : Nat} {a U U' : World} {T : Nat} {t : cX}
theorem gU.zv{ws:Nat->Option (Nat×bu)}(h:gU base U ws)(hf:Fr S U U')(vV:∀n,S n->base<=n)(hk:∀n,S n->∃c e,U.heap[n]?=some (.cells c e (0,0))/\bP e/\e≠88/\e≠9):gU base U' ws:=by
 obtain⟨pv,h1,h2⟩:=h;refine⟨pv,fun i B x hi=>(h1 i B x hi).fr hf ?_ (fun k Cf e=>?_),h2⟩
 ·intro k hs _;obtain⟨c',e',q1,q2⟩:=hk k hs;exact⟨vV k hs,fun c f e=>by rw[q1]at e;cases e;exact q2.2.2 rfl⟩
 ·obtain⟨c',e',q1,q2⟩:=hk k e;exact(h1 i B x hi).j' q1 q2.1 q2.2.1 Cf
theorem aI.zv(h:aI xw a U T t)(hf:Fr S U U')(vV:∀n,S n->a.heap.size<=n)(hk:∀n,S n->∃c e,U.heap[n]?=some (.cells c e (0,0))/\o7 e):aI xw a U' T t:=by
 obtain⟨B,g,sv,sb,g1,g2,g3,g4⟩:=h.ex;obtain⟨d,hd,_⟩:=g1.cR;have hT:¬S T:=fun e=>by
  obtain⟨c,e',h1,h2⟩:=hk T e;rw[hd]at h1;cases h1;exact h2.2.2.2.1 rfl
 have ho:∀ {v:dK×List dP} {o:df},bW a.heap.size U v o->bW a.heap.size U' v o:=fun q=>q.rows (q.own.fr hf fun b hb hs=>by
  obtain⟨c,e',h1,h2⟩:=hk b hs;exact q.own.not h1 h2.2.1 hb)
 refine⟨⟨B,g,sv,sb,g1.fr hf hT,g2.zv hf vV (fun n hn=>?_),?_,fun m hm=>⟨fun hd=>ho ((g4 m hm).1 hd),(g4 m hm).2⟩⟩,h.low,h.fr.step hf fun k hk e=>?_⟩
 ·obtain⟨c,e,h1,h2⟩:=hk n hn;exact⟨c,e,h1,h2.1.1,h2.1.2,h2.2.2.2.2⟩
 ·obtain⟨es,e1,e2,e3⟩:=g3;exact⟨es,e1,e2.fr hf fun b hb hs=>by
   obtain⟨c,e',h1,h2⟩:=hk b hs;exact e2.not h1 h2.2.2.1 hb,fun x hx=>ho (e3 x hx)⟩
 ·have:=vV k e;omega
end
def kH(m:kh):B4:=⟨m.kind,m.tab,m.o.cH m.hs⟩
def p6(base:Nat)(U:World)(v:Value)(l:List B4):Prop :=
 ∃ms:List kh,ms.map kH=l/\OwnRows base 37 24 U v (ms.map kh.cells)/\∀m∈ms,bW base U (m.o,m.hs) (m.o.cH m.hs)
def zj:Value->Nat
 | .slice _ n _=>n
 |_=>0
def oW(U:World)(b:Nat)(s:aw)(v:Value)(wr:World):Prop :=
 ∃(r:aw) (l:List B4),zj v=l.length/\l.length<=400/\wr.heap[b]?=some (.cells #[.string ⟨r.toArray⟩] 61 (0,0))/\p6 U.heap.size wr v l/\Fr aU U wr/\du 400 s=l++du (400-l.length) r
structure fD (U:World) (b N:Nat) (v:Value) (ms:List kh) (m:kh) (r:aw) (W:World):Prop where
 cR:W.heap[N]?=some (.cells m.cells.toArray 37 (0,0))
 fj:W.heap[b]?=some (.cells #[.string ⟨r.toArray⟩] 61 (0,0))
 own:OwnRows U.heap.size 37 24 W v (ms.map kh.cells)
 ops:∀x∈ms,bW U.heap.size W (x.o,x.hs) (x.o.cH x.hs)
 op:bW U.heap.size W (m.o,m.hs) (m.o.cH m.hs)
 fr:Fr aU U W
 hN:U.heap.size<=N
 hb:U.heap.size<=b
 Ao:b≠N
 hv:∀g,v.ownBlock=some g->g≠N
namespace fD
variable {U W u : World} {b N : Nat} {v : Value} {ms : List kh} {m m' : kh} {r r' : List UInt8}
theorem set(h:fD U b N v ms m r W)(g:Fr (one N) W u)(hk:u.heap[N]?=some (.cells m'.cells.toArray 37 (0,0)))(ho:m'.o=m.o/\m'.hs=m.hs):fD U b N v ms m' r u :=
 ⟨hk,g.keep h.fj (fun e=>h.Ao e),h.own.fr g fun n hn e=>h.hv n hn e,fun x hx=>(h.ops x hx).one h.cR ae g,by rw[ho.1,ho.2];exact h.op.one h.cR ae g,h.fr.step g fun k hk e=>by have e':k=N:=e;have:=h.hN;omega,h.hN,h.hb,h.Ao,h.hv⟩
theorem call(h:fD U b N v ms m r W)(g:Fr (one b) W u)(hk:u.heap[b]?=some (.cells #[.string ⟨r'.toArray⟩] 61 (0,0))):fD U b N v ms m r' u :=
 ⟨g.keep h.cR (fun e=>h.Ao (show N=b from e).symm),hk,h.own.fr g fun n hn e=>h.own.not h.fj ae (by rw[hn];exact ay some e),fun x hx=>(h.ops x hx).one h.fj ae g,h.op.one h.fj ae g,h.fr.step g fun k hk e=>by have e':k=b:=e;have:=h.hb;omega,h.hN,h.hb,h.Ao,h.hv⟩
theorem kind(h:fD U b N v ms m r W)(k:Int):fD U b N v ms {m with kind:=k} r (W.setCell ⟨N,0,none⟩ (.int .i64 k)) :=
 h.set ((Fr.refl (one N) W).setCell (p:=⟨N,0,none⟩) (fun _=>rfl) _) (by rw[ba h.cR];rfl) ⟨rfl,rfl⟩
theorem oper(h:fD U b N v ms m r W)(o:dK×List dP)(ho:bW U.heap.size W o (o.1.cH o.2)):fD U b N v ms {m with o:=o.1,hs:=o.2} r (W.setCells N 2 o.1.cells):=by
 have g:Fr (one N) W (W.setCells N 2 o.1.cells):=(Fr.refl (one N) W).setCells (fun _=>rfl) _ _;refine⟨?_,g.keep h.fj (fun e=>h.Ao e),h.own.fr g fun n hn e=>h.hv n hn e,fun x hx=>(h.ops x hx).one h.cR ae g,ho.one h.cR ae g,h.fr.step g fun k hk e=>by have e':k=N:=e;have:=h.hN;omega,h.hN,h.hb,h.Ao,h.hv⟩;rw[gN _ _ _ _ h.cR (ar 24)];rfl
theorem cell(h:fD U b N v ms m r W):W.cell? ⟨N,0,none⟩=some (.int .i64 m.kind):=by
 simp only[World.cell?,h.cR];rfl
theorem free(h:fD U b N v ms m r W):W.frozen? ⟨N,0,none⟩=false:=by simp[World.frozen?,h.cR]
end fD
theorem fD.there(h:fD U b N v ms m r W)(o:dK):W.there N 2 o.cells.toArray.size:=by
 intro j hj;have Gd:j<22:=hj;refine⟨?_,by simp[World.frozen?,h.cR]⟩;simp only[World.cell?,h.cR];have:(m.cells.toArray).size=24:=rfl;rw[Array.getElem?_eq_getElem ab];rfl
theorem fD.bo(h:fD U b N v ms m r W):∃a n c,m.o.ak.bo=.slice a n c:=by
 obtain⟨a,c,e⟩:=h.op.own.form;exact⟨a,_,c,e⟩
theorem nC:(prog.info? 37).map (fun i=>(i.zero,i.size,i.bytes))=some (some (.agg kf),24,288):=af
def zk(U:World)(b N:Nat)(v:Value)(ms:List kh)(k:Nat)(x:UInt8)(r:aw)(W:World):Prop :=
 ∃m r',fD U b N v ms m r' W/\du (k+1) (x :: r)=kH m :: du k r'
theorem zl(m:kh):Instr.fill (fun i=>some (i*24,24)) ((Array.range (1*24)).map ((Value.agg kf).cells[· %(Value.agg kf).cells.size]!)) [(0,.agg m.cells.toArray)]=some m.cells.toArray:=af
theorem oX(m:kh){a:Option Addr}{n c:Nat}(h:m.o.ak.bo=.slice a n c):∀u∈m.cells,u.oneCell'=true:=by
 intro u hu;rcases aD.1 hu with rfl|hu
 ·rfl
 rcases aD.1 hu with rfl|hu
 ·rfl
 exact tu m.o h u hu
def oY:dK:=⟨0,⟨0,⟨false,⟨#[]⟩,0⟩,⟨false,⟨#[]⟩,0⟩,⟨#[]⟩,⟨#[]⟩,⟨#[]⟩,.slice none 0 0,false,⟨#[]⟩⟩,false,⟨#[]⟩,⟨#[]⟩,⟨#[]⟩,⟨#[]⟩,0,false,0⟩
theorem v_(base:Nat)(U:World):bW base U (oY,[]) (oY.cH []) :=
 ⟨⟨(aV base 65 2 U).at,⟨ae,ae,aK⟩,ae,ae,ae,ae,ae,ae,ae,ae,ae,ae,ae,ae,ae,ae,ae,ae⟩,rfl,aV _ _ _ _⟩
theorem eN(x:Array Value)(h:x.size=24):(prog.info? 37).map (·.size)=some x.size:=by rw[h];kernel_rfl
theorem fD.start{U wr:World}{b:Nat}{v:Value}{ms:List kh}{r:aw}{S S':ai}{N:Nat}{X:Array Value}(k:Int)(rE:wr.heap[b]?=some (.cells #[.string S] 61 (0,0)))
  (bO:OwnRows U.heap.size 37 24 wr v (ms.map kh.cells))(fp:∀m∈ms,bW U.heap.size wr (m.o,m.hs) (m.o.cH m.hs))(hF:Fr aU U wr)(hb:U.heap.size<=b)(hS:S'=⟨r.toArray⟩)(hN:N=wr.heap.size)(hX:X=(kh.cells ⟨0,k,oY,[]⟩).toArray) :
  ((wr.setCell ⟨b,0,none⟩ (.string S')).alloc (.cells kf 37)).heap[N]?=some (.cells kf 37 (0,0))/\fD U b N v ms ⟨0,k,oY,[]⟩ r (((wr.setCell ⟨b,0,none⟩ (.string S')).alloc (.cells kf 37)).setRow N X):=by
 subst hS hX;have Ce:=aJ rE;have g1:Fr (one b) wr (wr.setCell ⟨b,0,none⟩ (.string ⟨r.toArray⟩)):=(Fr.refl (one b) wr).setCell (p:=⟨b,0,none⟩) (fun _=>rfl) _;have rv:(wr.setCell ⟨b,0,none⟩ (.string ⟨r.toArray⟩)).heap.size=wr.heap.size:=by simp[World.setCell]
 have kb:(wr.setCell ⟨b,0,none⟩ (.string ⟨r.toArray⟩)).heap[b]?=some (.cells #[.string ⟨r.toArray⟩] 61 (0,0)):=by rw[ba rE];rfl
 have kN:((wr.setCell ⟨b,0,none⟩ (.string ⟨r.toArray⟩)).alloc (.cells kf 37)).heap[N]?=some (.cells kf 37 (0,0)):=by rw[hN, <-rv];exact aB _ _
 refine⟨kN,?_⟩;have g2:Fr aU (wr.setCell ⟨b,0,none⟩ (.string ⟨r.toArray⟩)) (((wr.setCell ⟨b,0,none⟩ (.string ⟨r.toArray⟩)).alloc (.cells kf 37)).setRow N (kh.cells ⟨0,k,oY,[]⟩).toArray):=fH ((Fr.refl aU _).alloc _) (by rw[hN,rv];exact ar _) _;have p9:=bO.fr g1 fun n hn e=>bO.not rE ae (by rw[hn];exact ay some e);have Fc:U.heap.size<=N:=by rw[hN];exact hF.size
 have JH:=hF.step g1 fun q hq e=>by have e':q=b:=e;omega
 refine⟨gI kN,g2.keep kb (fun h=>h),p9.fr g2 fun _ _ h=>h,fun x hx=>((fp x hx).one rE ae g1).kept (cK g2),v_ _ _,JH.trans g2,Fc,hb,ab,fun g hg e=>?_⟩;obtain⟨c,hc⟩:=bO.jR hg;have:=aJ hc;omega
theorem oZ(U:World)(s:aw) :
  Calls prog 6 #[.string ⟨s.toArray⟩] U fun e w'=>∃v,e=.returned v/\p6 U.heap.size w' v (du 400 s)/\Fr aU U w':=by
 obtain⟨b,hb⟩:∃b,b=U.heap.size:=⟨_,rfl⟩;have aF:oW U b s (.slice none 0 0) (U.alloc (.cells #[.string ⟨s.toArray⟩] 61)):=⟨s,[],rfl,az _,by rw[hb];exact aB _ _,⟨[],rfl,aV _ _ _ _,aK⟩,(Fr.refl _ _).alloc _,rfl⟩;have HB:=O hb;clear hb;go_enter func6,ntmps6;go_wp2;rw[<-HB.o];go_loopw[3] (oW U b s) (fun v _=>400-zj v)
 case atStart=>exact aF
 case round =>
  obtain⟨r,l,hlen,zQ,rE,⟨ms,p_,bO,fp⟩,hF,wa⟩:=hrel;obtain⟨av,cv,hv⟩:=bO.form;rw[ag]at hv;subst hv;have Ds:=O (show ms.length=l.length from hlen);have JI:=O zQ;clear aF hlen zQ;cases r with
  |nil =>
   have c:wr.cell? ⟨b,0,none⟩=some (.string ⟨#[]⟩):=by simp[World.cell?,rE]
   have HE:=O (show du 400 s=l by rw[wa,pR,bH]);have HO:=O (show p6 U.heap.size wr (.slice av ms.length cv) l from⟨ms,p_,bO,fp⟩);have HF:=O hF;clear rE p_ bO fp hF wa;go_wp2;go_ret;rw[HE.o];exact⟨_,rfl,HO.o,HF.o⟩
  |cons x r =>
   obtain⟨S,hS⟩:∃S:ai,S=⟨(x :: r).toArray⟩:=⟨_,rfl⟩;rw[<-hS]at rE;have c:wr.cell? ⟨b,0,none⟩=some (.string S):=by simp[World.cell?,rE]
   have f:wr.frozen? ⟨b,0,none⟩=false:=by simp[World.frozen?,rE]
   have rv:S.size=r.length+1:=by rw[hS];rfl
   have h0:0<S.size:=ab;have C7:S.toList.isEmpty=false:=sX h0;have xA:=O rE;have GN:=O p_;have jr:=O bO;have we:=O fp;have HF:=O hF;have Cm:=O wa;have HS:=O hS;have HV:=O (show∀h:0<S.size,wrap64 (((S[0]'h).toNat:Nat):Int)=((x.toNat:Nat):Int)from fun h=>by
    have e:S[0]'h=x:=by subst hS;rfl
    rw[e];have:=x.toNat_lt;exact IntWalk.wrap64_in _ ab)
   clear rE p_ bO fp hF wa hS;by_cases h4:ms.length<400
   ·have yV:((ms.length:Nat):Int)<400:=ab;have once:True:=trivial;obtain⟨N,hN⟩:∃N,N=wr.heap.size:=⟨_,rfl⟩
    obtain⟨X,hX⟩:∃X:Array Value,X= #[.int .i64 0,.int .i64 ((x.toNat:Int)%6),.int .i64 0,.int .i64 0,.bool false,.string ⟨#[]⟩,.int .i64 0,.bool false,.string ⟨#[]⟩,.int .i64 0,.string ⟨#[]⟩,.string ⟨#[]⟩,.string ⟨#[]⟩,.slice none 0 0,.bool false,.string ⟨#[]⟩,.bool false,.string ⟨#[]⟩,.string ⟨#[]⟩,.string ⟨#[]⟩,.string ⟨#[]⟩,.int .i64 0,.bool false,.int .i64 0]:=⟨_,rfl⟩
    have cg:=O (fD.start (S':=S.extract 1 (r.length+1)) (r:=r) (X:=X) ((x.toNat:Int)%6) xA.o jr.o we.o HF.o (by rw[HB.o];exact ar _) (by rw[HS.o];exact kZ x r) hN hX);obtain⟨W1,qo⟩:∃W,W=((wr.setCell ⟨b,0,none⟩ (.string (S.extract 1 (r.length+1)))).alloc (.cells kf 37)).setRow N X:=⟨_,rfl⟩;have HD:=O (show fD U b N (.slice av ms.length cv) ms ⟨0,(x.toNat:Int)%6,oY,[]⟩ r W1 by rw[qo];exact cg.o.2)
    have rF:=O cg.o.1;have Dt:=O (show X.size=24 by rw[hX];rfl);have uz:=O (show X.all (·.oneCell')=true by rw[hX];exact all_oneCell_toArray (oX ⟨0,(x.toNat:Int)%6,oY,[]⟩ (a:=none) (n:=0) (c:=0) rfl));have HX:=O hX;have HN:=O hN;have Ap:=O qo;clear hX hN qo;obtain⟨q,hq⟩:∃q:Nat,q=x.toNat/6%4:=⟨_,rfl⟩;have HQ:=O (show(wrap64 ((x.toNat:Int)/6)).tmod 4=(q:Int)by
     have:=x.toNat_lt;rw[IntWalk.wrap64_in _ ab,hq];rfl)
    have Aq:=O hq;clear hq
    go_upto_block 2 with (first
     |((with_reducible refine dC 30 ?_);clear once;go_must(rw[HV.o]))
     |((with_reducible refine dp ⟨none,.store 37 _ _,_,_,_,_⟩ ?_)
       go_must(rw[<-HX.o])
       go_must(rw[<-HN.o])
       go_must(refine wpList_store_row rfl 37 (.tmp 6) (.tmp 36) rfl N X rfl rfl 37 kf rF.o (eN _ Dt.o) (by rw[Dt.o];rfl) uz.o ?_)
       go_must(rw[<-Ap.o]))
     |fail)
    rw[HQ.o]
    go_cut []from 39 to 51 (fun W4=>zk U b N (.slice av ms.length cv) ms (399-l.length) x r W4)
    case first =>
     have hd:=HD.o;have c0:W1.cell? ⟨N,0,none⟩=some (.int .i64 0):=hd.cell;have f0:=hd.free;by_cases h1:q=1
     ·have Du:(q:Int)=1:=ab;obtain⟨W2,oa⟩:∃W,W=W1.setCell ⟨N,0,none⟩ (.int .i64 1):=⟨_,rfl⟩;have iP:=hd.kind 1;rw[<-oa]at iP;have HC:=O (v8 W2 b r iP.fj);have tE:=O iP;have qH:=O oa;have zm:=O (show du (399-l.length+1) (x :: r)=⟨1,(x.toNat:Int)%6,(nN r).1⟩ :: du (399-l.length) (nN r).2 by
       show(if x.toNat/6%4=1 then _ else _)=_;rw[aq (Aq.o▸h1)];rfl)
      clear hd iP oa;go_wp2_with fail
      go_must(rw[<-qH.o])
      refine HC.o.mono ?_;rintro e W3⟨⟨o,hs⟩,rfl,ho,Cn,mY⟩;have xH:=tE.o.call mY Cn;have uE:bW U.heap.size W3 (o,hs) (nN r).1:=⟨ho.fit,ho.is,ho.own.mono (au xH.hN (Nat.le_of_lt (by have:=aJ tE.o.cR;exact this)))⟩;have Co:W3.there N 2 o.cells.toArray.size:=xH.there o;obtain⟨ah,ch,hh⟩:=ho.own.form;have GO:=O (show o.cells.toArray.all (·.oneCell')=true from all_oneCell_toArray (tu o hh))
      have kU:=O (show(prog.info? 35).map (·.size)=some o.cells.toArray.size from af);have GP:=O (xH.oper (o,hs) (by have q:=uE;rw[<-uE.is]at q;exact q));have JJ:=O uE.is;obtain⟨oc,qG⟩:∃oc,oc=o.cells:=⟨_,rfl⟩;have Ar:=O Co;rw[<-qG]at GO kU Ar GP;rw[<-qG];clear xH ho uE Co hh mY Cn qG;go_wp2_with (first
       |((with_reducible refine dp ⟨none,.store 35 _ _,_,_,_,_⟩ ?_)
         go_must(refine wpList_store_mid rfl 35 (.tmp 45) (.tmp 44) rfl N 2 oc.toArray rfl rfl Ar.o kU.o GO.o ?_))
       |fail)
      go_meet
      exact⟨_,_,GP.o,by rw[zm.o, <-JJ.o];rfl⟩
     ·have Du:¬(q:Int)=1:=ab;by_cases h2:q=2
      ·have Fe:(q:Int)=2:=ab;obtain⟨W2,oa⟩:∃W,W=W1.setCell ⟨N,0,none⟩ (.int .i64 2):=⟨_,rfl⟩;have iP:=hd.kind 2;rw[<-oa]at iP;have c2:W2.cell? ⟨N,0,none⟩=some (.int .i64 2):=iP.cell;have f2:=iP.free;by_cases h3:(x.toNat:Int)<128
       ·have zm:=O (show du (399-l.length+1) (x :: r)=⟨0,(x.toNat:Int)%6,sT⟩ :: du (399-l.length) r by
         show(if x.toNat/6%4=1 then _ else _)=_;rw[aj (Aq.o▸h1),aj (fun h=>h.2 ab)];rfl)
        have tE:=O (iP.kind 0);have qH:=O oa;clear hd iP oa h1 h2;go_wp2_with fail
        go_meet
        rw[<-qH.o];exact⟨_,_,tE.o,zm.o⟩
       ·have zm:=O (show du (399-l.length+1) (x :: r)=⟨2,(x.toNat:Int)%6,sT⟩ :: du (399-l.length) r by
         show(if x.toNat/6%4=1 then _ else _)=_;rw[aj (Aq.o▸h1),aq ⟨Aq.o▸h2,ab⟩];rfl)
        have tE:=O iP;have qH:=O oa;clear hd iP oa h1 h2;go_wp2_with fail
        go_meet
        rw[<-qH.o];exact⟨_,_,tE.o,zm.o⟩
      ·have Fe:¬(q:Int)=2:=ab;have zm:=O (show du (399-l.length+1) (x :: r)=⟨0,(x.toNat:Int)%6,sT⟩ :: du (399-l.length) r by
        show(if x.toNat/6%4=1 then _ else _)=_;rw[aj (Aq.o▸h1),aj (fun h=>h2 (Aq.o▸h.1))];rfl)
       have tE:=O hd;clear hd h1 h2;go_wp2_with fail
       go_meet
       exact⟨_,_,tE.o,zm.o⟩
    case rest =>
     obtain⟨m,r',hd,GQ⟩:=hcut;obtain⟨ah,nh,ch,hh⟩:=hd.bo;have GR:=O (oX m hh);have kU:=O (eN m.cells.toArray rfl);have Ff:=O hd.cR;have Dv:=O hd.own;have HD:=O hd;have JK:U.heap.size<=wc.heap.size:=hd.fr.size;have Fg:=O (show du 400 s=(l++[kH m])++du (399-l.length) r' by
      rw[Cm.o,show 400-l.length=399-l.length+1 by have:=Ds.o;omega,GQ,cD];rfl)
     obtain⟨y,hy⟩:∃y,y=m.cells:=⟨_,rfl⟩;have GS:=O (zl m);have nP:=O (show y.length=24 from by rw[hy];rfl);rw[<-hy]at GR kU Ff GS;have HY:=O hy;obtain⟨i0,qa,kO,gK,mv⟩:=info_parts nC;clear hd GQ hh hy;go_wp2_with (first
      |((with_reducible refine dp ⟨some 53,_,_,_,_,_⟩ ?_)
        go_must(refine wpList_load_row rfl 37 (.tmp 6) rfl N rfl _ y.toArray (0,0) _ Ff.o underlying37 rfl kU.o ?_)
        go_must(refine gV rfl 23 37 1 _ rfl (some 54) rfl y.toArray i0 (.agg kf) [(0,.agg y.toArray)] (by simp only[bF,bp,bQ];rfl) underlying23 qa kO (by rw[gK];decide) (by rw[gK];decide) (by rw[gK];exact GS.o) wc.heap.size rfl ?_))
      |(at_builtin
        go_must(refine fM rfl _ _ 23 37 rfl 24 288 (.agg kf) underlying23 nC rfl ae ae U.heap.size (.slice av ms.length cv) (ms.map kh.cells) rfl (Dv.o.alloc _) wc.heap.size 1 y rfl nP.o GR.o (fun i u hi=>by rw[World.cell?_alloc_mark];simpa using hi) (by rw[ag];omega) cw ?_)
        intro v5 w5 tF GU)
      |fail)
     have Dw:Fr (own (.slice av ms.length cv)) wc w5:=Fr.grown ((Fr.refl (own (.slice av ms.length cv)) wc).alloc _) GU (fun k hk _=>hk);obtain⟨a5,c5,GV⟩:=tF.form;rw[aS,ag,bR]at GV;subst GV;have key:∀ {x:dK×List dP} {p:df},bW U.heap.size wc x p->bW U.heap.size w5 x p:=fun q=>q.rows (q.own.fr Dw fun n hn Fh=>by
      obtain⟨c',wg⟩:=Dv.o.jR Fh;exact q.own.not wg ae hn)
     have aF:oW U b s (.slice a5 (ms.length+1) c5) w5:=⟨r',l++[kH m],by rw[aS];exact ay (· +1) Ds.o,by rw[aS,bR];have:=Ds.o;omega,Dw.keep HD.o.fj (fun e=>Dv.o.not HD.o.fj ae e),⟨ms++[m],by rw[bI,GN.o];rfl,by rw[bI];show OwnRows _ _ _ _ _ (_++[m.cells]);rw[<-HY.o];exact tF,fun x hx=>by
      rcases aE.1 hx with hx|hx
      ·exact key (HD.o.ops x hx)
      ·rcases aG.1 hx with rfl
       exact key HD.o.op⟩,HD.o.fr.step Dw fun k hk e=>by
       have:=Dv.o.block k e;omega,by
      rw[Fg.o,aS,bR,show 400-(l.length+1)=399-l.length from ab]⟩
     have Fi:=O aF;clear aF Dw tF GU;go_wp2;go_roundw
     case rel=>exact Fi.o
     case measure=>simp[zj];omega
   ·have yV:¬((ms.length:Nat):Int)<400:=ab;have HE:=O (show du 400 s=l by
     have e:l.length=400:=by have:=Ds.o;have:=JI.o;omega
     rw[Cm.o,e];exact bH l)
    go_wp2;go_ret;rw[HE.o];exact⟨_,rfl,⟨ms,GN.o,jr.o,we.o⟩,HF.o⟩
open Go.RowKit
def fY(n:Int):List Value:=[.int .i64 n]
theorem nD:(prog.info? 3).map (fun i=>(i.zero,i.size,i.bytes))=some (some (.int .i64 0),1,8):=af
def l_(base:Nat)(U:World)(V:Nat)(v:Value)(l:List Int)(e:Ending)(w':World):Prop :=
 e=.returned (.tuple #[])/\∃v',w'.heap[V]?=some (.cells #[v'] 113 (0,0))/\OwnRows base 3 1 w' v' (l.map fY)/\Fr (fun k=>k=V\/own v k) U w'
theorem qe{base:Nat}{V g cap:Nat}{l:List Int}{x:Int}(hg:W.ownsRow base 3 1 (.slice (some ⟨g,0,none⟩) (l.length+1) cap) (l.length+1) ((l.map fY).flatten++[.int .i64 x]))(hV:W.heap[V]?=some (.cells #[v] 113 (0,0)))(hF:Fr (own v) U W) :
  l_ base U V v (l++[x]) (.returned (.tuple #[])) (W.setCell ⟨V,0,none⟩ (.slice (some ⟨g,0,none⟩) (l.length+1) cap)):=by
 have ho:OwnRows base 3 1 W (.slice (some ⟨g,0,none⟩) (l.length+1) cap) ((l++[x]).map fY):=by
  refine⟨fun y hy=>?_,?_⟩
  ·obtain⟨n,_,rfl⟩:=List.mem_map.1 hy;exact⟨rfl,fun u hu=>by rcases aG.1 hu with rfl;rfl⟩
  ·have e:((l++[x]).map fY).length=l.length+1:=aK;have e2:((l++[x]).map fY).flatten=(l.map fY).flatten++[.int .i64 x]:=by simp[fY]
   rw[e,e2];exact hg
 have hs:Fr (one V) W (W.setCell ⟨V,0,none⟩ (.slice (some ⟨g,0,none⟩) (l.length+1) cap)):=(Fr.refl (one V) W).setCell (p:=⟨V,0,none⟩) (fun _=>rfl) _;refine⟨rfl,_,ba hV 0 _,ho.fr hs fun b hb e=>?_,((hF.mono fun _ _ h=>Or.inr h).step hs fun k hk e=>Or.inl e)⟩;exact ho.not hV ae (by rw[hb];exact ay some e)
section
variable {base : Nat} {U : World} {T o V : Nat} {v : Value} {l : List Int} {x : Int}
theorem zw(hV:U.heap[V]?=some (.cells #[v] 113 (0,0)))(hx:U.cell? ⟨T,o,none⟩=some (.int .i64 x))(bO:OwnRows base 3 1 U v (l.map fY))(hb:base<=U.heap.size)(hl:l.length<1000) :
  Calls prog 43 #[.pointer (some ⟨T,o,none⟩),.pointer (some ⟨V,0,none⟩)] U (l_ base U V v (l++[x])):=by
 obtain⟨i0,qa,kO,gK,mv⟩:=info_parts nD;obtain⟨av,cv,hv⟩:=bO.form;rw[ag]at hv;subst hv;have d1:U.cell? ⟨V,0,none⟩=some (.slice av l.length cv):=by simp[World.cell?,hV]
 have e1:U.frozen? ⟨V,0,none⟩=false:=by simp[World.frozen?,hV]
 have JW:=aJ hV;have hne:(Value.slice av l.length cv).ownBlock≠some V:=bO.not hV ae;have HV:=O hV;have HO:=O (show U.ownsRow base 3 1 (.slice av l.length cv) l.length (l.map fY).flatten by
  have h:=bO.2
  rwa [ag]at h)
 clear hV bO;go_enter func43,ntmps43
 go_region_law ((with_reducible refine pG ⟨some 8,_,_,_,_,_⟩ ?_)
                refine step_append_lies _ bq _ _ _ bq base 3 i0 _ 1 8 underlying113 qa kO gK mv rfl ab (.slice av l.length cv) l.length _ bq (by have Fs:=HO.o;repeat(first|exact Fs|apply World.ownsRow.alloc|apply World.ownsRow.drew)) ⟨U.heap.size,0,none⟩ 1 1 [.int .i64 x] bq bq (gA U [.int .i64 x] _) (by intro u hu;rcases aG.1 hu with rfl;rfl) ab fS ab cw (U.heap.size+1) aK ?_
                intro gg cap w4 eA gQ lx zx
                have nE:Fr (own (.slice av l.length cv)) U w4:=Fr.grown (by repeat(first|exact Fr.refl _ _|apply Fr.drew|apply Fr.alloc)) gQ (fun _ hk _=>hk)
                have b4:=nE.keep HV.o (fun e=>hne e)
                have k4:w4.cell? ⟨V,0,none⟩=some (.slice av l.length cv):=by simp[World.cell?,b4]
                have e4:w4.frozen? ⟨V,0,none⟩=false:=by simp[World.frozen?,b4])
 all_goals
  go_end0;exact qe eA b4 nE
theorem zy(hV:U.heap[V]?=some (.cells #[v] 113 (0,0)))(hx:U.cell? ⟨T,o,none⟩=some (.int .i64 x))(bO:OwnRows base 3 1 U v (l.map fY))(hb:base<=U.heap.size)(hl:l.length<1000) :
  Calls prog 44 #[.pointer (some ⟨T,o,none⟩),.pointer (some ⟨V,0,none⟩)] U (l_ base U V v (l++[x])):=by
 obtain⟨i0,qa,kO,gK,mv⟩:=info_parts nD;obtain⟨av,cv,hv⟩:=bO.form;rw[ag]at hv;subst hv;have d1:U.cell? ⟨V,0,none⟩=some (.slice av l.length cv):=by simp[World.cell?,hV]
 have e1:U.frozen? ⟨V,0,none⟩=false:=by simp[World.frozen?,hV]
 have JW:=aJ hV;have hne:(Value.slice av l.length cv).ownBlock≠some V:=bO.not hV ae;have HV:=O hV;have HO:=O (show U.ownsRow base 3 1 (.slice av l.length cv) l.length (l.map fY).flatten by
  have h:=bO.2
  rwa [ag]at h)
 clear hV bO;go_enter func44,ntmps44
 go_region_law ((with_reducible refine pG ⟨some 8,_,_,_,_,_⟩ ?_)
                refine step_append_lies _ bq _ _ _ bq base 3 i0 _ 1 8 underlying113 qa kO gK mv rfl ab (.slice av l.length cv) l.length _ bq (by have Fs:=HO.o;repeat(first|exact Fs|apply World.ownsRow.alloc|apply World.ownsRow.drew)) ⟨U.heap.size,0,none⟩ 1 1 [.int .i64 x] bq bq (gA U [.int .i64 x] _) (by intro u hu;rcases aG.1 hu with rfl;rfl) ab fS ab cw (U.heap.size+1) aK ?_
                intro gg cap w4 eA gQ lx zx
                have nE:Fr (own (.slice av l.length cv)) U w4:=Fr.grown (by repeat(first|exact Fr.refl _ _|apply Fr.drew|apply Fr.alloc)) gQ (fun _ hk _=>hk)
                have b4:=nE.keep HV.o (fun e=>hne e)
                have k4:w4.cell? ⟨V,0,none⟩=some (.slice av l.length cv):=by simp[World.cell?,b4]
                have e4:w4.frozen? ⟨V,0,none⟩=false:=by simp[World.frozen?,b4])
 all_goals
  go_end0;exact qe eA b4 nE
end
theorem tG(s m:ai):(s++m).data.toList=s.data.toList++m.data.toList:=by
 rw[ByteArray.data_append,Array.toList_append]
theorem ki(U:World)(s:ai) :
  Calls prog 6 #[.string s] U fun e w'=>∃v,e=.returned v/\p6 U.heap.size w' v (du 400 s.data.toList)/\Fr aU U w':=by
 have h:=oZ U s.data.toList
 rwa [show(⟨s.data.toList.toArray⟩:ai)=s from rfl]at h
def xI(u:World)(n:Nat)(i:Value)(wr:World):Prop:=∃k:Nat,k<=n/\i=.int .i64 k/\Fr aU u wr
theorem l8(o:ef)(pa qu:ai)(w:World):(binOp .neq 28 (.agg #[.bool o.ao,.string o.host,.int .i64 o.port,.string pa,.string qu]) (.agg #[.bool o.ao,.string o.host,.int .i64 o.port,.string pa,.string qu])).run prog w=.ok (.bool false) w:=by
 go_simp
theorem wj{x y:kh}(h:kH y=kH x):y.kind=x.kind/\y.tab=x.tab/\y.o.what=x.o.what/\y.o.ak.o=x.o.ak.o/\y.o.ak.path=x.o.ak.path/\y.o.ak.query=x.o.ak.query/\y.o.n=x.o.n:=by
 unfold kH dK.cH at h;simp only[B4.mk.injEq,df.mk.injEq]at h;obtain⟨h1,h2,h3,h4,h5,h6,h7,h8,h9,Jv,KV,KW,KX,KY,KZ,K0,K1,K2,K3,JL⟩:=h;exact⟨h1,h2,h3,h6,h7,h8,JL⟩
