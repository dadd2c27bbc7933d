/- Lemmas for the law's walk. -/
import Derived.Test.YtnckmcnffadjoaaGreatDoorPm3
import Derived.Deep.RegionHeld3
import Derived.StillTailTactics
set_option maxRecDepth 100000
set_option maxHeartbeats 16000000
set_option linter.unusedSimpArgs false
namespace Go.Proofs.YtnckmcnffadjoaaGreatDoor
open Go.Proofs.Tryz
open Go.RowKit
variable {w w':World} {g b i fuel j:Nat} {k:IntKind} {t:TypeId} {cs:aX} {s:aj} {e:Ending}
def Dw:List Int:=[3614090360,3905402710,606105819,3250441966,4118548399,1200080426,2821735955,4249261313,1770035416,2336552879,4294925233,2304563134,1804603682,4254626195,2792965006,1236535329,4129170786,3225465664,643717713,3921069994,3593408605,38016083,3634488961,3889429448,568446438,3275163606,4107603335,1163531501,2850285829,4243563512,1735328473,2368359562,4294588738,2272392833,1839030562,4259657740,2763975236,1272893353,4139469664,3200236656,681279174,3936430074,3572445317,76029189,3654602809,3873151461,530742520,3299628645,4096336452,1126891415,2878612391,4237533241,1700485571,2399980690,4293915773,2240044497,1873313359,4264355552,2734768916,1309151649,4149444226,3174756917,718787259,3951481745]
def oO:List Nat:=[7,12,17,22,5,9,14,20,4,11,16,23,6,10,15,21]
def oP(w:World)(g:Nat)(k:IntKind)(zs:List Int):Prop:=g<w.heap.size/\∀(i:Nat) z,zs[i]?=some z->w.cell? ⟨g,i,none⟩=some (.int k z)
theorem oP.fr{zs:List Int}(h:oP w g k zs)(hf:Fr aS w w'):oP w' g k zs :=
 ⟨cP h.1 hf.size,fun i z hz=>(hf.cell (p:=⟨g,i,none⟩) h.1 id).trans (h.2 i z hz)⟩
structure uz (w:World):Prop where
 s:oP w 3 .u32 Dw
 t:oP w 4 .i64 (oO.map Int.ofNat)
theorem uz.fr(h:uz w)(hf:Fr aS w w'):uz w':=⟨h.s.fr hf,h.t.fr hf⟩
structure Md where
 a:Int
 b:Int
 c:Int
 d:Int
def Md.ok(s:Md):Prop:=(0<=s.a/\s.a<4294967296)/\(0<=s.b/\s.b<4294967296)/\(0<=s.c/\s.c<4294967296)/\(0<=s.d/\s.d<4294967296)
def Nq(x:Int):Int:=bits .xor .u32 IntKind.u32.max x
def mdF(r:Nat)(b c d:Int):Int:=match r with
 |0=>bits .or .u32 (bits .and .u32 b c) (bits .and .u32 (Nq b) d)
 |1=>bits .or .u32 (bits .and .u32 d b) (bits .and .u32 (Nq d) c)
 |2=>bits .xor .u32 (bits .xor .u32 b c) d
 |_=>bits .xor .u32 c (bits .or .u32 b (Nq d))
def Zg(r k:Nat):Nat:=match r with
 |0=>k
 |1=>(5*k+1)%16
 |2=>(3*k+5)%16
 |_=>7*k%16
def rG(X:aI)(k:Nat)(s:Md):Md :=
 ⟨s.d,(s.b+l_ ((mdF (k/16) s.b s.c s.d+(s.a+Dw.getD k 0+qL true (X.drop (4*Zg (k/16) k))))%4294967296) (oO.getD (k/16*4+k%4) 0))%4294967296,s.b,s.c⟩
def kY(X:aI)(h:Md):Nat->Md
 |0=>h
 |k+1=>rG X k (kY X h k)
def CD(X:aI)(h:Md):Md :=
 ⟨(h.a+(kY X h 64).a)%4294967296,(h.b+(kY X h 64).b)%4294967296,(h.c+(kY X h 64).c)%4294967296,(h.d+(kY X h 64).d)%4294967296⟩
def md0:Md:=⟨1732584193,4023233417,2562383102,271733878⟩
def yd(T:aI):Nat->Md
 |0=>md0
 |k+1=>CD (T.drop (64*k)) (yd T k)
def Md.list(s:Md):List Int:=[s.a,s.b,s.c,s.d]
def KB(l:aI):aI:=oN true (yd (vg true l) ((vg true l).length/64)).list
theorem AR(x:Int):0<=x%4294967296/\x%4294967296<4294967296:=⟨Int.emod_nonneg _ ag,Int.emod_lt_of_pos _ ag⟩
theorem Q8{X:aI}{k:Nat}{s:Md}(h:s.ok):(rG X k s).ok:=⟨h.2.2.2,AR _,h.2.1,h.2.2.1⟩
theorem Dx{X:aI}{h:Md}(ho:h.ok):∀k,(kY X h k).ok
 |0=>ho
 |k+1=>Q8 (Dx ho k)
theorem Nr(X:aI)(h:Md):(CD X h).ok:=⟨AR _,AR _,AR _,AR _⟩
theorem ads:md0.ok:=by unfold Md.ok md0;decide
theorem PQ(T:aI):∀k,(yd T k).ok
 |0=>ads
 |_+1=>Nr _ _
theorem zq:∀i:Fin 16,bits .and .u64 ((oO.getD i.val 0:Nat):Int) 31=((oO.getD i.val 0:Nat):Int)/\oO.getD i.val 0<32:=du
theorem KC(dQ:Bool)(l:aI):(vg dQ l).length%64=0/\(vg dQ l).length<=l.length+128:=by
 unfold vg;simp only[aN,fj,ny,List.length_cons,List.length_nil];omega
theorem kC(T:aj)(i:Nat):(T.extract i T.size).data.toList=T.data.toList.drop i:=by
 rw[Lib.extract_data,aD aR]
theorem jE(T:aj)(i:Nat):(T.extract i T.size).size=T.size-i:=by
 have h:(T.extract i T.size).data.toList.length=(T.extract i T.size).size:=rfl;rw[<-h,kC,bK];simp
theorem PR(T:aj)(i j:Nat):(T.extract i T.size).extract j (T.extract i T.size).size=T.extract (i+j) T.size:=by
 apply Go.WideShapes.bytes_inj;rw[kC,kC,kC,eB]
theorem tU{cur:bS}{f:Nat×Nat}(h:w.heap[b]?=some (.cells cur t f))(o:Nat)(v:Value):(w.setCell ⟨b,o,none⟩ v).heap[b]?=some (.cells (cur.setIfInBounds o v) t f):=by
 simp[World.setCell,Array.getElem?_modify,h]
def tq(w:World)(g:Nat)(h:Md):Prop:=w.heap[g]?=some (.cells #[.int .u32 h.a,.int .u32 h.b,.int .u32 h.c,.int .u32 h.d] 298 (0,0))
def ahv(T:aj)(g:Nat)(w:World)(t:Value)(wr:World):Prop:=∃k:Nat,64*k<=T.size/\t=.string (T.extract (64*k) T.size)/\tq wr g (yd T.data.toList k)/\Fr aS w wr
def anu(X:aI)(h:Md)(g:Nat)(w:World)(a b c d i:Value)(wr:World):Prop :=
 ∃k:Nat,k<=64/\i=.int .i64 k/\a=.int .u32 (kY X h k).a/\b=.int .u32 (kY X h k).b/\c=.int .u32 (kY X h k).c/\d=.int .u32 (kY X h k).d/\tq wr g h/\Fr aS w wr
theorem Zh(s:aj)(w:World)(hs:s.size<4398046511104)(ht:uz w) :
  aB 209 #[.string s] w fun e w'=>e=.returned (.string ⟨(KB s.data.toList).toArray⟩)/\Fr aS w w':=by
 have gS:Fr aS w (w.alloc (.cells #[.int .u32 1732584193,.int .u32 4023233417,.int .u32 2562383102,.int .u32 271733878] 298)):=(ae aS w).alloc _;have YO:tq (w.alloc (.cells #[.int .u32 1732584193,.int .u32 4023233417,.int .u32 2562383102,.int .u32 271733878] 298)) w.heap.size md0:=aC _ _;have HM0:=O YO;clear YO;go_enter func209,ntmps209;go_wp2_with fail
 refine(PO s true _ ab).mono ?_;rintro e w1⟨rfl,dr⟩;obtain⟨T,hT⟩:∃T,T=(⟨(vg true s.data.toList).toArray⟩:aj):=⟨_,rfl⟩;rw[<-hT];have hTl:T.data.toList=vg true s.data.toList:=by rw[hT]
 have hTs:T.size=(vg true s.data.toList).length:=by rw[<-hTl];simp
 obtain⟨adu,UF⟩:=KC true s.data.toList;rw[<-hTs]at adu UF;have MQ:s.data.toList.length=s.size:=aR;rw[MQ]at UF;have Dy:=O (show KB s.data.toList=oN true (yd T.data.toList (T.size/64)).list by unfold KB;rw[hTl,hTs]);have HM1:=O (show tq w1 w.heap.size md0 from dr.keep HM0.o id);have lC:=O (gS.trans dr);clear hT hTl hTs HM0 gS dr MQ;go_wp2
 go_loopw[4] (ahv T w.heap.size w) (fun t _=>match t with| .string x=>x.size|_=>0)
 case atStart=>exact⟨0,ab,by rw[Nat.mul_zero];congr 1;apply Go.WideShapes.bytes_inj;rw[kC];rfl,HM1.o,lC.o⟩
 case round =>
  obtain⟨n,hn,rfl,hm,cL⟩:=hrel;by_cases hne:64*n<T.size
  ·have UG:64<=(T.extract (64*n) T.size).size:=by rw[jE];omega
   have anw:(T.extract (64*n) T.size).size<17592186044416:=by rw[jE];omega
   have qe:=O (PR T (64*n) 64);have hXl:=O (kC T (64*n));have hXm:=O (jE T (64*n));generalize T.extract (64*n) T.size=X at *
   have hx:X.toList.isEmpty=false:=by
    rw[aO];cases hq:X.data.toList with
    |nil=>rw[gX.1 hq]at UG;omega
    |cons a l=>rfl
   have Ug:¬X.toList=[]:=by rw[aO];intro h;rw[gX.1 h]at UG;omega
   have HM:=O hm;have h0:wr.cell? ⟨w.heap.size,0,none⟩=some (.int .u32 (yd T.data.toList n).a):=by unfold tq at hm;simp[World.cell?,hm]
   have h1:wr.cell? ⟨w.heap.size,1,none⟩=some (.int .u32 (yd T.data.toList n).b):=by unfold tq at hm;simp[World.cell?,hm]
   have h2:wr.cell? ⟨w.heap.size,2,none⟩=some (.int .u32 (yd T.data.toList n).c):=by unfold tq at hm;simp[World.cell?,hm]
   have h3:wr.cell? ⟨w.heap.size,3,none⟩=some (.int .u32 (yd T.data.toList n).d):=by unfold tq at hm;simp[World.cell?,hm]
   have pY:=O (show yd T.data.toList (n+1)=CD X.data.toList (yd T.data.toList n)by rw[hXl.o];rfl);have CE:=O (PQ T.data.toList n);generalize yd T.data.toList n=H at *
   clear hm;go_wp2;go_quiet (fail);clear h0 h1 h2 h3;go_wp2;go_loopw[5,6,7,8,27] (anu X.data.toList H w.heap.size w) (fun _ _ _ _ i _=>64-(intOf i).toNat)
   case atStart=>exact⟨0,ab,rfl,rfl,rfl,rfl,rfl,by exact HM.o,by first|exact cL|exact cL.drewN _⟩
   case round =>
    obtain⟨k,hk,rfl,rfl,rfl,rfl,rfl,hm,jq⟩:=hrel;obtain⟨⟨a0,a1⟩,⟨b0,b1⟩,⟨c0,c1⟩,⟨d0,d1⟩⟩:=Dx (X:=X.data.toList) CE.o k;have HM2:=O hm;have CV:=O (show kY X.data.toList H (k+1)=rG X.data.toList k (kY X.data.toList H k)from rfl)
    have H64:=O (show k=64->CD X.data.toList H=⟨(H.a+(kY X.data.toList H k).a)%4294967296,(H.b+(kY X.data.toList H k).b)%4294967296,(H.c+(kY X.data.toList H k).c)%4294967296,(H.d+(kY X.data.toList H k).d)%4294967296⟩from fun h=>by subst h;rfl);generalize kY X.data.toList H k=M at *
    clear hm;by_cases Kv:k<64
    ·have auL:(k:Int)<64:=ab;obtain⟨z,hz⟩:∃z,Dw[k]?=some z:=⟨_,List.getElem?_eq_getElem (by show k<64;omega)⟩;have Ih:=O ((ht.fr jq).s.2 k z hz);have hzd:=O (show Dw.getD k 0=z by rw[List.getD_eq_getElem?_getD,hz];rfl);obtain⟨m,hmm⟩:∃m:Nat,(k:Int)%4=(m:Int):=⟨k%4,ab⟩;have hm4:m<4:=ab;have Zi:=O (show k%4=m from ab);clear hz;by_cases hr0:k<16
     ·have e1:(k:Int)/16=0:=ab;have vh:=O (show k/16=0 from ab);have hmg:=O (show Zg (k/16) k=k by rw[vh.o];rfl);obtain⟨wv,Fb⟩:∃wv,wv=qL true (X.extract (4*k) X.size).data.toList:=⟨_,rfl⟩;have sK:=O (fun W=>vT (X.extract (4*k) X.size) true W (by rw[jE];omega) (by rw[jE];omega));rw[<-Fb]at sK;have Zj:=O (show qL true (X.data.toList.drop (4*Zg (k/16) k))=wv by rw[hmg.o,Fb,kC]);clear Fb;go_wp2
      have qC:IntKind.i64.wrap (4*(k:Int))=4*(k:Int):=IntWalk.i64_in _ ab;have q0:(0:Int)<=(k:Int):=ab;have q1:(0:Int)<=4*(k:Int):=ab;have q2:4*(k:Int)<=(X.size:Int):=ab;have q3:4*k<=X.size:=ab;have q4:(4*(k:Int)).toNat=4*k:=ab;have Dz:=Ih.o;go_quiet ((go_at_call 239;exact Calls.quiet_of (sK.o _)));clear qC q0 q1 q2 q3 q4 Dz
      obtain⟨z2,lp⟩:∃z2,oO[m]?=some z2:=⟨_,List.getElem?_eq_getElem (by show m<16;omega)⟩;have htu:=(ht.fr (jq.drewN nq)).t.2 (m) (z2:Int) (by rw[List.getElem?_map,lp];rfl);have hzt:=O (show oO.getD (k/16*4+k%4) 0=z2 by rw[vh.o,Zi.o,show 0*4+m=m from ab,List.getD_eq_getElem?_getD,lp];rfl)
      obtain⟨kB,Ns⟩:bits .and .u64 (z2:Int) 31=(z2:Int)/\z2<32:=by have h:=zq ⟨m,ab⟩;simp only[List.getD_eq_getElem?_getD,lp,Option.getD_some]at h;exact h
      clear lp;have m0:(m:Int)<4:=ab;have Tp:=O (show tq (wr.drewN nq) w.heap.size H from HM2.o);have qD:=jq.drewN nq;generalize wr.drewN nq=wd at *
      go_wp2_with fail
      refine(CC _ (z2:Int) z2 wd ab ab kB Ns).mono ?_;rintro e w5⟨rfl,rfl⟩;have mj:=O (show rG X.data.toList k M=⟨M.d,(M.b+l_ ((mdF 0 M.b M.c M.d+(M.a+z+wv))%4294967296) z2)%4294967296,M.b,M.c⟩by unfold rG;rw[hzd.o,hzt.o,Zj.o,vh.o]);clear htu kB;go_wp2;go_roundw
      case rel=>exact⟨k+1,ab,bg,by rw[CV.o,mj.o],by rw[CV.o,mj.o];rfl,by rw[CV.o,mj.o],by rw[CV.o,mj.o],Tp.o,qD⟩
      case measure=>simp[intOf];omega
     ·by_cases yI:k<32
      ·have e1:(k:Int)/16=1:=ab;have vh:=O (show k/16=1 from ab);obtain⟨gg,XX⟩:∃gg:Nat,gg=(5*k+1)%16:=⟨_,rfl⟩;have ahy:gg<16:=ab;have XY:(5*(k:Int)+1)%16=(gg:Int):=ab;have hmg:=O (show Zg (k/16) k=gg by rw[vh.o,XX];rfl);obtain⟨wv,Fb⟩:∃wv,wv=qL true (X.extract (4*gg) X.size).data.toList:=⟨_,rfl⟩;have sK:=O (fun W=>vT (X.extract (4*gg) X.size) true W (by rw[jE];omega) (by rw[jE];omega));rw[<-Fb]at sK
       have Zj:=O (show qL true (X.data.toList.drop (4*Zg (k/16) k))=wv by rw[hmg.o,Fb,kC]);clear Fb XX;go_wp2;have qC:IntKind.i64.wrap (4*(gg:Int))=4*(gg:Int):=IntWalk.i64_in _ ab;have q0:(0:Int)<=(k:Int):=ab;have q1:(0:Int)<=4*(gg:Int):=ab;have q2:4*(gg:Int)<=(X.size:Int):=ab;have q3:4*gg<=X.size:=ab;have q4:(4*(gg:Int)).toNat=4*gg:=ab;have Dz:=Ih.o
       go_quiet ((go_at_call 239;exact Calls.quiet_of (sK.o _)));clear qC q0 q1 q2 q3 q4 Dz;obtain⟨z2,lp⟩:∃z2,oO[4+m]?=some z2:=⟨_,List.getElem?_eq_getElem (by show 4+m<16;omega)⟩;have htu:=(ht.fr (jq.drewN nq)).t.2 (4+m) (z2:Int) (by rw[List.getElem?_map,lp];rfl);have hzt:=O (show oO.getD (k/16*4+k%4) 0=z2 by rw[vh.o,Zi.o,show 1*4+m=4+m from ab,List.getD_eq_getElem?_getD,lp];rfl)
       obtain⟨kB,Ns⟩:bits .and .u64 (z2:Int) 31=(z2:Int)/\z2<32:=by have h:=zq ⟨4+m,ab⟩;simp only[List.getD_eq_getElem?_getD,lp,Option.getD_some]at h;exact h
       clear lp;have m0:(m:Int)<4:=ab;have Tp:=O (show tq (wr.drewN nq) w.heap.size H from HM2.o);have qD:=jq.drewN nq;generalize wr.drewN nq=wd at *
       go_wp2_with fail
       refine(CC _ (z2:Int) z2 wd ab ab kB Ns).mono ?_;rintro e w5⟨rfl,rfl⟩;have mj:=O (show rG X.data.toList k M=⟨M.d,(M.b+l_ ((mdF 1 M.b M.c M.d+(M.a+z+wv))%4294967296) z2)%4294967296,M.b,M.c⟩by unfold rG;rw[hzd.o,hzt.o,Zj.o,vh.o]);clear htu kB;go_wp2;go_roundw
       case rel=>exact⟨k+1,ab,bg,by rw[CV.o,mj.o],by rw[CV.o,mj.o];rfl,by rw[CV.o,mj.o],by rw[CV.o,mj.o],Tp.o,qD⟩
       case measure=>simp[intOf];omega
      ·by_cases ot:k<48
       ·have e1:(k:Int)/16=2:=ab;have vh:=O (show k/16=2 from ab);obtain⟨gg,XX⟩:∃gg:Nat,gg=(3*k+5)%16:=⟨_,rfl⟩;have ahy:gg<16:=ab;have XY:(3*(k:Int)+5)%16=(gg:Int):=ab;have hmg:=O (show Zg (k/16) k=gg by rw[vh.o,XX];rfl);obtain⟨wv,Fb⟩:∃wv,wv=qL true (X.extract (4*gg) X.size).data.toList:=⟨_,rfl⟩;have sK:=O (fun W=>vT (X.extract (4*gg) X.size) true W (by rw[jE];omega) (by rw[jE];omega));rw[<-Fb]at sK
        have Zj:=O (show qL true (X.data.toList.drop (4*Zg (k/16) k))=wv by rw[hmg.o,Fb,kC]);clear Fb XX;go_wp2;have qC:IntKind.i64.wrap (4*(gg:Int))=4*(gg:Int):=IntWalk.i64_in _ ab;have q0:(0:Int)<=(k:Int):=ab;have q1:(0:Int)<=4*(gg:Int):=ab;have q2:4*(gg:Int)<=(X.size:Int):=ab;have q3:4*gg<=X.size:=ab;have q4:(4*(gg:Int)).toNat=4*gg:=ab;have Dz:=Ih.o
        go_quiet ((go_at_call 239;exact Calls.quiet_of (sK.o _)));clear qC q0 q1 q2 q3 q4 Dz;obtain⟨z2,lp⟩:∃z2,oO[8+m]?=some z2:=⟨_,List.getElem?_eq_getElem (by show 8+m<16;omega)⟩;have htu:=(ht.fr (jq.drewN nq)).t.2 (8+m) (z2:Int) (by rw[List.getElem?_map,lp];rfl);have hzt:=O (show oO.getD (k/16*4+k%4) 0=z2 by rw[vh.o,Zi.o,show 2*4+m=8+m from ab,List.getD_eq_getElem?_getD,lp];rfl)
        obtain⟨kB,Ns⟩:bits .and .u64 (z2:Int) 31=(z2:Int)/\z2<32:=by have h:=zq ⟨8+m,ab⟩;simp only[List.getD_eq_getElem?_getD,lp,Option.getD_some]at h;exact h
        clear lp;have m0:(m:Int)<4:=ab;have Tp:=O (show tq (wr.drewN nq) w.heap.size H from HM2.o);have qD:=jq.drewN nq;generalize wr.drewN nq=wd at *
        go_wp2_with fail
        refine(CC _ (z2:Int) z2 wd ab ab kB Ns).mono ?_;rintro e w5⟨rfl,rfl⟩;have mj:=O (show rG X.data.toList k M=⟨M.d,(M.b+l_ ((mdF 2 M.b M.c M.d+(M.a+z+wv))%4294967296) z2)%4294967296,M.b,M.c⟩by unfold rG;rw[hzd.o,hzt.o,Zj.o,vh.o]);clear htu kB;go_wp2;go_roundw
        case rel=>exact⟨k+1,ab,bg,by rw[CV.o,mj.o],by rw[CV.o,mj.o];rfl,by rw[CV.o,mj.o],by rw[CV.o,mj.o],Tp.o,qD⟩
        case measure=>simp[intOf];omega
       ·have e1:(k:Int)/16=3:=ab;have vh:=O (show k/16=3 from ab);obtain⟨gg,XX⟩:∃gg:Nat,gg=7*k%16:=⟨_,rfl⟩;have ahy:gg<16:=ab;have XY:7*(k:Int)%16=(gg:Int):=ab;have hmg:=O (show Zg (k/16) k=gg by rw[vh.o,XX];rfl);obtain⟨wv,Fb⟩:∃wv,wv=qL true (X.extract (4*gg) X.size).data.toList:=⟨_,rfl⟩;have sK:=O (fun W=>vT (X.extract (4*gg) X.size) true W (by rw[jE];omega) (by rw[jE];omega));rw[<-Fb]at sK
        have Zj:=O (show qL true (X.data.toList.drop (4*Zg (k/16) k))=wv by rw[hmg.o,Fb,kC]);clear Fb XX;go_wp2;have qC:IntKind.i64.wrap (4*(gg:Int))=4*(gg:Int):=IntWalk.i64_in _ ab;have q0:(0:Int)<=(k:Int):=ab;have q1:(0:Int)<=4*(gg:Int):=ab;have q2:4*(gg:Int)<=(X.size:Int):=ab;have q3:4*gg<=X.size:=ab;have q4:(4*(gg:Int)).toNat=4*gg:=ab;have Dz:=Ih.o
        go_quiet ((go_at_call 239;exact Calls.quiet_of (sK.o _)));clear qC q0 q1 q2 q3 q4 Dz;obtain⟨z2,lp⟩:∃z2,oO[12+m]?=some z2:=⟨_,List.getElem?_eq_getElem (by show 12+m<16;omega)⟩;have htu:=(ht.fr (jq.drewN nq)).t.2 (12+m) (z2:Int) (by rw[List.getElem?_map,lp];rfl);have hzt:=O (show oO.getD (k/16*4+k%4) 0=z2 by rw[vh.o,Zi.o,show 3*4+m=12+m from ab,List.getD_eq_getElem?_getD,lp];rfl)
        obtain⟨kB,Ns⟩:bits .and .u64 (z2:Int) 31=(z2:Int)/\z2<32:=by have h:=zq ⟨12+m,ab⟩;simp only[List.getD_eq_getElem?_getD,lp,Option.getD_some]at h;exact h
        clear lp;have m0:(m:Int)<4:=ab;have Tp:=O (show tq (wr.drewN nq) w.heap.size H from HM2.o);have qD:=jq.drewN nq;generalize wr.drewN nq=wd at *
        go_wp2_with fail
        refine(CC _ (z2:Int) z2 wd ab ab kB Ns).mono ?_;rintro e w5⟨rfl,rfl⟩;have mj:=O (show rG X.data.toList k M=⟨M.d,(M.b+l_ ((mdF 3 M.b M.c M.d+(M.a+z+wv))%4294967296) z2)%4294967296,M.b,M.c⟩by unfold rG;rw[hzd.o,hzt.o,Zj.o,vh.o]);clear htu kB;go_wp2;go_roundw
        case rel=>exact⟨k+1,ab,bg,by rw[CV.o,mj.o],by rw[CV.o,mj.o];rfl,by rw[CV.o,mj.o],by rw[CV.o,mj.o],Tp.o,qD⟩
        case measure=>simp[intOf];omega
    ·have UH:k=64:=ab;subst UH;have vU:=HM2.o;have h0:wr.cell? ⟨w.heap.size,0,none⟩=some (.int .u32 H.a):=by unfold tq at vU;simp[World.cell?,vU]
     have h1:wr.cell? ⟨w.heap.size,1,none⟩=some (.int .u32 H.b):=by unfold tq at vU;simp[World.cell?,vU]
     have h2:wr.cell? ⟨w.heap.size,2,none⟩=some (.int .u32 H.c):=by unfold tq at vU;simp[World.cell?,vU]
     have h3:wr.cell? ⟨w.heap.size,3,none⟩=some (.int .u32 H.d):=by unfold tq at vU;simp[World.cell?,vU]
     have f0:wr.frozen? ⟨w.heap.size,0,none⟩=false:=by unfold tq at vU;simp[World.frozen?,vU]
     have f1:wr.frozen? ⟨w.heap.size,1,none⟩=false:=by unfold tq at vU;simp[World.frozen?,vU]
     have f2:wr.frozen? ⟨w.heap.size,2,none⟩=false:=by unfold tq at vU;simp[World.frozen?,vU]
     have f3:wr.frozen? ⟨w.heap.size,3,none⟩=false:=by unfold tq at vU;simp[World.frozen?,vU]
     clear vU;have anx:(64:Int)<=(X.size:Int):=ab;go_wp2;have Jv:wr.heap[w.heap.size]?=some (.cells #[.int .u32 H.a,.int .u32 H.b,.int .u32 H.c,.int .u32 H.d] 298 (0,0)):=HM2.o;have qf:=tU Jv 0 (.int .u32 ((H.a+M.a)%4294967296));have kB:=tU qf 1 (.int .u32 ((H.b+M.b)%4294967296));have tu:=tU kB 2 (.int .u32 ((H.c+M.c)%4294967296));have tV:=tU tu 3 (.int .u32 ((H.d+M.d)%4294967296))
     refine⟨⟨n+1,ab,?_,?_,(((jq.gJ (p:=⟨w.heap.size,0,none⟩) (ay _) _).gJ (p:=⟨w.heap.size,1,none⟩) (ay _) _).gJ (p:=⟨w.heap.size,2,none⟩) (ay _) _).gJ (p:=⟨w.heap.size,3,none⟩) (ay _) _⟩,?_⟩
     ·rw[qe.o];rfl
     ·rw[pY.o,H64.o rfl];exact tV
     ·show(X.extract 64 X.size).size<X.size;rw[jE];omega
  ·have AU:64*n=T.size:=ab;have he:(T.extract (64*n) T.size)=⟨#[]⟩:=by apply Go.WideShapes.bytes_inj;rw[kC,cQ bI]
   rw[he];have UI:=O (show yd T.data.toList (T.size/64)=yd T.data.toList n by rw[<-AU];congr 1;omega);have CE:=PQ T.data.toList n;generalize yd T.data.toList n=H at *
   have HM:=O hm;have TX:=O (BQ w.heap.size H.list true wr (by show 4<=8;omega) (bj hm) (fun j x hj=>by
    unfold tq at hm
    match j,hj with
    |0,hj=>simp[Md.list]at hj;subst hj;simp[World.cell?,hm]
    |1,hj=>simp[Md.list]at hj;subst hj;simp[World.cell?,hm]
    |2,hj=>simp[Md.list]at hj;subst hj;simp[World.cell?,hm]
    |3,hj=>simp[Md.list]at hj;subst hj;simp[World.cell?,hm]
    |j+4,hj=>simp[Md.list]at hj) (fun x hx=>by
    simp only[Md.list,bB,cz,dX]at hx;obtain⟨p0,p1,p2,p3⟩:=CE;rcases hx with rfl|rfl|rfl|rfl<;>assumption))
   clear hm CE;go_wp2_with fail
   refine TX.o.mono ?_;rintro e w5⟨rfl,lQ⟩;go_wp2;go_ret;exact⟨by rw[Dy.o,UI.o];rfl,cL.trans lQ⟩
def anQ(c:UInt8):Option Nat:=if 65<=c/\c<=90 then some (c.toNat-65)else if 97<=c/\c<=122 then some (c.toNat-71)else if 48<=c/\c<=57 then some (c.toNat+4)else if c=43 then some 62 else if c=47 then some 63 else none
def qv(l:aI):Nat->Nat
 |0=>0
 |j+1=>qv l j*64+(match l[j]? with|some c=>(anQ c).getD 0|none=>0)
theorem wT:∀(l:aI) (c:UInt8) (i:Nat),Lib.indexByte l c=(i:Int)->l=l.take i++c :: l.drop (i+1)/\c∉l.take i
 |[],c,i,h=>by simp[Lib.indexByte]at h
 |x :: l,c,i,h=>by
  have hge:=Lib.indexByte_ge l c;have h':(if x==c then(0:Int)else if Lib.indexByte l c== -1 then -1 else Lib.indexByte l c+1)=(i:Int):=h;by_cases hx:x=c
  ·rw[az (by simpa using hx)]at h';obtain rfl:i=0:=ab;subst hx;exact⟨rfl,aR⟩
  ·rw[aq (by simpa using hx)]at h';by_cases h1:Lib.indexByte l c= -1
   ·rw[az (by simpa using h1)]at h';omega
   ·rw[aq (by simpa using h1)]at h';obtain⟨j,rfl⟩:∃j,i=j+1:=⟨i-1,ab⟩;obtain⟨e1,e2⟩:=wT l c j ab;refine⟨?_,?_⟩
    ·show x :: l=x :: (l.take j++c :: l.drop (j+1));rw[<-e1]
    ·intro hc;rcases bB.1 hc with rfl|hc
     ·exact hx rfl
     ·exact e2 hc
theorem US{l:aI}{c:UInt8}(h:Lib.indexByte l c=(i:Int)):i<l.length:=by
 obtain⟨e,_⟩:=wT l c i h;have:=ar List.length e;simp at this;omega
def ja(c:UInt8)(s:aj):List aj:=(ec c s.data.toList).map fun l=>⟨l.toArray⟩
theorem oQ(s:aj)(a b:Nat):s.extract a b=⟨((s.data.toList.drop a).take (b-a)).toArray⟩:=by
 have h:=Lib.extract_data s a b;have h2:(s.extract a b).data=((s.data.toList.drop a).take (b-a)).toArray:=by rw[<-h]
 calc s.extract a b=⟨(s.extract a b).data⟩:=rfl
  _=_:=by rw[h2]
theorem DI(c:UInt8)(s:aj)(i:Nat)(h:Lib.indexByte s.data.toList c=(i:Int)):ja c s=s.extract 0 i :: ja c (s.extract (i+1) s.size):=by
 obtain⟨e,hn⟩:=wT _ _ _ h;unfold ja
 conv=>lhs;rw[e,CZ c _ _ hn,cE]
 rw[oQ,oQ,aD (l:=s.data.toList.drop (i+1)) aR];rfl
theorem BR(c:UInt8)(s:aj)(h:¬0<=Lib.indexByte s.data.toList c):ja c s=[s]:=by
 have hn:c∉s.data.toList:=fun hc=>(Hq _ _).1 h c hc rfl;unfold ja;rw[C0 c _ hn];rfl
theorem ye(s:aj)(c:UInt8):Lib.indexB s ⟨#[c]⟩=Lib.indexByte s.data.toList c:=by
 show Lib.index s.data.toList [c]=_;exact Lib.index_one _ _
theorem BS(c:UInt8):∀(k:Nat) (s:aj),Lib.countB s ⟨#[c]⟩=k->Lib.splitB ⟨#[c]⟩ 0 k s=ja c s
 |0,s,hk=>by
  rcases Lib.indexB_cases s ⟨#[c]⟩with wR|⟨i,wR,_⟩
  ·rw[Lib.splitB_zero,BR c s (by rw[<-ye,wR];decide)]
  ·have:=Lib.countB_hit s ⟨#[c]⟩ i (ay _) wR;omega
 |k+1,s,hk=>by
  rcases Lib.indexB_cases s ⟨#[c]⟩with wR|⟨i,wR,_⟩
  ·rw[Lib.countB_miss s ⟨#[c]⟩ wR]at hk;omega
  ·have hct:=Lib.countB_hit s ⟨#[c]⟩ i (ay _) wR;rw[Lib.splitB_hit _ 0 k s i wR,DI c s i (by rw[<-ye];exact wR)];have e:Lib.splitB ⟨#[c]⟩ 0 k (s.extract (i+(⟨#[c]⟩:aj).size) s.size)=ja c (s.extract (i+1) s.size):=BS c k (s.extract (i+1) s.size) (by
    have:Lib.countB (s.extract (i+(⟨#[c]⟩:aj).size) s.size) ⟨#[c]⟩=k:=ab;exact this)
   rw[e];rfl
theorem Nz(s:aj)(c:UInt8):Lib.countB s ⟨#[c]⟩=Lib.countByte s.data.toList c:=by
 show Lib.count s.data.toList [c]=_;exact Lib.count_one _ _
theorem yf(s:aj)(c:UInt8)(w:World)(hs:s.size<4294967281) :
  aB 125 #[.string s,.string ⟨#[c]⟩] w fun e w'=>e=.returned (.slice (some ⟨w.heap.size,0,none⟩) (ja c s).length (ja c s).length)/\w'=w.alloc (.cells ((ja c s).map Value.string).toArray 9):=by
 have pA:(1:Nat)<=(⟨#[c]⟩:aj).size:=ay _;have hle:=Lib.countB_le ⟨#[c]⟩ pA s.size s (ay _);have hlen:=Lib.splitB_all ⟨#[c]⟩ pA 0 _ s rfl;have qx:Lib.splitB ⟨#[c]⟩ 0 (Lib.countB s ⟨#[c]⟩) s=ja c s:=BS c _ s rfl;have k:aB 184 #[.string s,.string ⟨#[c]⟩,.int .i64 (0:Nat),.int .i64 (-1)] w fun e w' =>
   e=.returned (.slice (some ⟨w.heap.size,0,none⟩) (Lib.splitB ⟨#[c]⟩ 0 (Lib.countB s ⟨#[c]⟩+1-1) s).length (Lib.countB s ⟨#[c]⟩+1))/\w'=w.alloc (.cells (Lib.cellsOf (Lib.splitB ⟨#[c]⟩ 0 (Lib.countB s ⟨#[c]⟩+1-1) s) (Lib.countB s ⟨#[c]⟩+1)) 9) :=
  Any.strings_genSplit_core YG af s ⟨#[c]⟩ 0 (-1) (Lib.countB s ⟨#[c]⟩+1) w hs pA (aQ _)
   (fun x cc _=>(Any.strings_Index_one YB x c _).mono fun e w' ⟨he,hw⟩=>⟨by rw[he,ye],hw⟩)
   ((Any.strings_Count_one YD s c w).mono fun e w' ⟨he,hw⟩=>⟨by rw[he,Nz],hw⟩)
   ag ag (by rw[az ag];omega)
 rw[Nat.add_sub_cancel,hlen]at k;have e2:Lib.cellsOf (Lib.splitB ⟨#[c]⟩ 0 (Lib.countB s ⟨#[c]⟩) s) (Lib.countB s ⟨#[c]⟩+1)=((Lib.splitB ⟨#[c]⟩ 0 (Lib.countB s ⟨#[c]⟩) s).map Value.string).toArray:=by rw[<-hlen];exact Lib.cellsOf_full _
 rw[e2, <-hlen,qx]at k;go_enter func125,ntmps125;go_wp2_with fail
 refine k.mono ?_;rintro e w1⟨rfl,rfl⟩;go_wp2;go_ret;exact⟨rfl,rfl⟩
def within(path p:aj):Bool:=Lib.hasPrefix path.data.toList p.data.toList
theorem DL(path p:aj)(w:World) :
  aB 204 #[.string path,.string p] w fun e w'=>e=.returned (.bool (within path p))/\w=w':=by
 go_enter func204,ntmps204;go_wp2_with fail
 refine(strings_HasPrefix path p w).mono ?_;rintro e w'⟨rfl,rfl⟩;go_wp2;go_ret;exact⟨rfl,rfl⟩
def rM(path:aj)(ps:List aj)(n:Int):Int:=ps.foldl (fun n p=>if within path p then max n (p.size:Int)else n) n
def uD(g:gA)(gp:Bool)(ps:List aj)(o:gA)(proxy:Bool)(path:aj):Int:=if g.lj o&&gp==proxy then rM path ps (-1)else -1
theorem NI(path:aj)(ps:List aj)(p:aj)(n:Int):rM path (ps++[p]) n=if within path p then max (rM path ps n) (p.size:Int)else rM path ps n:=by simp[rM]
def U7(path:aj)(ps:List aj)(n i:Value):Prop:=∃k:Nat,k<=ps.length/\i=.int .i64 k/\n=.int .i64 (rM path (ps.take k) (-1))
theorem Rr(g:aP Value)(o:gA)(proxy:Bool)(path:aj)(ps:List aj)(w:World)(hp:fP w g.paths ps) :
  aB 154 #[.agg g.cells.toArray,.agg o.cells.toArray,.bool proxy,.string path] w fun e w'=>e=.returned (.int .i64 (uD g.o g.proxy ps o proxy path))/\Fr aS w w':=by
 have hne:=BH g.o o;unfold aP.cells gA.cells;obtain⟨av,cv,hv⟩:=hp.form;rw[hv]at hp ⊢;clear hv;cases e1:g.o.lj o
 ·have HR:=O (show uD g.o g.proxy ps o proxy path= -1 by unfold uD;rw[e1];rfl);go_enter func154,ntmps154;go_wp2;go_ret;exact⟨by rw[HR.o];rfl,((ae _ _).alloc _).alloc _⟩
 ·cases e2:g.proxy==proxy
  ·have HR:=O (show uD g.o g.proxy ps o proxy path= -1 by unfold uD;rw[e1,e2];rfl);have e2':(g.proxy !=proxy)=true:=by rw[bne,e2];rfl
   go_enter func154,ntmps154;go_wp2;go_ret;exact⟨by rw[HR.o];rfl,((ae _ _).alloc _).alloc _⟩
  ·have HR:=O (show uD g.o g.proxy ps o proxy path=rM path ps (-1)by unfold uD;rw[e1,e2];rfl);have e2':(g.proxy !=proxy)=false:=by rw[bne,e2];rfl
   go_enter func154,ntmps154;go_wp2;have hf:Fr aS w _:=((ae aS w).alloc (.cells #[.bool g.o.aE,.string g.o.host,.int .i64 g.o.port,.bool g.proxy,.string g.user,.string g.pass,.int .i64 g.a.scheme,.string g.a.aK,.string g.a.bq,.string g.a.cy,.bool g.a.cA,.string g.a.eH,.bool g.a.cN,g.a.dom,.int .i64 g.count,.slice av ps.length cv] 114)).alloc (.cells #[.bool o.aE,.string o.host,.int .i64 o.port] 32)
   have C_:=hp.fI hf;generalize (w.alloc _).alloc _=W at hf C_;clear hp hne e1 e2 e2'
   go_loop [9,26] (U7 path ps) (fun _ i=>ps.length-(intOf i).toNat)
   case atStart=>exact⟨0,aQ _,rfl,rfl⟩
   case round =>
    obtain⟨k,hk,rfl,rfl⟩:=hrel;by_cases fo:k<ps.length
    ·rcases C_ with ⟨_,_,_,e,_⟩|⟨bk,of,c,dr,h1,h2,h3,h4⟩
     ·rw[e]at fo;exact absurd fo (ct _)
     ·cases dr;unfold maxLen at h2;have dT:=O (List.getElem?_eq_getElem fo);have hc:=h4 k _ dT.o;generalize ps[k]=x at dT hc;have Jp:=O (show rM path (ps.take (k+1)) (-1)=if within path x then max (rM path (ps.take k) (-1)) (x.size:Int)else rM path (ps.take k) (-1)by rw[dZ dT.o,NI]);clear h4;generalize rM path (ps.take k) (-1)=n at *
      cases hw:within path x
      ·have adM:=O (show rM path (ps.take (k+1)) (-1)=n by rw[Jp.o,hw];rfl);go_wp2_with fail
       refine(DL path x W).mono ?_;rintro e w1⟨rfl,rfl⟩;rw[hw];go_wp2
       go_round
       case rel=>exact⟨k+1,ab,bg,by rw[adM.o]⟩
       case measure=>simp[intOf];omega
      ·have adM:=O (show rM path (ps.take (k+1)) (-1)=max n (x.size:Int)by rw[Jp.o,hw];rfl);go_wp2_with fail
       refine(DL path x W).mono ?_;rintro e w1⟨rfl,rfl⟩;rw[hw];go_wp2
       go_round
       case rel=>exact⟨k+1,ab,bg,by rw[adM.o]⟩
       case measure=>simp[intOf];omega
    ·have fg:=O (show rM path (ps.take k) (-1)=rM path ps (-1)by rw[aD ab]);go_wp2;go_ret;exact⟨by rw[HR.o,fg.o];rfl,hf⟩
def gP(S:dC)(w:World)(g:Nat)(cap:bS)(p:aX->Bool)(xs:cZ):Prop :=
 ∀x,x∈xs->∀u,Fr S w u->aB g (#[.agg x.toArray]++cap) u fun e u'=>e=.returned (.bool (p x))/\Fr aS u u'
theorem gP.none{S:dC}{cap:bS}{p:aX->Bool}{xs:cZ}(h:gP S w g cap p xs):gP aS w g cap p xs :=
 fun x hx u hu=>h x hx u (hu.mono (fun _ _ h=>absurd h id))
theorem jF{P:Program}(w:World)(t e ty:TypeId)(zs:bS)(ht:P.underlying t=some (.slice e))(hv:∀w,(zeroValue e).run P w=.ok (.agg zs) w)(hs:0<zs.size)(h1:∀v∈zs.toList,v.oneCell'=true)(b o n c:Nat)(hn:0<n)
  (hc:w.there b o (n*zs.size)) :
  (Builtin.clear_ #[t] ty #[.slice (some ⟨b,o,none⟩) n c]).run P w=.ok (.tuple #[]) (w.setCells b o (Builtin.zeroCells zs n).toList):=by
 have hl:(Builtin.zeroCells zs n).toList.length=n*zs.size:=by simp[Builtin.zeroCells]
 have ir:=run_storeCells_cells (P:=P) b o (Builtin.zeroCells zs n).toList 0 w (by rw[hl];intro j hj;exact(hc j hj).1) (by rw[hl];intro j hj;exact(hc j hj).2) (by
  intro v se;rw[Builtin.zeroCells,Array.mem_toList_iff,Array.mem_map]at se;obtain⟨i,_,rfl⟩:=se;have hm:=Nat.mod_lt i hs;rw[getElem!_pos zs _ hm];exact h1 _ aR)
 simp only[Nat.add_zero]at ir;obtain⟨m,rfl⟩:∃m,n=m+1:=⟨n-1,ab⟩;have MZ:(Value.agg zs).cells=zs:=rfl;simp[Builtin.clear_,run_underlying ht,hv,MZ,ir]
def t_:gA:=⟨true,⟨#[97,46,116,101,115,116]⟩,443⟩
theorem zT(w:World):aB 23 #[] w fun e w'=>e=.returned (.agg t_.cells.toArray)/\Fr aS w w':=by
 go_enter func23,ntmps23;go_wp2;refine aU (bu bC _ _ w.heap.size 32 #[.bool true,.string ⟨#[97,46,116,101,115,116]⟩,.int .i64 443] (0,0) _ rfl (aC _ _) underlying32 rfl af) rfl ?_;exact⟨rfl,(ae _ _).alloc _⟩
open Go.ChangeShapes Go.WideShapes Go.ChangeAt Go.RowKit Go.Deep
section
variable {H : Type} {enc : TypeId × Value → H} {P : Program} {W : World}
theorem xJ{e:TypeId}:∀ {l:List (DataW H)} {d:DataW H},d∈l->∀n∈d.weights P e,n∈DataW.weightsAll P e l
 |d' :: r,d,hd,n,hn=>by
  simp only[DataW.weightsAll,bR];rcases bB.1 hd with rfl|h
  ·exact Or.inl hn
  ·exact Or.inr (xJ h n hn)
def o_(P:Program)(t:TypeId)(d:DataW H):Prop:=∀n∈d.weights P t,n<=reachBytes
theorem nZ{fs:Array Field}{x:DataW H×List MemPlace}(ht:P.underlying t=some (.struct fs))(h:DataW.trod enc P W 0 (fun _=>true) true fuel t cs=some x) :
  cs.length=P.cellsOf t/\∃n,∀(i:Nat) (t':TypeId) (o k:Nat),fs[i]?.map (fun f=>(f.type,f.offset))=some (t',o)->P.cellsOf t'=k->∃y,DataW.trod enc P W 0 (fun _=>true) true n t' ((cs.drop o).take k)=some y/\(o_ P t x.1->o_ P t' y.1):=by
 obtain⟨xs,n,_,rfl,hl,ow,hf⟩:=DataW.trod_struct ht h;refine⟨hl,n,fun i t' o k he hk=>?_⟩;obtain⟨f,hi,e⟩:=Option.map_eq_some_iff.1 he;injection e with e1 e2
 subst e1 e2 hk;have uf:i<fs.size:=(Array.getElem?_eq_some_iff.1 hi).1;refine⟨xs[i],by rw[hf i f hi];exact List.getElem?_eq_getElem _,fun hL m hm=>hL m ?_⟩;simp only[DataW.weights,ht];refine DataW.weights_mem_each (j:=i) (t:=f.type) (d:=xs[i].1) ?_ ?_ m hm
 ·rw[List.getElem?_map,Array.getElem?_toList,hi];rfl
 ·rw[List.getElem?_map,List.getElem?_eq_getElem ab];rfl
theorem nN{x:DataW H×List MemPlace}(ht:P.underlying t=some .bool)(h:DataW.trod enc P W 0 (fun _=>true) true fuel t cs=some x):∃b,cs=[.bool b]:=by
 obtain⟨b,e,_⟩:=DataW.trod_bool ht h;exact⟨b,e⟩
theorem kG{x:DataW H×List MemPlace}(ht:P.underlying t=some (.int k))(h:DataW.trod enc P W 0 (fun _=>true) true fuel t cs=some x):∃n,cs=[.int k n]/\(Lit.int k n).wf=true:=by
 obtain⟨b,e,_,hw⟩:=DataW.trod_int ht h;exact⟨b,e,hw⟩
theorem ft{x:DataW H×List MemPlace}(ht:P.underlying t=some .string)(h:DataW.trod enc P W 0 (fun _=>true) true fuel t cs=some x) :
  ∃s:aj,cs=[.string s]/\(o_ P t x.1->s.size<=reachBytes):=by
 obtain⟨s,e,hx,_⟩:=DataW.trod_string ht h;refine⟨s,e,fun hL=>?_⟩;have:=hL s.data.toList.length (by rw[hx];simp[DataW.weights]);simpa using this
end
variable {H : Type} {enc : TypeId × Value → H} {W : World}
theorem uS:prog.cellsOf 4=1:=af
theorem pR:prog.cellsOf 3=1:=af
theorem iU:prog.cellsOf 9=1:=af
theorem Bv:prog.cellsOf 32=3:=af
def gA.Mo(o:gA):Prop:=o.host.size<=reachBytes
theorem aqA{α:Type}{l:List α}(h:l.length=3):∃a b c,l=[a,b,c]:=by
 match l,h with
 |[a,b,c],_=>exact⟨a,b,c,rfl⟩
theorem akH{α:Type}{l:List α}(h:l.length=2):∃a b,l=[a,b]:=by
 match l,h with
 |[a,b],_=>exact⟨a,b,rfl⟩
theorem Mp{x:DataW H×List MemPlace}(h:DataW.trod enc prog W 0 (fun _=>true) true fuel 32 cs=some x) :
  ∃o:gA,cs=o.cells/\(Lit.int .i64 o.port).wf=true/\(o_ prog 32 x.1->o.Mo):=by
 obtain⟨hl,n,hf⟩:=nZ underlying32 h;rw[Bv]at hl;obtain⟨c0,c1,c2,rfl⟩:=aqA hl;obtain⟨y0,h0,l0⟩:=hf 0 4 0 _ rfl uS;obtain⟨y1,h1,l1⟩:=hf 1 9 1 _ rfl iU;obtain⟨y2,h2,l2⟩:=hf 2 3 2 _ rfl pR;simp only[List.drop,List.take]at h0 h1 h2;obtain⟨b0,e0⟩:=nN underlying4 h0;obtain⟨b1,e1,w1⟩:=ft underlying9 h1;obtain⟨b2,e2,w2⟩:=kG underlying3 h2;simp at e0 e1 e2;subst e0 e1 e2
 exact⟨⟨b0,b1,b2⟩,rfl,w2,fun hL=>w1 (l1 hL)⟩
theorem Mq{P:Program}{ts:List TypeId}{ds:List (DataW H)}(yG:(DataW.weightsEach P ts ds).all (· <=reachBytes)=true){d:DataW H}(ht:ts[j]?=some t)(hd:ds[j]?=some d):o_ P t d:=fun n hn=>by
 have:=gB.1 yG n (DataW.weights_mem_each ht hd n hn);simpa using this
theorem vD{p:UInt8->Bool}{t:aI}(ht:∀c,t.head?=some c->p c=false):t.dropWhile p=t:=by
 cases t with
 |nil=>rfl
 |cons c t=>rw[List.dropWhile_cons_of_neg (by simp[ht c rfl])]
theorem jy.isOk{ws:List (aI)}(h:jy s w e w')(hl:g_ s.data.toList=.ok ws)(hn:ws.length<=40) :
  ∃v,e=.returned (.tuple #[v,.nilIface])/\Strs w.heap.size w' v (dU ws)/\Fr aS w w':=by
 obtain⟨v,er,he,hf,hm⟩:=h;rw[hl]at hm;have Hp:if 40<ws.length then v=.slice none 0 0/\FG w' er (some (4,none))else Strs w.heap.size w' v (dU ws)/\er=.nilIface:=hm
 rw[aq (show¬40<ws.length from ab)]at Hp;obtain⟨hv,hr⟩:=Hp;exact⟨v,by rw[he,hr],hv,hf⟩
theorem ic.isOk{a:aI}(h:ic b s i w e w')(hq:gN s.data.toList i=Option.some (a,j)) :
  e=.returned (.tuple #[.string ⟨a.toArray⟩,.bool true])/\dx w' b s j/\Fr (one b) w w':=by
 obtain⟨he,hc,hf⟩:=h;rw[hq]at he;have h1:nP s.data.toList i=a:=by simp[nP,hq]
 have h2:pE s.data.toList i=j:=by simp[pE,hq]
 rw[h1]at he;rw[h2]at hc;exact⟨he,hc,hf⟩
theorem ic.isNone(h:ic b s i w e w')(hq:gN s.data.toList i=Option.none) :
  e=.returned (.tuple #[.string ⟨#[]⟩,.bool false])/\dx w' b s i/\Fr (one b) w w':=by
 obtain⟨he,hc,hf⟩:=h;rw[hq]at he;have h1:nP s.data.toList i=[]:=by simp[nP,hq]
 have h2:pE s.data.toList i=i:=by simp[pE,hq]
 rw[h1]at he;rw[h2]at hc;exact⟨he,hc,hf⟩
def C6:aI:=[34,40,41,58,60,62,63,64,91,92,93,123,125]
def kh(c:UInt8):Bool:=(decide (c.toNat<32)&&!decide (c.toNat=9))||decide (c.toNat=127)||decide (0<=Lib.indexByte C6 c)
theorem Na(c:UInt8)(w:World) :
  aB 219 #[.int .u8 (c.toNat:Int)] w fun e w'=>e=.returned (.bool (kh c))/\w'=w:=by
 by_cases h1:c.toNat<32/\¬c.toNat=9
 ·obtain⟨h1,h2⟩:=h1;have hb:=O (show kh c=true by unfold kh;rw[bM h1,bD h2];rfl);have i1:(c.toNat:Int)<32:=ab;have i2:¬(c.toNat:Int)=9:=ab;go_enter func219,ntmps219;go_wp2;go_ret;exact⟨fB hb.o.symm,rfl⟩
 ·by_cases h3:c.toNat=127
  ·have hb:=O (show kh c=true by unfold kh;rw[bM h3];simp);have i1:¬(c.toNat:Int)<32:=ab;have i3:(c.toNat:Int)=127:=ab;go_enter func219,ntmps219;go_wp2;go_ret;exact⟨fB hb.o.symm,rfl⟩
  ·have hb:=O (show kh c=decide (0<=Lib.indexByte C6 c)by
    unfold kh;rw[bD h3];by_cases h4:c.toNat<32
    ·have h9:c.toNat=9:=ab;rw[bM h4,bM h9];rfl
    ·rw[bD h4];rfl)
   have HI:=O (show aB 202 #[.string ⟨#[34,40,41,58,60,62,63,64,91,92,93,123,125]⟩,.int .u8 (c.toNat:Int)] w fun e w'=>e=.returned (.int .i64 (Lib.indexByte C6 c))/\w'=w from
    (strings_IndexByte ⟨#[34,40,41,58,60,62,63,64,91,92,93,123,125]⟩ c.toNat w).mono fun e w' ⟨he,hw⟩=>⟨by
     have hc:((c.toNat:Int).toNat.toUInt8)=c:=aR;rw[hc]at he;rw[he];rfl,hw⟩)
   by_cases h4:c.toNat<32
   ·have i1:(c.toNat:Int)<32:=ab;have i2:(c.toNat:Int)=9:=ab;have hi9:=HI.o;rw[i2]at hi9;have HI9:=O hi9;clear hi9;have i3:((c.toNat:Int)==127)=false:=by rw[aL];omega
    go_enter func219,ntmps219;go_wp2_with fail
    refine HI9.o.mono ?_;rintro e u⟨rfl,rfl⟩;go_wp2;go_ret
    first|exact⟨fB hb.o.symm,rfl⟩|exact⟨fB (show(((c.toNat:Int)==127)||decide (0<=Lib.indexByte C6 c))=kh c by rw[i3,hb.o];rfl),rfl⟩
   ·have i1:¬(c.toNat:Int)<32:=ab;have i2:¬(c.toNat:Int)=127:=ab;have i3:((c.toNat:Int)==127)=false:=by rw[aL];exact i2
    go_enter func219,ntmps219;go_wp2_with fail
    refine HI.o.mono ?_;rintro e u⟨rfl,rfl⟩;go_wp2;go_ret
    first|exact⟨fB hb.o.symm,rfl⟩|exact⟨fB (show(((c.toNat:Int)==127)||decide (0<=Lib.indexByte C6 c))=kh c by rw[i3,hb.o];rfl),rfl⟩
def sF:aI:=[32,42,44,45,46,59,61]
def qJ(c:UInt8):Bool:=oC c||decide (0<=Lib.indexByte sF c)
def vH(s:aj):Bool:=s.data.toList.all qJ
def ag9(s:aj)(w:World)(i:Value)(wr:World):Prop:=∃k:Nat,k<=s.size/\i=.int .i64 k/\(s.data.toList.take k).all qJ=true/\Fr aS w wr
theorem zb(s:aj)(w:World)(hs:s.size<100000) :
  aB 220 #[.string s] w fun e w'=>e=.returned (.bool (vH s))/\Fr aS w w':=by
 go_enter func220,ntmps220;go_wp2;go_loopw[7] (ag9 s w) (fun i _=>s.size-(intOf i).toNat)
 case atStart=>exact⟨0,ab,rfl,rfl,ae _ _⟩
 case round =>
  obtain⟨k,hk,rfl,iX,cL⟩:=hrel;by_cases fo:k<s.size
  ·have pq:(k:Int)<(s.size:Int):=ab;have qW:=byte_at s k fo;have HI:=O (show aB 202 #[.string ⟨#[32,42,44,45,46,59,61]⟩,.int .u8 (s[k].toNat:Int)] wr fun e w'=>e=.returned (.int .i64 (Lib.indexByte sF s[k]))/\w'=wr from
    (strings_IndexByte ⟨#[32,42,44,45,46,59,61]⟩ s[k].toNat wr).mono fun e w' ⟨he,hw⟩=>⟨by
     have hc:((s[k].toNat:Int).toNat.toUInt8)=s[k]:=aR;rw[hc]at he;rw[he];rfl,hw⟩)
   have Nb:=O (show qJ s[k]=true->(s.data.toList.take (k+1)).all qJ=true from fun h=>by rw[cC,qW,j5,iX];simp[h]);have HNO:=O (show qJ s[k]=false->vH s=false from fun h=>by unfold vH;rw[jh];exact⟨s[k],cq qW,by simp[h]⟩);have uf:=s[k].toNat_lt;by_cases g0:s[k].toNat<=47
   ·have q1:(s[k].toNat:Int)<48:=ab;have q2:¬57<(s[k].toNat:Int):=ab;have q3:(s[k].toNat:Int)<97:=ab;have q4:¬122<(s[k].toNat:Int):=ab;have q5:(s[k].toNat:Int)<65:=ab;have q6:¬90<(s[k].toNat:Int):=ab;have Ch:oC s[k]=false:=by unfold oC;simp;omega
    have AL:=O Ch;clear Ch qW iX;go_wp2_with fail
    refine HI.o.mono ?_;rintro e u⟨rfl,rfl⟩;by_cases wR:0<=Lib.indexByte sF s[k]
    ·have Nc:¬Lib.indexByte sF s[k]<0:=ab;have HY:=O (Nb.o (by unfold qJ;rw[AL.o,bM wR];rfl));go_wp2;go_roundw
     case rel=>exact⟨k+1,ab,bg,HY.o,cL⟩
     case measure=>simp[intOf];omega
    ·have Nc:Lib.indexByte sF s[k]<0:=ab;have HN:=O (HNO.o (by unfold qJ;rw[AL.o,bD wR];rfl));go_wp2;go_ret;exact⟨by rw[HN.o];rfl,cL⟩
   ·skip
    by_cases g1:s[k].toNat<=57
    ·have q1:¬(s[k].toNat:Int)<48:=ab;have q2:¬57<(s[k].toNat:Int):=ab;have q3:(s[k].toNat:Int)<97:=ab;have q4:¬122<(s[k].toNat:Int):=ab;have q5:(s[k].toNat:Int)<65:=ab;have q6:¬90<(s[k].toNat:Int):=ab;have hy:=Nb.o (by unfold qJ oC;simp;omega);have HY:=O hy;clear hy iX qW;go_wp2;go_roundw
     case rel=>exact⟨k+1,ab,bg,HY.o,cL⟩
     case measure=>simp[intOf];omega
    ·skip
     by_cases g2:s[k].toNat<=64
     ·have q1:¬(s[k].toNat:Int)<48:=ab;have q2:57<(s[k].toNat:Int):=ab;have q3:(s[k].toNat:Int)<97:=ab;have q4:¬122<(s[k].toNat:Int):=ab;have q5:(s[k].toNat:Int)<65:=ab;have q6:¬90<(s[k].toNat:Int):=ab;have Ch:oC s[k]=false:=by unfold oC;simp;omega
      have AL:=O Ch;clear Ch qW iX;go_wp2_with fail
      refine HI.o.mono ?_;rintro e u⟨rfl,rfl⟩;by_cases wR:0<=Lib.indexByte sF s[k]
      ·have Nc:¬Lib.indexByte sF s[k]<0:=ab;have HY:=O (Nb.o (by unfold qJ;rw[AL.o,bM wR];rfl));go_wp2;go_roundw
       case rel=>exact⟨k+1,ab,bg,HY.o,cL⟩
       case measure=>simp[intOf];omega
      ·have Nc:Lib.indexByte sF s[k]<0:=ab;have HN:=O (HNO.o (by unfold qJ;rw[AL.o,bD wR];rfl));go_wp2;go_ret;exact⟨by rw[HN.o];rfl,cL⟩
     ·skip
      by_cases g3:s[k].toNat<=90
      ·have q1:¬(s[k].toNat:Int)<48:=ab;have q2:57<(s[k].toNat:Int):=ab;have q3:(s[k].toNat:Int)<97:=ab;have q4:¬122<(s[k].toNat:Int):=ab;have q5:¬(s[k].toNat:Int)<65:=ab;have q6:¬90<(s[k].toNat:Int):=ab;have hy:=Nb.o (by unfold qJ oC;simp;omega);have HY:=O hy;clear hy iX qW;go_wp2;go_roundw
       case rel=>exact⟨k+1,ab,bg,HY.o,cL⟩
       case measure=>simp[intOf];omega
      ·skip
       by_cases g4:s[k].toNat<=96
       ·have q1:¬(s[k].toNat:Int)<48:=ab;have q2:57<(s[k].toNat:Int):=ab;have q3:(s[k].toNat:Int)<97:=ab;have q4:¬122<(s[k].toNat:Int):=ab;have q5:¬(s[k].toNat:Int)<65:=ab;have q6:90<(s[k].toNat:Int):=ab;have Ch:oC s[k]=false:=by unfold oC;simp;omega
        have AL:=O Ch;clear Ch qW iX;go_wp2_with fail
        refine HI.o.mono ?_;rintro e u⟨rfl,rfl⟩;by_cases wR:0<=Lib.indexByte sF s[k]
        ·have Nc:¬Lib.indexByte sF s[k]<0:=ab;have HY:=O (Nb.o (by unfold qJ;rw[AL.o,bM wR];rfl));go_wp2;go_roundw
         case rel=>exact⟨k+1,ab,bg,HY.o,cL⟩
         case measure=>simp[intOf];omega
        ·have Nc:Lib.indexByte sF s[k]<0:=ab;have HN:=O (HNO.o (by unfold qJ;rw[AL.o,bD wR];rfl));go_wp2;go_ret;exact⟨by rw[HN.o];rfl,cL⟩
       ·skip
        by_cases g5:s[k].toNat<=122
        ·have q1:¬(s[k].toNat:Int)<48:=ab;have q2:57<(s[k].toNat:Int):=ab;have q3:¬(s[k].toNat:Int)<97:=ab;have q4:¬122<(s[k].toNat:Int):=ab;have q5:¬(s[k].toNat:Int)<65:=ab;have q6:90<(s[k].toNat:Int):=ab;have hy:=Nb.o (by unfold qJ oC;simp;omega);have HY:=O hy;clear hy iX qW;go_wp2;go_roundw
         case rel=>exact⟨k+1,ab,bg,HY.o,cL⟩
         case measure=>simp[intOf];omega
        ·skip
         have q1:¬(s[k].toNat:Int)<48:=ab;have q2:57<(s[k].toNat:Int):=ab;have q3:¬(s[k].toNat:Int)<97:=ab;have q4:122<(s[k].toNat:Int):=ab;have q5:¬(s[k].toNat:Int)<65:=ab;have q6:90<(s[k].toNat:Int):=ab;have Ch:oC s[k]=false:=by unfold oC;simp;omega
         have AL:=O Ch;clear Ch qW iX;go_wp2_with fail
         refine HI.o.mono ?_;rintro e u⟨rfl,rfl⟩;by_cases wR:0<=Lib.indexByte sF s[k]
         ·have Nc:¬Lib.indexByte sF s[k]<0:=ab;have HY:=O (Nb.o (by unfold qJ;rw[AL.o,bM wR];rfl));go_wp2;go_roundw
          case rel=>exact⟨k+1,ab,bg,HY.o,cL⟩
          case measure=>simp[intOf];omega
         ·have Nc:Lib.indexByte sF s[k]<0:=ab;have HN:=O (HNO.o (by unfold qJ;rw[AL.o,bD wR];rfl));go_wp2;go_ret;exact⟨by rw[HN.o];rfl,cL⟩
  ·have pq:¬(k:Int)<(s.size:Int):=ab;have fg:=O (show vH s=true by
    unfold vH;rw[aD bI]at iX;exact iX)
   clear iX;go_wp2;go_ret;exact⟨by rw[fg.o];rfl,cL⟩
def DA:List Int:=[1116352408,1899447441,3049323471,3921009573,961987163,1508970993,2453635748,2870763221,3624381080,310598401,607225278,1426881987,1925078388,2162078206,2614888103,3248222580,3835390401,4022224774,264347078,604807628,770255983,1249150122,1555081692,1996064986,2554220882,2821834349,2952996808,3210313671,3336571891,3584528711,113926993,338241895,666307205,773529912,1294757372,1396182291,1695183700,1986661051,2177026350,2456956037,2730485921,2820302411,3259730800,3345764771,3516065817,3600352804,4094571909,275423344,430227734,506948616,659060556,883997877,958139571,1322822218,1537002063,1747873779,1955562222,2024104815,2227730452,2361852424,2428436474,2756734187,3204031479,3329325298]
def UJ:List Int:=[1779033703,3144134277,1013904242,2773480762,1359893119,2600822924,528734635,1541459225]
structure uA (w:World):Prop where
 r:oP w 2 .u32 DA
 b:oP w 1 .u32 UJ
theorem uA.fr(h:uA w)(hf:Fr aS w w'):uA w':=⟨h.r.fr hf,h.b.fr hf⟩
def KD(a b c:Int):Int:=bits .xor .u32 (bits .xor .u32 a b) c
def ady(x:Int):Int:=KD (l_ x 25) (l_ x 14) (x/8)
def adz(y:Int):Int:=KD (l_ y 15) (l_ y 13) (y/1024)
def Gb(X:aI)(l:List Int)(i:Nat):Int:=if i<16 then qL false (X.drop (4*i))else(l.getD (i-16) 0+l.getD (i-7) 0+ady (l.getD (i-15) 0)+adz (l.getD (i-2) 0))%4294967296
def Gc(X:aI)(l:List Int)(i:Nat):List Int:=l++[Gb X l i]
def XZ(X:aI):Nat->List Int
 |0=>[]
 |i+1=>Gc X (XZ X i) i
theorem PS(X:aI):∀i,(XZ X i).length=i
 |0=>rfl
 |i+1=>by rw[XZ,Gc,aN,PS X i];rfl
theorem rb(x:Int)(w:World)(j n:Nat)(h:(decide (0<j/\j<32/\n<32/\bits .and .u64 (-(j:Int)+18446744073709551616) 31=(n:Int)))=true) :
  aB 240 #[.int .u32 x,.int .i64 (-(j:Int))] w fun e w'=>e=.returned (.int .u32 (l_ x n))/\w'=w:=by
 have h:=of_decide_eq_true h;exact(Ze x (-(j:Int)) n w ab ab h.2.2.2 h.2.2.1).mono fun _ _ ⟨he,hw⟩=>⟨he,hw.symm⟩
theorem anz(x:Int)(w:World):aB 240 #[.int .u32 x,.int .i64 (-7)] w fun e w'=>e=.returned (.int .u32 (l_ x 25))/\w'=w:=rb x w 7 25 du
theorem ahz(x:Int)(w:World):aB 240 #[.int .u32 x,.int .i64 (-18)] w fun e w'=>e=.returned (.int .u32 (l_ x 14))/\w'=w:=rb x w 18 14 du
theorem ahA(x:Int)(w:World):aB 240 #[.int .u32 x,.int .i64 (-17)] w fun e w'=>e=.returned (.int .u32 (l_ x 15))/\w'=w:=rb x w 17 15 du
theorem ahB(x:Int)(w:World):aB 240 #[.int .u32 x,.int .i64 (-19)] w fun e w'=>e=.returned (.int .u32 (l_ x 13))/\w'=w:=rb x w 19 13 du
theorem anA(x:Int)(w:World):aB 240 #[.int .u32 x,.int .i64 (-6)] w fun e w'=>e=.returned (.int .u32 (l_ x 26))/\w'=w:=rb x w 6 26 du
theorem ahC(x:Int)(w:World):aB 240 #[.int .u32 x,.int .i64 (-11)] w fun e w'=>e=.returned (.int .u32 (l_ x 21))/\w'=w:=rb x w 11 21 du
theorem ahD(x:Int)(w:World):aB 240 #[.int .u32 x,.int .i64 (-25)] w fun e w'=>e=.returned (.int .u32 (l_ x 7))/\w'=w:=rb x w 25 7 du
theorem anB(x:Int)(w:World):aB 240 #[.int .u32 x,.int .i64 (-2)] w fun e w'=>e=.returned (.int .u32 (l_ x 30))/\w'=w:=rb x w 2 30 du
theorem ahE(x:Int)(w:World):aB 240 #[.int .u32 x,.int .i64 (-13)] w fun e w'=>e=.returned (.int .u32 (l_ x 19))/\w'=w:=rb x w 13 19 du
theorem ahF(x:Int)(w:World):aB 240 #[.int .u32 x,.int .i64 (-22)] w fun e w'=>e=.returned (.int .u32 (l_ x 10))/\w'=w:=rb x w 22 10 du
structure Sh where
 v0:Int
 v1:Int
 v2:Int
 v3:Int
 v4:Int
 v5:Int
 v6:Int
 v7:Int
def vn(w:World)(g:Nat)(h:Sh):Prop:=w.heap[g]?=some (.cells #[.int .u32 h.v0,.int .u32 h.v1,.int .u32 h.v2,.int .u32 h.v3,.int .u32 h.v4,.int .u32 h.v5,.int .u32 h.v6,.int .u32 h.v7] 291 (0,0))
def shP(ws:List Int)(k:Nat)(v:Sh):Int:=(v.v7+KD (l_ v.v4 26) (l_ v.v4 21) (l_ v.v4 7)+bits .xor .u32 (bits .and .u32 v.v4 v.v5) (bits .and .u32 (Nq v.v4) v.v6)+DA.getD k 0+ws.getD k 0)%4294967296
def shQ(v:Sh):Int:=(KD (l_ v.v0 30) (l_ v.v0 19) (l_ v.v0 10)+KD (bits .and .u32 v.v0 v.v1) (bits .and .u32 v.v0 v.v2) (bits .and .u32 v.v1 v.v2))%4294967296
def UK(v:Sh)(p q:Int):Sh:=⟨(p+q)%4294967296,v.v0,v.v1,v.v2,(v.v3+p)%4294967296,v.v4,v.v5,v.v6⟩
def zr(ws:List Int)(h:Sh):Nat->Sh
 |0=>h
 |k+1=>UK (zr ws h k) (shP ws k (zr ws h k)) (shQ (zr ws h k))
def PT(h v:Sh):Sh:=⟨(h.v0+v.v0)%4294967296,(h.v1+v.v1)%4294967296,(h.v2+v.v2)%4294967296,(h.v3+v.v3)%4294967296,(h.v4+v.v4)%4294967296,(h.v5+v.v5)%4294967296,(h.v6+v.v6)%4294967296,(h.v7+v.v7)%4294967296⟩
def zt(X:aI)(h:Sh):Sh:=PT h (zr (XZ X 64) h 64)
def sh0:Sh:=⟨1779033703,3144134277,1013904242,2773480762,1359893119,2600822924,528734635,1541459225⟩
def AV(T:aI):Nat->Sh
 |0=>sh0
 |k+1=>zt (T.drop (64*k)) (AV T k)
def Sh.list(s:Sh):List Int:=[s.v0,s.v1,s.v2,s.v3,s.v4,s.v5,s.v6,s.v7]
def KE(l:aI):aI:=oN false (AV (vg false l) ((vg false l).length/64)).list
def ahH(T:aj)(g:Nat)(w:World)(t:Value)(wr:World):Prop:=∃k:Nat,64*k<=T.size/\t=.string (T.extract (64*k) T.size)/\vn wr g (AV T.data.toList k)/\Fr aS w wr
def qE(w:World)(g:Nat)(l:List Int):Prop:=w.heap[g]?=some (.cells ((l++List.replicate (64-l.length) 0).map (Value.int .u32)).toArray 293 (0,0))
theorem P3:∀l:aI,(vo l).length=(l.length+2)/3*4
 |[]=>rfl
 |[_]=>by simp[vo]
 |[_,_]=>by simp[vo]
 |a :: b :: c :: r=>by
  have ih:=P3 r;simp only[vo,List.length_cons]at ih ⊢;omega
open Go.RowKit Go.Shelf
attribute [local go_sem] Oper.semAt_some
theorem NA(s:aj)(c:UInt8)(w:World) :
  aB 155 #[.string s,.string ⟨#[c]⟩] w fun e w'=>e=.returned (.int .i64 (Lib.indexByte s.data.toList c))/\w'=w:=by
 go_enter func155,ntmps155;go_wp2_with fail
 refine(stringslite_Index_one s c w).mono ?_;rintro e w1⟨rfl,rfl⟩;go_wp2;go_ret;exact⟨rfl,rfl⟩
def UT(w:World)(k:Nat):Nat:=match w.cell? ⟨k,0,none⟩with
 |some (.string s)=>s.size+1
 |_=>0
theorem Cn(s:aj)(k n:Nat)(w:World)(hn:1<=n)(hs:s.size<100000)
  (h0:w.heap[k]?=some (.cells #[.string s] 9 (0,0)))(h1:w.heap[k+1]?=some (.cells #[.string ⟨#[46]⟩] 9 (0,0)))(h2:w.heap[k+2]?=some (.cells #[.int .i64 0] 3 (0,0))) :
  UQ Fence.wide n prog 234 #[.pointer (some ⟨k+1,0,none⟩),.pointer (some ⟨k,0,none⟩),.pointer (some ⟨k+2,0,none⟩)] (fun x:aj=>Value.string x) k (ja 46 s) w:=by
 intro l J Jx W hfW hJ hJx hY hJ0;have b0:=hfW.keep h0 id;have b1:=hfW.keep h1 id;have b2:=hfW.keep h2 id;have c0:W.cell? ⟨k,0,none⟩=some (.string s):=by simp[World.cell?,b0]
 have c1:W.cell? ⟨k+1,0,none⟩=some (.string ⟨#[46]⟩):=by simp[World.cell?,b1]
 refine callsIn_of_wp func234 rfl trivial ?_ rfl;simp only[ntmps234,aZ,List.length_cons,List.length_nil,Nat.reduceAdd,Nat.reduceSub,Array.replicate_succ,Array.replicate_zero,List.push_toArray,List.append_toArray,List.nil_append,List.cons_append];gi_wp2
 gi_loopw [] (fun wr=>∃(pre:List aj) (r:aj),pre++ja 46 r=ja 46 s/\r.size<=s.size/\wr.heap[k]?=some (.cells #[.string r] 9 (0,0))/\wr.heap[k+1]?=some (.cells #[.string ⟨#[46]⟩] 9 (0,0))/\wr.heap[k+2]?=some (.cells #[.int .i64 0] 3 (0,0))/\J pre wr) (fun wr=>UT wr k)
 case atStart=>exact⟨[],s,rfl,ay _,b0,b1,b2,hJ0⟩
 case round =>
  obtain⟨pre,r,yK,hrs,d0,d1,d2,hj⟩:=hrel;have e0:wr.cell? ⟨k,0,none⟩=some (.string r):=by simp[World.cell?,d0]
  have e1:wr.cell? ⟨k+1,0,none⟩=some (.string ⟨#[46]⟩):=by simp[World.cell?,d1]
  have e2:wr.cell? ⟨k+2,0,none⟩=some (.int .i64 0):=by simp[World.cell?,d2]
  gi_wp2_with fail
  refine⟨trivial,?_⟩;refine(callsIn_wide.2 (NA r 46 wr)).mono ?_;rintro e u⟨rfl,rfl⟩;by_cases wR:0<=Lib.indexByte r.data.toList 46
  ·obtain⟨i,hi⟩:∃i:Nat,Lib.indexByte r.data.toList 46=(i:Int):=⟨(Lib.indexByte r.data.toList 46).toNat,ab⟩;have hil:i<r.size:=by have:=US hi;simpa using this
   have HPH:=O (DI 46 r i hi);rw[hi];clear hi wR;have q0:¬(i:Int)<0:=ab;have q1:(0:Int)<=(i:Int):=ab;have q2:(i:Int)<=(r.size:Int):=ab;have q3:(i:Int)+1<=(r.size:Int):=ab;have q4:(0:Int)<=(i:Int)+1:=ab;obtain⟨fn,tmps,assign,body,hy,hR⟩:=hY pre (r.extract 0 i) u hj ⟨ja 46 (r.extract (i+1) r.size),by rw[cK,List.singleton_append, <-HPH.o];exact yK⟩;gi_wp2;refine hR.mono ?_
   rintro e W3(⟨rfl,hJ3,Ib⟩|⟨rfl,xv⟩)
   ·have f0:=(Ib k ab ab).trans d0;have f1:=(Ib (k+1) ab ab).trans d1;have f2:=(Ib (k+2) ab ab).trans d2;clear e0 e1 e2 Ib;have e0:W3.cell? ⟨k,0,none⟩=some (.string r):=by simp[World.cell?,f0]
    have e1:W3.cell? ⟨k+1,0,none⟩=some (.string ⟨#[46]⟩):=by simp[World.cell?,f1]
    have e3:W3.frozen? ⟨k,0,none⟩=false:=by simp[World.frozen?,f0]
    gi_wp2;have g0:(W3.setCell ⟨k,0,none⟩ (.string (r.extract (i+1) r.size))).heap[k]?=some (.cells #[.string (r.extract (i+1) r.size)] 9 (0,0)):=by simp[World.setCell,Array.getElem?_modify,f0]
    have hz:(r.extract (i+1) r.size).size=r.size-(i+1):=by rw[gC];omega
    refine⟨⟨pre++[r.extract 0 i],r.extract (i+1) r.size,by rw[cK,List.singleton_append, <-HPH.o];exact yK,ab,g0,(Below.heap_setCell _ _ _ _ aR).trans f1,(Below.heap_setCell _ _ _ _ aR).trans f2,hJ _ _ _ hJ3 ((ae (fun j=>j=k) W3).setCell (p:=⟨k,0,none⟩) (fun _=>rfl) _)⟩,?_⟩;unfold UT;simp only[World.cell?,g0,d0];simp;omega
   ·gi_wp2;refine aU (results_none rfl _ _ _) rfl ?_;exact⟨⟨_,rfl⟩,.inr ⟨pre++[r.extract 0 i],⟨ja 46 (r.extract (i+1) r.size),by rw[cK,List.singleton_append, <-HPH.o];exact yK⟩,xv⟩⟩
  ·have HPM:=O (show pre++[r]=ja 46 s by rw[<-BR 46 r wR];exact yK);obtain⟨fn,tmps,assign,body,hy,hR⟩:=hY pre r u hj ⟨[],by rw[dV];exact HPM.o⟩;have q0:Lib.indexByte r.data.toList 46<0:=ab;clear wR;gi_wp2;refine hR.mono ?_;rintro e W3(⟨rfl,hJ3,Ib⟩|⟨rfl,xv⟩)
   ·gi_wp2;go_end0;exact⟨⟨_,rfl⟩,.inl (by rw[<-HPM.o];exact hJ3)⟩
   ·gi_wp2;go_end0;exact⟨⟨_,rfl⟩,.inr ⟨pre++[r],⟨[],by rw[dV];exact HPM.o⟩,xv⟩⟩
