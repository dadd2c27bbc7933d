/- Lemmas for the law's walk. -/
import Derived.Test.YtjndhcngnghpiaaGreatDoorPp4
import Derived.Deep.RegionHeld3
import Derived.StillTailTactics
set_option maxRecDepth 100000
set_option maxHeartbeats 16000000
set_option linter.unusedSimpArgs false
namespace Go.Proofs.YtjndhcngnghpiaaGreatDoor
open Go.Proofs.Tryz
open Go.RowKit
variable {w w':World} {base n c:Nat} {ss:List ai} {v:Value} {gs:List (aU bG)} {S:dB}
def B7:aK:=[34,40,41,58,60,62,63,64,91,92,93,123,125]
def jW(c:UInt8):Bool:=(decide (c.toNat<32)&&!decide (c.toNat=9))||decide (c.toNat=127)||decide (0<=Lib.indexByte B7 c)
theorem Lk(c:UInt8)(w:World) :
  aE 218 #[.int .u8 (c.toNat:Int)] w fun e w'=>e=.returned (.bool (jW c))/\w'=w:=by
 by_cases h1:c.toNat<32/\¬c.toNat=9
 ·obtain⟨h1,h2⟩:=h1;have hb:=O (show jW c=true by unfold jW;rw[bD h1,bf h2];rfl);have i1:(c.toNat:Int)<32:=ab;have i2:¬(c.toNat:Int)=9:=ab;go_enter func218,ntmps218;go_wp2;go_ret;exact⟨fS hb.o.symm,rfl⟩
 ·by_cases h3:c.toNat=127
  ·have hb:=O (show jW c=true by unfold jW;rw[bD h3];simp);have i1:¬(c.toNat:Int)<32:=ab;have i3:(c.toNat:Int)=127:=ab;go_enter func218,ntmps218;go_wp2;go_ret;exact⟨fS hb.o.symm,rfl⟩
  ·have hb:=O (show jW c=decide (0<=Lib.indexByte B7 c)by
    unfold jW;rw[bf h3];by_cases h4:c.toNat<32
    ·have h9:c.toNat=9:=ab;rw[bD h4,bD h9];rfl
    ·rw[bf h4];rfl)
   have HI:=O (show aE 201 #[.string ⟨#[34,40,41,58,60,62,63,64,91,92,93,123,125]⟩,.int .u8 (c.toNat:Int)] w fun e w'=>e=.returned (.int .i64 (Lib.indexByte B7 c))/\w'=w from
    (strings_IndexByte ⟨#[34,40,41,58,60,62,63,64,91,92,93,123,125]⟩ c.toNat w).mono fun e w' ⟨he,hw⟩=>⟨by
     have hc:((c.toNat:Int).toNat.toUInt8)=c:=aS;rw[hc]at he;rw[he];rfl,hw⟩)
   by_cases h4:c.toNat<32
   ·have i1:(c.toNat:Int)<32:=ab;have i2:(c.toNat:Int)=9:=ab;have hi9:=HI.o;rw[i2]at hi9;have HI9:=O hi9;clear hi9;have i3:((c.toNat:Int)==127)=false:=by rw[aL];omega
    go_enter func218,ntmps218;go_wp2_with fail
    refine HI9.o.mono ?_;rintro e u⟨rfl,rfl⟩;go_wp2;go_ret
    first|exact⟨fS hb.o.symm,rfl⟩|exact⟨fS (show(((c.toNat:Int)==127)||decide (0<=Lib.indexByte B7 c))=jW c by rw[i3,hb.o];rfl),rfl⟩
   ·have i1:¬(c.toNat:Int)<32:=ab;have i2:¬(c.toNat:Int)=127:=ab;have i3:((c.toNat:Int)==127)=false:=by rw[aL];exact i2
    go_enter func218,ntmps218;go_wp2_with fail
    refine HI.o.mono ?_;rintro e u⟨rfl,rfl⟩;go_wp2;go_ret
    first|exact⟨fS hb.o.symm,rfl⟩|exact⟨fS (show(((c.toNat:Int)==127)||decide (0<=Lib.indexByte B7 c))=jW c by rw[i3,hb.o];rfl),rfl⟩
def rW:aK:=[32,42,44,45,46,59,61]
def qo(c:UInt8):Bool:=n_ c||decide (0<=Lib.indexByte rW c)
def vo(s:ai):Bool:=s.data.toList.all qo
def aeM(s:ai)(w:World)(i:Value)(wr:World):Prop:=∃k:Nat,k<=s.size/\i=.int .i64 k/\(s.data.toList.take k).all qo=true/\Fr aX w wr
theorem yt(s:ai)(w:World)(hs:s.size<100000) :
  aE 219 #[.string s] w fun e w'=>e=.returned (.bool (vo s))/\Fr aX w w':=by
 go_enter func219,ntmps219;go_wp2;go_loopw[7] (aeM s w) (fun i _=>s.size-(intOf i).toNat)
 case atStart=>exact⟨0,ab,rfl,rfl,ae _ _⟩
 case round =>
  obtain⟨k,hk,rfl,iH,cR⟩:=hrel;by_cases fE:k<s.size
  ·have qm:(k:Int)<(s.size:Int):=ab;have qC:=byte_at s k fE;have HI:=O (show aE 201 #[.string ⟨#[32,42,44,45,46,59,61]⟩,.int .u8 (s[k].toNat:Int)] wr fun e w'=>e=.returned (.int .i64 (Lib.indexByte rW s[k]))/\w'=wr from
    (strings_IndexByte ⟨#[32,42,44,45,46,59,61]⟩ s[k].toNat wr).mono fun e w' ⟨he,hw⟩=>⟨by
     have hc:((s[k].toNat:Int).toNat.toUInt8)=s[k]:=aS;rw[hc]at he;rw[he];rfl,hw⟩)
   have Ll:=O (show qo s[k]=true->(s.data.toList.take (k+1)).all qo=true from fun h=>by rw[cD,qC,jO,iH];simp[h]);have Zj:=O (show qo s[k]=false->vo s=false from fun h=>by unfold vo;rw[iX];exact⟨s[k],cL qC,by simp[h]⟩);have tK:=s[k].toNat_lt;by_cases g0:s[k].toNat<=47
   ·have q1:(s[k].toNat:Int)<48:=ab;have q2:¬57<(s[k].toNat:Int):=ab;have q3:(s[k].toNat:Int)<97:=ab;have q4:¬122<(s[k].toNat:Int):=ab;have q5:(s[k].toNat:Int)<65:=ab;have q6:¬90<(s[k].toNat:Int):=ab;have A':n_ s[k]=false:=by unfold n_;simp;omega
    have zM:=O A';clear A' qC iH;go_wp2_with fail
    refine HI.o.mono ?_;rintro e u⟨rfl,rfl⟩;by_cases v_:0<=Lib.indexByte rW s[k]
    ·have Lm:¬Lib.indexByte rW s[k]<0:=ab;have HY:=O (Ll.o (by unfold qo;rw[zM.o,bD v_];rfl));go_wp2;go_roundw
     case rel=>exact⟨k+1,ab,bh,HY.o,cR⟩
     case measure=>simp[intOf];omega
    ·have Lm:Lib.indexByte rW s[k]<0:=ab;have HN:=O (Zj.o (by unfold qo;rw[zM.o,bf v_];rfl));go_wp2;go_ret;exact⟨by rw[HN.o];rfl,cR⟩
   ·skip
    by_cases g1:s[k].toNat<=57
    ·have q1:¬(s[k].toNat:Int)<48:=ab;have q2:¬57<(s[k].toNat:Int):=ab;have q3:(s[k].toNat:Int)<97:=ab;have q4:¬122<(s[k].toNat:Int):=ab;have q5:(s[k].toNat:Int)<65:=ab;have q6:¬90<(s[k].toNat:Int):=ab;have hy:=Ll.o (by unfold qo n_;simp;omega);have HY:=O hy;clear hy iH qC;go_wp2;go_roundw
     case rel=>exact⟨k+1,ab,bh,HY.o,cR⟩
     case measure=>simp[intOf];omega
    ·skip
     by_cases g2:s[k].toNat<=64
     ·have q1:¬(s[k].toNat:Int)<48:=ab;have q2:57<(s[k].toNat:Int):=ab;have q3:(s[k].toNat:Int)<97:=ab;have q4:¬122<(s[k].toNat:Int):=ab;have q5:(s[k].toNat:Int)<65:=ab;have q6:¬90<(s[k].toNat:Int):=ab;have A':n_ s[k]=false:=by unfold n_;simp;omega
      have zM:=O A';clear A' qC iH;go_wp2_with fail
      refine HI.o.mono ?_;rintro e u⟨rfl,rfl⟩;by_cases v_:0<=Lib.indexByte rW s[k]
      ·have Lm:¬Lib.indexByte rW s[k]<0:=ab;have HY:=O (Ll.o (by unfold qo;rw[zM.o,bD v_];rfl));go_wp2;go_roundw
       case rel=>exact⟨k+1,ab,bh,HY.o,cR⟩
       case measure=>simp[intOf];omega
      ·have Lm:Lib.indexByte rW s[k]<0:=ab;have HN:=O (Zj.o (by unfold qo;rw[zM.o,bf v_];rfl));go_wp2;go_ret;exact⟨by rw[HN.o];rfl,cR⟩
     ·skip
      by_cases g3:s[k].toNat<=90
      ·have q1:¬(s[k].toNat:Int)<48:=ab;have q2:57<(s[k].toNat:Int):=ab;have q3:(s[k].toNat:Int)<97:=ab;have q4:¬122<(s[k].toNat:Int):=ab;have q5:¬(s[k].toNat:Int)<65:=ab;have q6:¬90<(s[k].toNat:Int):=ab;have hy:=Ll.o (by unfold qo n_;simp;omega);have HY:=O hy;clear hy iH qC;go_wp2;go_roundw
       case rel=>exact⟨k+1,ab,bh,HY.o,cR⟩
       case measure=>simp[intOf];omega
      ·skip
       by_cases g4:s[k].toNat<=96
       ·have q1:¬(s[k].toNat:Int)<48:=ab;have q2:57<(s[k].toNat:Int):=ab;have q3:(s[k].toNat:Int)<97:=ab;have q4:¬122<(s[k].toNat:Int):=ab;have q5:¬(s[k].toNat:Int)<65:=ab;have q6:90<(s[k].toNat:Int):=ab;have A':n_ s[k]=false:=by unfold n_;simp;omega
        have zM:=O A';clear A' qC iH;go_wp2_with fail
        refine HI.o.mono ?_;rintro e u⟨rfl,rfl⟩;by_cases v_:0<=Lib.indexByte rW s[k]
        ·have Lm:¬Lib.indexByte rW s[k]<0:=ab;have HY:=O (Ll.o (by unfold qo;rw[zM.o,bD v_];rfl));go_wp2;go_roundw
         case rel=>exact⟨k+1,ab,bh,HY.o,cR⟩
         case measure=>simp[intOf];omega
        ·have Lm:Lib.indexByte rW s[k]<0:=ab;have HN:=O (Zj.o (by unfold qo;rw[zM.o,bf v_];rfl));go_wp2;go_ret;exact⟨by rw[HN.o];rfl,cR⟩
       ·skip
        by_cases g5:s[k].toNat<=122
        ·have q1:¬(s[k].toNat:Int)<48:=ab;have q2:57<(s[k].toNat:Int):=ab;have q3:¬(s[k].toNat:Int)<97:=ab;have q4:¬122<(s[k].toNat:Int):=ab;have q5:¬(s[k].toNat:Int)<65:=ab;have q6:90<(s[k].toNat:Int):=ab;have hy:=Ll.o (by unfold qo n_;simp;omega);have HY:=O hy;clear hy iH qC;go_wp2;go_roundw
         case rel=>exact⟨k+1,ab,bh,HY.o,cR⟩
         case measure=>simp[intOf];omega
        ·skip
         have q1:¬(s[k].toNat:Int)<48:=ab;have q2:57<(s[k].toNat:Int):=ab;have q3:¬(s[k].toNat:Int)<97:=ab;have q4:122<(s[k].toNat:Int):=ab;have q5:¬(s[k].toNat:Int)<65:=ab;have q6:90<(s[k].toNat:Int):=ab;have A':n_ s[k]=false:=by unfold n_;simp;omega
         have zM:=O A';clear A' qC iH;go_wp2_with fail
         refine HI.o.mono ?_;rintro e u⟨rfl,rfl⟩;by_cases v_:0<=Lib.indexByte rW s[k]
         ·have Lm:¬Lib.indexByte rW s[k]<0:=ab;have HY:=O (Ll.o (by unfold qo;rw[zM.o,bD v_];rfl));go_wp2;go_roundw
          case rel=>exact⟨k+1,ab,bh,HY.o,cR⟩
          case measure=>simp[intOf];omega
         ·have Lm:Lib.indexByte rW s[k]<0:=ab;have HN:=O (Zj.o (by unfold qo;rw[zM.o,bf v_];rfl));go_wp2;go_ret;exact⟨by rw[HN.o];rfl,cR⟩
  ·have qm:¬(k:Int)<(s.size:Int):=ab;have fl:=O (show vo s=true by
    unfold vo;rw[aG bH]at iH;exact iH)
   clear iH;go_wp2;go_ret;exact⟨by rw[fl.o];rfl,cR⟩
def Cy:List Int:=[1116352408,1899447441,3049323471,3921009573,961987163,1508970993,2453635748,2870763221,3624381080,310598401,607225278,1426881987,1925078388,2162078206,2614888103,3248222580,3835390401,4022224774,264347078,604807628,770255983,1249150122,1555081692,1996064986,2554220882,2821834349,2952996808,3210313671,3336571891,3584528711,113926993,338241895,666307205,773529912,1294757372,1396182291,1695183700,1986661051,2177026350,2456956037,2730485921,2820302411,3259730800,3345764771,3516065817,3600352804,4094571909,275423344,430227734,506948616,659060556,883997877,958139571,1322822218,1537002063,1747873779,1955562222,2024104815,2227730452,2361852424,2428436474,2756734187,3204031479,3329325298]
def SC:List Int:=[1779033703,3144134277,1013904242,2773480762,1359893119,2600822924,528734635,1541459225]
structure tZ (w:World):Prop where
 r:oz w 2 .u32 Cy
 b:oz w 1 .u32 SC
theorem tZ.fr(h:tZ w)(hf:Fr aX w w'):tZ w':=⟨h.r.fr hf,h.b.fr hf⟩
def Jc(a b c:Int):Int:=bits .xor .u32 (bits .xor .u32 a b) c
def abq(x:Int):Int:=Jc (lL x 25) (lL x 14) (x/8)
def abr(y:Int):Int:=Jc (lL y 15) (lL y 13) (y/1024)
def EK(X:aK)(l:List Int)(i:Nat):Int:=if i<16 then qp false (X.drop (4*i))else(l.getD (i-16) 0+l.getD (i-7) 0+abq (l.getD (i-15) 0)+abr (l.getD (i-2) 0))%4294967296
def EL(X:aK)(l:List Int)(i:Nat):List Int:=l++[EK X l i]
def VT(X:aK):Nat->List Int
 |0=>[]
 |i+1=>EL X (VT X i) i
theorem NT(X:aK):∀i,(VT X i).length=i
 |0=>rfl
 |i+1=>by rw[VT,EL,aM,NT X i];rfl
theorem rb(x:Int)(w:World)(j n:Nat)(h:(decide (0<j/\j<32/\n<32/\bits .and .u64 (-(j:Int)+18446744073709551616) 31=(n:Int)))=true) :
  aE 239 #[.int .u32 x,.int .i64 (-(j:Int))] w fun e w'=>e=.returned (.int .u32 (lL x n))/\w'=w:=by
 have h:=of_decide_eq_true h;exact(Xa x (-(j:Int)) n w ab ab h.2.2.2 h.2.2.1).mono fun _ _ ⟨he,hw⟩=>⟨he,hw.symm⟩
theorem akR(x:Int)(w:World):aE 239 #[.int .u32 x,.int .i64 (-7)] w fun e w'=>e=.returned (.int .u32 (lL x 25))/\w'=w:=rb x w 7 25 cZ
theorem afc(x:Int)(w:World):aE 239 #[.int .u32 x,.int .i64 (-18)] w fun e w'=>e=.returned (.int .u32 (lL x 14))/\w'=w:=rb x w 18 14 cZ
theorem afd(x:Int)(w:World):aE 239 #[.int .u32 x,.int .i64 (-17)] w fun e w'=>e=.returned (.int .u32 (lL x 15))/\w'=w:=rb x w 17 15 cZ
theorem afe(x:Int)(w:World):aE 239 #[.int .u32 x,.int .i64 (-19)] w fun e w'=>e=.returned (.int .u32 (lL x 13))/\w'=w:=rb x w 19 13 cZ
theorem akS(x:Int)(w:World):aE 239 #[.int .u32 x,.int .i64 (-6)] w fun e w'=>e=.returned (.int .u32 (lL x 26))/\w'=w:=rb x w 6 26 cZ
theorem aff(x:Int)(w:World):aE 239 #[.int .u32 x,.int .i64 (-11)] w fun e w'=>e=.returned (.int .u32 (lL x 21))/\w'=w:=rb x w 11 21 cZ
theorem afg(x:Int)(w:World):aE 239 #[.int .u32 x,.int .i64 (-25)] w fun e w'=>e=.returned (.int .u32 (lL x 7))/\w'=w:=rb x w 25 7 cZ
theorem akT(x:Int)(w:World):aE 239 #[.int .u32 x,.int .i64 (-2)] w fun e w'=>e=.returned (.int .u32 (lL x 30))/\w'=w:=rb x w 2 30 cZ
theorem afh(x:Int)(w:World):aE 239 #[.int .u32 x,.int .i64 (-13)] w fun e w'=>e=.returned (.int .u32 (lL x 19))/\w'=w:=rb x w 13 19 cZ
theorem afi(x:Int)(w:World):aE 239 #[.int .u32 x,.int .i64 (-22)] w fun e w'=>e=.returned (.int .u32 (lL x 10))/\w'=w:=rb x w 22 10 cZ
structure Sh where
 v0:Int
 v1:Int
 v2:Int
 v3:Int
 v4:Int
 v5:Int
 v6:Int
 v7:Int
def uQ(w:World)(g:Nat)(h:Sh):Prop:=w.heap[g]?=some (.cells #[.int .u32 h.v0,.int .u32 h.v1,.int .u32 h.v2,.int .u32 h.v3,.int .u32 h.v4,.int .u32 h.v5,.int .u32 h.v6,.int .u32 h.v7] 293 (0,0))
def shP(ws:List Int)(k:Nat)(v:Sh):Int:=(v.v7+Jc (lL v.v4 26) (lL v.v4 21) (lL v.v4 7)+bits .xor .u32 (bits .and .u32 v.v4 v.v5) (bits .and .u32 (Ly v.v4) v.v6)+Cy.getD k 0+ws.getD k 0)%4294967296
def shQ(v:Sh):Int:=(Jc (lL v.v0 30) (lL v.v0 19) (lL v.v0 10)+Jc (bits .and .u32 v.v0 v.v1) (bits .and .u32 v.v0 v.v2) (bits .and .u32 v.v1 v.v2))%4294967296
def SD(v:Sh)(p q:Int):Sh:=⟨(p+q)%4294967296,v.v0,v.v1,v.v2,(v.v3+p)%4294967296,v.v4,v.v5,v.v6⟩
def yH(ws:List Int)(h:Sh):Nat->Sh
 |0=>h
 |k+1=>SD (yH ws h k) (shP ws k (yH ws h k)) (shQ (yH ws h k))
def NU(h v:Sh):Sh:=⟨(h.v0+v.v0)%4294967296,(h.v1+v.v1)%4294967296,(h.v2+v.v2)%4294967296,(h.v3+v.v3)%4294967296,(h.v4+v.v4)%4294967296,(h.v5+v.v5)%4294967296,(h.v6+v.v6)%4294967296,(h.v7+v.v7)%4294967296⟩
def yI(X:aK)(h:Sh):Sh:=NU h (yH (VT X 64) h 64)
def sh0:Sh:=⟨1779033703,3144134277,1013904242,2773480762,1359893119,2600822924,528734635,1541459225⟩
def zS(T:aK):Nat->Sh
 |0=>sh0
 |k+1=>yI (T.drop (64*k)) (zS T k)
def Sh.list(s:Sh):List Int:=[s.v0,s.v1,s.v2,s.v3,s.v4,s.v5,s.v6,s.v7]
def Jd(l:aK):aK:=ox false (zS (uN false l) ((uN false l).length/64)).list
def afk(T:ai)(g:Nat)(w:World)(t:Value)(wr:World):Prop:=∃k:Nat,64*k<=T.size/\t=.string (T.extract (64*k) T.size)/\uQ wr g (zS T.data.toList k)/\Fr aX w wr
def qh(w:World)(g:Nat)(l:List Int):Prop:=w.heap[g]?=some (.cells ((l++List.replicate (64-l.length) 0).map (Value.int .u32)).toArray 295 (0,0))
theorem N2:∀l:aK,(uR l).length=(l.length+2)/3*4
 |[]=>rfl
 |[_]=>by simp[uR]
 |[_,_]=>by simp[uR]
 |a :: b :: c :: r=>by
  have ih:=N2 r;simp only[uR,List.length_cons]at ih ⊢;omega
open Go.RowKit Go.Shelf
attribute [local go_sem] Oper.semAt_some
theorem LK(s:ai)(c:UInt8)(w:World) :
  aE 156 #[.string s,.string ⟨#[c]⟩] w fun e w'=>e=.returned (.int .i64 (Lib.indexByte s.data.toList c))/\w'=w:=by
 go_enter func156,ntmps156;go_wp2_with fail
 refine(stringslite_Index_one s c w).mono ?_;rintro e w1⟨rfl,rfl⟩;go_wp2;go_ret;exact⟨rfl,rfl⟩
def SQ(w:World)(k:Nat):Nat:=match w.cell? ⟨k,0,none⟩with
 |some (.string s)=>s.size+1
 |_=>0
theorem Bh(s:ai)(k n:Nat)(w:World)(hn:1<=n)(hs:s.size<100000)
  (h0:w.heap[k]?=some (.cells #[.string s] 9 (0,0)))(h1:w.heap[k+1]?=some (.cells #[.string ⟨#[46]⟩] 9 (0,0)))(h2:w.heap[k+2]?=some (.cells #[.int .i64 0] 3 (0,0))) :
  SL Fence.wide n prog 233 #[.pointer (some ⟨k+1,0,none⟩),.pointer (some ⟨k,0,none⟩),.pointer (some ⟨k+2,0,none⟩)] (fun x:ai=>Value.string x) k (iL 46 s) w:=by
 intro l J Jx W hfW hJ hJx hY hJ0;have b0:=hfW.keep h0 id;have b1:=hfW.keep h1 id;have b2:=hfW.keep h2 id;have c0:W.cell? ⟨k,0,none⟩=some (.string s):=by simp[World.cell?,b0]
 have c1:W.cell? ⟨k+1,0,none⟩=some (.string ⟨#[46]⟩):=by simp[World.cell?,b1]
 refine callsIn_of_wp func233 rfl trivial ?_ rfl;simp only[ntmps233,bd,List.length_cons,List.length_nil,Nat.reduceAdd,Nat.reduceSub,Array.replicate_succ,Array.replicate_zero,List.push_toArray,List.append_toArray,List.nil_append,List.cons_append];gi_wp2
 gi_loopw [] (fun wr=>∃(pre:List ai) (r:ai),pre++iL 46 r=iL 46 s/\r.size<=s.size/\wr.heap[k]?=some (.cells #[.string r] 9 (0,0))/\wr.heap[k+1]?=some (.cells #[.string ⟨#[46]⟩] 9 (0,0))/\wr.heap[k+2]?=some (.cells #[.int .i64 0] 3 (0,0))/\J pre wr) (fun wr=>SQ wr k)
 case atStart=>exact⟨[],s,rfl,az _,b0,b1,b2,hJ0⟩
 case round =>
  obtain⟨pre,r,ya,hrs,d0,d1,d2,hj⟩:=hrel;have e0:wr.cell? ⟨k,0,none⟩=some (.string r):=by simp[World.cell?,d0]
  have e1:wr.cell? ⟨k+1,0,none⟩=some (.string ⟨#[46]⟩):=by simp[World.cell?,d1]
  have e2:wr.cell? ⟨k+2,0,none⟩=some (.int .i64 0):=by simp[World.cell?,d2]
  gi_wp2_with fail
  refine⟨trivial,?_⟩;refine(callsIn_wide.2 (LK r 46 wr)).mono ?_;rintro e u⟨rfl,rfl⟩;by_cases v_:0<=Lib.indexByte r.data.toList 46
  ·obtain⟨i,hi⟩:∃i:Nat,Lib.indexByte r.data.toList 46=(i:Int):=⟨(Lib.indexByte r.data.toList 46).toNat,ab⟩;have hil:i<r.size:=by have:=SN hi;simpa using this
   have HPH:=O (CH 46 r i hi);rw[hi];clear hi v_;have q0:¬(i:Int)<0:=ab;have q1:(0:Int)<=(i:Int):=ab;have q2:(i:Int)<=(r.size:Int):=ab;have q3:(i:Int)+1<=(r.size:Int):=ab;have q4:(0:Int)<=(i:Int)+1:=ab;obtain⟨fn,tmps,assign,body,hy,hR⟩:=hY pre (r.extract 0 i) u hj ⟨iL 46 (r.extract (i+1) r.size),by rw[cK,List.singleton_append, <-HPH.o];exact ya⟩;gi_wp2;refine hR.mono ?_
   rintro e W3(⟨rfl,hJ3,Gb⟩|⟨rfl,wX⟩)
   ·have f0:=(Gb k ab ab).trans d0;have f1:=(Gb (k+1) ab ab).trans d1;have f2:=(Gb (k+2) ab ab).trans d2;clear e0 e1 e2 Gb;have e0:W3.cell? ⟨k,0,none⟩=some (.string r):=by simp[World.cell?,f0]
    have e1:W3.cell? ⟨k+1,0,none⟩=some (.string ⟨#[46]⟩):=by simp[World.cell?,f1]
    have e3:W3.frozen? ⟨k,0,none⟩=false:=by simp[World.frozen?,f0]
    gi_wp2;have g0:(W3.setCell ⟨k,0,none⟩ (.string (r.extract (i+1) r.size))).heap[k]?=some (.cells #[.string (r.extract (i+1) r.size)] 9 (0,0)):=by simp[World.setCell,Array.getElem?_modify,f0]
    have hz:(r.extract (i+1) r.size).size=r.size-(i+1):=by rw[fZ];omega
    refine⟨⟨pre++[r.extract 0 i],r.extract (i+1) r.size,by rw[cK,List.singleton_append, <-HPH.o];exact ya,ab,g0,(Below.heap_setCell _ _ _ _ aS).trans f1,(Below.heap_setCell _ _ _ _ aS).trans f2,hJ _ _ _ hJ3 ((ae (fun j=>j=k) W3).setCell (p:=⟨k,0,none⟩) (fun _=>rfl) _)⟩,?_⟩;unfold SQ;simp only[World.cell?,g0,d0];simp;omega
   ·gi_wp2;refine aR (results_none rfl _ _ _) rfl ?_;exact⟨⟨_,rfl⟩,.inr ⟨pre++[r.extract 0 i],⟨iL 46 (r.extract (i+1) r.size),by rw[cK,List.singleton_append, <-HPH.o];exact ya⟩,wX⟩⟩
  ·have HPM:=O (show pre++[r]=iL 46 s by rw[<-AJ 46 r v_];exact ya);obtain⟨fn,tmps,assign,body,hy,hR⟩:=hY pre r u hj ⟨[],by rw[eX];exact HPM.o⟩;have q0:Lib.indexByte r.data.toList 46<0:=ab;clear v_;gi_wp2;refine hR.mono ?_;rintro e W3(⟨rfl,hJ3,Gb⟩|⟨rfl,wX⟩)
   ·gi_wp2;go_end0;exact⟨⟨_,rfl⟩,.inl (by rw[<-HPM.o];exact hJ3)⟩
   ·gi_wp2;go_end0;exact⟨⟨_,rfl⟩,.inr ⟨pre++[r],⟨[],by rw[eX];exact HPM.o⟩,wX⟩⟩
theorem Strs.pop{a:Addr}{x:ai}(h:Strs base w (.slice (some a) n c) (ss++[x])):Strs base w (.slice (some a) ss.length c) ss:=by
 obtain⟨h1,h2⟩:=h;rcases h2 with ⟨hv,_⟩|⟨g,cap,cur,hv,hg,hh,h3,h4,h5,h6⟩
 ·cases hv
 ·cases hv;refine⟨aS,Or.inr ⟨g,c,cur,rfl,hg,hh,?_,h4,h5,?_⟩⟩
  ·simp at h3;omega
  ·have e:(cur.toList.take (ss.length*1))=(cur.toList.take ((ss++[x]).length*1)).take ss.length:=by
    rw[kj];congr 1;simp
   rw[e,h6];simp
theorem Strs.SR(h:Strs base w (.slice none n c) ss):ss=[]:=by
 rcases h.2 with ⟨_,hn⟩|⟨g,cap,cur,hq,_⟩
 ·exact b_ hn
 ·cases hq
theorem Strs.cap{base:Nat}{w:World}{a:fi}{n c:Nat}{ss:List ai}(h:Strs base w (.slice a n c) ss):ss.length<=c:=by
 rcases h.2 with ⟨hq,hn⟩|⟨g,cap,cur,hq,_,_,h3,_⟩
 ·rw[hn];exact aW _
 ·cases hq;exact h3
theorem Pq{α:Type}{l:List α}{k:Nat}{x:α}(h:l[k]?=some x):l.drop k=x :: l.drop (k+1):=by
 obtain⟨hk,e⟩:=List.getElem?_eq_some_iff.1 h;rw[cP hk,e]
theorem nE(l:List (aK))(p:aK):dQ (l++[p])=dQ l++[⟨p.toArray⟩]:=by unfold dQ;simp
theorem fu(l:List (aK)):(dQ l).length=l.length:=by unfold dQ;simp
theorem yM(c:UInt8):∀l:aK,(dY c l).length<=l.length+1
 |[]=>by simp[dY]
 |x :: l=>by
  have ih:=yM c l;have hne:=vZ c l;by_cases h:x=c
  ·subst h;rw[qX];simp;omega
  ·cases e:dY c l with
   |nil=>exact absurd e hne
   |cons p ps=>rw[nL h e];rw[e]at ih;simp at ih ⊢; omega
theorem CI{l:List (aK)}(h:Strs base w (.slice none n c) (dQ l)):l.length=0:=by
 rw[<-fu l,Strs.SR h];rfl
theorem SS(l:List (aK))(p:aK)(last:Bool):(gW l p last).length<=l.length+1:=by
 have hp:(ym l).length<=l.length:=by unfold ym;split<;>simp
 unfold gW;split
 ·split<;>simp<;>omega
 ·split
  ·split<;>simp
  ·simp
theorem join_eq(l:List (aK)):Lib.join ((dQ l).map (·.data.toList)) [47]=vg 47 l:=by
 have e:(dQ l).map (·.data.toList)=l:=by unfold dQ;rw[gZ];simp[Function.comp_def]
 rw[e]
 induction l with
 |nil=>rfl
 |cons p ps ih =>
  cases ps with
  |nil=>simp[Lib.join,vg]
  |cons q qs =>
   have ih':=ih (by unfold dQ;rw[gZ];simp[Function.comp_def]);rw[vg, <-ih'];simp[Lib.join]
theorem Pr(v:Value)(l:List (aK))(w:World)(hv:ig w v (dQ l))(hn:l.length<=140737488355328)(hlen:(vg 47 l).length<=140737488355328) :
  aE 206 #[v,.string ⟨#[47]⟩] w fun e w'=>e=.returned (.string ⟨(vg 47 l).toArray⟩)/\Fr aX w w':=by
 have ej:=join_eq l;rcases hv with ⟨a,c,rfl,hs,_⟩|⟨bk,o,c,rfl,h1,h2,h3,h4⟩
 ·have hl:l=[]:=by cases l with|nil=>rfl|cons p ps=>simp[dQ]at hs
  subst hl;exact(strings_Join_none _ _ _ _).mono (by rintro e w1 ⟨rfl,rfl⟩;exact⟨rfl,ae _ _⟩)
 ·refine(strings_Join bk o c (dQ l) ⟨#[47]⟩ w h4 h3 (by rw[fu];exact hn) h1 (by show(Lib.join _ [47]).length<=_;rw[ej];exact hlen)).mono ?_;rintro e w1⟨rfl,hb⟩;refine⟨?_,fe hb⟩;show Ending.returned (.string ⟨(Lib.join _ [47]).toArray⟩)=_;rw[ej]
def afA(s:aK)(base:Nat)(w1:World)(parts:List (aK))(v i:Value)(wr:World):Prop :=
 ∃(k:Nat) (l:List (aK)),k<=parts.length/\i=.int .i64 k/\Strs base wr v (dQ l)/\l.length<=k/\pB l (parts.drop k)=mf s/\Fr aX w1 wr
theorem Ps(s:ai):∃t:ai,t.data.toList=Az s.data.toList/\t.size<=s.size+1/\(Lib.hasPrefix s.data.toList [47]=true->t=s)/\(Lib.hasPrefix s.data.toList [47]=false->t=⟨#[47]⟩++s):=by
 have hp:Lib.hasPrefix s.data.toList [47]=true↔s.data.toList.head?=some 47:=by
  cases h:s.data.toList with
  |nil=>simp[Lib.hasPrefix]
  |cons a l=>simp[Lib.hasPrefix];exact eq_comm
 cases h:Lib.hasPrefix s.data.toList [47]
 ·have h1:(⟨#[47]⟩:ai).size=1:=rfl;refine⟨⟨#[47]⟩++s,?_,by rw[iT,h1];omega,(fun e=>by cases e),fun _=>rfl⟩;unfold Az;rw[ay (fun e=>by rw[hp.2 e]at h;cases h)];simp
 ·refine⟨s,?_,ab,fun _=>rfl,(fun e=>by cases e)⟩;unfold Az;rw[aB (hp.1 h)]
theorem Pt(s:aK):(Az s).length<=s.length+1:=by unfold Az;split<;>simp
theorem join_le(c:UInt8):∀ps:List (aK),(vg c ps).length<=(ps.map fun p=>p.length+1).sum
 |[]=>by simp[vg]
 |[p]=>by simp[vg]
 |p :: q :: ps=>by
  have ih:=join_le c (q :: ps);rw[vg];simp at ih ⊢;omega
theorem Jl(f:aK->Nat):∀l:List (aK),((l.dropLast).map f).sum<=(l.map f).sum
 |[]=>aS
 |[p]=>aS
 |p :: q :: ps=>by
  have ih:=Jl f (q :: ps);rw[List.dropLast_cons_of_ne_nil aS];simp at ih ⊢;omega
theorem SU:∀(ps l:List (aK)),((pB l ps).map fun p=>p.length+1).sum<=(l.map fun p=>p.length+1).sum+(ps.map fun p=>p.length+1).sum
 |[],l=>by simp[pB]
 |p :: ps,l=>by
  have ih:=SU ps (gW l p ps.isEmpty);have arA:((ym l).map fun p=>p.length+1).sum<=(l.map fun p=>p.length+1).sum:=by
   unfold ym;split
   ·exact Jl _ l
   ·exact az _
  have iQ:((gW l p ps.isEmpty).map fun p=>p.length+1).sum<=(l.map fun p=>p.length+1).sum+(p.length+1):=by
   unfold gW;split
   ·split
    ·simp only[bI,List.sum_append,cA,du,List.sum_cons,List.sum_nil,List.length_nil];omega
    ·omega
   ·split
    ·split
     ·simp only[bI,List.sum_append,cA,du,List.sum_cons,List.sum_nil,List.length_nil];omega
     ·omega
    ·simp only[bI,List.sum_append,cA,du,List.sum_cons,List.sum_nil];omega
  show((pB (gW l p ps.isEmpty) ps).map fun p=>p.length+1).sum<=_;simp at ih iQ ⊢;omega
theorem zU(c:UInt8):∀l:aK,((dY c l).map fun p=>p.length+1).sum<=l.length+1
 |[]=>by simp[dY]
 |x :: l=>by
  have ih:=zU c l;have hne:=vZ c l;by_cases h:x=c
  ·subst h;rw[qX];simp at ih ⊢; omega
  ·cases e:dY c l with
   |nil=>exact absurd e hne
   |cons p ps=>rw[nL h e];rw[e]at ih;simp at ih ⊢; omega
theorem Pu(s:aK):(oo s).length<=s.length+2:=by
 have h1:=join_le 47 (mf s);have h2:=SU (dY 47 (Az s)) [];have h3:=zU 47 (Az s);have h4:=Pt s;unfold oo;unfold mf at h1 ⊢;simp at h1 h2 h3 h4 ⊢;omega
theorem Pv(s:ai)(w:World)(hs:s.size<100000) :
  aE 179 #[.string s] w fun e w'=>e=.returned (.string ⟨(oo s.data.toList).toArray⟩)/\Fr aX w w':=by
 obtain⟨t,ht,VM,Re,Nx⟩:=Ps s;obtain⟨parts,CJ⟩:∃parts,parts=dY 47 t.data.toList:=⟨_,rfl⟩;have DI:parts.length<=100001:=by rw[CJ];have:=yM 47 t.data.toList;simp at this;omega
 have VW:iL 47 t=dQ parts:=by rw[CJ];rfl
 have HGO:=O (show pB [] parts=mf s.data.toList by rw[CJ,ht];rfl);have D1:=O (show(oo s.data.toList).length<=140737488355328 by have:=Pu s.data.toList;simp at this;omega);obtain⟨W,hW⟩:∃W,W=w.alloc (.cells ((iL 47 t).map Value.string).toArray 9):=⟨_,rfl⟩;have hfW:Fr aX w W:=by rw[hW];exact(ae aX w).alloc _
 have hzW:W.heap.size=w.heap.size+1:=by rw[hW];simp
 have lJ:W.heap[w.heap.size]?=some (.cells ((iL 47 t).map Value.string).toArray 9 (0,0)):=by rw[hW];exact aC _ _
 have xm:=O ((xI t 47 w ab).mono (fun e w' h=>by rw[<-hW,VW,fu]at h;exact⟨h.1,h.2.symm⟩):aE 131 #[.string t,.string ⟨#[47]⟩] w fun e w'=>e=.returned (.slice (some ⟨w.heap.size,0,none⟩) parts.length parts.length)/\W=w');rw[VW]at lJ;clear hW VW;have afB:=O (show∀U,Fr aX W U->∀(k:Nat) p,parts[k]?=some p->U.cell? ⟨w.heap.size,k,none⟩=some (.string ⟨p.toArray⟩)from fun U hU k p hp=>by
  have:=hU.keep lJ id;simp[World.cell?,this,dQ,hp])
 clear lJ;have SV:∀(v:Value) (wr:World) (l:List (aK)),Strs (w.heap.size+1) wr v (dQ l)->l.length<=100001->l=mf s.data.toList->Fr aX W wr ->
   aE 206 #[v,.string ⟨#[47]⟩] wr fun e w'=>e=.returned (.string ⟨(oo s.data.toList).toArray⟩)/\Fr aX w w':=fun v wr l hv hl e hf=>by
  have:=(Pr v l wr hv.at ab (by rw[e];exact D1.o)).mono (R':=fun e w'=>e=.returned (.string ⟨(oo s.data.toList).toArray⟩)/\Fr aX w w') (fun e' w' ⟨h1,h2⟩=>⟨by rw[h1,e];rfl,(hfW.trans hf).trans h2⟩);exact this
 have SV:=O SV;have afC:=O (show aE 178 #[.string s,.string ⟨#[47]⟩] w fun e w'=>e=.returned (.bool (Lib.hasPrefix s.data.toList (⟨#[47]⟩:ai).data.toList))/\w=w' from(strings_HasPrefix s ⟨#[47]⟩ w).mono fun e w' h=>⟨h.1,h.2.symm⟩);cases uS:Lib.hasPrefix s.data.toList [47]
 case' false =>
  have e:=Nx uS;have SW:=xm.o;rw[e]at SW;clear Re Nx ht e CJ;go_enter func179,ntmps179;go_wp2_with fail
  refine afC.o.mono ?_;rintro e u⟨rfl,rfl⟩;rw[show Lib.hasPrefix s.data.toList (⟨#[47]⟩:ai).data.toList=false from uS];go_wp2_with fail
  refine SW.mono ?_;rintro e u⟨rfl,rfl⟩
 case' true =>
  have e:=Re uS;have SW:=xm.o;rw[e]at SW;clear Re Nx ht e CJ;go_enter func179,ntmps179;go_wp2_with fail
  refine afC.o.mono ?_;rintro e u⟨rfl,rfl⟩;rw[show Lib.hasPrefix s.data.toList (⟨#[47]⟩:ai).data.toList=true from uS];go_wp2_with fail
  refine SW.mono ?_;rintro e u⟨rfl,rfl⟩
 all_goals
  go_wp2;go_loopw[3,17] (afA s.data.toList (w.heap.size+1) W parts) (fun _ i _=>parts.length-(intOf i).toNat)
  case atStart=>exact⟨0,[],aW _,rfl,kA _ _,az _,by rw[eF];exact HGO.o,ae _ _⟩
  case round =>
   obtain⟨k,l,hk,rfl,hv,hlk,hgo,cR⟩:=hrel;have HG:=O hgo;clear hgo;obtain⟨av,cv,Jm⟩:=hv.form;rw[fu]at Jm;subst Jm;have A1:w.heap.size+1<=wr.heap.size:=by have:=cR.size;omega
   by_cases fE:k<parts.length
   ·have qm:(k:Int)<(parts.length:Int):=ab;obtain⟨p,hp⟩:∃p,parts[k]?=some p:=⟨_,List.getElem?_eq_getElem fE⟩;have hcell:=afB.o wr cR k p hp;have Rh:=O (show pB l (parts.drop k)=pB (gW l p (parts.drop (k+1)).isEmpty) (parts.drop (k+1))by rw[Pq hp];rfl);clear hp;have BG:(⟨p.toArray⟩:ai).toList=p:=by rw[aN]
    obtain⟨pb,VW⟩:∃pb:ai,pb=⟨p.toArray⟩:=⟨_,rfl⟩;rw[<-VW]at hcell BG;have HPB:=O VW;clear VW;have D2:=O (show∀(l':List (aK)),l'=gW l p (parts.drop (k+1)).isEmpty->l'.length<=k+1/\pB l' (parts.drop (k+1))=mf s.data.toList from fun l' e=>by
     have:=SS l p (parts.drop (k+1)).isEmpty;rw[e];exact⟨ab,by rw[<-Rh.o];exact HG.o⟩)
    by_cases hla:k+1=parts.length
    ·have HE:=O (show(parts.drop (k+1)).isEmpty=true by rw[hla];simp);have hl1:((k:Int)==(parts.length:Int)-1)=true:=dP.2 ab;clear hla;by_cases tN:p=RU
     ·subst tN;have DI:pb.toList=[46,46]:=BG;clear BG;by_cases hlen:1<l.length
      ·have hli:(1:Int)<(l.length:Int):=ab;obtain⟨l0,x,Ri⟩:∃l0 x,l=l0++[x]:=⟨l.dropLast,l.getLast (by intro e;rw[e]at hlen;simp at hlen),(List.dropLast_concat_getLast _).symm⟩;have hll:l.length=l0.length+1:=by rw[Ri];simp
       obtain⟨ad,had⟩:∃ad,av=some ad:=by
        cases av with
        |none=>exact absurd (CI hv) ab
        |some ad=>exact⟨ad,rfl⟩
       subst had;have LL:=O (show ym l=l0 by unfold ym;rw[aB hlen,Ri];simp);rw[Ri,nE]at hv;rw[hll];rw[show(l0++[x]).length=(dQ l0).length+1 from by rw[fu];simp]at hv;replace hv:=Strs.pop hv;rw[fu]at hv;have q1:(0:Int)<=(l0.length:Int):=ab;have q4:(l0.length:Int)<=(cv:Int):=by have:=Strs.cap hv;rw[fu]at this;omega
       have q5:l0.length<=cv:=ab;have q2:(1:Int)<(l0.length:Int)+1:=ab;have q3:(l0.length:Int)+1-1=(l0.length:Int):=ab;clear hli Ri;have HX:=O (D2.o (l0++[[]]) (by unfold gW;rw[aB rfl,HE.o,LL.o];rfl))
       go_wp2_with (at_builtin;refine ny rfl _ _ rfl (w.heap.size+1) (.slice (some ad) _ cv) (dQ l0) rfl (by apply iq;exact hv) ⟨wr.heap.size,0,none⟩ 1 ⟨#[]⟩ rfl (jk _ _ _ _) (by rw[fu];omega) bH ?_;intro v2 w3 BS Bt)
       have il:=O ((cR.alloc (.cells #[.string ⟨#[]⟩] 9)).fJ Bt (fun j hj=>by have:=hv.block j hj;omega));go_roundw
       case rel=>exact⟨k+1,l0++[[]],ab,bh,by rw[nE];exact BS,(HX.o).1,(HX.o).2,il.o⟩
       case measure=>simp[intOf];omega
      ·have hli:¬(1:Int)<(l.length:Int):=ab;have LL:=O (show ym l=l by unfold ym;rw[ay hlen]);have HX:=O (D2.o (l++[[]]) (by unfold gW;rw[aB rfl,HE.o,LL.o];rfl));go_wp2_with (at_builtin;refine ny rfl _ _ rfl (w.heap.size+1) (.slice av _ cv) (dQ l) rfl (by apply iq;exact hv) ⟨wr.heap.size,0,none⟩ 1 ⟨#[]⟩ rfl (jk _ _ _ _) (by rw[fu];omega) bH ?_;intro v2 w3 BS Bt)
       have il:=O ((cR.alloc (.cells #[.string ⟨#[]⟩] 9)).fJ Bt (fun j hj=>by have:=hv.block j hj;omega));go_roundw
       case rel=>exact⟨k+1,l++[[]],ab,bh,by rw[nE];exact BS,(HX.o).1,(HX.o).2,il.o⟩
       case measure=>simp[intOf];omega
     ·have abA:¬pb.toList=[46,46]:=fun e=>tN (BG.symm.trans e);have alo:(pb.toList== [46,46])=false:=aL.2 abA;by_cases AZ:p=aaS
      ·subst AZ;have DI:pb.toList=[46]:=BG;clear BG;have HX:=O (D2.o (l++[[]]) (by unfold gW;rw[ay tN,aB rfl,HE.o];rfl));clear tN;go_wp2_with (at_builtin;refine ny rfl _ _ rfl (w.heap.size+1) (.slice av _ cv) (dQ l) rfl (by apply iq;exact hv) ⟨wr.heap.size,0,none⟩ 1 ⟨#[]⟩ rfl (jk _ _ _ _) (by rw[fu];omega) bH ?_;intro v2 w3 BS Bt)
       have il:=O ((cR.alloc (.cells #[.string ⟨#[]⟩] 9)).fJ Bt (fun j hj=>by have:=hv.block j hj;omega));go_roundw
       case rel=>exact⟨k+1,l++[[]],ab,bh,by rw[nE];exact BS,(HX.o).1,(HX.o).2,il.o⟩
       case measure=>simp[intOf];omega
      ·have abB:¬pb.toList=[46]:=fun e=>AZ (BG.symm.trans e);have alp:(pb.toList== [46])=false:=aL.2 abB;have HX:=O (D2.o (l++[p]) (by unfold gW;rw[ay tN,ay AZ]));clear tN AZ BG;go_wp2_with (at_builtin;refine ny rfl _ _ rfl (w.heap.size+1) (.slice av _ cv) (dQ l) rfl (by apply iq;exact hv) ⟨wr.heap.size,0,none⟩ 1 pb rfl (jk _ _ _ _) (by rw[fu];omega) bH ?_;intro v2 w3 BS Bt)
       have il:=O ((cR.alloc (.cells #[.string pb] 9)).fJ Bt (fun j hj=>by have:=hv.block j hj;omega));go_roundw
       case rel=>exact⟨k+1,l++[p],ab,bh,by rw[nE, <-HPB.o];exact BS,(HX.o).1,(HX.o).2,il.o⟩
       case measure=>simp[intOf];omega
    ·have HE:=O (show(parts.drop (k+1)).isEmpty=false by
      cases e:parts.drop (k+1)with
      |nil=>have:=ar List.length e;simp at this;omega
      |cons a b=>rfl)
     have hl1:((k:Int)==(parts.length:Int)-1)=false:=aL.2 ab;by_cases tN:p=RU
     ·subst tN;have DI:pb.toList=[46,46]:=BG;clear BG;by_cases hlen:1<l.length
      ·have hli:(1:Int)<(l.length:Int):=ab;obtain⟨l0,x,Ri⟩:∃l0 x,l=l0++[x]:=⟨l.dropLast,l.getLast (by intro e;rw[e]at hlen;simp at hlen),(List.dropLast_concat_getLast _).symm⟩;have hll:l.length=l0.length+1:=by rw[Ri];simp
       obtain⟨ad,had⟩:∃ad,av=some ad:=by
        cases av with
        |none=>exact absurd (CI hv) ab
        |some ad=>exact⟨ad,rfl⟩
       subst had;have LL:=O (show ym l=l0 by unfold ym;rw[aB hlen,Ri];simp);rw[Ri,nE]at hv;rw[hll];rw[show(l0++[x]).length=(dQ l0).length+1 from by rw[fu];simp]at hv;replace hv:=Strs.pop hv;rw[fu]at hv;have q1:(0:Int)<=(l0.length:Int):=ab;have q4:(l0.length:Int)<=(cv:Int):=by have:=Strs.cap hv;rw[fu]at this;omega
       have q5:l0.length<=cv:=ab;have q2:(1:Int)<(l0.length:Int)+1:=ab;have q3:(l0.length:Int)+1-1=(l0.length:Int):=ab;clear hli Ri;have HX:=O (D2.o (l0) (by unfold gW;rw[aB rfl,HE.o,LL.o];rfl));go_wp2;go_roundw
       case rel=>exact⟨k+1,l0,ab,bh,hv,(HX.o).1,(HX.o).2,cR⟩
       case measure=>simp[intOf];omega
      ·have hli:¬(1:Int)<(l.length:Int):=ab;have LL:=O (show ym l=l by unfold ym;rw[ay hlen]);have HX:=O (D2.o (l) (by unfold gW;rw[aB rfl,HE.o,LL.o];rfl));go_wp2;go_roundw
       case rel=>exact⟨k+1,l,ab,bh,hv,(HX.o).1,(HX.o).2,cR⟩
       case measure=>simp[intOf];omega
     ·have abA:¬pb.toList=[46,46]:=fun e=>tN (BG.symm.trans e);have alo:(pb.toList== [46,46])=false:=aL.2 abA;by_cases AZ:p=aaS
      ·subst AZ;have DI:pb.toList=[46]:=BG;clear BG;have HX:=O (D2.o (l) (by unfold gW;rw[ay tN,aB rfl,HE.o];rfl));clear tN;go_wp2;go_roundw
       case rel=>exact⟨k+1,l,ab,bh,hv,(HX.o).1,(HX.o).2,cR⟩
       case measure=>simp[intOf];omega
      ·have abB:¬pb.toList=[46]:=fun e=>AZ (BG.symm.trans e);have alp:(pb.toList== [46])=false:=aL.2 abB;have HX:=O (D2.o (l++[p]) (by unfold gW;rw[ay tN,ay AZ]));clear tN AZ BG;go_wp2_with (at_builtin;refine ny rfl _ _ rfl (w.heap.size+1) (.slice av _ cv) (dQ l) rfl (by apply iq;exact hv) ⟨wr.heap.size,0,none⟩ 1 pb rfl (jk _ _ _ _) (by rw[fu];omega) bH ?_;intro v2 w3 BS Bt)
       have il:=O ((cR.alloc (.cells #[.string pb] 9)).fJ Bt (fun j hj=>by have:=hv.block j hj;omega));go_roundw
       case rel=>exact⟨k+1,l++[p],ab,bh,by rw[nE, <-HPB.o];exact BS,(HX.o).1,(HX.o).2,il.o⟩
       case measure=>simp[intOf];omega
   ·have qm:¬(k:Int)<(parts.length:Int):=ab;have he:l=mf s.data.toList:=by
     have:=HG.o;rw[List.drop_of_length_le ab]at this;exact this
    have hj:=O (SV.o _ wr l hv ab he cR);clear he;go_wp2_with fail
    refine hj.o.mono ?_;rintro e w9⟨rfl,Xm⟩;go_wp2;go_ret;exact⟨rfl,Xm⟩
def g_(base:Nat)(w:World)(v:Value)(gs:List (aU bG)):Prop :=
 ∃rs:List (aU Value),OwnRows base 133 16 w v (rs.map aU.cells)/\ld (aU.Reads (df base w)) rs gs
theorem g_.fr(h:g_ base w v gs)(hf:Fr S w w')(ho:rJ base w S)(hn:∀k,v.ownBlock=some k->¬S k):g_ base w' v gs:=by
 obtain⟨rs,h1,h2⟩:=h;exact⟨rs,h1.fr hf hn,h2.mono (fun _ _ h=>h.mono (fun _ _ h=>h.fr hf ho))⟩
theorem g_.form(h:g_ base w v gs):∃a c,v=.slice a gs.length c:=by
 obtain⟨rs,h1,h2⟩:=h;obtain⟨a,c,hv⟩:=h1.form;exact⟨a,c,by rw[hv,aj,h2.len]⟩
def Xt(base:Nat)(w:World)(b:Nat)(o:Nat)(g:aU bG):Prop :=
 ∃r:aU Value,(∀u∈r.cells,u.oneCell'=true)/\r.Reads (df base w) g/\∀(i:Nat) u,r.cells[i]?=some u->w.cell? ⟨b,o+i,none⟩=some u
theorem g_.at{base:Nat}{w:World}{v:Value}{gs:List (aU bG)}(h:g_ base w v gs){k:Nat}(hk:k<gs.length) :
  ∃b c,v=.slice (some ⟨b,0,none⟩) gs.length c/\gs.length<=maxLen/\Xt base w b (k*16) gs[k]:=by
 obtain⟨rs,h1,h2⟩:=h;have hl:=h2.len;obtain⟨x,hx⟩:∃x,rs[k]?=some x:=⟨_,List.getElem?_eq_getElem ab⟩;obtain⟨g,hg,hr⟩:=h2.get hx;rw[List.getElem?_eq_getElem hk]at hg;obtain rfl:=jQ hg;have dT:=h1.at;rcases h1.2.2 with ⟨_,hn⟩|⟨bk,cap,cur,hv,_⟩
 ·rw[aj]at hn;omega
 rcases dT.2 with ⟨_,_,e1,e,_⟩|⟨bk',o,c,ua,q1,q2,q3,q4⟩
 ·simp at e;rw[e]at hl;simp at hl;omega
 ·rw[hv]at ua;cases ua;rw[aj]at q1;refine⟨bk,cap,by rw[hv,aj,hl],ab,x,(h1.1 x.cells (cz.2 ⟨x,cL hx,rfl⟩)).2,hr,?_⟩;intro i u hu;have:=q4 k x.cells (by rw[List.getElem?_map,hx];rfl) i u hu;rw[bw]at this;exact this
structure bL (D:Type) where
 o:gz
 proxy:Bool
 path:ai
 a:fX D
def bL.cells(g:bL Value):a_ :=
 [.bool g.o.aD,.string g.o.host,.int .i64 g.o.port,.bool g.proxy,.string g.path,
  .int .i64 g.a.scheme,.string g.a.aO,.string g.a.bC,.string g.a.cj,.bool g.a.cy,.string g.a.eZ,.bool g.a.dr,g.a.dom]
def bL.Reads(R:Value->List ai->Prop)(r:bL Value)(g:bL (List ai)):Prop :=
 r.o=g.o/\r.proxy=g.proxy/\r.path=g.path/\r.a.Reads R g.a
theorem bL.Reads.mono{R S:Value->List ai->Prop}{r:bL Value}{g:bL (List ai)}(h:r.Reads R g)(hs:∀v l,R v l->S v l):r.Reads S g :=
 ⟨h.1,h.2.1,h.2.2.1,h.2.2.2.mono hs⟩
def jY(base:Nat)(w:World)(v:Value)(gs:List (bL bG)):Prop :=
 ∃rs:List (bL Value),OwnRows base 129 13 w v (rs.map bL.cells)/\ld (bL.Reads (df base w)) rs gs
theorem jY.fr{gs:List (bL bG)}(h:jY base w v gs)(hf:Fr S w w')(ho:rJ base w S)(hn:∀k,v.ownBlock=some k->¬S k):jY base w' v gs:=by
 obtain⟨rs,h1,h2⟩:=h;exact⟨rs,h1.fr hf hn,h2.mono (fun _ _ h=>h.mono (fun _ _ h=>h.fr hf ho))⟩
theorem jY.form{gs:List (bL bG)}(h:jY base w v gs):∃a c,v=.slice a gs.length c:=by
 obtain⟨rs,h1,h2⟩:=h;obtain⟨a,c,hv⟩:=h1.form;exact⟨a,c,by rw[hv,aj,h2.len]⟩
structure dC (base:Nat) (w:World) (b:Nat) (gv wv:Value) (gs:List (aU bG)) (ws:List (bL bG)):Prop where
 low:base<=b
 eK:w.heap[b]?=some (.cells #[gv,wv] 118 (0,0))
 bZ:g_ base w gv gs
 waits:jY base w wv ws
section
variable {base : Nat} {w w' : World} {b : Nat} {gv wv : Value} {gs : List (aU bG)} {ws : List (bL bG)}
theorem dC.lt(h:dC base w b gv wv gs ws):b<w.heap.size:=bg h.eK
theorem dC.c0(h:dC base w b gv wv gs ws):w.cell? ⟨b,0,none⟩=some gv:=by simp[World.cell?,h.eK]
theorem dC.c1(h:dC base w b gv wv gs ws):w.cell? ⟨b,1,none⟩=some wv:=by simp[World.cell?,h.eK]
theorem dC.free(h:dC base w b gv wv gs ws)(k:Nat):w.frozen? ⟨b,k,none⟩=false:=by simp[World.frozen?,h.eK]
theorem dC.fr(h:dC base w b gv wv gs ws)(hf:Fr S w w')(ho:rJ base w S)(hb:¬S b)(h1:∀k,gv.ownBlock=some k->¬S k)(h2:∀k,wv.ownBlock=some k->¬S k):dC base w' b gv wv gs ws :=
 ⟨h.low,hf.keep h.eK hb,h.bZ.fr hf ho h1,h.waits.fr hf ho h2⟩
theorem dC.dx(h:dC base w b gv wv gs ws)(hf:Fr aX w w'):dC base w' b gv wv gs ws:=h.fr hf (mG _ _) id (fun _ _ h=>h) (fun _ _ h=>h)
end
abbrev fc:bW:= #[.bool false,.string ⟨#[]⟩,.int .i64 0,.bool false,.string ⟨#[]⟩,.string ⟨#[]⟩,.int .i64 0,.string ⟨#[]⟩,.string ⟨#[]⟩,.string ⟨#[]⟩,.bool false,.string ⟨#[]⟩,.bool false,.slice none 0 0,.int .i64 0,.slice none 0 0]
def oB{α:Type}(f:α->Int):List α->Nat->Int×Int->Int×Int
 |[],_,acc=>acc
 |g :: l,i,acc=>oB f l (i+1) (if 0<=f g/\acc.1<=f g then(f g,(i:Int))else acc)
theorem CM{α:Type}(f:α->Int):∀(l:List α) (i:Nat) (acc:Int×Int) (x:α),
  oB f (l++[x]) i acc=(if 0<=f x/\(oB f l i acc).1<=f x then(f x,((i+l.length:Nat):Int))else oB f l i acc)
 |[],i,acc,x=>by simp only[List.nil_append,oB,List.length_nil,Nat.add_zero];rfl
 |g :: l,i,acc,x=>by
  rw[List.cons_append,oB,CM f l (i+1) _ x,oB];simp only[List.length_cons,show i+1+l.length=i+(l.length+1)from ab]
def px(o:gz)(proxy:Bool)(path:ai)(g:aU bG):Int:=ud g.o g.proxy g.paths o proxy path
def tz(gs:List (aU bG))(o:gz)(proxy:Bool)(path:ai):Int:=(oB (px o proxy path) gs 0 (-1, -1)).2
def Xu(w:World)(gs:List (aU bG))(o:gz)(proxy:Bool)(path:ai)(alu at_ i:Value)(wr:World):Prop :=
 ∃k:Nat,k<=gs.length/\i=.int .i64 k/\alu=.int .i64 (oB (px o proxy path) (gs.take k) 0 (-1, -1)).1/\at_=.int .i64 (oB (px o proxy path) (gs.take k) 0 (-1, -1)).2/\Fr aX w wr
theorem Td(base:Nat)(w:World)(b:Nat)(gv wv:Value)(gs:List (aU bG))(ws:List (bL bG))(o:gz)(proxy:Bool)(path:ai)(h:dC base w b gv wv gs ws) :
  aE 101 #[.pointer (some ⟨b,0,none⟩),.agg o.cells.toArray,.bool proxy,.string path] w fun e w'=>e=.returned (.int .i64 (tz gs o proxy path))/\Fr aX w w':=by
 unfold gz.cells;have h0:=h.c0;obtain⟨av,cv,hv⟩:=h.bZ.form;subst hv;have tK:=h.lt;go_enter func101,ntmps101;go_wp2;clear h0;have oL:Fr aX w (w.alloc (.cells #[.bool o.aD,.string o.host,.int .i64 o.port] 24)):=(ae aX w).alloc _;have hO:(w.alloc (.cells #[.bool o.aD,.string o.host,.int .i64 o.port] 24)).heap[w.heap.size]?=some (.cells #[.bool o.aD,.string o.host,.int .i64 o.port] 24 (0,0)):=aC w _
 have h1:=h.dx oL;generalize w.alloc (.cells #[.bool o.aD,.string o.host,.int .i64 o.port] 24)=W at oL hO h1;go_loopw[9,10,19] (Xu W gs o proxy path) (fun _ _ i _=>gs.length-(intOf i).toNat)
 case atStart=>exact⟨0,aW _,rfl,rfl,rfl,ae _ _⟩
 case round =>
  obtain⟨k,hk,rfl,rfl,rfl,cR⟩:=hrel;by_cases fE:k<gs.length
  ·obtain⟨bk,c,dw,se,r,ec,hr,hcell⟩:=(h1.dx cR).bZ.at fE;cases dw;unfold maxLen at se;have hO2:=cR.keep hO id;obtain⟨x,hx⟩:∃x,x=r.cells:=⟨_,rfl⟩;have lI:x.length=16:=by rw[hx];rfl
   have iQ:=fun W=>run_storeCells_new (P:=prog) W 133 #[.bool false,.string ⟨#[]⟩,.int .i64 0,.bool false,.string ⟨#[]⟩,.string ⟨#[]⟩,.int .i64 0,.string ⟨#[]⟩,.string ⟨#[]⟩,.string ⟨#[]⟩,.bool false,.string ⟨#[]⟩,.bool false,.slice none 0 0,.int .i64 0,.slice none 0 0] x (by rw[lI];rfl) (by rw[hx];exact ec);rw[<-hx]at hcell;have HX:=O hx
   have ET:(prog.info? 133).map (·.size)=some x.toArray.size:=by rw[bd,lI];kernel_rfl
   have KX:=O ET;clear hx ET;have hO3:(wr.alloc (.cells x.toArray 133)).heap[w.heap.size]?=some (.cells #[.bool o.aD,.string o.host,.int .i64 o.port] 24 (0,0)):=by rw[Below.heap_alloc _ _ _ (bg hO2)];exact hO2
   have ZM:=O hO3;clear hO3 hO2
   go_wp2_with (first|((with_reducible refine dt 23 ?_);refine bu rfl 133 (.tmp 22) rfl bk (k*16) rfl x _ hcell underlying133 rfl (by have h:=KX.o;rw[bd]at h;exact h) ?_)|((with_reducible refine dt 24 ?_);refine aJ rfl 133 (.tmp 12) rfl wr.heap.size rfl _ x.toArray (0,0) _ (aC wr _) underlying133 rfl KX.o ?_)|((with_reducible refine dt 25 ?_);refine aJ rfl 24 (.tmp 5) rfl w.heap.size rfl _ _ (0,0) _ ZM.o underlying24 rfl af ?_)|fail)
   have ix:Fr aX wr (wr.alloc (.cells x.toArray 133)):=(ae aX wr).alloc _;have hps:=(hr.2.2.2.2.2.2.dx ix).rd;have hre:=O (show ud r.o r.proxy gs[k].paths o proxy path=px o proxy path gs[k]by unfold px;rw[hr.1,hr.2.1]);have dT:=List.getElem?_eq_getElem fE;have He:=O (show oB (px o proxy path) (gs.take (k+1)) 0 (-1, -1)=_ by rw[dU dT,CM,aQ,dJ hk,bw]);have ue:=(cR.trans ix)
   have fF:=O (Pz r o proxy path gs[k].paths _ hps);rw[<-HX.o]at fF;clear hr ix dT ec iQ;generalize wr.alloc (.cells x.toArray 133)=W2 at *
   refine fF.o.mono ?_;rintro e w3⟨rfl,iG⟩;have il:=ue.trans iG;rw[hre.o];clear hre fF hps hcell;generalize oB (px o proxy path) (gs.take k) 0 (-1, -1)=acc at *
   generalize px o proxy path gs[k]=n at *
   by_cases h0:0<=n
   ·by_cases PB:acc.1<=n
    ·have hs:=O (show oB (px o proxy path) (gs.take (k+1)) 0 (-1, -1)=(n,(k:Int))by rw[He.o,aB ⟨h0,PB⟩]);go_wp2;go_roundw
     case rel=>exact⟨k+1,ab,bh,by rw[hs.o],by rw[hs.o],il⟩
     case measure=>simp[intOf];omega
    ·have hs:=O (show oB (px o proxy path) (gs.take (k+1)) 0 (-1, -1)=acc by rw[He.o,ay (fun h=>PB h.2)]);go_wp2;go_roundw
     case rel=>exact⟨k+1,ab,bh,by rw[hs.o],by rw[hs.o],il⟩
     case measure=>simp[intOf];omega
   ·have hs:=O (show oB (px o proxy path) (gs.take (k+1)) 0 (-1, -1)=acc by rw[He.o,ay (fun h=>h0 h.1)]);go_wp2;go_roundw
    case rel=>exact⟨k+1,ab,bh,by rw[hs.o],by rw[hs.o],il⟩
    case measure=>simp[intOf];omega
  ·have hs:=O (show(oB (px o proxy path) (gs.take k) 0 (-1, -1)).2=tz gs o proxy path by rw[aG ab];rfl);go_wp2;go_ret;exact⟨by rw[<-hs.o];rfl,oL.trans cR⟩
abbrev Xv:bW:= #[.bool false,.string ⟨#[]⟩,.int .i64 0,.bool false,.string ⟨#[]⟩,.string ⟨#[]⟩,.int .i64 0,.string ⟨#[]⟩,.string ⟨#[]⟩,.string ⟨#[]⟩,.bool false,.string ⟨#[]⟩,.bool false,.slice none 0 0,.int .i64 0,.slice none 0 0]
theorem N5:∀v∈Xv.toList,v.oneCell'=true:=cZ
theorem Gn{x:a_}(h:x.length=16):(prog.info? 133).map (·.size)=some x.length:=by rw[h];kernel_rfl
def abI(w:World)(p:a_->Bool)(xs:cX)(i:Value)(wr:World):Prop :=
 ∃k:Nat,k<=xs.length/\i=.int .i64 k/\(xs.take k).any p=false/\Fr aX w wr
theorem yO(g:Nat)(cap:bW)(p:a_->Bool)(v:Value)(xs:cX)(w:World)(eg:∀args w,(callFunc g args).run prog w=.ok (.enter g args) w)(hp:hD aX w g cap p xs)(hv:ez 16 w v xs) :
  aE 163 #[v,.func (.func g) #[] cap] w fun e w'=>e=.returned (.int .i64 (lW p xs 0))/\Fr aX w w':=by
 obtain⟨av,cv,gi⟩:=hv.form;subst gi;have ec:=O hv.1;go_enter func163,ntmps163;go_wp2;go_loopw[8] (abI w p xs) (fun i _=>xs.length-(intOf i).toNat)
 case atStart=>exact⟨0,aW _,rfl,rfl,ae _ _⟩
 case round =>
  obtain⟨k,hk,rfl,hn,cR⟩:=hrel;have HN:=O hn;clear hn;by_cases fE:k<xs.length
  ·rcases(hv.i_ cR).2 with ⟨_,_,_,e,_⟩|⟨bk,of,c,hf,h1,h2,h3,h4⟩
   ·rw[e]at fE;exact absurd fE (ct _)
   ·cases hf;unfold maxLen at h2;have dT:=O (List.getElem?_eq_getElem fE);have hcell:=h4 k _ dT.o;have jc:=O (bQ fE);generalize xs[k]=x at dT hcell jc;have fF:=O (hp x jc.o wr cR);have lI:=(ec.o x jc.o).1;clear h4;cases rK:p x
    ·have p9:=O (any_take_succ dT.o HN.o rK);go_wp2_with (first|((with_reducible refine dt 15 ?_);refine bu rfl 133 (.tmp 14) rfl bk (of+k*16) rfl x _ hcell underlying133 rfl (Gn lI) ?_)|fail)
     refine fF.o.mono ?_;rintro e w1⟨rfl,dw⟩;rw[rK];go_wp2;go_roundw
     case rel=>exact⟨k+1,ab,bh,p9.o,cR.trans dw⟩
     case measure=>simp[intOf];omega
    ·have fl:=O (pR (i:=0) dT.o rK HN.o);go_wp2_with (first|((with_reducible refine dt 15 ?_);refine bu rfl 133 (.tmp 14) rfl bk (of+k*16) rfl x _ hcell underlying133 rfl (Gn lI) ?_)|fail)
     refine fF.o.mono ?_;rintro e w1⟨rfl,dw⟩;rw[rK];go_wp2;go_ret;rw[fl.o,bw];exact⟨rfl,cR.trans dw⟩
  ·have fl:=O (show lW p xs 0= -1 from kz (by have h:=HN.o;rw[aG ab]at h;exact h));go_wp2;go_ret;rw[fl.o];exact⟨rfl,cR⟩
def abJ(b:Nat)(w:World)(bk cap:Nat)(p:a_->Bool)(xs:cX)(i j:Value)(wr:World):Prop :=
 ∃(m n:Nat) (ys:cX),i=.int .i64 m/\j=.int .i64 n/\m<n/\n<=xs.length/\ys.length=xs.length/\OwnRows b 133 16 wr (.slice (some ⟨bk,0,none⟩) xs.length cap) ys /\
  ys.take m=(xs.take n).filter (fun x=>!p x)/\ys.drop n=xs.drop n/\Fr (one bk) w wr
theorem yP{p:a_->Bool}:∀ {l:cX} (i:Nat),l.any p=true->∃k x,l[k]?=some x/\p x=true/\(l.take k).any p=false/\lW p l i=((i+k:Nat):Int)
 |[],_,h=>by simp at h
 |a :: l,i,h=>by
  cases ha:p a
  ·rw[List.any_cons,ha,jC]at h;obtain⟨k,x,h1,h2,h3,h4⟩:=yP (i+1) h;refine⟨k+1,x,by simpa using h1,h2,by simp[ha,h3],?_⟩;rw[lW,ha];simp only[cJ,eT];rw[h4];congr 1;omega
  ·exact⟨0,a,rfl,ha,rfl,by rw[lW,ha];simp⟩
theorem yQ{p:a_->Bool}{l:cX}(h:l.any p=false):l.filter (fun x=>!p x)=l:=by
 rw[List.filter_eq_self];intro a ha;have:=fA.1 h a ha;simpa using this
theorem w_(b:Nat)(g:Nat)(cap:bW)(p:a_->Bool)(v:Value)(xs:cX)(w:World)(eg:∀args w,(callFunc g args).run prog w=.ok (.enter g args) w)(hp:hD (own v) w g cap p xs)(hv:OwnRows b 133 16 w v xs) :
  aE 114 #[v,.func (.func g) #[] cap] w fun e w'=>∃a c,e=.returned (.slice a (xs.filter (fun x=>!p x)).length c)/\OwnRows b 133 16 w' (.slice a (xs.filter (fun x=>!p x)).length c) (xs.filter (fun x=>!p x))/\Fr (own v) w w'/\own (.slice a (xs.filter (fun x=>!p x)).length c)=own v:=by
 cases jd:xs.any p
 ·have ry:=O (kz (i:=0) jd);rw[yQ jd];obtain⟨av,cv,gi⟩:=hv.form;subst gi;go_enter func114,ntmps114;go_wp2_with fail
  refine(yO g cap p _ xs w eg hp.none hv.at).mono ?_;rintro e w1⟨rfl,dw⟩;rw[ry.o];go_wp2;go_ret;exact⟨_,_,rfl,hv.fr dw (fun _ _ h=>h),dw.mono (fun _ _ h=>absurd h id),rfl⟩
 ·obtain⟨k0,x0,Gl,CP,uS,ry⟩:=yP 0 jd;rw[bw]at ry;have VN:=(List.getElem?_eq_some_iff.1 Gl).1;obtain⟨bk,cp,Jm⟩:∃bk cp,v=.slice (some ⟨bk,0,none⟩) xs.length cp:=by
   rcases hv.2.2 with ⟨_,hn⟩|⟨bk,cp,cur,hv,_⟩
   ·omega
   ·exact⟨bk,cp,hv⟩
  subst Jm;obtain⟨Bb,cur,ua,q1,q2,q3,q4,q5,q6⟩:=hv.open (g:=bk) rfl;cases ua;unfold maxLen at q4;have ec:=O hv.1;have CQ:=O (show xs.take k0=(xs.take (k0+1)).filter (fun x=>!p x)by
   rw[dU Gl,cC,yQ uS];simp[CP])
  have HP:=O hp;have Xw:=O ry;clear jd uS Gl CP ry q2 q5 q6 hp;go_enter func114,ntmps114;go_wp2_with fail
  refine(yO g cap p _ xs w eg HP.o.none hv.at).mono ?_;rintro e w1⟨rfl,dw⟩;rw[Xw.o];have Hd:=hv.fr dw (fun _ _ h=>h);have Hm:((k0:Int)== -1)=false:=by rw[aL];omega
  go_wp2;go_loopw[5,6] (abJ b w bk cp p xs) (fun _ j _=>xs.length-(intOf j).toNat)
  case atStart=>exact⟨k0,k0+1,xs,rfl,bh,ab,ab,rfl,Hd,CQ.o,rfl,dw.mono (fun _ _ h=>absurd h id)⟩
  case round =>
   obtain⟨m,n,ys,rfl,rfl,hmn,hn,hlen,cQ,q_,sg,cR⟩:=hrel;have HT:=O q_;have HD:=O sg;have jH:=O hlen;clear q_ sg hlen;rw[<-jH.o]at cQ;have rz:=cQ.at;by_cases fE:n<xs.length
   ·rcases rz.2 with ⟨_,_,_,e,_⟩|⟨bk',of,c,hf,h1,h2,h3,h4⟩
    ·have hl:=jH.o;rw[e]at hl;simp at hl;omega
    ·cases hf;have dT:=O (List.getElem?_eq_getElem fE);have xL:ys[n]?=some xs[n]:=by
      have e:=ar (fun l:cX=>l[0]?) HD.o;simp only[List.getElem?_drop,Nat.add_zero]at e;rw[e,dT.o]
     have hcell:=h4 n _ xL;simp only[bw]at hcell;have jc:=O (bQ fE);generalize xs[n]=x at dT hcell jc xL;have lI:=(ec.o x jc.o).1;have ov:=O (ec.o x jc.o).2
     have iQ:=fun W=>run_storeCells_new (P:=prog) W 133 #[.bool false,.string ⟨#[]⟩,.int .i64 0,.bool false,.string ⟨#[]⟩,.string ⟨#[]⟩,.int .i64 0,.string ⟨#[]⟩,.string ⟨#[]⟩,.string ⟨#[]⟩,.bool false,.string ⟨#[]⟩,.bool false,.slice none 0 0,.int .i64 0,.slice none 0 0] x (by rw[lI];rfl) ov.o;have ix:Fr aX wr (wr.alloc (.cells x.toArray 133)):=(ae aX wr).alloc _
     have fF:=O (HP.o x jc.o (wr.alloc (.cells x.toArray 133)) ((cR.alloc _).mono (fun k _ h=>by have e:k=bk:=h;rw[e];rfl)));have Gp:=O (Gn lI);have km:=cR.alloc (.cells x.toArray 133);have fy:=cQ.fr ix (fun _ _ h=>h);have rh:(wr.alloc (.cells x.toArray 133)).heap[wr.heap.size]?=some (.cells x.toArray 133 (0,0)):=aC _ _;have td:=O rh;clear h4 xL rh ix
     go_wp2_with (first|((with_reducible refine dt 25 ?_);refine bu rfl 133 (.tmp 24) rfl bk (n*16) rfl x _ hcell underlying133 rfl Gp.o ?_)|((with_reducible refine dt 27 ?_);refine aJ rfl 133 (.tmp 7) rfl wr.heap.size rfl _ x.toArray (0,0) _ td.o underlying133 rfl (by rw[bd];exact Gp.o) ?_)|fail)
     have ZO:wr.heap.size<(wr.alloc (.cells x.toArray 133)).heap.size:=aS;clear iQ hcell;generalize wr.alloc (.cells x.toArray 133)=W2 at *
     refine fF.o.mono ?_;rintro e w3⟨rfl,iG⟩;have qg:=km.trans (iG.mono (fun _ _ h=>absurd h id));have fo:=fy.fr iG (fun _ _ h=>h);have sJ:=O (iG.keep td.o id);have LX:=O jH.o;cases rK:p x
     ·have VX:=O (fo.there (g:=bk) (cap:=cp) (by rw[jH.o]) (o:=m*16) (n:=x.toArray.size) (by
       have hmc:(m+1)*16<=cp*16:=bN _ ab;rw[bd,lI];omega))
      have eV:=fo.store (i:=m) (y:=x) (by rw[jH.o];omega) lI ov.o (g:=bk) rfl;rw[jH.o]at eV;have n9:=qg.step (fC (ae (one bk) w3) (fun _=>rfl) x (m*16)) (fun _ _ h=>h)
      go_wp2_with (first|((with_reducible refine dt 32 ?_);refine aJ rfl 133 (.tmp 7) rfl wr.heap.size rfl _ x.toArray (0,0) _ sJ.o underlying133 rfl (by rw[bd];exact Gp.o) ?_)|((with_reducible refine cU 133 ?_);refine ju rfl 133 (.tmp 33) (.tmp 32) rfl bk (m*16) x.toArray rfl rfl VX.o (by rw[bd];exact Gp.o) (cE ov.o) ?_)|fail)
      go_roundw
      case rel =>
       refine⟨m+1,n+1,ys.set m x,bh,bh,ab,ab,by rw[dZ];exact LX.o,eV,?_,?_,n9⟩
       ·rw[dU (l:=ys.set m x) (List.getElem?_set_self (by rw[LX.o];omega)),fU (az m),dU dT.o,cC,HT.o];simp[rK]
       ·rw[fV ab];have e:=ar (List.drop 1) HD.o;simpa[ey]using e
      case measure=>simp[intOf];omega
     ·rw[jH.o]at fo;go_wp2_with fail
      go_roundw
      case rel =>
       refine⟨m,n+1,ys,rfl,bh,ab,ab,LX.o,fo,?_,?_,qg⟩
       ·rw[dU dT.o,cC,HT.o];simp[rK]
       ·have e:=ar (List.drop 1) HD.o;simpa[ey]using e
      case measure=>simp[intOf];omega
   ·have rA:n=xs.length:=ab;subst rA;have fl:=O (show ys.take m=xs.filter (fun x=>!p x)by have h:=HT.o;rw[aG (az _)]at h;exact h);have se:(ys.take m).length=m:=by rw[aQ,jH.o];omega
    have yR:=O (show(xs.filter (fun x=>!p x)).length=m by rw[<-fl.o];exact se);have hcut:=cQ.cut (i:=m) (by rw[jH.o];omega) (g:=bk) (cap:=cp) (by rw[jH.o]);have hle:(xs.length-m)*16+m*16<=cp*16:=by rw[<-dD];exact bN _ ab
    have Bi:(Builtin.zeroCells Xv (xs.length-m)).toList.length=(xs.length-m)*16:=by simp[Builtin.zeroCells]
    have wU:=fun ty=>jt (P:=prog) wr 85 133 ty Xv underlying85 (fun w=>af) ag N5 bk (m*16) (xs.length-m) (cp-m) ab (by
     have:=cQ.there (g:=bk) (cap:=cp) (by rw[jH.o]) (o:=m*16) (n:=(xs.length-m)*16) ab;exact this)
    have xM:=hcut.behind (o:=m*16) (vs:=(Builtin.zeroCells Xv (xs.length-m)).toList) (by rw[se];exact az _) (g:=bk) (cap:=cp) (by rw[se]) (by rw[Bi];omega);have n9:=cR.step (fC (ae (one bk) wr) (fun _=>rfl) (Builtin.zeroCells Xv (xs.length-m)).toList (m*16)) (fun _ _ h=>h);clear cQ rz hcut Bi se hle jH;go_wp2_with fail
    go_ret;rw[yR.o, <-fl.o];exact⟨_,_,rfl,xM,n9.mono (fun k _ h=>by have e:k=bk:=h;rw[e];rfl),rfl⟩
theorem abK:∃i0:TypeInfo,prog.info? 133=some i0/\i0.size=16:=by
 have h:(prog.info? 133).map (·.size)=some 16:=af;cases hq:prog.info? 133 with
 |none=>rw[hq]at h;cases h
 |some i=>rw[hq]at h;exact⟨i,rfl,by simpa using h⟩
theorem EX(b:Nat)(bk cp i j:Nat)(xs:cX)(w:World)(hv:OwnRows b 133 16 w (.slice (some ⟨bk,0,none⟩) xs.length cp) xs)(OS:i<j)(hj:j<=xs.length) :
  aE 102 #[.slice (some ⟨bk,0,none⟩) xs.length cp,.int .i64 i,.int .i64 j] w fun e w'=>e=.returned (.slice (some ⟨bk,0,none⟩) (i+(xs.length-j)) cp)/\OwnRows b 133 16 w' (.slice (some ⟨bk,0,none⟩) (i+(xs.length-j)) cp) (xs.take i++xs.drop j)/\Fr (one bk) w w':=by
 obtain⟨i0,rL,kP⟩:=abK;obtain⟨Bb,cur,ua,q1,q2,q3,q4,q5,q6⟩:=hv.open (g:=bk) rfl;cases ua;unfold maxLen at q4;have dT:=hv.at;have ec:=hv.1;obtain⟨news,kr⟩:∃news,news=(xs.drop j).flatten:=⟨_,rfl⟩;have hdr:∀x∈xs.drop j,x.length=16/\∀u∈x,u.oneCell'=true:=fun x hx=>ec x (eB hx);have hlen:news.length=(xs.length-j)*16:=by rw[kr,f_ (fun x hx=>(hdr x hx).1),bJ]
 obtain⟨A,hA,LY⟩:∃A:Addr,(if cp=j then some (⟨bk,0,none⟩:Addr)else some ⟨bk,j*16,none⟩)=some A/\Hid (∀t u,news[t]?=some u->w.drew.cell? (A.add t)=some u):=by
  by_cases h:cp=j
  ·refine⟨⟨bk,0,none⟩,by simp[h],fun t u hu=>?_⟩
   have h0:news.length=0:=by rw[hlen];have:xs.length-j=0:=by omega
                             rw[this,gX]
   rw[dG.1 h0]at hu;simp at hu
  ·refine⟨⟨bk,j*16,none⟩,by simp[h],fun t u hu=>?_⟩;have ht:t<(xs.length-j)*16:=by
    have:=(List.getElem?_eq_some_iff.1 hu).1;omega
   have nP:xs.flatten[j*16+t]?=some u:=by
    have e:xs.flatten=(xs.take j).flatten++(xs.drop j).flatten:=by rw[<-eh,fH]
    have hl:(xs.take j).flatten.length=j*16:=by rw[f_ (fun x hx=>(ec x (eL hx)).1),aQ,dJ hj]
    rw[e,List.getElem?_append_right ab,hl,show j*16+t-j*16=t from ab, <-kr];exact hu
   have hjt:j*16+t<xs.length*16:=by
    have:(xs.length-j)*16+j*16=xs.length*16:=by rw[<-dD];congr 1;omega
    omega
   rw[<-q6,List.getElem?_take_of_lt hjt]at nP;have BH:cur[j*16+t]?=some u:=by simpa using nP
   have ea:(Addr.add ⟨bk,j*16,none⟩ t)=⟨bk,j*16+t,none⟩:=by unfold Addr.add;split<;>simp_all
   rw[ea];show w.cell? _=some u;simp[World.cell?,q2,BH]
 have s1:=O hlen;have s2:=O (show∀u∈news,u.oneCell'=true by
  intro u hu;rw[kr]at hu;obtain⟨x,hx,EY⟩:=fG.1 hu;exact(hdr x hx).2 u EY)
 have s3:=O (show∀t,t<news.length->(w.drew.cell? ⟨bk,0+i*16+t,none⟩).isSome=true/\w.drew.frozen? ⟨bk,0+i*16+t,none⟩=false by
  intro t ht;rw[bw];have hle:i*16+(xs.length-j)*16<=cp*16:=by rw[<-dD];exact bN _ ab
  have:=hv.there (g:=bk) (cap:=cp) rfl (o:=i*16) (n:=(xs.length-j)*16) hle t ab;exact this)
 have Ti:OwnRows b 133 16 w.drew (.slice (some ⟨bk,0,none⟩) xs.length cp) xs:=hv;have pX:=Ti.Ce (i:=i) (ys:=xs.drop j) ab hdr (g:=bk) (cap:=cp) rfl (by rw[bJ];omega);rw[bJ, <-kr]at pX;have xN:Fr (one bk) w (w.drew.setCells bk (i*16) news):=((ae (one bk) w).drew).setCells (fun _=>rfl) _ _;obtain⟨W1,Bf⟩:∃W1,W1=w.drew.setCells bk (0+i*16) news:=⟨_,rfl⟩;have HW:=O Bf;rw[bw]at Bf;rw[<-Bf]at pX xN
 have rA:(xs.take i++xs.drop j).length=i+(xs.length-j):=by rw[aM,aQ,bJ];omega
 have hm:i+(xs.length-j)<xs.length:=ab;have Bi:(Builtin.zeroCells Xv (xs.length-(i+(xs.length-j)))).toList.length=(xs.length-(i+(xs.length-j)))*16:=by simp[Builtin.zeroCells]
 have hle:(i+(xs.length-j))*16+(xs.length-(i+(xs.length-j)))*16<=cp*16:=by rw[<-dD];exact bN _ ab
 have wU:=fun ty=>jt (P:=prog) W1 85 133 ty Xv underlying85 (fun w=>af) ag N5 bk ((i+(xs.length-j))*16) (xs.length-(i+(xs.length-j))) (cp-(i+(xs.length-j))) ab (by
  have:=pX.there (g:=bk) (cap:=cp) (by rw[rA]) (o:=(i+(xs.length-j))*16) (n:=(xs.length-(i+(xs.length-j)))*16) hle;exact this)
 have xM:=pX.behind (o:=(i+(xs.length-j))*16) (vs:=(Builtin.zeroCells Xv (xs.length-(i+(xs.length-j)))).toList) (by rw[rA];exact az _) (g:=bk) (cap:=cp) (by rw[rA]) (by rw[Bi];omega);have n9:=xN.step (fC (ae (one bk) W1) (fun _=>rfl) (Builtin.zeroCells Xv (xs.length-(i+(xs.length-j)))).toList ((i+(xs.length-j))*16)) (fun _ _ h=>h);have hne:((i:Int)==(j:Int))=false:=by rw[aL];omega
 have abM:i<=cp:=ab;have abN:j<=cp:=ab;have HA:=O hA;clear Bf pX Ti xN kr hlen hdr ec dT rA Bi hle q2 q5 q6 hv;go_enter func102,ntmps102;go_wp2_with fail
 have hA:=HA.o;go_region_law (refine step_append_room rfl (.tmp 22) (.tmp 25) 85 rfl 133 i0 16 underlying85 rL kP bk 0 i cp (by simp[Act.eval,Act.put]) A (xs.length-j) (cp-j) news (by simp[Act.eval,Act.put]) s1.o LY.out s2.o ab s3.o ?_;rw[<-HW.o])
 all_goals
  go_wp2_with fail
  go_ret;exact⟨rfl,xM,n9⟩
