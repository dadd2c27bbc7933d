/- Lemmas for the law's walk. -/
import Derived.Test.YtjndhcngnghpiaaGreatDoorPn7
import Derived.Lib.ItoaLen
set_option maxRecDepth 100000
set_option maxHeartbeats 16000000
set_option linter.unusedSimpArgs false
namespace Go.Proofs.YtjndhcngnghpiaaGreatDoor
open Go.Proofs.Tryz
open Go.RowKit
variable {S:dB} {n k i g j c:Nat} {l:aH} {s:aj} {W w w':World}
def iB(w:World)(b c:Nat)(s:aj)(v:Value):Prop:=w.heap[b]?=some (.cells #[.pointer (some ⟨c,0,none⟩),.string s,v] 205 (0,0))
section
variable {w w' : World} {b c i : Nat} {s t : ByteArray} {v : Value}
theorem iB.cell0(h:iB w b c s v):w.cell? ⟨b,0,none⟩=some (.pointer (some ⟨c,0,none⟩)):=by simp[World.cell?,show w.heap[b]?=_ from h]
theorem iB.gW(h:iB w b c s v):w.cell? ⟨b,1,none⟩=some (.string s):=by simp[World.cell?,show w.heap[b]?=_ from h]
theorem iB.lO(h:iB w b c s v):w.cell? ⟨b,2,none⟩=some v:=by simp[World.cell?,show w.heap[b]?=_ from h]
theorem iB.free(h:iB w b c s v)(k:Nat):w.frozen? ⟨b,k,none⟩=false:=by simp[World.frozen?,show w.heap[b]?=_ from h]
theorem iB.ne(h:iB w b c s v)(g:dw w c t i):b≠c:=by
 intro e;subst e;have h':w.heap[b]?=_:=h;have g':w.heap[b]?=_:=g;rw[h']at g';simp at g'
theorem iB.fr(h:iB w b c s v)(hf:Fr S w w')(hn:¬S b):iB w' b c s v:=hf.keep h hn
theorem iB.one(h:iB w b c s v)(g:dw w c t i)(hf:Fr (one c) w w'):iB w' b c s v:=h.fr hf (fun e=>h.ne g e)
theorem iB.lt(h:iB w b c s v):b<w.heap.size:=bj h
theorem iB.drewN(h:iB w b c s v):iB (w.drewN n) b c s v:=h
end
theorem T4(l:Bs)(k:Nat)(hk:k<=l.length):cM oa l (cM dK l k)=cM oa l k:=by
 have e1:l.drop (cM oa l (cM dK l k))=l.drop (cM oa l k):=by
  rw[jV,jV,jV];exact ub _
 have h1:cM oa l (cM dK l k)<=l.length:=gZ (gZ hk);have h2:cM oa l k<=l.length:=gZ hk;have:=aq List.length e1;simp at this;omega
theorem MV{l:Bs}(h:l[k]?=some 44):cM oa l (k+1)=cM oa l k:=(oy h ag).symm
theorem QC{l:Bs}(h:cM dK l k=k)(h2:l[k]?≠some 44):cM oa l k=k:=by
 refine lz (fun c hc=>?_);unfold oa;cases hb:dK c
 ·have:c≠44:=fun e=>h2 (by rw[hc,e]);simpa using this
 ·have:=oy (p:=dK) hc hb;have h3:=lA (p:=dK) (l:=l) (i:=k+1);omega
theorem wG(s:aj)(k:Nat)(c:UInt8):j6 s k c=true↔s.data.toList[k]?=some c:=by unfold j6;simp
theorem CZ(b c i:Nat)(s:aj)(v:Value)(w:World)(hr:iB w b c s v)(h:dw w c s i)(hs:s.size<=maxLen)(hi:i<=s.size) :
  aB 118 #[.pointer (some ⟨b,0,none⟩)] w fun e w'=>e=.returned (.tuple #[])/\dw w' c s (cM oa s.data.toList i)/\Fr (one c) w w':=by
 go_enter func118,ntmps118;go_wp2;go_loopw[] (fun wr=>∃k,k<=s.size/\dw wr c s k/\cM oa s.data.toList k=cM oa s.data.toList i/\Fr (one c) w wr) (fun wr=>s.size-pq wr c)
 case atStart=>exact⟨i,hi,h,rfl,ae _ _⟩
 case round =>
  obtain⟨k,hk,hc,ql,cL⟩:=hrel;have xF:=O ql;clear ql;have yz:=hr.one h cL;have q0:=yz.cell0;have pU:=O hc.pos;have hkl:k<=s.data.toList.length:=by simpa using hk
  have HG:=O (T4 s.data.toList k hkl);have lW:cM dK s.data.toList k<=s.size:=by simpa using gZ (p:=dK) hkl
  have QD:k<=cM dK s.data.toList k:=lA;go_wp2_with fail
  refine(mo c s k wr hc hs hk).mono ?_;rintro e w1⟨rfl,pk,dn⟩;have lq:=O (cL.trans dn);have ob:=yz.one hc dn;have q1:=ob.cell0;generalize hK:cM dK s.data.toList k=K at *
  have HK:=O hK;clear hK q0;by_cases tV:k<K
  ·have hd:decide (k<K)=true:=bL tV;rw[hd];go_wp2;go_roundw
   case rel=>exact⟨K,lW,pk,HG.o.trans xF.o,lq.o⟩
   case measure=>rw[pU.o,pk.pos];omega
  ·have hd:decide (k<K)=false:=bD tV;have hKk:K=k:=ab;subst hKk;rw[hd];go_wp2_with fail
   refine(pT c s K 44 w1 pk hs).mono ?_;rintro e w2⟨rfl,se,dz⟩;have fY:=O (lq.o.trans dz);cases hm:j6 s K 44
   ·have jq:=O (QC HK.o (fun e=>by rw[(wG s K 44).2 e]at hm;cases hm));rw[po hm]at se;go_wp2;go_end0;rw[<-xF.o,jq.o];exact⟨rfl,se,fY.o⟩
   ·have jq:=O (MV ((wG s K 44).1 hm));rw[pn hm]at se;have amx:K<s.size:=by
     have:=(List.getElem?_eq_some_iff.1 ((wG s K 44).1 hm)).1;simpa using this
    go_wp2;go_roundw
    case rel=>exact⟨K+1,amx,se,jq.o.trans xF.o,fY.o⟩
    case measure=>rw[pU.o,se.pos];omega
def eJ(s:aj)(i:Nat):Nat:=cM dK s.data.toList i
theorem xQ(h:i<=s.size):eJ s i<=s.size:=by
 unfold eJ;simpa using gZ (p:=dK) (l:=s.data.toList) (i:=i) (by simpa using h)
theorem oF(s:aj)(i:Nat):s.data.toList.drop (eJ s i)=eW (s.data.toList.drop i):=jV _ _ _
theorem Ys(s:aj)(i:Nat):nV (s.data.toList.drop i)=(decide (s.size<=eJ s i)||j6 s (eJ s i) 44):=by
 unfold nV;rw[<-oF];by_cases h:s.size<=eJ s i
 ·rw[cP (by simpa using h)];simp[h,TI]
 ·have tV:eJ s i<s.data.toList.length:=by simpa using h
  rw[cR tV,bD h,jE];unfold TI j6;rw[List.getElem?_eq_getElem tV,fb];simp
theorem uh(h:k<=n):TG (k:Int) n=k:=by unfold TG;omega
theorem C0(b c i:Nat)(s:aj)(v:Value)(w:World)(hr:iB w b c s v)(h:dw w c s i)(hs:s.size<=maxLen)(hi:i<=s.size) :
  aB 169 #[.pointer (some ⟨b,0,none⟩)] w fun e w'=>e=.returned (.bool (nV (s.data.toList.drop i)))/\dw w' c s (eJ s i)/\Fr (one c) w w':=by
 have q0:=hr.cell0;have hb:=xQ hi;have HO:=O (Ys s i);generalize hK:eJ s i=K at *
 have HK:=O hK;clear hK;go_enter func169,ntmps169;go_wp2_with fail
 refine(mo c s i w h hs hi).mono ?_;rintro e w1⟨rfl,pk,dn⟩;replace pk:dw w1 c s (eJ s i):=pk;rw[HK.o]at pk;have yz:=hr.one h dn;have q1:=yz.cell0;clear q0;go_wp2_with fail
 refine(Aq c s K w1 pk).mono ?_;rintro e w2⟨rfl,rfl⟩;go_wp2_with fail
 refine(wB c s K w1 pk).mono ?_;rintro e w3⟨rfl,n3,rfl⟩;have tZ:dw (w1.drewN n3) c s K:=pk.drewN n3;have il:Fr (one c) w (w1.drewN n3):=dn.drewN n3;have q3:=(yz.drewN (n:=n3)).cell0;clear q1;by_cases he:s.size<=K
 ·have hd:decide (s.size<=K)=true:=bL he;have HO2:=O (show nV (s.data.toList.drop i)=true by rw[HO.o,hd];rfl);rw[hd];clear HO;go_wp2_with fail
  refine(xI c s K K (w1.drewN n3) tZ hs).mono ?_;rintro e w4⟨rfl,tW,kD⟩;rw[uh hb]at tW;go_wp2;go_ret;rw[HO2.o];exact⟨rfl,tW,il.trans kD⟩
 ·have hd:decide (s.size<=K)=false:=bD he;have HO2:=O (show nV (s.data.toList.drop i)=j6 s K 44 by rw[HO.o,hd];rfl);rw[hd];clear HO;go_wp2_with fail
  refine(pT c s K 44 (w1.drewN n3) tZ hs).mono ?_;rintro e w4⟨rfl,tW,kD⟩;have q4:=((yz.drewN (n:=n3)).one tZ kD).cell0;clear q3;go_wp2_with fail
  refine(xI c s _ K w4 tW hs).mono ?_;rintro e w5⟨rfl,tX,lL⟩;rw[uh hb]at tX;go_wp2;go_ret;rw[HO2.o];exact⟨rfl,tX,(il.trans kD).trans lL⟩
def I'(s:aj)(i:Nat):Nat:=cM fV s.data.toList i
theorem Hd(h:i<=s.size):I' s i<=s.size:=by
 unfold I';simpa using gZ (p:=fV) (l:=s.data.toList) (i:=i) (by simpa using h)
theorem vE(s:aj)(i:Nat):s.data.toList.drop (I' s i)=ir (s.data.toList.drop i):=jV _ _ _
theorem y_(s:aj)(i:Nat):s.extract i (I' s i)=⟨(gX (s.data.toList.drop i)).toArray⟩:=yM _ _ _
theorem Yt(s:aj)(k:Nat)(c:UInt8):MH c (s.data.toList.drop k)=j6 s k c:=by
 unfold j6;rcases fF k s.data.toList.length with h|h
 ·rw[cR h,List.getElem?_eq_getElem h,fb];simp[MH]
 ·rw[cP h,List.getElem?_eq_none h];simp[MH]
theorem J'(s:aj)(i:Nat):lB (s.data.toList.drop i)=(!(gX (s.data.toList.drop i)).isEmpty&&j6 s (eJ s (I' s i)) 61):=by
 unfold lB;rw[<-vE, <-oF,Yt]
theorem toList_mk(l:Bs):(⟨l.toArray⟩:aj).toList=l:=by rw[Go.ByteArray.toList_eq]
theorem MW(b c i:Nat)(s:aj)(v:Value)(w:World)(hr:iB w b c s v)(h:dw w c s i)(hs:s.size<=maxLen)(hi:i<=s.size) :
  aB 172 #[.pointer (some ⟨b,0,none⟩)] w fun e w'=>e=.returned (.bool (lB (s.data.toList.drop i)))/\dw w' c s i/\Fr (one c) w w':=by
 have q0:=hr.cell0;have HN:=O (J' s i);have hw:=Hd hi;go_enter func172,ntmps172;go_wp2_with fail
 refine(Aq c s i w h).mono ?_;rintro e w0⟨rfl,rfl⟩;go_wp2_with fail
 refine(vo c s i w h hs hi).mono ?_;rintro e w1⟨rfl,pk,dn⟩;replace pk:dw w1 c s (I' s i):=pk;rw[show s.extract i (cM fV s.data.toList i)=⟨(gX (s.data.toList.drop i)).toArray⟩from y_ s i];generalize I' s i=K at *
 generalize gX (s.data.toList.drop i)=W at *
 have yz:=hr.one h dn;have q1:=yz.cell0;clear q0;go_wp2_with fail
 refine(mo c s K w1 pk hs hw).mono ?_;rintro e w2⟨rfl,se,dz⟩;replace se:dw w2 c s (eJ s K):=se;have hb:=xQ hw;generalize eJ s K=M at *
 have ob:=yz.one pk dz;have q2:=ob.cell0;have fY:=O (dn.trans dz);clear q1 dn dz;cases W with
 |nil =>
  have HN2:=O (show lB (s.data.toList.drop i)=false by rw[HN.o];rfl);clear HN;go_wp2_with fail
  refine(xI c s M i w2 se hs).mono ?_;rintro e w4⟨rfl,tW,kD⟩;rw[uh hi]at tW;go_wp2;go_ret;rw[HN2.o];exact⟨rfl,tW,fY.o.trans kD⟩
 |cons x W =>
  have HN2:=O (show lB (s.data.toList.drop i)=j6 s M 61 by rw[HN.o];rfl);clear HN;go_wp2_with fail
  refine(pT c s M 61 w2 se hs).mono ?_;rintro e w3⟨rfl,tZ,il⟩;have q3:=(ob.one se il).cell0;clear q2;go_wp2_with fail
  refine(xI c s _ i w3 tZ hs).mono ?_;rintro e w4⟨rfl,tW,kD⟩;rw[uh hi]at tW;go_wp2;go_ret;rw[HN2.o];exact⟨rfl,tW,(fY.o.trans il).trans kD⟩
def SY:List Int:=[0,1,56,2,57,49,28,3,61,58,42,50,38,29,17,4,62,47,59,36,45,43,51,22,53,39,33,30,24,18,12,5,63,55,48,27,60,41,37,16,46,35,44,21,52,32,23,11,54,26,40,15,34,20,31,10,25,14,19,9,13,8,7,6]
theorem M7{laid:List (String×DataW Unit)}(h:laidMet prog laid W)(hm:("math/bits.deBruijn64tab",Lib.tabData .u8 SY)∈laid/\True):oI W 9 .u8 SY :=
 vL (rz h hm.1 (g:=9) af af underlying342 underlying5 af af) af ag
theorem ac5(w:World)(h:oI w 9 .u8 SY) :
  aB 272 #[.int .u64 16] w fun e w'=>e=.returned (.int .i64 4)/\w'=w:=by
 have hc:w.cell? ⟨9,15,none⟩=some (.int .u8 4):=h.2 15 4 rfl;have hb:bits .and .u64 16 18446744073709551600=16:=dt;have hw:IntKind.u64.wrap (-16)=18446744073709551600:=dt;have eA:IntKind.u64.wrap (16*285870213051353865)=4573923408821661840:=dt;have Up:IntKind.u64.wrap 4573923408821661840=4573923408821661840:=dt;go_enter func272,ntmps272;go_wp2;go_ret;exact⟨rfl,rfl⟩
theorem Uq(w:World) :
  aB 271 #[.int .i64 16] w fun e w'=>e=.returned (.bool true)/\w'=w:=by
 have hb:bits .and .i64 16 15=0:=dt;go_enter func271,ntmps271;go_wp2;go_ret;exact⟨rfl,rfl⟩
theorem PC:∀n (h:n<16),(⟨#[48,49,50,51,52,53,54,55,56,57,97,98,99,100,101,102,103,104,105,106,107,108,109,110,111,112,113,114,115,116,117,118,119,120,121,122]⟩:aj)[n]'(Nat.lt_trans h ag)=C7 n.toUInt8:=ag
def PD(w:World)(g:Nat)(l:aH):Prop:=w.heap[g]?=some (.cells (tU l).toArray 325 (0,0))
theorem PD.cell(h:PD w g l){c:UInt8}(hj:l[j]?=some c):w.cell? ⟨g,j,none⟩=some (.int .u8 (c.toNat:Int)):=by
 obtain⟨hl,he⟩:=List.getElem?_eq_some_iff.1 hj;unfold PD at h;simp only[World.cell?,h];simp[tU,hl,he]
theorem PD.free(h:PD w g l)(j:Nat):w.frozen? ⟨g,j,none⟩=false:=by
 unfold PD at h;simp[World.frozen?,h]
theorem PD.set(h:PD w g l)(j:Nat)(c:UInt8):PD (w.setCell ⟨g,j,none⟩ (.int .u8 (c.toNat:Int))) g (l.set j c):=by
 unfold PD at h ⊢;simp only[World.setCell,Array.getElem?_modify,h];simp[tU,List.map_set]
theorem PD.text{m:aH}(h:PD w g (m++l))(hk:m.length=k) :
  (convert 187 9 (.slice (some ⟨g,k,none⟩) l.length c)).run prog w=.ok (.string ⟨l.toArray⟩) w:=by
 refine run_convert_bytes_back (P:=prog) w 187 9 5 ⟨g,k,none⟩ c l underlying187 underlying5 underlying9 ?_;intro j hj;have ea:(Addr.add ⟨g,k,none⟩ j)=⟨g,k+j,none⟩:=by unfold Addr.add;split<;>simp_all
 rw[ea];refine h.cell ?_;rw[List.getElem?_append_right ab,show k+j-m.length=j from ab];exact List.getElem?_eq_getElem hj
def EM(n j:Nat):aH:=List.replicate (65-j) 0++kA j n
theorem Ur(n j:Nat)(h:j<=65):(EM n j).length=65:=by unfold EM;rw[aN,fi,nK];omega
theorem QO(n j:Nat)(h:j<65):EM n (j+1)=(EM n j).set (64-j) (C7 (n/16^j%16).toUInt8):=by
 unfold EM;rw[<-Bv j n,show 65-j=(65-(j+1))+1 from ab,List.replicate_succ'];rw[cK,List.set_append,ar (by rw[fi];omega)];rw[fi,show 64-j-(65-(j+1))=0 from ab];rfl
theorem ac6(q:Nat)(hq:q<18446744073709551616):bits .and .u64 (q:Int) 15=((q%16:Nat):Int):=by
 have h:=bits_and_u64_nat q 15 hq ag;rw[show((15:Nat):Int)=15 from rfl]at h;rw[h]
 congr 1
 exact Nat.and_two_pow_sub_one_eq_mod q 4
def ag9(n g:Nat)(w:World)(u i:Value)(wr:World):Prop:=∃j m:Nat,j<=7/\m+1+j=65/\u=.int .u64 ((n/16^j:Nat):Int)/\i=.int .i64 ((m:Int)+1)/\PD wr g (EM n j)/\Fr aS w wr
theorem QP(n:Nat)(w:World)(hn:n<4294967296)(h:oI w 9 .u8 SY) :
  aB 244 #[.slice none 0 0,.int .u64 (n:Int),.int .i64 16,.bool false,.bool false] w fun e w' =>
   (∃j,j<8/\n<16^(j+1)/\e=.returned (.tuple #[.slice none 0 0,.string ⟨(kA (j+1) n).toArray⟩]))/\Fr aS w w':=by
 have gO:Fr aS w (w.alloc (.cells (tU (List.replicate 65 0)).toArray 325)):=(ae aS w).alloc _;have HTZ:=O (ac5 _ (h.fr gO));have YV:=O (show PD (w.alloc (.cells (tU (List.replicate 65 0)).toArray 325)) w.heap.size (EM n 0)from aC _ _);clear h;go_enter func244,ntmps244;go_wp2_with fail
 refine(Uq _).mono ?_;rintro e w1⟨rfl,rfl⟩;go_wp2_with fail
 refine HTZ.o.mono ?_;rintro e w2⟨rfl,rfl⟩;go_wp2;go_loopw[1,13] (ag9 n w.heap.size w) (fun u _ _=>(intOf u).toNat)
 case atStart=>exact⟨0,64,ab,ab,aR,rfl,YV.o,gO⟩
 case round =>
  obtain⟨j,m,hj,hm,rfl,rfl,hb,cL⟩:=hrel;have hq0:n/16^j<=n:=Nat.div_le_self _ _;have hsu:=O (QO n j ab);have xl:=O (show n/16^(j+1)=n/16^j/16 by rw[Nat.pow_succ,Nat.div_div_eq_div_mul]);have h7:=O (show 16<=n/16^j->j<7 from fun h=>by
   rcases fF j 7 with h1|h1
   ·exact h1
   ·obtain rfl:j=7:=ab;simp at h;omega)
  have ag_:=O (show n/16^j<16->n<16^(j+1)from fun h=>by rw[Nat.pow_succ,Nat.mul_comm];exact(Nat.div_lt_iff_lt_mul (Nat.pow_pos ag)).1 h);have qH:=O (hb.set m (C7 (n/16^j%16).toUInt8));have hbl:=Ur n j ab;have hcell:=hb.cell (List.getElem?_eq_getElem (show m<(EM n j).length from ab));have aqL:=hb.free m;generalize hq:n/16^j=q at *
  have h15:=ac6 q ab;have hr:q%16<16:=Nat.mod_lt _ ag;by_cases Xq:16<=q
  ·have amV:(16:Int)<=(q:Int):=ab;go_wp2;rw[PC _ hr];exact⟨⟨j+1,m-1,by have:=h7.o Xq;omega,by have:=h7.o Xq;omega,by rw[xl.o];rfl,by congr 1;omega,by rw[hsu.o,show 64-j=m from ab];exact qH.o,cL.gF (p:=⟨w.heap.size,m,none⟩) (ay _) _⟩,by simp[intOf];omega⟩
  ·have amV:¬(16:Int)<=(q:Int):=ab;have at4:(m:Int)<=65:=ab;have aqM:m<=65:=ab;have ag':q<16:=ab;have e65:65-m=j+1:=ab;have hx:=qH.o;rw[show q%16=q from ab,show(EM n j).set m (C7 q.toUInt8)=List.replicate m 0++kA (j+1) n from by
    have h:=hsu.o;rw[show q%16=q from ab,show 64-j=m from ab]at h;rw[<-h];unfold EM;rw[show 65-(j+1)=m from ab]]at hx
   have Bf:=hx.text (k:=m) (c:=j+1) aR;rw[nK]at Bf;clear hx hb qH;go_wp2;rw[PC _ ag',Bf];go_wp2;go_ret2;exact⟨⟨j,ab,ag_.o ag',rfl⟩,cL.gF (p:=⟨w.heap.size,m,none⟩) (ay _) _⟩
theorem Us(n:Nat)(w:World)(hn:n<4294967296)(h:oI w 9 .u8 SY) :
  aB 161 #[.int .i64 (n:Int),.int .i64 16] w fun e w' =>
   (∃j,j<8/\n<16^(j+1)/\e=.returned (.string ⟨(kA (j+1) n).toArray⟩))/\Fr aS w w':=by
 have HF:=O (QP n w hn h);clear h
 have h1:IntKind.u64.wrap (n:Int)=(n:Int):=by have e:IntKind.u64.wrap (n:Int)=(n:Int)%18446744073709551616:=by simp[IntKind.wrap,IntKind.signed,IntKind.bits]
                                              rw[e];omega
 have Xm:aB 209 #[.int .i64 (n:Int),.int .i64 16] w fun e w' =>
   (∃j,j<8/\n<16^(j+1)/\e=.returned (.string ⟨(kA (j+1) n).toArray⟩))/\Fr aS w w':=by
  go_enter func209,ntmps209;go_wp2_with fail
  refine HF.o.mono ?_;rintro e w1⟨⟨j,hj,AE,rfl⟩,hf⟩;have HN:=O AE;clear AE;go_wp2;go_ret;exact⟨⟨j,hj,HN.o,rfl⟩,hf⟩
 go_enter func161,ntmps161;go_wp2_with fail
 refine Xm.mono ?_;rintro e w1⟨⟨j,hj,AE,rfl⟩,hf⟩;have HN:=O AE;clear AE Xm;go_wp2;go_ret;exact⟨⟨j,hj,HN.o,rfl⟩,hf⟩
theorem Kp(k:Nat):Lib.repeatL [48] k=List.replicate k 48:=by
 induction k with
 |zero=>rfl
 |succ k ih=>show([48]:aH)++Lib.repeatL [48] k=_;rw[ih,List.replicate_succ];rfl
theorem q_(n:Nat)(w:World)(hn:n<4294967296)(h:oI w 9 .u8 SY) :
  aB 111 #[.int .i64 (n:Int)] w fun e w'=>e=.returned (.string ⟨(jt n).toArray⟩)/\Fr aS w w':=by
 have HF:=O (Us n w hn h);clear h;go_enter func111,ntmps111;go_wp2_with fail
 refine HF.o.mono ?_;rintro e w1⟨⟨j,hj,AE,rfl⟩,hf⟩;have HC:=O (show jt n=Lib.repeatL [48] (7-j)++kA (j+1) n by unfold jt;rw[Kp,C9 _ _ _ AE,show j+1+(7-j)=8 from ab]);have hl:=nK (j+1) n;generalize kA (j+1) n=x at *
 clear AE;have hmx:max (0:Int) (8-((j:Int)+1))=((7-j:Nat):Int):=ab;go_wp2_with fail
 refine(strings_Repeat ⟨#[48]⟩ (7-j) w1 ab (by show 1*(7-j)<=_;omega)).mono ?_;rintro e w2⟨rfl,hb⟩;have dz:=fj hb;have uT:(Lib.repeatL [48] (7-j)).length=7-j:=by rw[Kp];simp
 have HS:=O (show(⟨(Lib.repeatL [48] (7-j)).toArray⟩++⟨x.toArray⟩:aj)=⟨(jt n).toArray⟩from by
  apply Go.WideShapes.bytes_inj;rw[HC.o];simp[gK])
 generalize Lib.repeatL [48] (7-j)=z at *
 have YM:¬9223372036854775807<z.length+x.length:=ab;go_wp2;go_ret;exact⟨by rw[<-HS.o];rfl,hf.trans dz⟩
theorem zo(b:Bool)(w:World):aB 230 #[.bool b] w fun e w'=>e=.returned (.int .i64 (CN b))/\w=w':=by
 cases b
 ·go_enter func230,ntmps230;go_wp2;go_ret;exact⟨rfl,rfl⟩
 ·go_enter func230,ntmps230;go_wp2;go_ret;exact⟨rfl,rfl⟩
def gq.dS(o:gq):acA:=⟨o.aE,o.host.data.toList,o.port⟩
def wX(o:gq):aj:=⟨(Fq o.dS).toArray⟩
def PK(s:Bool):aj:=⟨(aaP s).toArray⟩
theorem Nj(sec:Bool)(host:aj)(port:Int)(h:port=CN sec):wX ⟨sec,host,port⟩=PK sec++host:=by
 apply Go.WideShapes.bytes_inj;unfold wX Fq gq.dS PK;simp[h]
theorem Q8(sec:Bool)(host:aj)(port:Int)(h:¬port=CN sec):wX ⟨sec,host,port⟩=(PK sec++host)++(⟨#[58]⟩++⟨(Lib.itoa port).toArray⟩):=by
 apply Go.WideShapes.bytes_inj;unfold wX Fq gq.dS PK;simp[h]
theorem Fr.grow(w:World)(k:Nat)(os:Array Obj):Fr aS w (Sort.grow (w.drewN k) os):=fj (Lib.below_grow w.heap.size w (ay _) k os)
theorem UK(o:gq)(w:World)(ht:xn w)(h0: -9223372036854775808<=o.port)(h1:o.port<=9223372036854775807)(hs:o.host.size<100000) :
  aB 196 #[.agg o.cells.toArray] w fun e w'=>e=.returned (.string (wX o))/\Fr aS w w':=by
 obtain⟨sec,host,port⟩:=o;have h0: -9223372036854775808<=port:=h0;have h1:port<=9223372036854775807:=h1;have hs:host.size<100000:=hs;have anp:=Lib.itoa_length_le port h0 h1;have hiz:(⟨(Lib.itoa port).toArray⟩:aj).size<=21:=by show(Lib.itoa port).toArray.size<=21;simpa using anp
 unfold gq.cells;obtain⟨wb,jQ⟩:∃wb,wb=w.alloc (.cells #[.bool sec,.string host,.int .i64 port] 24):=⟨_,rfl⟩;have kf:Fr aS w wb:=by rw[jQ];exact(ae aS w).alloc _
 have lW:wb.heap[w.heap.size]?=some (.cells #[.bool sec,.string host,.int .i64 port] 24 (0,0)):=by rw[jQ];exact aC _ _
 have c0:wb.cell? ⟨w.heap.size,0,none⟩=some (.bool sec):=by simp[World.cell?,lW]
 have c1:wb.cell? ⟨w.heap.size,1,none⟩=some (.string host):=by simp[World.cell?,lW]
 have c2:wb.cell? ⟨w.heap.size,2,none⟩=some (.int .i64 port):=by simp[World.cell?,lW]
 have BC:=O (show∀m,aB 231 #[.int .i64 port] (wb.drewN m) fun e w'=>e=.returned (.string ⟨(Lib.itoa port).toArray⟩)/\Fr aS w w' from fun m =>
  (strconv_Itoa port h0 h1 _ ((ht.fr kf).fr ((ae aS wb).drewN m))).mono fun e w' h=>by
   obtain⟨he,k,os,rfl⟩:=h;exact⟨he,(kf.drewN m).trans (Fr.grow _ k os)⟩)
 have qL:=O jQ;clear jQ lW;by_cases hp:port=CN sec
 ·have HT:=O (Nj sec host port hp);have FU:(port !=CN sec)=false:=by simpa using hp
  have mh:=O kf;cases sec
  ·clear hp;go_enter func196,ntmps196;go_wp2;rw[<-qL.o];go_quiet ((go_at_call 230;exact tA (zo false _)));go_wp2;go_ret;exact⟨by rw[HT.o];rfl,mh.o.drewN _⟩
  ·clear hp;go_enter func196,ntmps196;go_wp2;rw[<-qL.o];go_quiet ((go_at_call 230;exact tA (zo true _)));go_wp2;go_ret;exact⟨by rw[HT.o];rfl,mh.o.drewN _⟩
 ·have HT:=O (Q8 sec host port hp);have FU:(port !=CN sec)=true:=by simpa using hp
  have mh:=O kf;cases sec
  ·clear hp;go_enter func196,ntmps196;go_wp2;rw[<-qL.o];go_quiet ((go_at_call 230;exact tA (zo false _)));go_wp2_with fail
   refine(BC.o _).mono ?_;rintro e u⟨rfl,xZ⟩;go_wp2;go_ret;exact⟨by rw[HT.o];rfl,xZ⟩
  ·clear hp;go_enter func196,ntmps196;go_wp2;rw[<-qL.o];go_quiet ((go_at_call 230;exact tA (zo true _)));go_wp2_with fail
   refine(BC.o _).mono ?_;rintro e u⟨rfl,xZ⟩;go_wp2;go_ret;exact⟨by rw[HT.o];rfl,xZ⟩
theorem x_:(prog.info? 133).map (fun i=>(i.zero,i.size,i.bytes))=some (some (.agg eS),16,216):=af
theorem ya:eS.all (·.oneCell')=true:=dt
def Q_(base:Nat)(w:World)(gs:List (aP bE))(v:Value)(w':World):Prop:=fZ base w' v gs/\∀k,v.ownBlock=some k->w.heap.size<=k
def Dy(base:Nat)(w:World)(gs:List (aP bE))(e:Ending)(w':World):Prop :=
 ∃v,e=.returned v/\Q_ base w gs v w'/\Fr aS w w'
def ahz(base:Nat)(w:World)(gs:List (aP bE))(v i:Value)(wr:World):Prop :=
 ∃(k:Nat) (rs:List (aP Value)),k<=gs.length/\i=.int .i64 k/\OwnRows w.heap.size 133 16 wr v (rs.map aP.cells)/\kT (aP.Reads (du base wr)) rs (gs.take k)/\Fr aS w wr
theorem Dz(base:Nat)(w:World)(b:Nat)(gv wv:Value)(gs:List (aP bE))(ws:List (bI bE))(h:dD base w b gv wv gs ws)(Nn:gs.length<68719476736) :
  aB 56 #[.pointer (some ⟨b,0,none⟩)] w (Dy base w gs):=by
 have h0:=h.c0;obtain⟨av,cv,hv⟩:=h.bU.form;subst hv;have tV:=h.lt;have ix:base<=w.heap.size:=by have:=h.low;omega
 go_enter func56,ntmps56;go_wp2;clear h0;go_loopw[3,11] (ahz base w gs) (fun _ i _=>gs.length-(intOf i).toNat)
 case atStart=>exact⟨0,[],aQ _,rfl,dx _ _ _ _,.nil,ae _ _⟩
 case round =>
  obtain⟨k,rs,hk,rfl,cQ,vO,cL⟩:=hrel;by_cases fk:k<gs.length
  ·obtain⟨bk,c,dn,sG,r,dX,hr,hcell⟩:=(h.di cL).bU.at fk;cases dn;unfold maxLen at sG;obtain⟨x,hx⟩:∃x,x=r.cells:=⟨_,rfl⟩;have lp:x.length=16:=by rw[hx];rfl
   have jq:=fun W=>run_storeCells_new (P:=prog) W 133 #[.bool false,.string ⟨#[]⟩,.int .i64 0,.bool false,.string ⟨#[]⟩,.string ⟨#[]⟩,.int .i64 0,.string ⟨#[]⟩,.string ⟨#[]⟩,.string ⟨#[]⟩,.bool false,.string ⟨#[]⟩,.bool false,.slice none 0 0,.int .i64 0,.slice none 0 0] x (by rw[lp];rfl) (by rw[hx];exact dX);rw[<-hx]at hcell;have HX:=O hx
   have Dx:(prog.info? 133).map (·.size)=some x.toArray.size:=by rw[aZ,lp];kernel_rfl
   have Hu:=O Dx;clear hx Dx;obtain⟨av,cv,UP⟩:=cQ.form;subst UP;rw[ai,vO.len,aM,dL hk]at cQ ⊢
   go_wp2_with (first|((with_reducible refine dk 14 ?_);refine a_ rfl 133 (.tmp 13) rfl bk (k*16) rfl x _ hcell underlying133 rfl (by have h:=Hu.o;rw[aZ]at h;exact h) ?_)|((with_reducible refine dk 16 ?_);refine aI rfl 133 (.tmp 5) rfl wr.heap.size rfl _ x.toArray (0,0) _ (aC wr _) underlying133 rfl Hu.o ?_)|fail)
   have gO:Fr aS wr (wr.alloc (.cells x.toArray 133)):=(ae aS wr).alloc _;have ob:=hr.mono (fun _ _ h=>h.di gO);have fA:=cQ.alloc (.cells x.toArray 133);have DA:=vO.mono (fun _ _ h=>h.mono (fun _ _ h=>h.di gO));have sX:=cL.trans gO;have jQ:w.heap.size<=wr.heap.size:=cL.size;have fB:=O (ur base r gs[k] _ bH ob);rw[<-HX.o]at fB;clear hr ob gO dX jq hcell cQ vO cL
   generalize wr.alloc (.cells x.toArray 133)=W2 at *
   refine fB.o.mono ?_;rintro e w3 Np;obtain⟨r3,rfl,rq,qE,il⟩:=Np;have fq:=fA.fr il (fun _ _ h=>h);have DB:=DA.mono (fun _ _ h=>h.mono (fun _ _ h=>h.di il));have iq:=sX.trans il;clear fB fA DA sX il;obtain⟨y,hy⟩:∃y,y=r3.cells:=⟨_,rfl⟩;have CP:y.length=16:=by rw[hy];rfl
   rw[<-hy]at qE ⊢;have HY:=O hy;clear hy;have Hw:=O fq;clear fq;have FW:=vD y #[.bool false,.string ⟨#[]⟩,.int .i64 0,.bool false,.string ⟨#[]⟩,.string ⟨#[]⟩,.int .i64 0,.string ⟨#[]⟩,.string ⟨#[]⟩,.string ⟨#[]⟩,.bool false,.string ⟨#[]⟩,.bool false,.slice none 0 0,.int .i64 0,.slice none 0 0] (by rw[CP];rfl);have hbw:w.heap.size<=w3.heap.size:=iq.size;have uT:=DB.len;rw[aM,dL hk]at uT
   have HRL:=O uT;have Nh:(rs.map aP.cells).length<68719476736:=by rw[ai,uT];omega
   clear uT;go_wp2_with (at_builtin;refine nJ rfl _ _ 85 133 rfl 16 216 (.agg eS) underlying85 x_ rfl ag ag w.heap.size (.slice av k cv) (rs.map aP.cells) rfl (Hw.o.alloc _) w3.heap.size 1 y rfl CP qE (fun i u hi=>by rw[World.cell?_alloc_mark];simpa using hi) Nh bH ?_;intro v' w4 eZ BU)
   have Ez:=Fr.Pj _ BU;have mO:=Hw.o.off (base:=base) ix ag;rw[HY.o]at eZ;refine⟨⟨k+1,rs++[r3],ab,bg,by rw[bG];exact eZ,?_,iq.step Ez (fun j hj hS=>by have h2:=Hw.o.block j hS;omega)⟩,by simp[intOf];omega⟩;rw[dW (List.getElem?_eq_getElem fk)];exact(DB.mono (fun _ _ h=>h.mono (fun _ _ h=>h.fr Ez mO))).app (.cons (rq.mono (fun _ _ h=>h.fr Ez mO)) .nil)
  ·rw[aD ab]at vO;obtain⟨av,cv,UP⟩:=cQ.form;subst UP;go_wp2;go_ret;exact⟨_,rfl,⟨⟨rs,cQ.up ix,vO⟩,cQ.block⟩,cL⟩
theorem KB{α:Type}(f:α->Int):∀(l:List α) (i:Nat) (acc:Int×Int),(∃k,k<l.length/\(oL f l i acc).2=((i+k:Nat):Int))\/(oL f l i acc).2=acc.2
 |[],_,_=>Or.inr rfl
 |g :: l,i,acc=>by
  rw[oL];rcases KB f l (i+1) (if 0<=f g/\acc.1<=f g then(f g,(i:Int))else acc)with ⟨k,hk,h⟩|h
  ·exact Or.inl ⟨k+1,bH,by rw[h];congr 1;omega⟩
  ·rw[h];by_cases hc:0<=f g/\acc.1<=f g
   ·rw[aA hc];exact Or.inl ⟨0,aR,aR⟩
   ·rw[ar hc];exact Or.inr rfl
theorem UQ(gs:List (aP bE))(o:gq)(proxy:Bool)(path:aj):(∃k,k<gs.length/\tL gs o proxy path=(k:Int))\/tL gs o proxy path= -1:=by
 rcases KB (pH o proxy path) gs 0 (-1, -1)with ⟨k,hk,h⟩|h
 ·exact Or.inl ⟨k,hk,by unfold tL;rw[h,bw]⟩
 ·exact Or.inr h
def tM(base:Nat)(w:World)(m:Option (aP bE))(e:Ending)(w':World):Prop :=
 Fr aS w w'/\match m with
 |none=>e=.returned (.tuple #[.agg eS,.bool false])
 |some g=>∃r:aP Value,e=.returned (.tuple #[.agg r.cells.toArray,.bool true])/\r.Reads (du base w') g/\∀u∈r.cells,u.oneCell'=true
theorem WW(name value:aj)(w:World)(hn:name.size<=140737488351232)(hv:value.size<=140737488351232) :
  aB 67 #[.agg #[.string name,.string value]] w fun e w'=>e=.returned (.bool (decide ((300:Int)<(name.size:Int)+(value.size:Int))))/\Fr aS w w':=by
 have kf:Fr aS w (w.alloc (.cells #[.string name,.string value] 142)):=(ae aS w).alloc _;go_enter func67,ntmps67;go_wp2;go_ret;exact⟨rfl,kf⟩
structure ef where
 cW:gq
 o:gq
 path:aj
 query:aj
 fN:Bool
 method:aj
 head:aj
 pL:Int
def ef.cells(p:ef):aX:=[.bool p.cW.aE,.string p.cW.host,.int .i64 p.cW.port,.bool p.o.aE,.string p.o.host,.int .i64 p.o.port,.string p.path,.string p.query,.bool p.fN,.string p.method,.string p.head,.int .i64 p.pL]
def ef.kV(p q:ef):Bool:=p.cW.kV q.cW&&(p.o.kV q.o&&(p.path.toList==q.path.toList&&(p.query.toList==q.query.toList&&(p.fN==q.fN&&(p.method.toList==q.method.toList&&(p.head.toList==q.head.toList&&p.pL==q.pL))))))
theorem ef.wC(p q:ef):p.kV q=true↔p=q:=by
 obtain⟨a,d,g,i,j,k,l,m⟩:=p;obtain⟨a',d',g',i',j',k',l',m'⟩:=q;simp only[ef.kV,cF,dT,ef.mk.injEq,toList_inj,gq.wC]
def star:aH:=[42]
def aaY:aH:=[97,117,116,104,111,114,105,122,97,116,105,111,110]
def ef.lets(m:aj)(fN:Bool)(p:ef):Bool:=p.method.toList==m.toList||(p.method.toList==star&&!fN)
def ef.mR(h:aj)(fN:Bool)(p:ef):Bool:=p.head.toList==h.toList||(p.head.toList==star&&(!fN&&h.toList !=aaY))
def Ym(m:aj)(fN:Bool)(en:List aj)(ps:List ef):Bool :=
 (qJ m||ps.any (ef.lets m fN))&&en.all fun h=>ps.any (ef.mR h fN)
structure qO where
 cW:gq
 o:gq
 path:aj
 query:aj
 method:aj
 en:List gY
 fN:Bool
def qO.mV(r:qO)(ps:List ef):Bool:=Ym (jD r.method) r.fN (xM r.en) ps
def qO.needs(r:qO):Bool:=!r.cW.kV r.o&&!r.mV []
def ef.like(p q:ef):Bool:=({p with pL:=q.pL}:ef).kV q
def ef.alive(now:Int)(p:ef):Bool:=decide (now<p.pL)
def EJ(b:List ef)(p:ef):List ef:=(b.filter fun q=>!p.like q)++[p]
def uf(b l:List ef)(now:Int):List ef :=
 let c:=(l.foldl EJ b).filter (ef.alive now)
 c.drop (c.length-32)
def qO.TY(r:qO)(now:Int)(p:ef):Bool:=p.alive now&&(p.cW.kV r.cW&&((p.o.kV r.o&&(p.path.toList==r.path.toList&&p.query.toList==r.query.toList))&&(p.fN||!r.fN)))
def iT(b:List ef)(r:qO)(now:Int):List ef:=b.filter (r.TY now)
def mA(b:List ef)(r:qO)(now:Int):Bool:=!r.needs||r.mV (iT b r now)
theorem J3(b l:List ef)(now:Int):(uf b l now).length<=32:=by
 unfold uf;simp only[bJ];omega
theorem TZ(b:List ef)(p:ef):(EJ b p).length<=b.length+1:=by
 unfold EJ;have:=bT (fun q=>!p.like q) b;simp;omega
theorem J4:∀(l:List ef) (b:List ef),(l.foldl EJ b).length<=b.length+l.length
 |[],b=>aR
 |p :: l,b=>by
  have h1:=J4 l (EJ b p);have h2:=TZ b p;simp only[List.foldl_cons,List.length_cons];omega
def Pg:Bs:=[117,115,101,114,110,97,109,101]
def Yr:Bs:=[117,114,105]
def Ph:Bs:=[114,101,115,112,111,110,115,101]
def nNc:Bs:=[110,99]
def Ci:Bs:=[99,110,111,110,99,101]
def acN:Bs:=[68,105,103,101,115,116]
def pd(scheme:Int)(cA:Bool):Bs:=(if scheme=3 then G1 else xJ)++(if cA then yP else [])
structure iP where
 scheme:Int
 aK:Bs
 bq:Bs
 cy:Bs
 cA:Bool
 eF:Bs
 user:Bs
 uri:Bs
 QB:Bs
 bK:Bs
 count:Bs
def qP(n v:Bs):jn×Bs:=((n,v),fQ v)
def pP(n v:Bs):jn×Bs:=((n,v),v)
def iP.head(d:iP):List (jn×Bs):=[qP Pg d.user,qP vt d.aK,qP vu d.bq,qP Yr d.uri,qP Ph d.QB,pP yO (pd d.scheme d.cA)]
def iP.two(d:iP):List (jn×Bs):=if d.eF.isEmpty then []else [pP JQ d.eF,pP nNc d.count]
def iP.cn(d:iP):List (jn×Bs):=if !d.eF.isEmpty||d.cA then [qP Ci d.bK]else []
def iP.op(d:iP):List (jn×Bs):=if d.cy.isEmpty then []else [qP lZ d.cy]
def iP.yX(d:iP):List (jn×Bs):=d.head++(d.two++(d.cn++d.op))
def iP.fair(d:iP):Bool:=nU d.user&&(nU d.aK&&(nU d.bq&&(nU d.uri&&(nU d.QB&&((!(!d.eF.isEmpty||d.cA)||nU d.bK)&&(d.cy.isEmpty||nU d.cy))))))
def iP.text(d:iP):Bs:=acN++32 :: xf d.yX
theorem FD(s cs:aj)(w:World)(hcs:cs.size<4294967281)(MK:∀b∈cs.data.toList,b.toNat<128) :
  aB 213 #[.string s,.string cs] w fun e w'=>e=.returned (.string ⟨(s.data.toList.dropWhile (cs.data.toList.contains ·)).toArray⟩)/\Fr aS w w':=by
 refine(Any.strings_TrimLeft_laid X1 af s cs w hcs (fun j b hj=>MK b (cj hj))).mono ?_;rintro e w'⟨he,hb⟩;exact⟨he,fj hb⟩
theorem Cj{x:Int}(h: -9223372036854775808<=x)(h2:x<9223372036854775808):IntKind.i64.wrap x=x:=by
 simp[IntKind.wrap,IntKind.signed,IntKind.bits];omega
def acO:aj:=⟨TH.toArray⟩
theorem QE:∀b∈acO.data.toList,b.toNat<128:=dt
def He(s:aj)(i:Nat):Nat:=(lX (s.data.toList.drop i)).length
def SR(s:aj)(i:Nat):Nat:=(nA (s.data.toList.drop i)).length
theorem agH(s:aj)(h:i<=s.size):i+He s i+SR s i<=s.size:=by
 have h1:=pD EG (s.data.toList.drop i);have h2:=pD kV ((s.data.toList.drop i).dropWhile EG);unfold He SR lX nA;simp at h1;omega
theorem drop_take{p:UInt8->Bool}(l:Bs)(i:Nat):l.drop (i+((l.drop i).takeWhile p).length)=(l.drop i).dropWhile p:=by
 rw[<-ew, <-oz]
theorem za(s:aj)(i:Nat):s.data.toList.drop (i+He s i)=(s.data.toList.drop i).dropWhile EG:=drop_take _ _
theorem C4(s:aj)(i:Nat):s.data.toList.drop (i+He s i+SR s i)=sg (s.data.toList.drop i):=by
 unfold SR nA sg;rw[<-za];exact drop_take _ _
theorem zb(s:aj)(i:Nat):(s.extract i s.size).data.toList=s.data.toList.drop i:=by
 rw[Lib.extract_data,aD aR]
theorem Yu(s:aj)(i:Nat):s.extract i (i+He s i+SR s i)=⟨(lX (s.data.toList.drop i)++nA (s.data.toList.drop i)).toArray⟩:=by
 apply Go.WideShapes.bytes_inj;rw[Lib.extract_data];show _=lX (s.data.toList.drop i)++nA (s.data.toList.drop i);have e1:lX (s.data.toList.drop i)++(nA (s.data.toList.drop i)++sg (s.data.toList.drop i))=s.data.toList.drop i:=by
  unfold lX nA sg;rw[List.takeWhile_append_dropWhile,List.takeWhile_append_dropWhile]
 have e2:i+He s i+SR s i-i=(lX (s.data.toList.drop i)++nA (s.data.toList.drop i)).length:=by
  unfold He SR;rw[aN];omega
 have key:∀(A B Z D:Bs),A++(B++Z)=D->D.take (A++B).length=A++B:=by
  intro A B Z D h;subst h;rw[<-cK,List.take_left' rfl]
 rw[e2];exact key _ _ _ _ e1
def mB(c i:Nat)(s:aj)(w:World)(e:Ending)(w':World):Prop :=
 Fr (one c) w w'/\match singleR (s.data.toList.drop i)with
  |some q=>e=.returned (.tuple #[.string ⟨q.1.toArray⟩,.bool true])/\∃j,j<=s.size/\dw w' c s j/\s.data.toList.drop j=q.2
  |none=>e=.returned (.tuple #[.string ⟨#[]⟩,.bool false])/\dw w' c s i
theorem mB.hit{q:Bs×Bs}(h:singleR (s.data.toList.drop i)=some q)(hf:Fr (one c) w w')(hj:j<=s.size)(hc:dw w' c s j)(hd:s.data.toList.drop j=q.2) :
  mB c i s w (.returned (.tuple #[.string ⟨q.1.toArray⟩,.bool true])) w':=by
 refine⟨hf,?_⟩;rw[h];exact⟨rfl,j,hj,hc,hd⟩
theorem mB.no(h:singleR (s.data.toList.drop i)=none)(hf:Fr (one c) w w')(hc:dw w' c s i) :
  mB c i s w (.returned (.tuple #[.string ⟨#[]⟩,.bool false])) w':=by
 refine⟨hf,?_⟩;rw[h];exact⟨rfl,hc⟩
theorem Fr.mX(h:Fr aS w w'):Fr S w w':=h.mono (fun _ _ h=>absurd h id)
theorem MX(b c i:Nat)(s:aj)(v:Value)(w:World)(hr:iB w b c s v)(h:dw w c s i)(hs:s.size<100000)(hi:i<=s.size) :
  aB 170 #[.pointer (some ⟨b,0,none⟩)] w (mB c i s w):=by
 have hm:s.size<=maxLen:=ft;have q0:=hr.cell0;have q1:=hr.gW;have hle:=agH s hi;have HD1:=O (za s i);have HD2:=O (C4 s i);have HT:=O (Yu s i);have HR:=O (show singleR (s.data.toList.drop i)=if decide (0<He s i)&&nV (s.data.toList.drop (i+He s i+SR s i))then some (lX (s.data.toList.drop i)++nA (s.data.toList.drop i),eW (s.data.toList.drop (i+He s i+SR s i)))else none by
  unfold singleR;rw[C4];have:(!(lX (s.data.toList.drop i)).isEmpty)=decide (0<He s i):=by
   unfold He;cases lX (s.data.toList.drop i)<;>simp
  rw[this])
 have T1:=O (show∀U,aB 213 #[.string (s.extract i s.size),.string acO] U fun e w'=>e=.returned (.string (s.extract (i+He s i) s.size))/\Fr aS U w' from fun U=>by
  have e1:s.extract (i+He s i) s.size=⟨((s.extract i s.size).data.toList.dropWhile (acO.data.toList.contains ·)).toArray⟩:=by
   apply Go.WideShapes.bytes_inj;rw[zb,zb,za];rfl
  rw[e1];exact FD _ _ U ag QE)
 have T2:=O (show∀U,aB 213 #[.string (s.extract (i+He s i) s.size),.string ⟨#[61]⟩] U fun e w'=>e=.returned (.string (s.extract (i+He s i+SR s i) s.size))/\Fr aS U w' from fun U=>by
  have e1:s.extract (i+He s i+SR s i) s.size=⟨((s.extract (i+He s i) s.size).data.toList.dropWhile ((⟨#[61]⟩:aj).data.toList.contains ·)).toArray⟩:=by
   apply Go.WideShapes.bytes_inj;rw[zb,zb,za,C4];rfl
  rw[e1];exact FD _ _ U ag ag)
 generalize hN:He s i=N at *
 generalize hM:SR s i=M at *
 clear hN hM;generalize lX (s.data.toList.drop i)++nA (s.data.toList.drop i)=TX at *
 have hJ1:i<=i+N:=ab;have hJ2:i+N<=i+N+M:=ab;have hJN:i+N-i=N:=ab;have hLM:i+N+M-(i+N)=M:=ab;generalize hL:i+N+M=L at *
 generalize hJ:i+N=J at *
 have E1:=O hJ;have E2:=O hL;clear hL hJ;have HNM:=O (And.intro hJN hLM);clear hJN hLM;have kQ:(s.extract i s.size).size=s.size-i:=by rw[gy];omega
 have ld:(s.extract J s.size).size=s.size-J:=by rw[gy];omega
 have T5:(s.extract L s.size).size=s.size-L:=by rw[gy];omega
 have W1:=O (show IntKind.i64.wrap (((s.size-i:Nat):Int)-((s.size-J:Nat):Int))=(N:Int)by
  have e:=HNM.o.1;rw[show(((s.size-i:Nat):Int)-((s.size-J:Nat):Int))=(N:Int)from ab];exact Cj ab ab)
 have W2:=O (show IntKind.i64.wrap (((s.size-J:Nat):Int)-((s.size-L:Nat):Int))=(M:Int)by
  have e:=HNM.o.2;rw[show(((s.size-J:Nat):Int)-((s.size-L:Nat):Int))=(M:Int)from ab];exact Cj ab ab)
 have W3:=O (show IntKind.i64.wrap ((i:Int)+(N:Int))=(J:Int)by
  have e:=HNM.o.1;rw[show((i:Int)+(N:Int))=(J:Int)from ab];exact Cj ab ab)
 have W4:=O (show IntKind.i64.wrap ((J:Int)+(M:Int))=(L:Int)by
  have e:=HNM.o.2;rw[show((J:Int)+(M:Int))=(L:Int)from ab];exact Cj ab ab)
 have Pk:=O (show∀U,Fr aS w U->iB U b c s v/\dw U c s i from fun U hU=>⟨hr.fr hU id,h.fr hU id⟩);go_enter func170,ntmps170;go_wp2_with fail
 refine(Aq c s i w h).mono ?_;rintro e w0⟨rfl,rfl⟩;have b1:(0:Int)<=(i:Int):=ab;have b2:(i:Int)<=(s.size:Int):=ab;go_wp2_with fail
 go_region_held3 (fun U=>U.cell? ⟨b,1,none⟩=some (.string s)) ((refine(Pk.o _ ?_).1.gW;repeat(first|exact ae _ _|apply bz|apply az|refine bF ?_ jS))) ((go_at_call 213;refine(T1.o _).mono ?_;rintro e v1 ⟨rfl,EE⟩))
 rw[W1.o];obtain⟨yz,pk⟩:=Pk.o v1 (by repeat(first|exact ae _ _|apply bz|apply az|apply dC|refine bF ?_ jS));have lq:=O (show Fr aS w v1 from(by repeat(first|exact ae _ _|apply bz|apply az|apply dC|refine bF ?_ jS)));clear EE;have q1:=yz.gW;have b3:(0:Int)<=(J:Int):=ab;have b4:(J:Int)<=(s.size:Int):=ab;have w3:=W3.o;go_wp2_with fail
 go_region_held3 (fun U=>U.cell? ⟨b,1,none⟩=some (.string s)) ((refine(Pk.o _ ?_).1.gW;repeat(first|exact ae _ _|exact lq.o|apply bz|apply az|refine bF ?_ jS))) ((go_at_call 213;refine(T2.o _).mono ?_;rintro e v2 ⟨rfl,hv2⟩))
 rw[W2.o];obtain⟨ob,se⟩:=Pk.o v2 (by repeat(first|exact ae _ _|exact lq.o|apply bz|apply az|apply dC|refine bF ?_ jS));have fY:=O (show Fr aS w v2 from(by repeat(first|exact ae _ _|exact lq.o|apply bz|apply az|apply dC|refine bF ?_ jS)));clear hv2 q1 yz pk;have q0:=ob.cell0;have q1:=ob.gW;have w4:=W4.o;go_wp2_with fail
 refine(xI c s i L v2 se hm).mono ?_;rintro e v3⟨rfl,tZ,il⟩;rw[uh hle]at tZ;have rq:=ob.one se il;have iq:=O (fY.o.mX.trans il);have q0:=rq.cell0;have q1:=rq.gW;by_cases Pm:0<N
 ·have n0:(0:Int)<(N:Int):=ab;rw[bL Pm,Bool.true_and]at HR;go_wp2_with fail
  refine(C0 b c L s v v3 rq tZ hm hle).mono ?_;rintro e v4⟨rfl,tW,kD⟩;have vn:=rq.one tZ kD;have q0:=vn.cell0;have q1:=vn.gW;have Ck:=O (oF s L);have hbl:=xQ (s:=s) hle;cases ho:nV (s.data.toList.drop L)
  ·rw[ho]at HR;go_wp2_with fail
   refine(xI c s _ i v4 tW hm).mono ?_;rintro e v5⟨rfl,tX,lL⟩;rw[uh hi]at tX;go_wp2;go_ret2;exact mB.no (by rw[HR.o];rfl) ((iq.o.trans kD).trans lL) tX
  ·rw[ho]at HR;have b5:(i:Int)<=(L:Int):=ab;have b6:(L:Int)<=(s.size:Int):=ab;have b7:(0:Int)<=(L:Int):=ab;go_wp2;go_ret2;rw[HT.o];exact mB.hit (q:=(TX,eW (s.data.toList.drop L))) (by rw[HR.o];rfl) (iq.o.trans kD) hbl tW Ck.o
 ·have n0:¬(0:Int)<(N:Int):=ab;rw[bD Pm,kn]at HR;go_wp2_with fail
  refine(xI c s _ i v3 tZ hm).mono ?_;rintro e v5⟨rfl,tX,lL⟩;rw[uh hi]at tX;go_wp2;go_ret2;exact mB.no (by rw[HR.o];rfl) (iq.o.trans lL) tX
structure nL where
 M6:Bool
 cA:Bool
 aK:aj
 bq:aj
 eF:aj
 user:aj
 pass:aj
 method:aj
 target:aj
 body:aj
 bK:aj
 n:Nat
def iU:aj:=⟨#[97,117,116,104,45,105,110,116]⟩
def EN(x:nL):aj:=if x.cA then kq x.M6 [kq x.M6 [x.user,x.aK,x.pass],x.bq,x.bK]else kq x.M6 [x.user,x.aK,x.pass]
def wV(x:nL):aj:=if x.eF=iU then kq x.M6 [x.method,x.target,kq x.M6 [x.body]]else kq x.M6 [x.method,x.target]
def nZ(x:nL):aj:=if x.eF=.empty then kq x.M6 [EN x,x.bq,wV x]else kq x.M6 [EN x,x.bq,⟨(jt x.n).toArray⟩,x.bK,x.eF,wV x]
theorem at_len(k:Nat){P:Program}{f:FuncId}{x:Value}{a:eQ}{T3:Ending->World->Prop}(h:Calls P f #[x,.slice a k c] W T3):Calls P f #[x,.slice a k c] W T3:=h
theorem abk:¬iU=.empty:=dt
theorem sD{v:Value}{ss:List aj}(h:fM w v ss):fM w.drew v ss:=h
theorem abl(a:aj):(kB [a]).length=a.size:=by simp[kB,Lib.join,List.intercalate]
theorem abm(a b:aj):(kB [a,b]).length=a.size+b.size+1:=by simp[kB,Lib.join,List.intercalate];omega
theorem FN(a b c:aj):(kB [a,b,c]).length=a.size+b.size+c.size+2:=by simp[kB,Lib.join,List.intercalate];omega
theorem PE(a b c d e f:aj):(kB [a,b,c,d,e,f]).length=a.size+b.size+c.size+d.size+e.size+f.size+5:=by simp[kB,Lib.join,List.intercalate];omega
theorem um(n:Nat):(⟨(jt n).toArray⟩:aj).size=8:=by show(jt n).toArray.size=8;simp[jt,nK]
structure nL.Small (x:nL):Prop where
 aK:x.aK.size<=5000
 bq:x.bq.size<=5000
 eF:x.eF.size<=5000
 user:x.user.size<=5000
 pass:x.pass.size<=5000
 method:x.method.size<=5000
 target:x.target.size<=5000
 body:x.body.size<=5000
 bK:x.bK.size<=5000
 n:x.n<4294967296
theorem zj(r:fI Value)(x:nL)(w:World)(hx:x.Small)(h1:r.aK=x.aK)(h2:r.bq=x.bq)(h3:r.eF=x.eF)(h4:r.cA=x.cA)(h5:x.M6=decide (r.scheme=3))
  (dX:r.dom.oneCell'=true)(M8:oI w 9 .u8 SY)(hh:sW r.scheme w) :
  aB 109 #[.agg #[.int .i64 r.scheme,.string r.aK,.string r.bq,.string r.cy,.bool r.cA,.string r.eF,.bool r.cN,r.dom],.agg #[.string x.user,.string x.pass],.string x.method,.string x.target,.string x.body,.string x.bK,.int .i64 x.n] w
   fun e w'=>e=.returned (.string (nZ x))/\Fr aS w w':=by
 obtain⟨M6,cA,aK,bq,eF,user,pass,method,target,body,bK,n⟩:=x;obtain⟨fO,iC,eM,cy,PF,mY,cN,dom⟩:=r;obtain⟨z1,z2,z3,z4,z5,z6,z7,z8,z9,zn⟩:=hx;simp only at h1 h2 h3 h4 h5 dX z1 z2 z3 z4 z5 z6 z7 z8 z9 zn hh ⊢;subst h1 h2 h3 h4 h5;have HDB:=O M8;have HH:=O hh;have HD1:=O dX;clear M8 hh;go_enter func109,ntmps109;go_wp2_with fail
 obtain⟨wb,jQ⟩:∃wb,wb=(w.alloc (.cells #[.int .i64 fO,.string iC,.string eM,.string cy,.bool PF,.string mY,.bool cN,dom] 127)).alloc (.cells #[.string user,.string pass] 31):=⟨_,rfl⟩;have yx:wb.heap.size=w.heap.size+1+1:=by rw[jQ];simp
 have kf:Fr aS w wb:=by rw[jQ];exact((ae aS w).alloc _).alloc _
 have hk:wb.heap[w.heap.size]?=some (.cells #[.int .i64 fO,.string iC,.string eM,.string cy,.bool PF,.string mY,.bool cN,dom] 127 (0,0)):=by rw[jQ];exact((ae aS _).alloc _).keep (aC _ _) id
 have HC:=O (show∀U,Fr aS wb U->U.cell? ⟨w.heap.size,0,none⟩=some (.int .i64 fO)/\U.cell? ⟨w.heap.size,2,none⟩=some (.string eM)/\U.cell? ⟨w.heap.size,4,none⟩=some (.bool PF)/\U.cell? ⟨w.heap.size,5,none⟩=some (.string mY)from fun U hU=>by
  have rS:=hU.keep hk id;simp[World.cell?,rS])
 have hv:=fX wb 9 [user,iC,pass] (bd rfl);rw[yx]at hv;rw[<-jQ];clear jQ hk;refine(HH.o _ [user,iC,pass] _ (kf.alloc _) hv (bd rfl) (by rw[FN];omega)).mono ?_;rintro e u1⟨rfl,dn⟩;have lq:=O (show Fr aS wb u1 from((ae aS wb).alloc _).trans dn);have Ho:=O (kf.trans lq.o);obtain⟨c0,c2,c4,c5⟩:=HC.o u1 lq.o;obtain⟨o0,ho0⟩:∃o0,o0=kq (decide (fO=3)) [user,iC,pass]:=⟨_,rfl⟩
 have hoz:o0.size<=64:=by rw[ho0];exact lD _ _
 rw[<-ho0];have HO0:=O ho0;clear ho0;clear hv dn yx;cases PF
 ·obtain⟨o1,Az⟩:∃o1,o1=o0:=⟨_,rfl⟩;rw[<-Az]at hoz ⊢;have HO:=O (show EN ⟨decide (fO=3),false,iC,eM,mY,user,pass,method,target,body,bK,n⟩=o1 by rw[Az,HO0.o];rfl);clear Az;go_wp2_with fail
  refine(HH.o _ [method,target] _ (by repeat(first|exact Ho.o|refine bF ?_ og|apply bz|apply az)) (fX _ _ [method,target] (bd rfl)) (bd rfl) (by rw[abm];omega)).mono ?_;rintro e u5⟨rfl,lL⟩;have xe:=O (show Fr aS wb u5 from bF (by repeat(first|exact lq.o|apply bz|apply az)) lL);have FO:=O (kf.trans xe.o);obtain⟨d0,d2,d4,d5⟩:=HC.o u5 xe.o;clear c0 c2 c4 c5 lL
  obtain⟨t0,YW⟩:∃t0,t0=kq (decide (fO=3)) [method,target]:=⟨_,rfl⟩;have Xn:t0.size<=64:=by rw[YW];exact lD _ _
  rw[<-YW];have HT0:=O YW;clear YW;by_cases hqi:mY=iU
  ·subst hqi;have hai:iU.toList=[97,117,116,104,45,105,110,116]:=dt;have HRI:=O (show nZ ⟨decide (fO=3),false,iC,eM,iU,user,pass,method,target,body,bK,n⟩=kq (decide (fO=3)) [EN ⟨decide (fO=3),false,iC,eM,iU,user,pass,method,target,body,bK,n⟩,eM,⟨(jt n).toArray⟩,bK,iU,wV ⟨decide (fO=3),false,iC,eM,iU,user,pass,method,target,body,bK,n⟩]from by unfold nZ;rw[ar abk])
   have HTI:=O (show wV ⟨decide (fO=3),false,iC,eM,iU,user,pass,method,target,body,bK,n⟩=kq (decide (fO=3)) [method,target,kq (decide (fO=3)) [body]]from by unfold wV;rw[aA rfl]);have hbz:=lD (decide (fO=3)) [body];obtain⟨bb,xm⟩:∃bb,bb=kq (decide (fO=3)) [body]:=⟨_,rfl⟩;have HBB:=O xm;rw[<-xm]at hbz HTI;clear xm;go_wp2_with fail
   go_region_held3 (fun U=>U.cell? ⟨w.heap.size,0,none⟩=some (.int .i64 fO)) ((refine(HC.o _ ?_).1;repeat(first|exact xe.o|refine bF ?_ ru|refine bF ?_ og|apply bz|apply az))) (first|((with_reducible refine at_len 1 ?_);go_at_call 160;refine(HH.o _ [body] _ (by repeat(first|exact FO.o|apply bz|apply az)) (by first|exact fX _ _ [body] (bd rfl)|exact sD (fX _ _ [body] (bd rfl))) (bd rfl) (by rw[abl];omega)).mono ?_;rw[<-HBB.o];rintro e w7 ⟨rfl,og⟩)|((with_reducible refine at_len 3 ?_);go_at_call 160;refine(HH.o _ [method,target,bb] _ (by repeat(first|exact FO.o|refine bF ?_ og|apply bz|apply az)) (by first|exact fX _ _ [method,target,bb] (bd rfl)|exact sD (fX _ _ [method,target,bb] (bd rfl))) (bd rfl) (by rw[FN];omega)).mono ?_;rintro e w8 ⟨rfl,ru⟩))
   all_goals
    have yy:=O (show Fr aS wb w8 from by repeat(first|exact xe.o|refine bF ?_ ru|refine bF ?_ og|apply bz|apply az));have QQ:=O (kf.trans yy.o);clear og ru d0 d2 d4 d5;obtain⟨d0,d2,d4,d5⟩:=HC.o w8 yy.o;obtain⟨t2,Kq⟩:∃t2,t2=kq (decide (fO=3)) [method,target,bb]:=⟨_,rfl⟩;have amY:t2.size<=64:=by rw[Kq];exact lD _ _
    rw[<-Kq];have HT:=O (HTI.o.trans Kq.symm);have HR:=O HRI.o;clear Kq;have amZ:¬iU.toList=[]:=by rw[hai];simp
    have Xv:=O (fun(U:World) (hU:Fr aS wb U)=>And.intro (HC.o U hU).1 (And.intro (HC.o U hU).2.1 (HC.o U hU).2.2.2));clear Xn;go_wp2_with fail
    go_region_held3 (fun U=>U.cell? ⟨w.heap.size,0,none⟩=some (.int .i64 fO)/\U.cell? ⟨w.heap.size,2,none⟩=some (.string eM)/\U.cell? ⟨w.heap.size,5,none⟩=some (.string iU)) ((refine Xv.o _ ?_;repeat(first|exact yy.o|refine bF ?_ ru|refine bF ?_ og|apply bz|apply az))) (first|(go_at_call 111;refine(q_ n _ zn (HDB.o.fr (by repeat(first|exact QQ.o|refine bF ?_ og|apply bz|apply az)))).mono ?_;rintro e w7 ⟨rfl,og⟩)|(go_at_call 160;refine(HH.o _ [o1,eM,⟨(jt n).toArray⟩,bK,iU,t2] _ (by repeat(first|exact QQ.o|refine bF ?_ og|apply bz|apply az)) (fX _ _ _ (bd rfl)) (bd rfl) (by rw[PE];have:=um n;omega)).mono ?_;rintro e w8 ⟨rfl,ru⟩))
    all_goals
     have Dh:=O (show Fr aS w w8 from bF (by repeat(first|exact QQ.o|refine bF ?_ og|apply bz|apply az)) ru);clear ru;go_wp2;go_ret;exact⟨by rw[HR.o,HO.o,HT.o];rfl,Dh.o⟩
  ·have hq1:¬mY.toList=[97,117,116,104,45,105,110,116]:=fun h=>hqi (by rw[aO]at h;exact Go.WideShapes.bytes_inj h);have hq2:(mY.toList== [97,117,116,104,45,105,110,116])=false:=by simp[hq1]
   obtain⟨t2,Kq⟩:∃t2,t2=t0:=⟨_,rfl⟩;rw[<-Kq]at Xn ⊢;have HT:=O (show wV ⟨decide (fO=3),false,iC,eM,mY,user,pass,method,target,body,bK,n⟩=t2 by rw[Kq,HT0.o];unfold wV;rw[ar hqi]);clear Kq;by_cases QR:mY=.empty
   ·subst QR;have am0:ByteArray.empty.toList=[]:=dt;have HR:=O (show nZ ⟨decide (fO=3),false,iC,eM,.empty,user,pass,method,target,body,bK,n⟩=kq (decide (fO=3)) [EN ⟨decide (fO=3),false,iC,eM,.empty,user,pass,method,target,body,bK,n⟩,eM,wV ⟨decide (fO=3),false,iC,eM,.empty,user,pass,method,target,body,bK,n⟩]from by unfold nZ;rw[aA rfl]);go_wp2_with fail
    refine(HH.o _ [o1,eM,t2] _ (by repeat(first|exact FO.o|refine bF ?_ og|apply bz|apply az)) (fX _ _ [o1,eM,t2] (bd rfl)) (bd rfl) (by rw[FN];omega)).mono ?_;rintro e u9⟨rfl,SZ⟩;go_wp2;go_ret;exact⟨by rw[HR.o,HO.o,HT.o];rfl,bF (by repeat(first|exact FO.o|refine bF ?_ og|apply bz|apply az)) SZ⟩
   ·have YX:¬mY.toList=[]:=fun h=>QR (by rw[aO]at h;exact Go.WideShapes.bytes_inj h);have hq4:mY.toList.isEmpty=false:=by cases hz:mY.toList with|nil=>exact absurd hz YX|cons _ _=>rfl
    have HR:=O (show nZ ⟨decide (fO=3),false,iC,eM,mY,user,pass,method,target,body,bK,n⟩=kq (decide (fO=3)) [EN ⟨decide (fO=3),false,iC,eM,mY,user,pass,method,target,body,bK,n⟩,eM,⟨(jt n).toArray⟩,bK,mY,wV ⟨decide (fO=3),false,iC,eM,mY,user,pass,method,target,body,bK,n⟩]from by unfold nZ;rw[ar QR])
    have Xv:=O (fun(U:World) (hU:Fr aS wb U)=>And.intro (HC.o U hU).1 (And.intro (HC.o U hU).2.1 (HC.o U hU).2.2.2));go_wp2_with fail
    go_region_held3 (fun U=>U.cell? ⟨w.heap.size,0,none⟩=some (.int .i64 fO)/\U.cell? ⟨w.heap.size,2,none⟩=some (.string eM)/\U.cell? ⟨w.heap.size,5,none⟩=some (.string mY)) ((refine Xv.o _ ?_;repeat(first|exact xe.o|refine bF ?_ ru|refine bF ?_ og|apply bz|apply az))) (first|(go_at_call 111;refine(q_ n _ zn (HDB.o.fr (by repeat(first|exact FO.o|refine bF ?_ og|apply bz|apply az)))).mono ?_;rintro e w7 ⟨rfl,og⟩)|(go_at_call 160;refine(HH.o _ [o1,eM,⟨(jt n).toArray⟩,bK,mY,t2] _ (by repeat(first|exact FO.o|refine bF ?_ og|apply bz|apply az)) (fX _ _ _ (bd rfl)) (bd rfl) (by rw[PE];have:=um n;omega)).mono ?_;rintro e w8 ⟨rfl,ru⟩))
    all_goals
     have Dh:=O (show Fr aS w w8 from bF (by repeat(first|exact FO.o|refine bF ?_ og|apply bz|apply az)) ru);clear ru;go_wp2;go_ret;exact⟨by rw[HR.o,HO.o,HT.o];rfl,Dh.o⟩
 ·go_wp2_with fail
  refine(HH.o _ [o0,eM,bK] _ (by repeat(first|exact Ho.o|apply bz|apply az)) (fX _ _ [o0,eM,bK] (bd rfl)) (bd rfl) (by rw[FN];omega)).mono ?_;rintro e u2⟨rfl,dz⟩;have fY:=O (show Fr aS wb u2 from bF (by repeat(first|exact lq.o|apply bz|apply az)) dz);have nD:=O (kf.trans fY.o);clear c0 c2 c4 c5 dz;obtain⟨c0,c2,c4,c5⟩:=HC.o u2 fY.o;obtain⟨o1,Az⟩:∃o1,o1=kq (decide (fO=3)) [o0,eM,bK]:=⟨_,rfl⟩
  have at7:o1.size<=64:=by rw[Az];exact lD _ _
  rw[<-Az];have HO:=O (show EN ⟨decide (fO=3),true,iC,eM,mY,user,pass,method,target,body,bK,n⟩=o1 by rw[Az,HO0.o];rfl);clear Az;go_wp2_with fail
  refine(HH.o _ [method,target] _ (by repeat(first|exact nD.o|refine bF ?_ og|apply bz|apply az)) (fX _ _ [method,target] (bd rfl)) (bd rfl) (by rw[abm];omega)).mono ?_;rintro e u5⟨rfl,lL⟩;have xe:=O (show Fr aS wb u5 from bF (by repeat(first|exact fY.o|apply bz|apply az)) lL);have FO:=O (kf.trans xe.o);obtain⟨d0,d2,d4,d5⟩:=HC.o u5 xe.o;clear c0 c2 c4 c5 lL
  obtain⟨t0,YW⟩:∃t0,t0=kq (decide (fO=3)) [method,target]:=⟨_,rfl⟩;have Xn:t0.size<=64:=by rw[YW];exact lD _ _
  rw[<-YW];have HT0:=O YW;clear YW;by_cases hqi:mY=iU
  ·subst hqi;have hai:iU.toList=[97,117,116,104,45,105,110,116]:=dt;have HRI:=O (show nZ ⟨decide (fO=3),true,iC,eM,iU,user,pass,method,target,body,bK,n⟩=kq (decide (fO=3)) [EN ⟨decide (fO=3),true,iC,eM,iU,user,pass,method,target,body,bK,n⟩,eM,⟨(jt n).toArray⟩,bK,iU,wV ⟨decide (fO=3),true,iC,eM,iU,user,pass,method,target,body,bK,n⟩]from by unfold nZ;rw[ar abk])
   have HTI:=O (show wV ⟨decide (fO=3),true,iC,eM,iU,user,pass,method,target,body,bK,n⟩=kq (decide (fO=3)) [method,target,kq (decide (fO=3)) [body]]from by unfold wV;rw[aA rfl]);have hbz:=lD (decide (fO=3)) [body];obtain⟨bb,xm⟩:∃bb,bb=kq (decide (fO=3)) [body]:=⟨_,rfl⟩;have HBB:=O xm;rw[<-xm]at hbz HTI;clear xm;go_wp2_with fail
   go_region_held3 (fun U=>U.cell? ⟨w.heap.size,0,none⟩=some (.int .i64 fO)) ((refine(HC.o _ ?_).1;repeat(first|exact xe.o|refine bF ?_ ru|refine bF ?_ og|apply bz|apply az))) (first|((with_reducible refine at_len 1 ?_);go_at_call 160;refine(HH.o _ [body] _ (by repeat(first|exact FO.o|apply bz|apply az)) (by first|exact fX _ _ [body] (bd rfl)|exact sD (fX _ _ [body] (bd rfl))) (bd rfl) (by rw[abl];omega)).mono ?_;rw[<-HBB.o];rintro e w7 ⟨rfl,og⟩)|((with_reducible refine at_len 3 ?_);go_at_call 160;refine(HH.o _ [method,target,bb] _ (by repeat(first|exact FO.o|refine bF ?_ og|apply bz|apply az)) (by first|exact fX _ _ [method,target,bb] (bd rfl)|exact sD (fX _ _ [method,target,bb] (bd rfl))) (bd rfl) (by rw[FN];omega)).mono ?_;rintro e w8 ⟨rfl,ru⟩))
   all_goals
    have yy:=O (show Fr aS wb w8 from by repeat(first|exact xe.o|refine bF ?_ ru|refine bF ?_ og|apply bz|apply az));have QQ:=O (kf.trans yy.o);clear og ru d0 d2 d4 d5;obtain⟨d0,d2,d4,d5⟩:=HC.o w8 yy.o;obtain⟨t2,Kq⟩:∃t2,t2=kq (decide (fO=3)) [method,target,bb]:=⟨_,rfl⟩;have amY:t2.size<=64:=by rw[Kq];exact lD _ _
    rw[<-Kq];have HT:=O (HTI.o.trans Kq.symm);have HR:=O HRI.o;clear Kq;have amZ:¬iU.toList=[]:=by rw[hai];simp
    have Xv:=O (fun(U:World) (hU:Fr aS wb U)=>And.intro (HC.o U hU).1 (And.intro (HC.o U hU).2.1 (HC.o U hU).2.2.2));clear Xn;go_wp2_with fail
    go_region_held3 (fun U=>U.cell? ⟨w.heap.size,0,none⟩=some (.int .i64 fO)/\U.cell? ⟨w.heap.size,2,none⟩=some (.string eM)/\U.cell? ⟨w.heap.size,5,none⟩=some (.string iU)) ((refine Xv.o _ ?_;repeat(first|exact yy.o|refine bF ?_ ru|refine bF ?_ og|apply bz|apply az))) (first|(go_at_call 111;refine(q_ n _ zn (HDB.o.fr (by repeat(first|exact QQ.o|refine bF ?_ og|apply bz|apply az)))).mono ?_;rintro e w7 ⟨rfl,og⟩)|(go_at_call 160;refine(HH.o _ [o1,eM,⟨(jt n).toArray⟩,bK,iU,t2] _ (by repeat(first|exact QQ.o|refine bF ?_ og|apply bz|apply az)) (fX _ _ _ (bd rfl)) (bd rfl) (by rw[PE];have:=um n;omega)).mono ?_;rintro e w8 ⟨rfl,ru⟩))
    all_goals
     have Dh:=O (show Fr aS w w8 from bF (by repeat(first|exact QQ.o|refine bF ?_ og|apply bz|apply az)) ru);clear ru;go_wp2;go_ret;exact⟨by rw[HR.o,HO.o,HT.o];rfl,Dh.o⟩
  ·have hq1:¬mY.toList=[97,117,116,104,45,105,110,116]:=fun h=>hqi (by rw[aO]at h;exact Go.WideShapes.bytes_inj h);have hq2:(mY.toList== [97,117,116,104,45,105,110,116])=false:=by simp[hq1]
   obtain⟨t2,Kq⟩:∃t2,t2=t0:=⟨_,rfl⟩;rw[<-Kq]at Xn ⊢;have HT:=O (show wV ⟨decide (fO=3),true,iC,eM,mY,user,pass,method,target,body,bK,n⟩=t2 by rw[Kq,HT0.o];unfold wV;rw[ar hqi]);clear Kq;by_cases QR:mY=.empty
   ·subst QR;have am0:ByteArray.empty.toList=[]:=dt;have HR:=O (show nZ ⟨decide (fO=3),true,iC,eM,.empty,user,pass,method,target,body,bK,n⟩=kq (decide (fO=3)) [EN ⟨decide (fO=3),true,iC,eM,.empty,user,pass,method,target,body,bK,n⟩,eM,wV ⟨decide (fO=3),true,iC,eM,.empty,user,pass,method,target,body,bK,n⟩]from by unfold nZ;rw[aA rfl]);go_wp2_with fail
    refine(HH.o _ [o1,eM,t2] _ (by repeat(first|exact FO.o|refine bF ?_ og|apply bz|apply az)) (fX _ _ [o1,eM,t2] (bd rfl)) (bd rfl) (by rw[FN];omega)).mono ?_;rintro e u9⟨rfl,SZ⟩;go_wp2;go_ret;exact⟨by rw[HR.o,HO.o,HT.o];rfl,bF (by repeat(first|exact FO.o|refine bF ?_ og|apply bz|apply az)) SZ⟩
   ·have YX:¬mY.toList=[]:=fun h=>QR (by rw[aO]at h;exact Go.WideShapes.bytes_inj h);have hq4:mY.toList.isEmpty=false:=by cases hz:mY.toList with|nil=>exact absurd hz YX|cons _ _=>rfl
    have HR:=O (show nZ ⟨decide (fO=3),true,iC,eM,mY,user,pass,method,target,body,bK,n⟩=kq (decide (fO=3)) [EN ⟨decide (fO=3),true,iC,eM,mY,user,pass,method,target,body,bK,n⟩,eM,⟨(jt n).toArray⟩,bK,mY,wV ⟨decide (fO=3),true,iC,eM,mY,user,pass,method,target,body,bK,n⟩]from by unfold nZ;rw[ar QR])
    have Xv:=O (fun(U:World) (hU:Fr aS wb U)=>And.intro (HC.o U hU).1 (And.intro (HC.o U hU).2.1 (HC.o U hU).2.2.2));go_wp2_with fail
    go_region_held3 (fun U=>U.cell? ⟨w.heap.size,0,none⟩=some (.int .i64 fO)/\U.cell? ⟨w.heap.size,2,none⟩=some (.string eM)/\U.cell? ⟨w.heap.size,5,none⟩=some (.string mY)) ((refine Xv.o _ ?_;repeat(first|exact xe.o|refine bF ?_ ru|refine bF ?_ og|apply bz|apply az))) (first|(go_at_call 111;refine(q_ n _ zn (HDB.o.fr (by repeat(first|exact FO.o|refine bF ?_ og|apply bz|apply az)))).mono ?_;rintro e w7 ⟨rfl,og⟩)|(go_at_call 160;refine(HH.o _ [o1,eM,⟨(jt n).toArray⟩,bK,mY,t2] _ (by repeat(first|exact FO.o|refine bF ?_ og|apply bz|apply az)) (fX _ _ _ (bd rfl)) (bd rfl) (by rw[PE];have:=um n;omega)).mono ?_;rintro e w8 ⟨rfl,ru⟩))
    all_goals
     have Dh:=O (show Fr aS w w8 from bF (by repeat(first|exact FO.o|refine bF ?_ og|apply bz|apply az)) ru);clear ru;go_wp2;go_ret;exact⟨by rw[HR.o,HO.o,HT.o];rfl,Dh.o⟩
def nE(path query:aj):aj:=if query.size=0 then path else(path++⟨#[63]⟩)++query
