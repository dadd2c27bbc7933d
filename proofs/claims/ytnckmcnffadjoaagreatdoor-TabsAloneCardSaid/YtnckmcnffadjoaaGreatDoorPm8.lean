/- Lemmas for the law's walk. -/
import Derived.Test.YtnckmcnffadjoaaGreatDoorPm7
import Derived.Lib.ItoaLen
set_option maxRecDepth 100000
set_option maxHeartbeats 16000000
set_option linter.unusedSimpArgs false
namespace Go.Proofs.YtnckmcnffadjoaaGreatDoor
open Go.Proofs.Tryz
open Go.RowKit
variable {S:dC} {n k i g j c:Nat} {l:aI} {s:aj} {W w w':World}
def iJ(w:World)(b c:Nat)(s:aj)(v:Value):Prop:=w.heap[b]?=some (.cells #[.pointer (some ⟨c,0,none⟩),.string s,v] 195 (0,0))
section
variable {w w' : World} {b c i : Nat} {s t : ByteArray} {v : Value}
theorem iJ.cell0(h:iJ w b c s v):w.cell? ⟨b,0,none⟩=some (.pointer (some ⟨c,0,none⟩)):=by simp[World.cell?,show w.heap[b]?=_ from h]
theorem iJ.h_(h:iJ w b c s v):w.cell? ⟨b,1,none⟩=some (.string s):=by simp[World.cell?,show w.heap[b]?=_ from h]
theorem iJ.lT(h:iJ w b c s v):w.cell? ⟨b,2,none⟩=some v:=by simp[World.cell?,show w.heap[b]?=_ from h]
theorem iJ.free(h:iJ w b c s v)(k:Nat):w.frozen? ⟨b,k,none⟩=false:=by simp[World.frozen?,show w.heap[b]?=_ from h]
theorem iJ.ne(h:iJ w b c s v)(g:dx w c t i):b≠c:=by
 intro e;subst e;have h':w.heap[b]?=_:=h;have g':w.heap[b]?=_:=g;rw[h']at g';simp at g'
theorem iJ.fr(h:iJ w b c s v)(hf:Fr S w w')(hn:¬S b):iJ w' b c s v:=hf.keep h hn
theorem iJ.one(h:iJ w b c s v)(g:dx w c t i)(hf:Fr (one c) w w'):iJ w' b c s v:=h.fr hf (fun e=>h.ne g e)
theorem iJ.lt(h:iJ w b c s v):b<w.heap.size:=bj h
theorem iJ.drewN(h:iJ w b c s v):iJ (w.drewN n) b c s v:=h
end
theorem Uo(l:Bs)(k:Nat)(hk:k<=l.length):cM oq l (cM dN l k)=cM oq l k:=by
 have e1:l.drop (cM oq l (cM dN l k))=l.drop (cM oq l k):=by
  rw[ke,ke,ke];exact uo _
 have h1:cM oq l (cM dN l k)<=l.length:=ib (ib hk);have h2:cM oq l k<=l.length:=ib hk;have:=ar List.length e1;simp at this;omega
theorem Ni{l:Bs}(h:l[k]?=some 44):cM oq l (k+1)=cM oq l k:=(oG h ag).symm
theorem QU{l:Bs}(h:cM dN l k=k)(h2:l[k]?≠some 44):cM oq l k=k:=by
 refine lG (fun c hc=>?_);unfold oq;cases hb:dN c
 ·have:c≠44:=fun e=>h2 (by rw[hc,e]);simpa using this
 ·have:=oG (p:=dN) hc hb;have h3:=lH (p:=dN) (l:=l) (i:=k+1);omega
theorem wS(s:aj)(k:Nat)(c:UInt8):km s k c=true↔s.data.toList[k]?=some c:=by unfold km;simp
theorem Df(b c i:Nat)(s:aj)(v:Value)(w:World)(hr:iJ w b c s v)(h:dx w c s i)(hs:s.size<=maxLen)(hi:i<=s.size) :
  aB 111 #[.pointer (some ⟨b,0,none⟩)] w fun e w'=>e=.returned (.tuple #[])/\dx w' c s (cM oq s.data.toList i)/\Fr (one c) w w':=by
 go_enter func111,ntmps111;go_wp2;go_loopw[] (fun wr=>∃k,k<=s.size/\dx wr c s k/\cM oq s.data.toList k=cM oq s.data.toList i/\Fr (one c) w wr) (fun wr=>s.size-pD wr c)
 case atStart=>exact⟨i,hi,h,rfl,ae _ _⟩
 case round =>
  obtain⟨k,hk,hc,qx,cL⟩:=hrel;have xN:=O qx;clear qx;have yI:=hr.one h cL;have q0:=yI.cell0;have p_:=O hc.pos;have hkl:k<=s.data.toList.length:=by simpa using hk
  have HG:=O (Uo s.data.toList k hkl);have mf:cM dN s.data.toList k<=s.size:=by simpa using ib (p:=dN) hkl
  have QV:k<=cM dN s.data.toList k:=lH;go_wp2_with fail
  refine(mB c s k wr hc hs hk).mono ?_;rintro e w1⟨rfl,pA,dr⟩;have lC:=O (cL.trans dr);have ot:=yI.one hc dr;have q1:=ot.cell0;generalize hK:cM dN s.data.toList k=K at *
  have HK:=O hK;clear hK q0;by_cases uf:k<K
  ·have hd:decide (k<K)=true:=bM uf;rw[hd];go_wp2;go_roundw
   case rel=>exact⟨K,mf,pA,HG.o.trans xN.o,lC.o⟩
   case measure=>rw[p_.o,pA.pos];omega
  ·have hd:decide (k<K)=false:=bD uf;have hKk:K=k:=ab;subst hKk;rw[hd];go_wp2_with fail
   refine(p9 c s K 44 w1 pA hs).mono ?_;rintro e w2⟨rfl,sr,dB⟩;have f_:=O (lC.o.trans dB);cases hm:km s K 44
   ·have ir:=O (QU HK.o (fun e=>by rw[(wS s K 44).2 e]at hm;cases hm));rw[pC hm]at sr;go_wp2;go_end0;rw[<-xN.o,ir.o];exact⟨rfl,sr,f_.o⟩
   ·have ir:=O (Ni ((wS s K 44).1 hm));rw[pB hm]at sr;have anf:K<s.size:=by
     have:=(List.getElem?_eq_some_iff.1 ((wS s K 44).1 hm)).1;simpa using this
    go_wp2;go_roundw
    case rel=>exact⟨K+1,anf,sr,ir.o.trans xN.o,f_.o⟩
    case measure=>rw[p_.o,sr.pos];omega
def eL(s:aj)(i:Nat):Nat:=cM dN s.data.toList i
theorem xY(h:i<=s.size):eL s i<=s.size:=by
 unfold eL;simpa using ib (p:=dN) (l:=s.data.toList) (i:=i) (by simpa using h)
theorem oM(s:aj)(i:Nat):s.data.toList.drop (eL s i)=eX (s.data.toList.drop i):=ke _ _ _
theorem YX(s:aj)(i:Nat):n_ (s.data.toList.drop i)=(decide (s.size<=eL s i)||km s (eL s i) 44):=by
 unfold n_;rw[<-oM];by_cases h:s.size<=eL s i
 ·rw[cQ (by simpa using h)];simp[h,T_]
 ·have uf:eL s i<s.data.toList.length:=by simpa using h
  rw[cU uf,bD h,jM];unfold T_ km;rw[List.getElem?_eq_getElem uf,fc];simp
theorem ux(h:k<=n):T8 (k:Int) n=k:=by unfold T8;omega
theorem Dg(b c i:Nat)(s:aj)(v:Value)(w:World)(hr:iJ w b c s v)(h:dx w c s i)(hs:s.size<=maxLen)(hi:i<=s.size) :
  aB 168 #[.pointer (some ⟨b,0,none⟩)] w fun e w'=>e=.returned (.bool (n_ (s.data.toList.drop i)))/\dx w' c s (eL s i)/\Fr (one c) w w':=by
 have q0:=hr.cell0;have hb:=xY hi;have HO:=O (YX s i);generalize hK:eL s i=K at *
 have HK:=O hK;clear hK;go_enter func168,ntmps168;go_wp2_with fail
 refine(mB c s i w h hs hi).mono ?_;rintro e w1⟨rfl,pA,dr⟩;replace pA:dx w1 c s (eL s i):=pA;rw[HK.o]at pA;have yI:=hr.one h dr;have q1:=yI.cell0;clear q0;go_wp2_with fail
 refine(AG c s K w1 pA).mono ?_;rintro e w2⟨rfl,rfl⟩;go_wp2_with fail
 refine(wN c s K w1 pA).mono ?_;rintro e w3⟨rfl,n3,rfl⟩;have uj:dx (w1.drewN n3) c s K:=pA.drewN n3;have iz:Fr (one c) w (w1.drewN n3):=dr.drewN n3;have q3:=(yI.drewN (n:=n3)).cell0;clear q1;by_cases he:s.size<=K
 ·have hd:decide (s.size<=K)=true:=bM he;have HO2:=O (show n_ (s.data.toList.drop i)=true by rw[HO.o,hd];rfl);rw[hd];clear HO;go_wp2_with fail
  refine(xQ c s K K (w1.drewN n3) uj hs).mono ?_;rintro e w4⟨rfl,ug,kQ⟩;rw[ux hb]at ug;go_wp2;go_ret;rw[HO2.o];exact⟨rfl,ug,iz.trans kQ⟩
 ·have hd:decide (s.size<=K)=false:=bD he;have HO2:=O (show n_ (s.data.toList.drop i)=km s K 44 by rw[HO.o,hd];rfl);rw[hd];clear HO;go_wp2_with fail
  refine(p9 c s K 44 (w1.drewN n3) uj hs).mono ?_;rintro e w4⟨rfl,ug,kQ⟩;have q4:=((yI.drewN (n:=n3)).one uj kQ).cell0;clear q3;go_wp2_with fail
  refine(xQ c s _ K w4 ug hs).mono ?_;rintro e w5⟨rfl,uh,lQ⟩;rw[ux hb]at uh;go_wp2;go_ret;rw[HO2.o];exact⟨rfl,uh,(iz.trans kQ).trans lQ⟩
def Jr(s:aj)(i:Nat):Nat:=cM fW s.data.toList i
theorem Hz(h:i<=s.size):Jr s i<=s.size:=by
 unfold Jr;simpa using ib (p:=fW) (l:=s.data.toList) (i:=i) (by simpa using h)
theorem vO(s:aj)(i:Nat):s.data.toList.drop (Jr s i)=iB (s.data.toList.drop i):=ke _ _ _
theorem zj(s:aj)(i:Nat):s.extract i (Jr s i)=⟨(ia (s.data.toList.drop i)).toArray⟩:=yV _ _ _
theorem YY(s:aj)(k:Nat)(c:UInt8):M5 c (s.data.toList.drop k)=km s k c:=by
 unfold km;rcases fH k s.data.toList.length with h|h
 ·rw[cU h,List.getElem?_eq_getElem h,fc];simp[M5]
 ·rw[cQ h,List.getElem?_eq_none h];simp[M5]
theorem Kr(s:aj)(i:Nat):lI (s.data.toList.drop i)=(!(ia (s.data.toList.drop i)).isEmpty&&km s (eL s (Jr s i)) 61):=by
 unfold lI;rw[<-vO, <-oM,YY]
theorem toList_mk(l:Bs):(⟨l.toArray⟩:aj).toList=l:=by rw[Go.ByteArray.toList_eq]
theorem Nj(b c i:Nat)(s:aj)(v:Value)(w:World)(hr:iJ w b c s v)(h:dx w c s i)(hs:s.size<=maxLen)(hi:i<=s.size) :
  aB 171 #[.pointer (some ⟨b,0,none⟩)] w fun e w'=>e=.returned (.bool (lI (s.data.toList.drop i)))/\dx w' c s i/\Fr (one c) w w':=by
 have q0:=hr.cell0;have HN:=O (Kr s i);have hw:=Hz hi;go_enter func171,ntmps171;go_wp2_with fail
 refine(AG c s i w h).mono ?_;rintro e w0⟨rfl,rfl⟩;go_wp2_with fail
 refine(vB c s i w h hs hi).mono ?_;rintro e w1⟨rfl,pA,dr⟩;replace pA:dx w1 c s (Jr s i):=pA;rw[show s.extract i (cM fW s.data.toList i)=⟨(ia (s.data.toList.drop i)).toArray⟩from zj s i];generalize Jr s i=K at *
 generalize ia (s.data.toList.drop i)=W at *
 have yI:=hr.one h dr;have q1:=yI.cell0;clear q0;go_wp2_with fail
 refine(mB c s K w1 pA hs hw).mono ?_;rintro e w2⟨rfl,sr,dB⟩;replace sr:dx w2 c s (eL s K):=sr;have hb:=xY hw;generalize eL s K=M at *
 have ot:=yI.one pA dB;have q2:=ot.cell0;have f_:=O (dr.trans dB);clear q1 dr dB;cases W with
 |nil =>
  have HN2:=O (show lI (s.data.toList.drop i)=false by rw[HN.o];rfl);clear HN;go_wp2_with fail
  refine(xQ c s M i w2 sr hs).mono ?_;rintro e w4⟨rfl,ug,kQ⟩;rw[ux hi]at ug;go_wp2;go_ret;rw[HN2.o];exact⟨rfl,ug,f_.o.trans kQ⟩
 |cons x W =>
  have HN2:=O (show lI (s.data.toList.drop i)=km s M 61 by rw[HN.o];rfl);clear HN;go_wp2_with fail
  refine(p9 c s M 61 w2 sr hs).mono ?_;rintro e w3⟨rfl,uj,iz⟩;have q3:=(ot.one sr iz).cell0;clear q2;go_wp2_with fail
  refine(xQ c s _ i w3 uj hs).mono ?_;rintro e w4⟨rfl,ug,kQ⟩;rw[ux hi]at ug;go_wp2;go_ret;rw[HN2.o];exact⟨rfl,ug,(f_.o.trans iz).trans kQ⟩
def Tr:List Int:=[0,1,56,2,57,49,28,3,61,58,42,50,38,29,17,4,62,47,59,36,45,43,51,22,53,39,33,30,24,18,12,5,63,55,48,27,60,41,37,16,46,35,44,21,52,32,23,11,54,26,40,15,34,20,31,10,25,14,19,9,13,8,7,6]
theorem Nu{laid:List (String×DataW Unit)}(h:laidMet prog laid W)(hm:("math/bits.deBruijn64tab",Lib.tabData .u8 Tr)∈laid/\True):oP W 9 .u8 Tr :=
 vV (rH h hm.1 (g:=9) af af underlying340 underlying5 af af) af ag
theorem adA(w:World)(h:oP w 9 .u8 Tr) :
  aB 273 #[.int .u64 16] w fun e w'=>e=.returned (.int .i64 4)/\w'=w:=by
 have hc:w.cell? ⟨9,15,none⟩=some (.int .u8 4):=h.2 15 4 rfl;have hb:bits .and .u64 16 18446744073709551600=16:=du;have hw:IntKind.u64.wrap (-16)=18446744073709551600:=du;have eE:IntKind.u64.wrap (16*285870213051353865)=4573923408821661840:=du;have PV:IntKind.u64.wrap 4573923408821661840=4573923408821661840:=du;go_enter func273,ntmps273;go_wp2;go_ret;exact⟨rfl,rfl⟩
theorem UL(w:World) :
  aB 272 #[.int .i64 16] w fun e w'=>e=.returned (.bool true)/\w'=w:=by
 have hb:bits .and .i64 16 15=0:=du;go_enter func272,ntmps272;go_wp2;go_ret;exact⟨rfl,rfl⟩
theorem PW:∀n (h:n<16),(⟨#[48,49,50,51,52,53,54,55,56,57,97,98,99,100,101,102,103,104,105,106,107,108,109,110,111,112,113,114,115,116,117,118,119,120,121,122]⟩:aj)[n]'(Nat.lt_trans h ag)=Dl n.toUInt8:=ag
def PX(w:World)(g:Nat)(l:aI):Prop:=w.heap[g]?=some (.cells (ue l).toArray 323 (0,0))
theorem PX.cell(h:PX w g l){c:UInt8}(hj:l[j]?=some c):w.cell? ⟨g,j,none⟩=some (.int .u8 (c.toNat:Int)):=by
 obtain⟨hl,he⟩:=List.getElem?_eq_some_iff.1 hj;unfold PX at h;simp only[World.cell?,h];simp[ue,hl,he]
theorem PX.free(h:PX w g l)(j:Nat):w.frozen? ⟨g,j,none⟩=false:=by
 unfold PX at h;simp[World.frozen?,h]
theorem PX.set(h:PX w g l)(j:Nat)(c:UInt8):PX (w.setCell ⟨g,j,none⟩ (.int .u8 (c.toNat:Int))) g (l.set j c):=by
 unfold PX at h ⊢;simp only[World.setCell,Array.getElem?_modify,h];simp[ue,List.map_set]
theorem PX.text{m:aI}(h:PX w g (m++l))(hk:m.length=k) :
  (convert 177 9 (.slice (some ⟨g,k,none⟩) l.length c)).run prog w=.ok (.string ⟨l.toArray⟩) w:=by
 refine run_convert_bytes_back (P:=prog) w 177 9 5 ⟨g,k,none⟩ c l underlying177 underlying5 underlying9 ?_;intro j hj;have ea:(Addr.add ⟨g,k,none⟩ j)=⟨g,k+j,none⟩:=by unfold Addr.add;split<;>simp_all
 rw[ea];refine h.cell ?_;rw[List.getElem?_append_right ab,show k+j-m.length=j from ab];exact List.getElem?_eq_getElem hj
def Fc(n j:Nat):aI:=List.replicate (65-j) 0++kL j n
theorem UM(n j:Nat)(h:j<=65):(Fc n j).length=65:=by unfold Fc;rw[aN,fj,nS];omega
theorem Q9(n j:Nat)(h:j<65):Fc n (j+1)=(Fc n j).set (64-j) (Dl (n/16^j%16).toUInt8):=by
 unfold Fc;rw[<-BO j n,show 65-j=(65-(j+1))+1 from ab,List.replicate_succ'];rw[cK,List.set_append,aq (by rw[fj];omega)];rw[fj,show 64-j-(65-(j+1))=0 from ab];rfl
theorem adB(q:Nat)(hq:q<18446744073709551616):bits .and .u64 (q:Int) 15=((q%16:Nat):Int):=by
 have h:=bits_and_u64_nat q 15 hq ag;rw[show((15:Nat):Int)=15 from rfl]at h;rw[h]
 congr 1
 exact Nat.and_two_pow_sub_one_eq_mod q 4
def ahI(n g:Nat)(w:World)(u i:Value)(wr:World):Prop:=∃j m:Nat,j<=7/\m+1+j=65/\u=.int .u64 ((n/16^j:Nat):Int)/\i=.int .i64 ((m:Int)+1)/\PX wr g (Fc n j)/\Fr aS w wr
theorem Q_(n:Nat)(w:World)(hn:n<4294967296)(h:oP w 9 .u8 Tr) :
  aB 245 #[.slice none 0 0,.int .u64 (n:Int),.int .i64 16,.bool false,.bool false] w fun e w' =>
   (∃j,j<8/\n<16^(j+1)/\e=.returned (.tuple #[.slice none 0 0,.string ⟨(kL (j+1) n).toArray⟩]))/\Fr aS w w':=by
 have gS:Fr aS w (w.alloc (.cells (ue (List.replicate 65 0)).toArray 323)):=(ae aS w).alloc _;have HTZ:=O (adA _ (h.fr gS));have Zo:=O (show PX (w.alloc (.cells (ue (List.replicate 65 0)).toArray 323)) w.heap.size (Fc n 0)from aC _ _);clear h;go_enter func245,ntmps245;go_wp2_with fail
 refine(UL _).mono ?_;rintro e w1⟨rfl,rfl⟩;go_wp2_with fail
 refine HTZ.o.mono ?_;rintro e w2⟨rfl,rfl⟩;go_wp2;go_loopw[1,13] (ahI n w.heap.size w) (fun u _ _=>(intOf u).toNat)
 case atStart=>exact⟨0,64,ab,ab,aR,rfl,Zo.o,gS⟩
 case round =>
  obtain⟨j,m,hj,hm,rfl,rfl,hb,cL⟩:=hrel;have hq0:n/16^j<=n:=Nat.div_le_self _ _;have hsu:=O (Q9 n j ab);have xx:=O (show n/16^(j+1)=n/16^j/16 by rw[Nat.pow_succ,Nat.div_div_eq_div_mul]);have h7:=O (show 16<=n/16^j->j<7 from fun h=>by
   rcases fH j 7 with h1|h1
   ·exact h1
   ·obtain rfl:j=7:=ab;simp at h;omega)
  have ahJ:=O (show n/16^j<16->n<16^(j+1)from fun h=>by rw[Nat.pow_succ,Nat.mul_comm];exact(Nat.div_lt_iff_lt_mul (Nat.pow_pos ag)).1 h);have qR:=O (hb.set m (Dl (n/16^j%16).toUInt8));have hbl:=UM n j ab;have hcell:=hb.cell (List.getElem?_eq_getElem (show m<(Fc n j).length from ab));have arl:=hb.free m;generalize hq:n/16^j=q at *
  have h15:=adB q ab;have hr:q%16<16:=Nat.mod_lt _ ag;by_cases Uv:16<=q
  ·have anE:(16:Int)<=(q:Int):=ab;go_wp2;rw[PW _ hr];exact⟨⟨j+1,m-1,by have:=h7.o Uv;omega,by have:=h7.o Uv;omega,by rw[xx.o];rfl,by congr 1;omega,by rw[hsu.o,show 64-j=m from ab];exact qR.o,cL.gJ (p:=⟨w.heap.size,m,none⟩) (ay _) _⟩,by simp[intOf];omega⟩
  ·have anE:¬(16:Int)<=(q:Int):=ab;have auO:(m:Int)<=65:=ab;have arn:m<=65:=ab;have ahK:q<16:=ab;have e65:65-m=j+1:=ab;have hx:=qR.o;rw[show q%16=q from ab,show(Fc n j).set m (Dl q.toUInt8)=List.replicate m 0++kL (j+1) n from by
    have h:=hsu.o;rw[show q%16=q from ab,show 64-j=m from ab]at h;rw[<-h];unfold Fc;rw[show 65-(j+1)=m from ab]]at hx
   have Bx:=hx.text (k:=m) (c:=j+1) aR;rw[nS]at Bx;clear hx hb qR;go_wp2;rw[PW _ ahK,Bx];go_wp2;go_ret2;exact⟨⟨j,ab,ahJ.o ahK,rfl⟩,cL.gJ (p:=⟨w.heap.size,m,none⟩) (ay _) _⟩
theorem UN(n:Nat)(w:World)(hn:n<4294967296)(h:oP w 9 .u8 Tr) :
  aB 160 #[.int .i64 (n:Int),.int .i64 16] w fun e w' =>
   (∃j,j<8/\n<16^(j+1)/\e=.returned (.string ⟨(kL (j+1) n).toArray⟩))/\Fr aS w w':=by
 have HF:=O (Q_ n w hn h);clear h
 have h1:IntKind.u64.wrap (n:Int)=(n:Int):=by have e:IntKind.u64.wrap (n:Int)=(n:Int)%18446744073709551616:=by simp[IntKind.wrap,IntKind.signed,IntKind.bits]
                                              rw[e];omega
 have XS:aB 210 #[.int .i64 (n:Int),.int .i64 16] w fun e w' =>
   (∃j,j<8/\n<16^(j+1)/\e=.returned (.string ⟨(kL (j+1) n).toArray⟩))/\Fr aS w w':=by
  go_enter func210,ntmps210;go_wp2_with fail
  refine HF.o.mono ?_;rintro e w1⟨⟨j,hj,AU,rfl⟩,hf⟩;have HN:=O AU;clear AU;go_wp2;go_ret;exact⟨⟨j,hj,HN.o,rfl⟩,hf⟩
 go_enter func160,ntmps160;go_wp2_with fail
 refine XS.mono ?_;rintro e w1⟨⟨j,hj,AU,rfl⟩,hf⟩;have HN:=O AU;clear AU XS;go_wp2;go_ret;exact⟨⟨j,hj,HN.o,rfl⟩,hf⟩
theorem KI(k:Nat):Lib.repeatL [48] k=List.replicate k 48:=by
 induction k with
 |zero=>rfl
 |succ k ih=>show([48]:aI)++Lib.repeatL [48] k=_;rw[ih,List.replicate_succ];rfl
theorem rm(n:Nat)(w:World)(hn:n<4294967296)(h:oP w 9 .u8 Tr) :
  aB 104 #[.int .i64 (n:Int)] w fun e w'=>e=.returned (.string ⟨(jD n).toArray⟩)/\Fr aS w w':=by
 have HF:=O (UN n w hn h);clear h;go_enter func104,ntmps104;go_wp2_with fail
 refine HF.o.mono ?_;rintro e w1⟨⟨j,hj,AU,rfl⟩,hf⟩;have HC:=O (show jD n=Lib.repeatL [48] (7-j)++kL (j+1) n by unfold jD;rw[KI,Dn _ _ _ AU,show j+1+(7-j)=8 from ab]);have hl:=nS (j+1) n;generalize kL (j+1) n=x at *
 clear AU;have hmx:max (0:Int) (8-((j:Int)+1))=((7-j:Nat):Int):=ab;go_wp2_with fail
 refine(strings_Repeat ⟨#[48]⟩ (7-j) w1 ab (by show 1*(7-j)<=_;omega)).mono ?_;rintro e w2⟨rfl,hb⟩;have dB:=fk hb;have ve:(Lib.repeatL [48] (7-j)).length=7-j:=by rw[KI];simp
 have HS:=O (show(⟨(Lib.repeatL [48] (7-j)).toArray⟩++⟨x.toArray⟩:aj)=⟨(jD n).toArray⟩from by
  apply Go.WideShapes.bytes_inj;rw[HC.o];simp[gO])
 generalize Lib.repeatL [48] (7-j)=z at *
 have Zf:¬9223372036854775807<z.length+x.length:=ab;go_wp2;go_ret;exact⟨by rw[<-HS.o];rfl,hf.trans dB⟩
theorem zy(b:Bool)(w:World):aB 231 #[.bool b] w fun e w'=>e=.returned (.int .i64 (C5 b))/\w=w':=by
 cases b
 ·go_enter func231,ntmps231;go_wp2;go_ret;exact⟨rfl,rfl⟩
 ·go_enter func231,ntmps231;go_wp2;go_ret;exact⟨rfl,rfl⟩
def gA.dR(o:gA):ac4:=⟨o.aE,o.host.data.toList,o.port⟩
def xf(o:gA):aj:=⟨(FO o.dR).toArray⟩
def P5(s:Bool):aj:=⟨(abo s).toArray⟩
theorem NG(sec:Bool)(host:aj)(port:Int)(h:port=C5 sec):xf ⟨sec,host,port⟩=P5 sec++host:=by
 apply Go.WideShapes.bytes_inj;unfold xf FO gA.dR P5;simp[h]
theorem Rq(sec:Bool)(host:aj)(port:Int)(h:¬port=C5 sec):xf ⟨sec,host,port⟩=(P5 sec++host)++(⟨#[58]⟩++⟨(Lib.itoa port).toArray⟩):=by
 apply Go.WideShapes.bytes_inj;unfold xf FO gA.dR P5;simp[h]
theorem Fr.grow(w:World)(k:Nat)(os:Array Obj):Fr aS w (Sort.grow (w.drewN k) os):=fk (Lib.below_grow w.heap.size w (ay _) k os)
theorem U6(o:gA)(w:World)(ht:xz w)(h0: -9223372036854775808<=o.port)(h1:o.port<=9223372036854775807)(hs:o.host.size<100000) :
  aB 195 #[.agg o.cells.toArray] w fun e w'=>e=.returned (.string (xf o))/\Fr aS w w':=by
 obtain⟨sec,host,port⟩:=o;have h0: -9223372036854775808<=port:=h0;have h1:port<=9223372036854775807:=h1;have hs:host.size<100000:=hs;have an8:=Lib.itoa_length_le port h0 h1;have hiz:(⟨(Lib.itoa port).toArray⟩:aj).size<=21:=by show(Lib.itoa port).toArray.size<=21;simpa using an8
 unfold gA.cells;obtain⟨wb,j6⟩:∃wb,wb=w.alloc (.cells #[.bool sec,.string host,.int .i64 port] 32):=⟨_,rfl⟩;have ks:Fr aS w wb:=by rw[j6];exact(ae aS w).alloc _
 have mf:wb.heap[w.heap.size]?=some (.cells #[.bool sec,.string host,.int .i64 port] 32 (0,0)):=by rw[j6];exact aC _ _
 have c0:wb.cell? ⟨w.heap.size,0,none⟩=some (.bool sec):=by simp[World.cell?,mf]
 have c1:wb.cell? ⟨w.heap.size,1,none⟩=some (.string host):=by simp[World.cell?,mf]
 have c2:wb.cell? ⟨w.heap.size,2,none⟩=some (.int .i64 port):=by simp[World.cell?,mf]
 have BV:=O (show∀m,aB 232 #[.int .i64 port] (wb.drewN m) fun e w'=>e=.returned (.string ⟨(Lib.itoa port).toArray⟩)/\Fr aS w w' from fun m =>
  (strconv_Itoa port h0 h1 _ ((ht.fr ks).fr ((ae aS wb).drewN m))).mono fun e w' h=>by
   obtain⟨he,k,os,rfl⟩:=h;exact⟨he,(ks.drewN m).trans (Fr.grow _ k os)⟩)
 have qV:=O j6;clear j6 mf;by_cases hp:port=C5 sec
 ·have HT:=O (NG sec host port hp);have Gj:(port !=C5 sec)=false:=by simpa using hp
  have mr:=O ks;cases sec
  ·clear hp;go_enter func195,ntmps195;go_wp2;rw[<-qV.o];go_quiet ((go_at_call 231;exact tK (zy false _)));go_wp2;go_ret;exact⟨by rw[HT.o];rfl,mr.o.drewN _⟩
  ·clear hp;go_enter func195,ntmps195;go_wp2;rw[<-qV.o];go_quiet ((go_at_call 231;exact tK (zy true _)));go_wp2;go_ret;exact⟨by rw[HT.o];rfl,mr.o.drewN _⟩
 ·have HT:=O (Rq sec host port hp);have Gj:(port !=C5 sec)=true:=by simpa using hp
  have mr:=O ks;cases sec
  ·clear hp;go_enter func195,ntmps195;go_wp2;rw[<-qV.o];go_quiet ((go_at_call 231;exact tK (zy false _)));go_wp2_with fail
   refine(BV.o _).mono ?_;rintro e u⟨rfl,yg⟩;go_wp2;go_ret;exact⟨by rw[HT.o];rfl,yg⟩
  ·clear hp;go_enter func195,ntmps195;go_wp2;rw[<-qV.o];go_quiet ((go_at_call 231;exact tK (zy true _)));go_wp2_with fail
   refine(BV.o _).mono ?_;rintro e u⟨rfl,yg⟩;go_wp2;go_ret;exact⟨by rw[HT.o];rfl,yg⟩
theorem yh:(prog.info? 114).map (fun i=>(i.zero,i.size,i.bytes))=some (some (.agg eS),16,216):=af
theorem yi:eS.all (·.oneCell')=true:=du
def Rs(base:Nat)(w:World)(gs:List (aP bE))(v:Value)(w':World):Prop:=gi base w' v gs/\∀k,v.ownBlock=some k->w.heap.size<=k
def DP(base:Nat)(w:World)(gs:List (aP bE))(e:Ending)(w':World):Prop :=
 ∃v,e=.returned v/\Rs base w gs v w'/\Fr aS w w'
def ah9(base:Nat)(w:World)(gs:List (aP bE))(v i:Value)(wr:World):Prop :=
 ∃(k:Nat) (rs:List (aP Value)),k<=gs.length/\i=.int .i64 k/\OwnRows w.heap.size 114 16 wr v (rs.map aP.cells)/\lg (aP.Reads (dv base wr)) rs (gs.take k)/\Fr aS w wr
theorem DQ(base:Nat)(w:World)(b:Nat)(gv wv:Value)(gs:List (aP bE))(ws:List (bJ bE))(h:dE base w b gv wv gs ws)(NJ:gs.length<68719476736) :
  aB 47 #[.pointer (some ⟨b,0,none⟩)] w (DP base w gs):=by
 have h0:=h.c0;obtain⟨av,cv,hv⟩:=h.bH.form;subst hv;have uf:=h.lt;have iE:base<=w.heap.size:=by have:=h.low;omega
 go_enter func47,ntmps47;go_wp2;clear h0;go_loopw[3,11] (ah9 base w gs) (fun _ i _=>gs.length-(intOf i).toNat)
 case atStart=>exact⟨0,[],aQ _,rfl,dy _ _ _ _,.nil,ae _ _⟩
 case round =>
  obtain⟨k,rs,hk,rfl,cR,vY,cL⟩:=hrel;by_cases fo:k<gs.length
  ·obtain⟨bk,c,dr,sN,r,eb,hr,hcell⟩:=(h.dm cL).bH.at fo;cases dr;unfold maxLen at sN;obtain⟨x,hx⟩:∃x,x=r.cells:=⟨_,rfl⟩;have lB:x.length=16:=by rw[hx];rfl
   have ir:=fun W=>run_storeCells_new (P:=prog) W 114 #[.bool false,.string ⟨#[]⟩,.int .i64 0,.bool false,.string ⟨#[]⟩,.string ⟨#[]⟩,.int .i64 0,.string ⟨#[]⟩,.string ⟨#[]⟩,.string ⟨#[]⟩,.bool false,.string ⟨#[]⟩,.bool false,.slice none 0 0,.int .i64 0,.slice none 0 0] x (by rw[lB];rfl) (by rw[hx];exact eb);rw[<-hx]at hcell;have HX:=O hx
   have DN:(prog.info? 114).map (·.size)=some x.toArray.size:=by rw[aZ,lB];kernel_rfl
   have Iq:=O DN;clear hx DN;obtain⟨av,cv,Va⟩:=cR.form;subst Va;rw[ai,vY.len,aM,dP hk]at cR ⊢
   go_wp2_with (first|((with_reducible refine di 14 ?_);refine a_ rfl 114 (.tmp 13) rfl bk (k*16) rfl x _ hcell underlying114 rfl (by have h:=Iq.o;rw[aZ]at h;exact h) ?_)|((with_reducible refine di 16 ?_);refine aH rfl 114 (.tmp 5) rfl wr.heap.size rfl _ x.toArray (0,0) _ (aC wr _) underlying114 rfl Iq.o ?_)|fail)
   have gS:Fr aS wr (wr.alloc (.cells x.toArray 114)):=(ae aS wr).alloc _;have ot:=hr.mono (fun _ _ h=>h.dm gS);have fC:=cR.alloc (.cells x.toArray 114);have DS:=vY.mono (fun _ _ h=>h.mono (fun _ _ h=>h.dm gS));have tA:=cL.trans gS;have j6:w.heap.size<=wr.heap.size:=cL.size;have fD:=O (uE base r gs[k] _ bI ot);rw[<-HX.o]at fD;clear hr ot gS eb ir hcell cR vY cL
   generalize wr.alloc (.cells x.toArray 114)=W2 at *
   refine fD.o.mono ?_;rintro e w3 NK;obtain⟨r3,rfl,rF,qM,iz⟩:=NK;have fu:=fC.fr iz (fun _ _ h=>h);have DT:=DS.mono (fun _ _ h=>h.mono (fun _ _ h=>h.dm iz));have iA:=tA.trans iz;clear fD fC DS tA iz;obtain⟨y,hy⟩:∃y,y=r3.cells:=⟨_,rfl⟩;have C7:y.length=16:=by rw[hy];rfl
   rw[<-hy]at qM ⊢;have HY:=O hy;clear hy;have Iu:=O fu;clear fu;have Gl:=vN y #[.bool false,.string ⟨#[]⟩,.int .i64 0,.bool false,.string ⟨#[]⟩,.string ⟨#[]⟩,.int .i64 0,.string ⟨#[]⟩,.string ⟨#[]⟩,.string ⟨#[]⟩,.bool false,.string ⟨#[]⟩,.bool false,.slice none 0 0,.int .i64 0,.slice none 0 0] (by rw[C7];rfl);have hbw:w.heap.size<=w3.heap.size:=iA.size;have ve:=DT.len;rw[aM,dP hk]at ve
   have HRL:=O ve;have ND:(rs.map aP.cells).length<68719476736:=by rw[ai,ve];omega
   clear ve;go_wp2_with (at_builtin;refine nQ rfl _ _ 77 114 rfl 16 216 (.agg eS) underlying77 yh rfl ag ag w.heap.size (.slice av k cv) (rs.map aP.cells) rfl (Iu.o.alloc _) w3.heap.size 1 y rfl C7 qM (fun i u hi=>by rw[World.cell?_alloc_mark];simpa using hi) ND bI ?_;intro v' w4 fa Ci)
   have ET:=Fr.PD _ Ci;have mS:=Iu.o.off (base:=base) iE ag;rw[HY.o]at fa;refine⟨⟨k+1,rs++[r3],ab,bg,by rw[bG];exact fa,?_,iA.step ET (fun j hj hS=>by have h2:=Iu.o.block j hS;omega)⟩,by simp[intOf];omega⟩;rw[dZ (List.getElem?_eq_getElem fo)];exact(DT.mono (fun _ _ h=>h.mono (fun _ _ h=>h.fr ET mS))).app (.cons (rF.mono (fun _ _ h=>h.fr ET mS)) .nil)
  ·rw[aD ab]at vY;obtain⟨av,cv,Va⟩:=cR.form;subst Va;go_wp2;go_ret;exact⟨_,rfl,⟨⟨rs,cR.up iE,vY⟩,cR.block⟩,cL⟩
theorem KX{α:Type}(f:α->Int):∀(l:List α) (i:Nat) (acc:Int×Int),(∃k,k<l.length/\(oU f l i acc).2=((i+k:Nat):Int))\/(oU f l i acc).2=acc.2
 |[],_,_=>Or.inr rfl
 |g :: l,i,acc=>by
  rw[oU];rcases KX f l (i+1) (if 0<=f g/\acc.1<=f g then(f g,(i:Int))else acc)with ⟨k,hk,h⟩|h
  ·exact Or.inl ⟨k+1,bI,by rw[h];congr 1;omega⟩
  ·rw[h];by_cases hc:0<=f g/\acc.1<=f g
   ·rw[az hc];exact Or.inl ⟨0,aR,aR⟩
   ·rw[aq hc];exact Or.inr rfl
theorem Vb(gs:List (aP bE))(o:gA)(proxy:Bool)(path:aj):(∃k,k<gs.length/\tW gs o proxy path=(k:Int))\/tW gs o proxy path= -1:=by
 rcases KX (pO o proxy path) gs 0 (-1, -1)with ⟨k,hk,h⟩|h
 ·exact Or.inl ⟨k,hk,by unfold tW;rw[h,bw]⟩
 ·exact Or.inr h
def tX(base:Nat)(w:World)(m:Option (aP bE))(e:Ending)(w':World):Prop :=
 Fr aS w w'/\match m with
 |none=>e=.returned (.tuple #[.agg eS,.bool false])
 |some g=>∃r:aP Value,e=.returned (.tuple #[.agg r.cells.toArray,.bool true])/\r.Reads (dv base w') g/\∀u∈r.cells,u.oneCell'=true
theorem XB(name value:aj)(w:World)(hn:name.size<=140737488351232)(hv:value.size<=140737488351232) :
  aB 151 #[.agg #[.string name,.string value]] w fun e w'=>e=.returned (.bool (decide ((300:Int)<(name.size:Int)+(value.size:Int))))/\Fr aS w w':=by
 have ks:Fr aS w (w.alloc (.cells #[.string name,.string value] 171)):=(ae aS w).alloc _;go_enter func151,ntmps151;go_wp2;go_ret;exact⟨rfl,ks⟩
structure eo where
 cX:gA
 o:gA
 path:aj
 query:aj
 fN:Bool
 method:aj
 head:aj
 pT:Int
def eo.cells(p:eo):aX:=[.bool p.cX.aE,.string p.cX.host,.int .i64 p.cX.port,.bool p.o.aE,.string p.o.host,.int .i64 p.o.port,.string p.path,.string p.query,.bool p.fN,.string p.method,.string p.head,.int .i64 p.pT]
def eo.lj(p q:eo):Bool:=p.cX.lj q.cX&&(p.o.lj q.o&&(p.path.toList==q.path.toList&&(p.query.toList==q.query.toList&&(p.fN==q.fN&&(p.method.toList==q.method.toList&&(p.head.toList==q.head.toList&&p.pT==q.pT))))))
theorem eo.wO(p q:eo):p.lj q=true↔p=q:=by
 obtain⟨a,d,g,i,j,k,l,m⟩:=p;obtain⟨a',d',g',i',j',k',l',m'⟩:=q;simp only[eo.lj,cF,dW,eo.mk.injEq,toList_inj,gA.wO]
def star:aI:=[42]
def abx:aI:=[97,117,116,104,111,114,105,122,97,116,105,111,110]
def eo.lets(m:aj)(fN:Bool)(p:eo):Bool:=p.method.toList==m.toList||(p.method.toList==star&&!fN)
def eo.mW(h:aj)(fN:Bool)(p:eo):Bool:=p.head.toList==h.toList||(p.head.toList==star&&(!fN&&h.toList !=abx))
def YR(m:aj)(fN:Bool)(ey:List aj)(ps:List eo):Bool :=
 (qU m||ps.any (eo.lets m fN))&&ey.all fun h=>ps.any (eo.mW h fN)
structure qY where
 cX:gA
 o:gA
 path:aj
 query:aj
 method:aj
 ey:List ig
 fN:Bool
def qY.ng(r:qY)(ps:List eo):Bool:=YR (jL r.method) r.fN (xU r.ey) ps
def qY.needs(r:qY):Bool:=!r.cX.lj r.o&&!r.ng []
def eo.like(p q:eo):Bool:=({p with pT:=q.pT}:eo).lj q
def eo.alive(now:Int)(p:eo):Bool:=decide (now<p.pT)
def E'(b:List eo)(p:eo):List eo:=(b.filter fun q=>!p.like q)++[p]
def uu(b l:List eo)(now:Int):List eo :=
 let c:=(l.foldl E' b).filter (eo.alive now)
 c.drop (c.length-32)
def qY.Ul(r:qY)(now:Int)(p:eo):Bool:=p.alive now&&(p.cX.lj r.cX&&((p.o.lj r.o&&(p.path.toList==r.path.toList&&p.query.toList==r.query.toList))&&(p.fN||!r.fN)))
def jc(b:List eo)(r:qY)(now:Int):List eo:=b.filter (r.Ul now)
def mF(b:List eo)(r:qY)(now:Int):Bool:=!r.needs||r.ng (jc b r now)
theorem Kj(b l:List eo)(now:Int):(uu b l now).length<=32:=by
 unfold uu;simp only[bK];omega
theorem Um(b:List eo)(p:eo):(E' b p).length<=b.length+1:=by
 unfold E';have:=bU (fun q=>!p.like q) b;simp;omega
theorem Kk:∀(l:List eo) (b:List eo),(l.foldl E' b).length<=b.length+l.length
 |[],b=>aR
 |p :: l,b=>by
  have h1:=Kk l (E' b p);have h2:=Um b p;simp only[List.foldl_cons,List.length_cons];omega
def PB:Bs:=[117,115,101,114,110,97,109,101]
def YW:Bs:=[117,114,105]
def PC:Bs:=[114,101,115,112,111,110,115,101]
def nNc:Bs:=[110,99]
def Cz:Bs:=[99,110,111,110,99,101]
def adi:Bs:=[68,105,103,101,115,116]
def px(scheme:Int)(cA:Bool):Bs:=(if scheme=3 then Hn else xR)++(if cA then yY else [])
structure i_ where
 scheme:Int
 aK:Bs
 bq:Bs
 cy:Bs
 cA:Bool
 eH:Bs
 user:Bs
 uri:Bs
 QT:Bs
 bL:Bs
 count:Bs
def qP(n v:Bs):jz×Bs:=((n,v),fS v)
def pP(n v:Bs):jz×Bs:=((n,v),v)
def i_.head(d:i_):List (jz×Bs):=[qP PB d.user,qP vF d.aK,qP vG d.bq,qP YW d.uri,qP PC d.QT,pP yX (px d.scheme d.cA)]
def i_.two(d:i_):List (jz×Bs):=if d.eH.isEmpty then []else [pP J8 d.eH,pP nNc d.count]
def i_.cn(d:i_):List (jz×Bs):=if !d.eH.isEmpty||d.cA then [qP Cz d.bL]else []
def i_.op(d:i_):List (jz×Bs):=if d.cy.isEmpty then []else [qP mi d.cy]
def i_.zg(d:i_):List (jz×Bs):=d.head++(d.two++(d.cn++d.op))
def i_.fair(d:i_):Bool:=n9 d.user&&(n9 d.aK&&(n9 d.bq&&(n9 d.uri&&(n9 d.QT&&((!(!d.eH.isEmpty||d.cA)||n9 d.bL)&&(d.cy.isEmpty||n9 d.cy))))))
def i_.text(d:i_):Bs:=adi++32 :: xo d.zg
theorem F2(s cs:aj)(w:World)(hcs:cs.size<4294967281)(M8:∀b∈cs.data.toList,b.toNat<128) :
  aB 214 #[.string s,.string cs] w fun e w'=>e=.returned (.string ⟨(s.data.toList.dropWhile (cs.data.toList.contains ·)).toArray⟩)/\Fr aS w w':=by
 refine(Any.strings_TrimLeft_laid Yw af s cs w hcs (fun j b hj=>M8 b (cq hj))).mono ?_;rintro e w'⟨he,hb⟩;exact⟨he,fk hb⟩
theorem CA{x:Int}(h: -9223372036854775808<=x)(h2:x<9223372036854775808):IntKind.i64.wrap x=x:=by
 simp[IntKind.wrap,IntKind.signed,IntKind.bits];omega
def adj:aj:=⟨T9.toArray⟩
theorem QW:∀b∈adj.data.toList,b.toNat<128:=du
def H8(s:aj)(i:Nat):Nat:=(mg (s.data.toList.drop i)).length
def Tk(s:aj)(i:Nat):Nat:=(nG (s.data.toList.drop i)).length
theorem ahf(s:aj)(h:i<=s.size):i+H8 s i+Tk s i<=s.size:=by
 have h1:=pK E5 (s.data.toList.drop i);have h2:=pK lj ((s.data.toList.drop i).dropWhile E5);unfold H8 Tk mg nG;simp at h1;omega
theorem drop_take{p:UInt8->Bool}(l:Bs)(i:Nat):l.drop (i+((l.drop i).takeWhile p).length)=(l.drop i).dropWhile p:=by
 rw[<-eB, <-oH]
theorem zk(s:aj)(i:Nat):s.data.toList.drop (i+H8 s i)=(s.data.toList.drop i).dropWhile E5:=drop_take _ _
theorem Dh(s:aj)(i:Nat):s.data.toList.drop (i+H8 s i+Tk s i)=su (s.data.toList.drop i):=by
 unfold Tk nG su;rw[<-zk];exact drop_take _ _
theorem zl(s:aj)(i:Nat):(s.extract i s.size).data.toList=s.data.toList.drop i:=by
 rw[Lib.extract_data,aD aR]
theorem YZ(s:aj)(i:Nat):s.extract i (i+H8 s i+Tk s i)=⟨(mg (s.data.toList.drop i)++nG (s.data.toList.drop i)).toArray⟩:=by
 apply Go.WideShapes.bytes_inj;rw[Lib.extract_data];show _=mg (s.data.toList.drop i)++nG (s.data.toList.drop i);have e1:mg (s.data.toList.drop i)++(nG (s.data.toList.drop i)++su (s.data.toList.drop i))=s.data.toList.drop i:=by
  unfold mg nG su;rw[List.takeWhile_append_dropWhile,List.takeWhile_append_dropWhile]
 have e2:i+H8 s i+Tk s i-i=(mg (s.data.toList.drop i)++nG (s.data.toList.drop i)).length:=by
  unfold H8 Tk;rw[aN];omega
 have key:∀(A B Z D:Bs),A++(B++Z)=D->D.take (A++B).length=A++B:=by
  intro A B Z D h;subst h;rw[<-cK,List.take_left' rfl]
 rw[e2];exact key _ _ _ _ e1
def mG(c i:Nat)(s:aj)(w:World)(e:Ending)(w':World):Prop :=
 Fr (one c) w w'/\match singleR (s.data.toList.drop i)with
  |some q=>e=.returned (.tuple #[.string ⟨q.1.toArray⟩,.bool true])/\∃j,j<=s.size/\dx w' c s j/\s.data.toList.drop j=q.2
  |none=>e=.returned (.tuple #[.string ⟨#[]⟩,.bool false])/\dx w' c s i
theorem mG.hit{q:Bs×Bs}(h:singleR (s.data.toList.drop i)=some q)(hf:Fr (one c) w w')(hj:j<=s.size)(hc:dx w' c s j)(hd:s.data.toList.drop j=q.2) :
  mG c i s w (.returned (.tuple #[.string ⟨q.1.toArray⟩,.bool true])) w':=by
 refine⟨hf,?_⟩;rw[h];exact⟨rfl,j,hj,hc,hd⟩
theorem mG.no(h:singleR (s.data.toList.drop i)=none)(hf:Fr (one c) w w')(hc:dx w' c s i) :
  mG c i s w (.returned (.tuple #[.string ⟨#[]⟩,.bool false])) w':=by
 refine⟨hf,?_⟩;rw[h];exact⟨rfl,hc⟩
theorem Fr.nj(h:Fr aS w w'):Fr S w w':=h.mono (fun _ _ h=>absurd h id)
theorem Nk(b c i:Nat)(s:aj)(v:Value)(w:World)(hr:iJ w b c s v)(h:dx w c s i)(hs:s.size<100000)(hi:i<=s.size) :
  aB 169 #[.pointer (some ⟨b,0,none⟩)] w (mG c i s w):=by
 have hm:s.size<=maxLen:=fx;have q0:=hr.cell0;have q1:=hr.h_;have hle:=ahf s hi;have HD1:=O (zk s i);have HD2:=O (Dh s i);have HT:=O (YZ s i);have HR:=O (show singleR (s.data.toList.drop i)=if decide (0<H8 s i)&&n_ (s.data.toList.drop (i+H8 s i+Tk s i))then some (mg (s.data.toList.drop i)++nG (s.data.toList.drop i),eX (s.data.toList.drop (i+H8 s i+Tk s i)))else none by
  unfold singleR;rw[Dh];have:(!(mg (s.data.toList.drop i)).isEmpty)=decide (0<H8 s i):=by
   unfold H8;cases mg (s.data.toList.drop i)<;>simp
  rw[this])
 have T1:=O (show∀U,aB 214 #[.string (s.extract i s.size),.string adj] U fun e w'=>e=.returned (.string (s.extract (i+H8 s i) s.size))/\Fr aS U w' from fun U=>by
  have e1:s.extract (i+H8 s i) s.size=⟨((s.extract i s.size).data.toList.dropWhile (adj.data.toList.contains ·)).toArray⟩:=by
   apply Go.WideShapes.bytes_inj;rw[zl,zl,zk];rfl
  rw[e1];exact F2 _ _ U ag QW)
 have T2:=O (show∀U,aB 214 #[.string (s.extract (i+H8 s i) s.size),.string ⟨#[61]⟩] U fun e w'=>e=.returned (.string (s.extract (i+H8 s i+Tk s i) s.size))/\Fr aS U w' from fun U=>by
  have e1:s.extract (i+H8 s i+Tk s i) s.size=⟨((s.extract (i+H8 s i) s.size).data.toList.dropWhile ((⟨#[61]⟩:aj).data.toList.contains ·)).toArray⟩:=by
   apply Go.WideShapes.bytes_inj;rw[zl,zl,zk,Dh];rfl
  rw[e1];exact F2 _ _ U ag ag)
 generalize hN:H8 s i=N at *
 generalize hM:Tk s i=M at *
 clear hN hM;generalize mg (s.data.toList.drop i)++nG (s.data.toList.drop i)=TX at *
 have hJ1:i<=i+N:=ab;have hJ2:i+N<=i+N+M:=ab;have hJN:i+N-i=N:=ab;have hLM:i+N+M-(i+N)=M:=ab;generalize hL:i+N+M=L at *
 generalize hJ:i+N=J at *
 have E1:=O hJ;have E2:=O hL;clear hL hJ;have HNM:=O (And.intro hJN hLM);clear hJN hLM;have k_:(s.extract i s.size).size=s.size-i:=by rw[gC];omega
 have lp:(s.extract J s.size).size=s.size-J:=by rw[gC];omega
 have Up:(s.extract L s.size).size=s.size-L:=by rw[gC];omega
 have W1:=O (show IntKind.i64.wrap (((s.size-i:Nat):Int)-((s.size-J:Nat):Int))=(N:Int)by
  have e:=HNM.o.1;rw[show(((s.size-i:Nat):Int)-((s.size-J:Nat):Int))=(N:Int)from ab];exact CA ab ab)
 have W2:=O (show IntKind.i64.wrap (((s.size-J:Nat):Int)-((s.size-L:Nat):Int))=(M:Int)by
  have e:=HNM.o.2;rw[show(((s.size-J:Nat):Int)-((s.size-L:Nat):Int))=(M:Int)from ab];exact CA ab ab)
 have W3:=O (show IntKind.i64.wrap ((i:Int)+(N:Int))=(J:Int)by
  have e:=HNM.o.1;rw[show((i:Int)+(N:Int))=(J:Int)from ab];exact CA ab ab)
 have W4:=O (show IntKind.i64.wrap ((J:Int)+(M:Int))=(L:Int)by
  have e:=HNM.o.2;rw[show((J:Int)+(M:Int))=(L:Int)from ab];exact CA ab ab)
 have PE:=O (show∀U,Fr aS w U->iJ U b c s v/\dx U c s i from fun U hU=>⟨hr.fr hU id,h.fr hU id⟩);go_enter func169,ntmps169;go_wp2_with fail
 refine(AG c s i w h).mono ?_;rintro e w0⟨rfl,rfl⟩;have b1:(0:Int)<=(i:Int):=ab;have b2:(i:Int)<=(s.size:Int):=ab;go_wp2_with fail
 go_region_held3 (fun U=>U.cell? ⟨b,1,none⟩=some (.string s)) ((refine(PE.o _ ?_).1.h_;repeat(first|exact ae _ _|apply bz|apply aA|refine bF ?_ j9))) ((go_at_call 214;refine(T1.o _).mono ?_;rintro e v1 ⟨rfl,EZ⟩))
 rw[W1.o];obtain⟨yI,pA⟩:=PE.o v1 (by repeat(first|exact ae _ _|apply bz|apply aA|apply dD|refine bF ?_ j9));have lC:=O (show Fr aS w v1 from(by repeat(first|exact ae _ _|apply bz|apply aA|apply dD|refine bF ?_ j9)));clear EZ;have q1:=yI.h_;have b3:(0:Int)<=(J:Int):=ab;have b4:(J:Int)<=(s.size:Int):=ab;have w3:=W3.o;go_wp2_with fail
 go_region_held3 (fun U=>U.cell? ⟨b,1,none⟩=some (.string s)) ((refine(PE.o _ ?_).1.h_;repeat(first|exact ae _ _|exact lC.o|apply bz|apply aA|refine bF ?_ j9))) ((go_at_call 214;refine(T2.o _).mono ?_;rintro e v2 ⟨rfl,hv2⟩))
 rw[W2.o];obtain⟨ot,sr⟩:=PE.o v2 (by repeat(first|exact ae _ _|exact lC.o|apply bz|apply aA|apply dD|refine bF ?_ j9));have f_:=O (show Fr aS w v2 from(by repeat(first|exact ae _ _|exact lC.o|apply bz|apply aA|apply dD|refine bF ?_ j9)));clear hv2 q1 yI pA;have q0:=ot.cell0;have q1:=ot.h_;have w4:=W4.o;go_wp2_with fail
 refine(xQ c s i L v2 sr hm).mono ?_;rintro e v3⟨rfl,uj,iz⟩;rw[ux hle]at uj;have rF:=ot.one sr iz;have iA:=O (f_.o.nj.trans iz);have q0:=rF.cell0;have q1:=rF.h_;by_cases PF:0<N
 ·have n0:(0:Int)<(N:Int):=ab;rw[bM PF,Bool.true_and]at HR;go_wp2_with fail
  refine(Dg b c L s v v3 rF uj hm hle).mono ?_;rintro e v4⟨rfl,ug,kQ⟩;have vA:=rF.one uj kQ;have q0:=vA.cell0;have q1:=vA.h_;have CB:=O (oM s L);have hbl:=xY (s:=s) hle;cases ho:n_ (s.data.toList.drop L)
  ·rw[ho]at HR;go_wp2_with fail
   refine(xQ c s _ i v4 ug hm).mono ?_;rintro e v5⟨rfl,uh,lQ⟩;rw[ux hi]at uh;go_wp2;go_ret2;exact mG.no (by rw[HR.o];rfl) ((iA.o.trans kQ).trans lQ) uh
  ·rw[ho]at HR;have b5:(i:Int)<=(L:Int):=ab;have b6:(L:Int)<=(s.size:Int):=ab;have b7:(0:Int)<=(L:Int):=ab;go_wp2;go_ret2;rw[HT.o];exact mG.hit (q:=(TX,eX (s.data.toList.drop L))) (by rw[HR.o];rfl) (iA.o.trans kQ) hbl ug CB.o
 ·have n0:¬(0:Int)<(N:Int):=ab;rw[bD PF,kA]at HR;go_wp2_with fail
  refine(xQ c s _ i v3 uj hm).mono ?_;rintro e v5⟨rfl,uh,lQ⟩;rw[ux hi]at uh;go_wp2;go_ret2;exact mG.no (by rw[HR.o];rfl) (iA.o.trans lQ) uh
structure nU where
 Nt:Bool
 cA:Bool
 aK:aj
 bq:aj
 eH:aj
 user:aj
 pass:aj
 method:aj
 target:aj
 body:aj
 bL:aj
 n:Nat
def jd:aj:=⟨#[97,117,116,104,45,105,110,116]⟩
def Fe(x:nU):aj:=if x.cA then kD x.Nt [kD x.Nt [x.user,x.aK,x.pass],x.bq,x.bL]else kD x.Nt [x.user,x.aK,x.pass]
def xd(x:nU):aj:=if x.eH=jd then kD x.Nt [x.method,x.target,kD x.Nt [x.body]]else kD x.Nt [x.method,x.target]
def og(x:nU):aj:=if x.eH=.empty then kD x.Nt [Fe x,x.bq,xd x]else kD x.Nt [Fe x,x.bq,⟨(jD x.n).toArray⟩,x.bL,x.eH,xd x]
theorem at_len(k:Nat){P:Program}{f:FuncId}{x:Value}{a:eV}{Un:Ending->World->Prop}(h:Calls P f #[x,.slice a k c] W Un):Calls P f #[x,.slice a k c] W Un:=h
theorem abR:¬jd=.empty:=du
theorem sL{v:Value}{ss:List aj}(h:fP w v ss):fP w.drew v ss:=h
theorem abS(a:aj):(kM [a]).length=a.size:=by simp[kM,Lib.join,List.intercalate]
theorem abT(a b:aj):(kM [a,b]).length=a.size+b.size+1:=by simp[kM,Lib.join,List.intercalate];omega
theorem Gd(a b c:aj):(kM [a,b,c]).length=a.size+b.size+c.size+2:=by simp[kM,Lib.join,List.intercalate];omega
theorem PY(a b c d e f:aj):(kM [a,b,c,d,e,f]).length=a.size+b.size+c.size+d.size+e.size+f.size+5:=by simp[kM,Lib.join,List.intercalate];omega
theorem uB(n:Nat):(⟨(jD n).toArray⟩:aj).size=8:=by show(jD n).toArray.size=8;simp[jD,nS]
structure nU.Small (x:nU):Prop where
 aK:x.aK.size<=5000
 bq:x.bq.size<=5000
 eH:x.eH.size<=5000
 user:x.user.size<=5000
 pass:x.pass.size<=5000
 method:x.method.size<=5000
 target:x.target.size<=5000
 body:x.body.size<=5000
 bL:x.bL.size<=5000
 n:x.n<4294967296
theorem zu(r:fK Value)(x:nU)(w:World)(hx:x.Small)(h1:r.aK=x.aK)(h2:r.bq=x.bq)(h3:r.eH=x.eH)(h4:r.cA=x.cA)(h5:x.Nt=decide (r.scheme=3))
  (eb:r.dom.oneCell'=true)(Nv:oP w 9 .u8 Tr)(hh:tz r.scheme w) :
  aB 102 #[.agg #[.int .i64 r.scheme,.string r.aK,.string r.bq,.string r.cy,.bool r.cA,.string r.eH,.bool r.cN,r.dom],.agg #[.string x.user,.string x.pass],.string x.method,.string x.target,.string x.body,.string x.bL,.int .i64 x.n] w
   fun e w'=>e=.returned (.string (og x))/\Fr aS w w':=by
 obtain⟨Nt,cA,aK,bq,eH,user,pass,method,target,body,bL,n⟩:=x;obtain⟨fQ,iK,eO,cy,PZ,nk,cN,dom⟩:=r;obtain⟨z1,z2,z3,z4,z5,z6,z7,z8,z9,zn⟩:=hx;simp only at h1 h2 h3 h4 h5 eb z1 z2 z3 z4 z5 z6 z7 z8 z9 zn hh ⊢;subst h1 h2 h3 h4 h5;have HDB:=O Nv;have HH:=O hh;have HD1:=O eb;clear Nv hh;go_enter func102,ntmps102;go_wp2_with fail
 obtain⟨wb,j6⟩:∃wb,wb=(w.alloc (.cells #[.int .i64 fQ,.string iK,.string eO,.string cy,.bool PZ,.string nk,.bool cN,dom] 112)).alloc (.cells #[.string user,.string pass] 39):=⟨_,rfl⟩;have yG:wb.heap.size=w.heap.size+1+1:=by rw[j6];simp
 have ks:Fr aS w wb:=by rw[j6];exact((ae aS w).alloc _).alloc _
 have hk:wb.heap[w.heap.size]?=some (.cells #[.int .i64 fQ,.string iK,.string eO,.string cy,.bool PZ,.string nk,.bool cN,dom] 112 (0,0)):=by rw[j6];exact((ae aS _).alloc _).keep (aC _ _) id
 have HC:=O (show∀U,Fr aS wb U->U.cell? ⟨w.heap.size,0,none⟩=some (.int .i64 fQ)/\U.cell? ⟨w.heap.size,2,none⟩=some (.string eO)/\U.cell? ⟨w.heap.size,4,none⟩=some (.bool PZ)/\U.cell? ⟨w.heap.size,5,none⟩=some (.string nk)from fun U hU=>by
  have rZ:=hU.keep hk id;simp[World.cell?,rZ])
 have hv:=fZ wb 9 [user,iK,pass] (bd rfl);rw[yG]at hv;rw[<-j6];clear j6 hk;refine(HH.o _ [user,iK,pass] _ (ks.alloc _) hv (bd rfl) (by rw[Gd];omega)).mono ?_;rintro e u1⟨rfl,dr⟩;have lC:=O (show Fr aS wb u1 from((ae aS wb).alloc _).trans dr);have Ii:=O (ks.trans lC.o);obtain⟨c0,c2,c4,c5⟩:=HC.o u1 lC.o;obtain⟨o0,ho0⟩:∃o0,o0=kD (decide (fQ=3)) [user,iK,pass]:=⟨_,rfl⟩
 have hoz:o0.size<=64:=by rw[ho0];exact lK _ _
 rw[<-ho0];have HO0:=O ho0;clear ho0;clear hv dr yG;cases PZ
 ·obtain⟨o1,AO⟩:∃o1,o1=o0:=⟨_,rfl⟩;rw[<-AO]at hoz ⊢;have HO:=O (show Fe ⟨decide (fQ=3),false,iK,eO,nk,user,pass,method,target,body,bL,n⟩=o1 by rw[AO,HO0.o];rfl);clear AO;go_wp2_with fail
  refine(HH.o _ [method,target] _ (by repeat(first|exact Ii.o|refine bF ?_ ov|apply bz|apply aA)) (fZ _ _ [method,target] (bd rfl)) (bd rfl) (by rw[abT];omega)).mono ?_;rintro e u5⟨rfl,lQ⟩;have xn:=O (show Fr aS wb u5 from bF (by repeat(first|exact lC.o|apply bz|apply aA)) lQ);have Ge:=O (ks.trans xn.o);obtain⟨d0,d2,d4,d5⟩:=HC.o u5 xn.o;clear c0 c2 c4 c5 lQ
  obtain⟨t0,Zp⟩:∃t0,t0=kD (decide (fQ=3)) [method,target]:=⟨_,rfl⟩;have XT:t0.size<=64:=by rw[Zp];exact lK _ _
  rw[<-Zp];have HT0:=O Zp;clear Zp;by_cases hqi:nk=jd
  ·subst hqi;have hai:jd.toList=[97,117,116,104,45,105,110,116]:=du;have HRI:=O (show og ⟨decide (fQ=3),false,iK,eO,jd,user,pass,method,target,body,bL,n⟩=kD (decide (fQ=3)) [Fe ⟨decide (fQ=3),false,iK,eO,jd,user,pass,method,target,body,bL,n⟩,eO,⟨(jD n).toArray⟩,bL,jd,xd ⟨decide (fQ=3),false,iK,eO,jd,user,pass,method,target,body,bL,n⟩]from by unfold og;rw[aq abR])
   have HTI:=O (show xd ⟨decide (fQ=3),false,iK,eO,jd,user,pass,method,target,body,bL,n⟩=kD (decide (fQ=3)) [method,target,kD (decide (fQ=3)) [body]]from by unfold xd;rw[az rfl]);have hbz:=lK (decide (fQ=3)) [body];obtain⟨bb,xy⟩:∃bb,bb=kD (decide (fQ=3)) [body]:=⟨_,rfl⟩;have HBB:=O xy;rw[<-xy]at hbz HTI;clear xy;go_wp2_with fail
   go_region_held3 (fun U=>U.cell? ⟨w.heap.size,0,none⟩=some (.int .i64 fQ)) ((refine(HC.o _ ?_).1;repeat(first|exact xn.o|refine bF ?_ sH|refine bF ?_ ov|apply bz|apply aA))) (first|((with_reducible refine at_len 1 ?_);go_at_call 159;refine(HH.o _ [body] _ (by repeat(first|exact Ge.o|apply bz|apply aA)) (by first|exact fZ _ _ [body] (bd rfl)|exact sL (fZ _ _ [body] (bd rfl))) (bd rfl) (by rw[abS];omega)).mono ?_;rw[<-HBB.o];rintro e w7 ⟨rfl,ov⟩)|((with_reducible refine at_len 3 ?_);go_at_call 159;refine(HH.o _ [method,target,bb] _ (by repeat(first|exact Ge.o|refine bF ?_ ov|apply bz|apply aA)) (by first|exact fZ _ _ [method,target,bb] (bd rfl)|exact sL (fZ _ _ [method,target,bb] (bd rfl))) (bd rfl) (by rw[Gd];omega)).mono ?_;rintro e w8 ⟨rfl,sH⟩))
   all_goals
    have yH:=O (show Fr aS wb w8 from by repeat(first|exact xn.o|refine bF ?_ sH|refine bF ?_ ov|apply bz|apply aA));have Q':=O (ks.trans yH.o);clear ov sH d0 d2 d4 d5;obtain⟨d0,d2,d4,d5⟩:=HC.o w8 yH.o;obtain⟨t2,KJ⟩:∃t2,t2=kD (decide (fQ=3)) [method,target,bb]:=⟨_,rfl⟩;have anH:t2.size<=64:=by rw[KJ];exact lK _ _
    rw[<-KJ];have HT:=O (HTI.o.trans KJ.symm);have HR:=O HRI.o;clear KJ;have anI:¬jd.toList=[]:=by rw[hai];simp
    have X0:=O (fun(U:World) (hU:Fr aS wb U)=>And.intro (HC.o U hU).1 (And.intro (HC.o U hU).2.1 (HC.o U hU).2.2.2));clear XT;go_wp2_with fail
    go_region_held3 (fun U=>U.cell? ⟨w.heap.size,0,none⟩=some (.int .i64 fQ)/\U.cell? ⟨w.heap.size,2,none⟩=some (.string eO)/\U.cell? ⟨w.heap.size,5,none⟩=some (.string jd)) ((refine X0.o _ ?_;repeat(first|exact yH.o|refine bF ?_ sH|refine bF ?_ ov|apply bz|apply aA))) (first|(go_at_call 104;refine(rm n _ zn (HDB.o.fr (by repeat(first|exact Q'.o|refine bF ?_ ov|apply bz|apply aA)))).mono ?_;rintro e w7 ⟨rfl,ov⟩)|(go_at_call 159;refine(HH.o _ [o1,eO,⟨(jD n).toArray⟩,bL,jd,t2] _ (by repeat(first|exact Q'.o|refine bF ?_ ov|apply bz|apply aA)) (fZ _ _ _ (bd rfl)) (bd rfl) (by rw[PY];have:=uB n;omega)).mono ?_;rintro e w8 ⟨rfl,sH⟩))
    all_goals
     have Dy:=O (show Fr aS w w8 from bF (by repeat(first|exact Q'.o|refine bF ?_ ov|apply bz|apply aA)) sH);clear sH;go_wp2;go_ret;exact⟨by rw[HR.o,HO.o,HT.o];rfl,Dy.o⟩
  ·have hq1:¬nk.toList=[97,117,116,104,45,105,110,116]:=fun h=>hqi (by rw[aO]at h;exact Go.WideShapes.bytes_inj h);have hq2:(nk.toList== [97,117,116,104,45,105,110,116])=false:=by simp[hq1]
   obtain⟨t2,KJ⟩:∃t2,t2=t0:=⟨_,rfl⟩;rw[<-KJ]at XT ⊢;have HT:=O (show xd ⟨decide (fQ=3),false,iK,eO,nk,user,pass,method,target,body,bL,n⟩=t2 by rw[KJ,HT0.o];unfold xd;rw[aq hqi]);clear KJ;by_cases Ra:nk=.empty
   ·subst Ra;have anJ:ByteArray.empty.toList=[]:=du;have HR:=O (show og ⟨decide (fQ=3),false,iK,eO,.empty,user,pass,method,target,body,bL,n⟩=kD (decide (fQ=3)) [Fe ⟨decide (fQ=3),false,iK,eO,.empty,user,pass,method,target,body,bL,n⟩,eO,xd ⟨decide (fQ=3),false,iK,eO,.empty,user,pass,method,target,body,bL,n⟩]from by unfold og;rw[az rfl]);go_wp2_with fail
    refine(HH.o _ [o1,eO,t2] _ (by repeat(first|exact Ge.o|refine bF ?_ ov|apply bz|apply aA)) (fZ _ _ [o1,eO,t2] (bd rfl)) (bd rfl) (by rw[Gd];omega)).mono ?_;rintro e u9⟨rfl,Ts⟩;go_wp2;go_ret;exact⟨by rw[HR.o,HO.o,HT.o];rfl,bF (by repeat(first|exact Ge.o|refine bF ?_ ov|apply bz|apply aA)) Ts⟩
   ·have Zq:¬nk.toList=[]:=fun h=>Ra (by rw[aO]at h;exact Go.WideShapes.bytes_inj h);have hq4:nk.toList.isEmpty=false:=by cases hz:nk.toList with|nil=>exact absurd hz Zq|cons _ _=>rfl
    have HR:=O (show og ⟨decide (fQ=3),false,iK,eO,nk,user,pass,method,target,body,bL,n⟩=kD (decide (fQ=3)) [Fe ⟨decide (fQ=3),false,iK,eO,nk,user,pass,method,target,body,bL,n⟩,eO,⟨(jD n).toArray⟩,bL,nk,xd ⟨decide (fQ=3),false,iK,eO,nk,user,pass,method,target,body,bL,n⟩]from by unfold og;rw[aq Ra])
    have X0:=O (fun(U:World) (hU:Fr aS wb U)=>And.intro (HC.o U hU).1 (And.intro (HC.o U hU).2.1 (HC.o U hU).2.2.2));go_wp2_with fail
    go_region_held3 (fun U=>U.cell? ⟨w.heap.size,0,none⟩=some (.int .i64 fQ)/\U.cell? ⟨w.heap.size,2,none⟩=some (.string eO)/\U.cell? ⟨w.heap.size,5,none⟩=some (.string nk)) ((refine X0.o _ ?_;repeat(first|exact xn.o|refine bF ?_ sH|refine bF ?_ ov|apply bz|apply aA))) (first|(go_at_call 104;refine(rm n _ zn (HDB.o.fr (by repeat(first|exact Ge.o|refine bF ?_ ov|apply bz|apply aA)))).mono ?_;rintro e w7 ⟨rfl,ov⟩)|(go_at_call 159;refine(HH.o _ [o1,eO,⟨(jD n).toArray⟩,bL,nk,t2] _ (by repeat(first|exact Ge.o|refine bF ?_ ov|apply bz|apply aA)) (fZ _ _ _ (bd rfl)) (bd rfl) (by rw[PY];have:=uB n;omega)).mono ?_;rintro e w8 ⟨rfl,sH⟩))
    all_goals
     have Dy:=O (show Fr aS w w8 from bF (by repeat(first|exact Ge.o|refine bF ?_ ov|apply bz|apply aA)) sH);clear sH;go_wp2;go_ret;exact⟨by rw[HR.o,HO.o,HT.o];rfl,Dy.o⟩
 ·go_wp2_with fail
  refine(HH.o _ [o0,eO,bL] _ (by repeat(first|exact Ii.o|apply bz|apply aA)) (fZ _ _ [o0,eO,bL] (bd rfl)) (bd rfl) (by rw[Gd];omega)).mono ?_;rintro e u2⟨rfl,dB⟩;have f_:=O (show Fr aS wb u2 from bF (by repeat(first|exact lC.o|apply bz|apply aA)) dB);have nI:=O (ks.trans f_.o);clear c0 c2 c4 c5 dB;obtain⟨c0,c2,c4,c5⟩:=HC.o u2 f_.o;obtain⟨o1,AO⟩:∃o1,o1=kD (decide (fQ=3)) [o0,eO,bL]:=⟨_,rfl⟩
  have auR:o1.size<=64:=by rw[AO];exact lK _ _
  rw[<-AO];have HO:=O (show Fe ⟨decide (fQ=3),true,iK,eO,nk,user,pass,method,target,body,bL,n⟩=o1 by rw[AO,HO0.o];rfl);clear AO;go_wp2_with fail
  refine(HH.o _ [method,target] _ (by repeat(first|exact nI.o|refine bF ?_ ov|apply bz|apply aA)) (fZ _ _ [method,target] (bd rfl)) (bd rfl) (by rw[abT];omega)).mono ?_;rintro e u5⟨rfl,lQ⟩;have xn:=O (show Fr aS wb u5 from bF (by repeat(first|exact f_.o|apply bz|apply aA)) lQ);have Ge:=O (ks.trans xn.o);obtain⟨d0,d2,d4,d5⟩:=HC.o u5 xn.o;clear c0 c2 c4 c5 lQ
  obtain⟨t0,Zp⟩:∃t0,t0=kD (decide (fQ=3)) [method,target]:=⟨_,rfl⟩;have XT:t0.size<=64:=by rw[Zp];exact lK _ _
  rw[<-Zp];have HT0:=O Zp;clear Zp;by_cases hqi:nk=jd
  ·subst hqi;have hai:jd.toList=[97,117,116,104,45,105,110,116]:=du;have HRI:=O (show og ⟨decide (fQ=3),true,iK,eO,jd,user,pass,method,target,body,bL,n⟩=kD (decide (fQ=3)) [Fe ⟨decide (fQ=3),true,iK,eO,jd,user,pass,method,target,body,bL,n⟩,eO,⟨(jD n).toArray⟩,bL,jd,xd ⟨decide (fQ=3),true,iK,eO,jd,user,pass,method,target,body,bL,n⟩]from by unfold og;rw[aq abR])
   have HTI:=O (show xd ⟨decide (fQ=3),true,iK,eO,jd,user,pass,method,target,body,bL,n⟩=kD (decide (fQ=3)) [method,target,kD (decide (fQ=3)) [body]]from by unfold xd;rw[az rfl]);have hbz:=lK (decide (fQ=3)) [body];obtain⟨bb,xy⟩:∃bb,bb=kD (decide (fQ=3)) [body]:=⟨_,rfl⟩;have HBB:=O xy;rw[<-xy]at hbz HTI;clear xy;go_wp2_with fail
   go_region_held3 (fun U=>U.cell? ⟨w.heap.size,0,none⟩=some (.int .i64 fQ)) ((refine(HC.o _ ?_).1;repeat(first|exact xn.o|refine bF ?_ sH|refine bF ?_ ov|apply bz|apply aA))) (first|((with_reducible refine at_len 1 ?_);go_at_call 159;refine(HH.o _ [body] _ (by repeat(first|exact Ge.o|apply bz|apply aA)) (by first|exact fZ _ _ [body] (bd rfl)|exact sL (fZ _ _ [body] (bd rfl))) (bd rfl) (by rw[abS];omega)).mono ?_;rw[<-HBB.o];rintro e w7 ⟨rfl,ov⟩)|((with_reducible refine at_len 3 ?_);go_at_call 159;refine(HH.o _ [method,target,bb] _ (by repeat(first|exact Ge.o|refine bF ?_ ov|apply bz|apply aA)) (by first|exact fZ _ _ [method,target,bb] (bd rfl)|exact sL (fZ _ _ [method,target,bb] (bd rfl))) (bd rfl) (by rw[Gd];omega)).mono ?_;rintro e w8 ⟨rfl,sH⟩))
   all_goals
    have yH:=O (show Fr aS wb w8 from by repeat(first|exact xn.o|refine bF ?_ sH|refine bF ?_ ov|apply bz|apply aA));have Q':=O (ks.trans yH.o);clear ov sH d0 d2 d4 d5;obtain⟨d0,d2,d4,d5⟩:=HC.o w8 yH.o;obtain⟨t2,KJ⟩:∃t2,t2=kD (decide (fQ=3)) [method,target,bb]:=⟨_,rfl⟩;have anH:t2.size<=64:=by rw[KJ];exact lK _ _
    rw[<-KJ];have HT:=O (HTI.o.trans KJ.symm);have HR:=O HRI.o;clear KJ;have anI:¬jd.toList=[]:=by rw[hai];simp
    have X0:=O (fun(U:World) (hU:Fr aS wb U)=>And.intro (HC.o U hU).1 (And.intro (HC.o U hU).2.1 (HC.o U hU).2.2.2));clear XT;go_wp2_with fail
    go_region_held3 (fun U=>U.cell? ⟨w.heap.size,0,none⟩=some (.int .i64 fQ)/\U.cell? ⟨w.heap.size,2,none⟩=some (.string eO)/\U.cell? ⟨w.heap.size,5,none⟩=some (.string jd)) ((refine X0.o _ ?_;repeat(first|exact yH.o|refine bF ?_ sH|refine bF ?_ ov|apply bz|apply aA))) (first|(go_at_call 104;refine(rm n _ zn (HDB.o.fr (by repeat(first|exact Q'.o|refine bF ?_ ov|apply bz|apply aA)))).mono ?_;rintro e w7 ⟨rfl,ov⟩)|(go_at_call 159;refine(HH.o _ [o1,eO,⟨(jD n).toArray⟩,bL,jd,t2] _ (by repeat(first|exact Q'.o|refine bF ?_ ov|apply bz|apply aA)) (fZ _ _ _ (bd rfl)) (bd rfl) (by rw[PY];have:=uB n;omega)).mono ?_;rintro e w8 ⟨rfl,sH⟩))
    all_goals
     have Dy:=O (show Fr aS w w8 from bF (by repeat(first|exact Q'.o|refine bF ?_ ov|apply bz|apply aA)) sH);clear sH;go_wp2;go_ret;exact⟨by rw[HR.o,HO.o,HT.o];rfl,Dy.o⟩
  ·have hq1:¬nk.toList=[97,117,116,104,45,105,110,116]:=fun h=>hqi (by rw[aO]at h;exact Go.WideShapes.bytes_inj h);have hq2:(nk.toList== [97,117,116,104,45,105,110,116])=false:=by simp[hq1]
   obtain⟨t2,KJ⟩:∃t2,t2=t0:=⟨_,rfl⟩;rw[<-KJ]at XT ⊢;have HT:=O (show xd ⟨decide (fQ=3),true,iK,eO,nk,user,pass,method,target,body,bL,n⟩=t2 by rw[KJ,HT0.o];unfold xd;rw[aq hqi]);clear KJ;by_cases Ra:nk=.empty
   ·subst Ra;have anJ:ByteArray.empty.toList=[]:=du;have HR:=O (show og ⟨decide (fQ=3),true,iK,eO,.empty,user,pass,method,target,body,bL,n⟩=kD (decide (fQ=3)) [Fe ⟨decide (fQ=3),true,iK,eO,.empty,user,pass,method,target,body,bL,n⟩,eO,xd ⟨decide (fQ=3),true,iK,eO,.empty,user,pass,method,target,body,bL,n⟩]from by unfold og;rw[az rfl]);go_wp2_with fail
    refine(HH.o _ [o1,eO,t2] _ (by repeat(first|exact Ge.o|refine bF ?_ ov|apply bz|apply aA)) (fZ _ _ [o1,eO,t2] (bd rfl)) (bd rfl) (by rw[Gd];omega)).mono ?_;rintro e u9⟨rfl,Ts⟩;go_wp2;go_ret;exact⟨by rw[HR.o,HO.o,HT.o];rfl,bF (by repeat(first|exact Ge.o|refine bF ?_ ov|apply bz|apply aA)) Ts⟩
   ·have Zq:¬nk.toList=[]:=fun h=>Ra (by rw[aO]at h;exact Go.WideShapes.bytes_inj h);have hq4:nk.toList.isEmpty=false:=by cases hz:nk.toList with|nil=>exact absurd hz Zq|cons _ _=>rfl
    have HR:=O (show og ⟨decide (fQ=3),true,iK,eO,nk,user,pass,method,target,body,bL,n⟩=kD (decide (fQ=3)) [Fe ⟨decide (fQ=3),true,iK,eO,nk,user,pass,method,target,body,bL,n⟩,eO,⟨(jD n).toArray⟩,bL,nk,xd ⟨decide (fQ=3),true,iK,eO,nk,user,pass,method,target,body,bL,n⟩]from by unfold og;rw[aq Ra])
    have X0:=O (fun(U:World) (hU:Fr aS wb U)=>And.intro (HC.o U hU).1 (And.intro (HC.o U hU).2.1 (HC.o U hU).2.2.2));go_wp2_with fail
    go_region_held3 (fun U=>U.cell? ⟨w.heap.size,0,none⟩=some (.int .i64 fQ)/\U.cell? ⟨w.heap.size,2,none⟩=some (.string eO)/\U.cell? ⟨w.heap.size,5,none⟩=some (.string nk)) ((refine X0.o _ ?_;repeat(first|exact xn.o|refine bF ?_ sH|refine bF ?_ ov|apply bz|apply aA))) (first|(go_at_call 104;refine(rm n _ zn (HDB.o.fr (by repeat(first|exact Ge.o|refine bF ?_ ov|apply bz|apply aA)))).mono ?_;rintro e w7 ⟨rfl,ov⟩)|(go_at_call 159;refine(HH.o _ [o1,eO,⟨(jD n).toArray⟩,bL,nk,t2] _ (by repeat(first|exact Ge.o|refine bF ?_ ov|apply bz|apply aA)) (fZ _ _ _ (bd rfl)) (bd rfl) (by rw[PY];have:=uB n;omega)).mono ?_;rintro e w8 ⟨rfl,sH⟩))
    all_goals
     have Dy:=O (show Fr aS w w8 from bF (by repeat(first|exact Ge.o|refine bF ?_ ov|apply bz|apply aA)) sH);clear sH;go_wp2;go_ret;exact⟨by rw[HR.o,HO.o,HT.o];rfl,Dy.o⟩
def nJ(path query:aj):aj:=if query.size=0 then path else(path++⟨#[63]⟩)++query
