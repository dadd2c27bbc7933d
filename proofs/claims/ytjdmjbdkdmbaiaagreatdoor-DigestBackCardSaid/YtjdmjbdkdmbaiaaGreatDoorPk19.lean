/- Count, Url1, Bank4, Hash2, PlainCase, PassPure, DigPure. -/
import Derived.Test.YtjdmjbdkdmbaiaaGreatDoorPk15
import Derived.Test.YtjdmjbdkdmbaiaaGreatDoorPk17
import Derived.Test.YtjdmjbdkdmbaiaaGreatDoorPk18
import Derived.Lib.ItoaLen
set_option maxRecDepth 100000
set_option maxHeartbeats 16000000
set_option linter.unusedSimpArgs false
namespace Go.Proofs.YtjdmjbdkdmbaiaaGreatDoor
open Go.RowKit
def Gr:List Int:=[0,1,56,2,57,49,28,3,61,58,42,50,38,29,17,4,62,47,59,36,45,43,51,22,53,39,33,30,24,18,12,5,63,55,48,27,60,41,37,16,46,35,44,21,52,32,23,11,54,26,40,15,34,20,31,10,25,14,19,9,13,8,7,6]
theorem om{W:World}{laid:List (String×DataW Unit)}(h:laidMet Tryz.prog laid W)(hm:("math/bits.deBruijn64tab",Lib.tabData .u8 Gr)∈laid/\True):iu W 9 .u8 Gr :=
 pX (lV h hm.1 (g:=9) (by kernel_rfl) (by kernel_rfl) Tryz.underlying312 Tryz.underlying5 (by kernel_rfl) (by kernel_rfl)) (by kernel_rfl) (by decide)
theorem Zq(w:World)(h:iu w 9 .u8 Gr) :
  Calls Tryz.prog 254 #[.int .u64 16] w fun e w'=>e=.returned (.int .i64 4)/\w'=w:=by
 have hc:w.cell? ⟨9,15,none⟩=some (.int .u8 4):=h.2 15 4 rfl;have hb:bits .and .u64 16 18446744073709551600=16:=by decide +kernel
 have hw:IntKind.u64.wrap (-16)=18446744073709551600:=by decide +kernel
 have bK:IntKind.u64.wrap (16*285870213051353865)=4573923408821661840:=by decide +kernel
 have Oa:IntKind.u64.wrap 4573923408821661840=4573923408821661840:=by decide +kernel
 go_enter Tryz.func254,Tryz.ntmps254;go_wp2;go_ret;exact⟨rfl,rfl⟩
theorem Ob(w:World) :
  Calls Tryz.prog 253 #[.int .i64 16] w fun e w'=>e=.returned (.bool true)/\w'=w:=by
 have hb:bits .and .i64 16 15=0:=by decide +kernel
 go_enter Tryz.func253,Tryz.ntmps253;go_wp2;go_ret;exact⟨rfl,rfl⟩
theorem Jt:∀n (h:n<16),(⟨#[48,49,50,51,52,53,54,55,56,57,97,98,99,100,101,102,103,104,105,106,107,108,109,110,111,112,113,114,115,116,117,118,119,120,121,122]⟩:ByteArray)[n]'(Nat.lt_trans h (by decide))=xO n.toUInt8:=by decide
def Ju(w:World)(g:Nat)(l:List UInt8):Prop:=w.heap[g]?=some (.cells (nT l).toArray 287 (0,0))
theorem Ju.cell{w:World}{g:Nat}{l:List UInt8}(h:Ju w g l){j:Nat}{c:UInt8}(hj:l[j]?=some c):w.cell? ⟨g,j,none⟩=some (.int .u8 (c.toNat:Int)):=by
 obtain⟨hl,he⟩:=List.getElem?_eq_some_iff.1 hj;unfold Ju at h;simp only[World.cell?,h];simp[nT,hl,he]
theorem Ju.free{w:World}{g:Nat}{l:List UInt8}(h:Ju w g l)(j:Nat):w.frozen? ⟨g,j,none⟩=false:=by
 unfold Ju at h;simp[World.frozen?,h]
theorem Ju.set{w:World}{g:Nat}{l:List UInt8}(h:Ju w g l)(j:Nat)(c:UInt8):Ju (w.setCell ⟨g,j,none⟩ (.int .u8 (c.toNat:Int))) g (l.set j c):=by
 unfold Ju at h ⊢;simp only[World.setCell,Array.getElem?_modify,h];simp[nT,List.map_set]
theorem Ju.text{w:World}{g:Nat}{l m:List UInt8}{k c:Nat}(h:Ju w g (m++l))(hk:m.length=k) :
  (convert 159 9 (.slice (some ⟨g,k,none⟩) l.length c)).run Tryz.prog w=.ok (.string ⟨l.toArray⟩) w:=by
 refine run_convert_bytes_back (P:=Tryz.prog) w 159 9 5 ⟨g,k,none⟩ c l Tryz.underlying159 Tryz.underlying5 Tryz.underlying9 ?_;intro j hj;have ea:(Addr.add ⟨g,k,none⟩ j)=⟨g,k+j,none⟩:=by unfold Addr.add;split<;>simp_all
 rw[ea];refine h.cell ?_;rw[List.getElem?_append_right (by omega),show k+j-m.length=j from by omega];exact List.getElem?_eq_getElem hj
def zy(n j:Nat):List UInt8:=List.replicate (65-j) 0++fA j n
theorem Oc(n j:Nat)(h:j<=65):(zy n j).length=65:=by unfold zy;rw[List.length_append,List.length_replicate,jd];omega
theorem KT(n j:Nat)(h:j<65):zy n (j+1)=(zy n j).set (64-j) (xO (n/16^j%16).toUInt8):=by
 unfold zy;rw[<-vV j n,show 65-j=(65-(j+1))+1 from by omega,List.replicate_succ'];rw[List.append_assoc,List.set_append,if_neg (by rw[List.length_replicate];omega)];rw[List.length_replicate,show 64-j-(65-(j+1))=0 from by omega];rfl
theorem Zr(q:Nat)(hq:q<18446744073709551616):bits .and .u64 (q:Int) 15=((q%16:Nat):Int):=by
 have h:=bits_and_u64_nat q 15 hq (by decide);rw[show((15:Nat):Int)=15 from rfl]at h;rw[h]
 congr 1
 exact Nat.and_two_pow_sub_one_eq_mod q 4
def af'(n g:Nat)(w:World)(u i:Value)(wr:World):Prop:=∃j m:Nat,j<=7/\m+1+j=65/\u=.int .u64 ((n/16^j:Nat):Int)/\i=.int .i64 ((m:Int)+1)/\Ju wr g (zy n j)/\Fr ay w wr
theorem KU(n:Nat)(w:World)(hn:n<4294967296)(h:iu w 9 .u8 Gr) :
  Calls Tryz.prog 225 #[.slice none 0 0,.int .u64 (n:Int),.int .i64 16,.bool false,.bool false] w fun e w' =>
   (∃j,j<8/\n<16^(j+1)/\e=.returned (.tuple #[.slice none 0 0,.string ⟨(fA (j+1) n).toArray⟩]))/\Fr ay w w':=by
 have dF:Fr ay w (w.alloc (.cells (nT (List.replicate 65 0)).toArray 287)):=(Fr.refl ay w).alloc _;have HTZ:=O (Zq _ (h.fr dF));have Un:=O (show Ju (w.alloc (.cells (nT (List.replicate 65 0)).toArray 287)) w.heap.size (zy n 0)from af _ _);clear h;go_enter Tryz.func225,Tryz.ntmps225;go_wp2_with fail
 refine(Ob _).mono ?_;rintro e w1⟨rfl,rfl⟩;go_wp2_with fail
 refine HTZ.out.mono ?_;rintro e w2⟨rfl,rfl⟩;go_wp2;go_loopw[1,13] (af' n w.heap.size w) (fun u _ _=>(intOf u).toNat)
 case atStart=>exact⟨0,64,by omega,by omega,by simp,rfl,Un.out,dF⟩
 case round =>
  obtain⟨j,m,hj,hm,rfl,rfl,hb,aW⟩:=hrel;have hq0:n/16^j<=n:=Nat.div_le_self _ _;have hsu:=O (KT n j (by omega));have Aw:=O (show n/16^(j+1)=n/16^j/16 by rw[Nat.pow_succ,Nat.div_div_eq_div_mul]);have h7:=O (show 16<=n/16^j->j<7 from fun h=>by
   rcases Nat.lt_or_ge j 7 with h1|h1
   ·exact h1
   ·obtain rfl:j=7:=by omega
    simp at h;omega)
  have Jv:=O (show n/16^j<16->n<16^(j+1)from fun h=>by rw[Nat.pow_succ,Nat.mul_comm];exact(Nat.div_lt_iff_lt_mul (Nat.pow_pos (by decide))).1 h);have ln:=O (hb.set m (xO (n/16^j%16).toUInt8));have WI:=Oc n j (by omega);have hcell:=hb.cell (List.getElem?_eq_getElem (show m<(zy n j).length by omega));have asM:=hb.free m;generalize hq:n/16^j=q at *
  have h15:=Zr q (by omega);have hr:q%16<16:=Nat.mod_lt _ (by decide);by_cases Zd:16<=q
  ·have anA:(16:Int)<=(q:Int):=by omega
   go_wp2;rw[Jt _ hr];exact⟨⟨j+1,m-1,by have:=h7.out Zd;omega,by have:=h7.out Zd;omega,by rw[Aw.out];rfl,by congr 1;omega,by rw[hsu.out,show 64-j=m from by omega];exact ln.out,aW.dI (p:=⟨w.heap.size,m,none⟩) (Nat.le_refl _) _⟩,by simp[intOf];omega⟩
  ·have anA:¬(16:Int)<=(q:Int):=by omega
   have avV:(m:Int)<=65:=by omega
   have asN:m<=65:=by omega
   have aga:q<16:=by omega
   have e65:65-m=j+1:=by omega
   have hx:=ln.out;rw[show q%16=q from by omega,show(zy n j).set m (xO q.toUInt8)=List.replicate m 0++fA (j+1) n from by
    have h:=hsu.out;rw[show q%16=q from by omega,show 64-j=m from by omega]at h;rw[<-h];unfold zy;rw[show 65-(j+1)=m from by omega]]at hx
   have vH:=hx.text (k:=m) (c:=j+1) (by simp);rw[jd]at vH;clear hx hb ln;go_wp2;rw[Jt _ aga,vH];go_wp2;go_ret2;exact⟨⟨j,by omega,Jv.out aga,rfl⟩,aW.dI (p:=⟨w.heap.size,m,none⟩) (Nat.le_refl _) _⟩
theorem Od(n:Nat)(w:World)(hn:n<4294967296)(h:iu w 9 .u8 Gr) :
  Calls Tryz.prog 102 #[.int .i64 (n:Int),.int .i64 16] w fun e w' =>
   (∃j,j<8/\n<16^(j+1)/\e=.returned (.string ⟨(fA (j+1) n).toArray⟩))/\Fr ay w w':=by
 have HF:=O (KU n w hn h);clear h
 have h1:IntKind.u64.wrap (n:Int)=(n:Int):=by have e:IntKind.u64.wrap (n:Int)=(n:Int)%18446744073709551616:=by simp[IntKind.wrap,IntKind.signed,IntKind.bits]
                                              rw[e];omega
 have rk:Calls Tryz.prog 165 #[.int .i64 (n:Int),.int .i64 16] w fun e w' =>
   (∃j,j<8/\n<16^(j+1)/\e=.returned (.string ⟨(fA (j+1) n).toArray⟩))/\Fr ay w w':=by
  go_enter Tryz.func165,Tryz.ntmps165;go_wp2_with fail
  refine HF.out.mono ?_;rintro e w1⟨⟨j,hj,Jp,rfl⟩,hf⟩;have HN:=O Jp;clear Jp;go_wp2;go_ret;exact⟨⟨j,hj,HN.out,rfl⟩,hf⟩
 go_enter Tryz.func102,Tryz.ntmps102;go_wp2_with fail
 refine rk.mono ?_;rintro e w1⟨⟨j,hj,Jp,rfl⟩,hf⟩;have HN:=O Jp;clear Jp rk;go_wp2;go_ret;exact⟨⟨j,hj,HN.out,rfl⟩,hf⟩
theorem D2(k:Nat):Lib.repeatL [48] k=List.replicate k 48:=by
 induction k with
 |zero=>rfl
 |succ k ih=>show([48]:List UInt8)++Lib.repeatL [48] k=_;rw[ih,List.replicate_succ];rfl
theorem lK(n:Nat)(w:World)(hn:n<4294967296)(h:iu w 9 .u8 Gr) :
  Calls Tryz.prog 47 #[.int .i64 (n:Int)] w fun e w'=>e=.returned (.string ⟨(ez n).toArray⟩)/\Fr ay w w':=by
 have HF:=O (Od n w hn h);clear h;go_enter Tryz.func47,Tryz.ntmps47;go_wp2_with fail
 refine HF.out.mono ?_;rintro e w1⟨⟨j,hj,Jp,rfl⟩,hf⟩;have HC:=O (show ez n=Lib.repeatL [48] (7-j)++fA (j+1) n by unfold ez;rw[D2,xQ _ _ _ Jp,show j+1+(7-j)=8 from by omega]);have hl:=jd (j+1) n;generalize fA (j+1) n=x at *
 clear Jp;have hmx:max (0:Int) (8-((j:Int)+1))=((7-j:Nat):Int):=by omega
 go_wp2_with fail
 refine(Tryz.strings_Repeat ⟨#[48]⟩ (7-j) w1 (by omega) (by show 1*(7-j)<=_;omega)).mono ?_;rintro e w2⟨rfl,hb⟩;have bq:=Fr.gW hb;have qW:(Lib.repeatL [48] (7-j)).length=7-j:=by rw[D2];simp
 have HS:=O (show(⟨(Lib.repeatL [48] (7-j)).toArray⟩++⟨x.toArray⟩:ByteArray)=⟨(ez n).toArray⟩from by
  apply Go.WideShapes.bytes_inj;rw[HC.out];simp[ByteArray.data_append])
 generalize Lib.repeatL [48] (7-j)=z at *
 have Ue:¬9223372036854775807<z.length+x.length:=by omega
 go_wp2;go_ret;exact⟨by rw[<-HS.out];rfl,hf.trans bq⟩
theorem tT(b:Bool)(w:World):Calls Tryz.prog 197 #[.bool b] w fun e w'=>e=.returned (.int .i64 (xz b))/\w=w':=by
 cases b
 ·go_enter Tryz.func197,Tryz.ntmps197;go_wp2;go_ret;exact⟨rfl,rfl⟩
 ·go_enter Tryz.func197,Tryz.ntmps197;go_wp2;go_ret;exact⟨rfl,rfl⟩
def cO.bF(o:cO):YY:=⟨o.ae,o.host.data.toList,o.port⟩
def ra(o:cO):ByteArray:=⟨(zZ o.bF).toArray⟩
def JE(s:Bool):ByteArray:=⟨(Wv s).toArray⟩
theorem GB(sec:Bool)(host:ByteArray)(port:Int)(h:port=xz sec):ra ⟨sec,host,port⟩=JE sec++host:=by
 apply Go.WideShapes.bytes_inj;unfold ra zZ cO.bF JE;simp[h]
theorem Lk(sec:Bool)(host:ByteArray)(port:Int)(h:¬port=xz sec):ra ⟨sec,host,port⟩=(JE sec++host)++(⟨#[58]⟩++⟨(Lib.itoa port).toArray⟩):=by
 apply Go.WideShapes.bytes_inj;unfold ra zZ cO.bF JE;simp[h]
theorem Fr.grow(w:World)(k:Nat)(os:Array Obj):Fr ay w (Sort.grow (w.drewN k) os):=Fr.gW (Lib.below_grow w.heap.size w (Nat.le_refl _) k os)
theorem Oz(o:cO)(w:World)(ht:nI w)(h0: -9223372036854775808<=o.port)(h1:o.port<=9223372036854775807)(hs:o.host.size<100000) :
  Calls Tryz.prog 131 #[.agg o.cells.toArray] w fun e w'=>e=.returned (.string (ra o))/\Fr ay w w':=by
 obtain⟨sec,host,port⟩:=o;have h0: -9223372036854775808<=port:=h0;have h1:port<=9223372036854775807:=h1;have hs:host.size<100000:=hs;have an4:=Lib.itoa_length_le port h0 h1;have hiz:(⟨(Lib.itoa port).toArray⟩:ByteArray).size<=21:=by show(Lib.itoa port).toArray.size<=21;simpa using an4
 unfold cO.cells;obtain⟨wb,eQ⟩:∃wb,wb=w.alloc (.cells #[.bool sec,.string host,.int .i64 port] 24):=⟨_,rfl⟩;have fa:Fr ay w wb:=by rw[eQ];exact(Fr.refl ay w).alloc _
 have gZ:wb.heap[w.heap.size]?=some (.cells #[.bool sec,.string host,.int .i64 port] 24 (0,0)):=by rw[eQ];exact af _ _
 have c0:wb.cell? ⟨w.heap.size,0,none⟩=some (.bool sec):=by simp[World.cell?,gZ]
 have c1:wb.cell? ⟨w.heap.size,1,none⟩=some (.string host):=by simp[World.cell?,gZ]
 have c2:wb.cell? ⟨w.heap.size,2,none⟩=some (.int .i64 port):=by simp[World.cell?,gZ]
 have wa:=O (show∀m,Calls Tryz.prog 198 #[.int .i64 port] (wb.drewN m) fun e w'=>e=.returned (.string ⟨(Lib.itoa port).toArray⟩)/\Fr ay w w' from fun m =>
  (Tryz.strconv_Itoa port h0 h1 _ ((ht.fr fa).fr ((Fr.refl ay wb).drewN m))).mono fun e w' h=>by
   obtain⟨he,k,os,rfl⟩:=h;exact⟨he,(fa.drewN m).trans (Fr.grow _ k os)⟩)
 have lq:=O eQ;clear eQ gZ;by_cases hp:port=xz sec
 ·have HT:=O (GB sec host port hp);have Ee:(port !=xz sec)=false:=by simpa using hp
  have gS:=O fa;cases sec
  ·clear hp;go_enter Tryz.func131,Tryz.ntmps131;go_wp2;rw[<-lq.out];go_quiet ((go_at_call 197;exact nx (tT false _)));go_wp2;go_ret;exact⟨by rw[HT.out];rfl,gS.out.drewN _⟩
  ·clear hp;go_enter Tryz.func131,Tryz.ntmps131;go_wp2;rw[<-lq.out];go_quiet ((go_at_call 197;exact nx (tT true _)));go_wp2;go_ret;exact⟨by rw[HT.out];rfl,gS.out.drewN _⟩
 ·have HT:=O (Lk sec host port hp);have Ee:(port !=xz sec)=true:=by simpa using hp
  have gS:=O fa;cases sec
  ·clear hp;go_enter Tryz.func131,Tryz.ntmps131;go_wp2;rw[<-lq.out];go_quiet ((go_at_call 197;exact nx (tT false _)));go_wp2_with fail
   refine(wa.out _).mono ?_;rintro e u⟨rfl,qJ⟩;go_wp2;go_ret;exact⟨by rw[HT.out];rfl,qJ⟩
  ·clear hp;go_enter Tryz.func131,Tryz.ntmps131;go_wp2;rw[<-lq.out];go_quiet ((go_at_call 197;exact nx (tT true _)));go_wp2_with fail
   refine(wa.out _).mono ?_;rintro e u⟨rfl,qJ⟩;go_wp2;go_ret;exact⟨by rw[HT.out];rfl,qJ⟩
theorem sr:(Tryz.prog.info? 49).map (fun i=>(i.zero,i.size,i.bytes))=some (some (.agg bZ),16,216):=by kernel_rfl
theorem su:bZ.all (·.oneCell')=true:=by decide +kernel
def Lm(base:Nat)(w:World)(gs:List (ai aF))(v:Value)(w':World):Prop:=dx base w' v gs/\∀k,v.ownBlock=some k->w.heap.size<=k
def ow(base:Nat)(w:World)(gs:List (ai aF))(e:Ending)(w':World):Prop :=
 ∃v,e=.returned v/\Lm base w gs v w'/\Fr ay w w'
def agA(base:Nat)(w:World)(gs:List (ai aF))(v i:Value)(wr:World):Prop :=
 ∃(k:Nat) (rs:List (ai Value)),k<=gs.length/\i=.int .i64 k/\OwnRows w.heap.size 49 16 wr v (rs.map ai.cells)/\fF (ai.Reads (aS base wr)) rs (gs.take k)/\Fr ay w wr
theorem GF(base:Nat)(w:World)(b:Nat)(gv wv:Value)(gs:List (ai aF))(ws:List (aG aF))(h:ba base w b gv wv gs ws)(M1:gs.length<68719476736) :
  Calls Tryz.prog 61 #[.pointer (some ⟨b,0,none⟩)] w (ow base w gs):=by
 have h0:=h.c0;obtain⟨av,cv,hv⟩:=h.aH.form;subst hv;have pD:=h.lt;have eI:base<=w.heap.size:=by have:=h.low;omega
 go_enter Tryz.func61,Tryz.ntmps61;go_wp2;clear h0;go_loopw[3,11] (agA base w gs) (fun _ i _=>gs.length-(intOf i).toNat)
 case atStart=>exact⟨0,[],Nat.zero_le _,rfl,OwnRows.nil _ _ _ _,.nil,Fr.refl _ _⟩
 case round =>
  obtain⟨k,rs,hk,rfl,a_,Ef,aW⟩:=hrel;by_cases cG:k<gs.length
  ·obtain⟨bk,c,bt,nv,r,bG,hr,hcell⟩:=(h.bd aW).aH.at cG;cases bt;unfold maxLen at nv;obtain⟨x,hx⟩:∃x,x=r.cells:=⟨_,rfl⟩;have gD:x.length=16:=by rw[hx];rfl
   have fR:=fun W=>run_storeCells_new (P:=Tryz.prog) W 49 #[.bool false,.string ⟨#[]⟩,.int .i64 0,.bool false,.string ⟨#[]⟩,.string ⟨#[]⟩,.int .i64 0,.string ⟨#[]⟩,.string ⟨#[]⟩,.string ⟨#[]⟩,.bool false,.string ⟨#[]⟩,.bool false,.slice none 0 0,.int .i64 0,.slice none 0 0] x (by rw[gD];rfl) (by rw[hx];exact bG);rw[<-hx]at hcell;have HX:=O hx
   have AD:(Tryz.prog.info? 49).map (·.size)=some x.toArray.size:=by rw[List.size_toArray,gD];kernel_rfl
   have JF:=O AD;clear hx AD;obtain⟨av,cv,ZH⟩:=a_.form;subst ZH;rw[List.length_map,Ef.len,List.length_take,Nat.min_eq_left hk]at a_ ⊢
   go_wp2_with (first|((with_reducible refine ag ⟨some 14,_,_,_,_,_⟩ ?_);refine wpList_load_mid rfl 49 (.tmp 13) rfl bk (k*16) rfl x _ hcell Tryz.underlying49 rfl (by have h:=JF.out;rw[List.size_toArray]at h;exact h) ?_)|((with_reducible refine ag ⟨some 16,_,_,_,_,_⟩ ?_);refine wpList_load_row rfl 49 (.tmp 5) rfl wr.heap.size rfl _ x.toArray (0,0) _ (af wr _) Tryz.underlying49 rfl JF.out ?_)|fail)
   have dF:Fr ay wr (wr.alloc (.cells x.toArray 49)):=(Fr.refl ay wr).alloc _;have kR:=hr.mono (fun _ _ h=>h.bd dF);have bV:=a_.alloc (.cells x.toArray 49);have OE:=Ef.mono (fun _ _ h=>h.mono (fun _ _ h=>h.bd dF));have py:=aW.trans dF;have eQ:w.heap.size<=wr.heap.size:=aW.size;have cF:=O (ov base r gs[k] _ (by simp;omega) kR);rw[<-HX.out]at cF;clear hr kR dF bG fR hcell a_ Ef aW
   generalize wr.alloc (.cells x.toArray 49)=W2 at *
   refine cF.out.mono ?_;rintro e w3 GG;obtain⟨r3,rfl,oT,ll,dv⟩:=GG;have cz:=bV.fr dv (fun _ _ h=>h);have OG:=OE.mono (fun _ _ h=>h.mono (fun _ _ h=>h.bd dv));have dV:=py.trans dv;clear cF bV OE py dv;obtain⟨y,hy⟩:∃y,y=r3.cells:=⟨_,rfl⟩;have FH:y.length=16:=by rw[hy];rfl
   rw[<-hy]at ll ⊢;have HY:=O hy;clear hy;have ZI:=O cz;clear cz;have Eg:=tD y #[.bool false,.string ⟨#[]⟩,.int .i64 0,.bool false,.string ⟨#[]⟩,.string ⟨#[]⟩,.int .i64 0,.string ⟨#[]⟩,.string ⟨#[]⟩,.string ⟨#[]⟩,.bool false,.string ⟨#[]⟩,.bool false,.slice none 0 0,.int .i64 0,.slice none 0 0] (by rw[FH];rfl);have hbw:w.heap.size<=w3.heap.size:=dV.size;have qW:=OG.len
   rw[List.length_take,Nat.min_eq_left hk]at qW;have HRL:=O qW;have tS:(rs.map ai.cells).length<68719476736:=by rw[List.length_map,qW];omega
   clear qW;go_wp2_with (at_builtin;go_must(refine lR rfl _ _ 42 49 rfl 16 216 (.agg bZ) Tryz.underlying42 sr rfl (by decide) (by decide) w.heap.size (.slice av k cv) (rs.map ai.cells) rfl (ZI.out.alloc _) w3.heap.size 1 y rfl FH ll (fun i u hi=>by rw[World.cell?_alloc_mark];simpa using hi) tS (by simp;omega) ?_);intro v' w4 cZ Ag)
   have M3:=Fr.TU _ Ag;have kb:=ZI.out.off (base:=base) eI (by decide);rw[HY.out]at cZ;refine⟨⟨k+1,rs++[r3],by omega,by go_num,by rw[List.map_append];exact cZ,?_,dV.step M3 (fun j hj hS=>by have h2:=ZI.out.block j hS;omega)⟩,by simp[intOf];omega⟩;rw[bz (List.getElem?_eq_getElem cG)];exact(OG.mono (fun _ _ h=>h.mono (fun _ _ h=>h.fr M3 kb))).app (.cons (oT.mono (fun _ _ h=>h.fr M3 kb)) .nil)
  ·rw[List.take_of_length_le (by omega)]at Ef;obtain⟨av,cv,ZH⟩:=a_.form;subst ZH;go_wp2;go_ret;exact⟨_,rfl,⟨⟨rs,a_.up eI,Ef⟩,a_.block⟩,aW⟩
theorem Eh{α:Type}(f:α->Int):∀(l:List α) (i:Nat) (acc:Int×Int),(∃k,k<l.length/\(iR f l i acc).2=((i+k:Nat):Int))\/(iR f l i acc).2=acc.2
 |[],_,_=>Or.inr rfl
 |g :: l,i,acc=>by
  rw[iR];rcases Eh f l (i+1) (if 0<=f g/\acc.1<=f g then(f g,(i:Int))else acc)with ⟨k,hk,h⟩|h
  ·exact Or.inl ⟨k+1,by simp;omega,by rw[h];congr 1;omega⟩
  ·rw[h];by_cases hc:0<=f g/\acc.1<=f g
   ·rw[if_pos hc];exact Or.inl ⟨0,by simp,by simp⟩
   ·rw[if_neg hc];exact Or.inr rfl
theorem OH(gs:List (ai aF))(o:cO)(proxy:Bool)(path:ByteArray):(∃k,k<gs.length/\lj gs o proxy path=(k:Int))\/lj gs o proxy path= -1:=by
 rcases Eh (eE o proxy path) gs 0 (-1, -1)with ⟨k,hk,h⟩|h
 ·exact Or.inl ⟨k,hk,by unfold lj;rw[h,Nat.zero_add]⟩
 ·exact Or.inr h
def nJ(base:Nat)(w:World)(m:Option (ai aF))(e:Ending)(w':World):Prop :=
 Fr ay w w'/\match m with
 |none=>e=.returned (.tuple #[.agg bZ,.bool false])
 |some g=>∃r:ai Value,e=.returned (.tuple #[.agg r.cells.toArray,.bool true])/\r.Reads (aS base w') g/\∀u∈r.cells,u.oneCell'=true
theorem PM(w:World)(hs:kZ w):ni 3 w:=by
 intro v ss W hW hv hn hlen;have hT:=O (hs.fr hW);clear hs;have HJ:=O (D1 v ss W hv hn hlen);clear hv;have hz:(⟨(fB ss).toArray⟩:ByteArray).size<4398046511104:=by show(fB ss).toArray.size<_;simp;omega
 have HB:=O (show fi (decide ((3:Int)=3)) ss=⟨(D0 (fB ss)).toArray⟩from rfl);generalize fB ss=tx at *
 clear hW;go_enter Tryz.func101,Tryz.ntmps101;go_wp2_with fail
 refine HJ.out.mono ?_;rintro e u1⟨rfl,bt⟩;go_wp2_with fail
 refine(Ha ⟨tx.toArray⟩ u1 hz (hT.out.fr bt)).mono ?_;rintro e u2⟨rfl,bq⟩;go_wp2;go_ret;exact⟨(congrArg (fun b=>Ending.returned (.string b)) HB.out).symm,bt.trans bq⟩
theorem PN(cH:Int)(w:World)(ht:kX w)(hs:kZ w):ni cH w:=by
 by_cases h:cH=3
 ·subst h;exact PM w hs
 ·exact Ul cH h w ht
theorem Qp(name value:ByteArray)(w:World)(hn:name.size<=140737488351232)(hv:value.size<=140737488351232) :
  Calls Tryz.prog 169 #[.agg #[.string name,.string value]] w fun e w'=>e=.returned (.bool (decide ((300:Int)<(name.size:Int)+(value.size:Int))))/\Fr ay w w':=by
 have fa:Fr ay w (w.alloc (.cells #[.string name,.string value] 126)):=(Fr.refl ay w).alloc _;go_enter Tryz.func169,Tryz.ntmps169;go_wp2;go_ret;exact⟨rfl,fa⟩
structure bI where
 aI:cO
 o:cO
 path:ByteArray
 query:ByteArray
 bP:Bool
 method:ByteArray
 head:ByteArray
 kB:Int
def bI.cells(p:bI):List Value:=[.bool p.aI.ae,.string p.aI.host,.int .i64 p.aI.port,.bool p.o.ae,.string p.o.host,.int .i64 p.o.port,.string p.path,.string p.query,.bool p.bP,.string p.method,.string p.head,.int .i64 p.kB]
def bI.eN(p q:bI):Bool:=p.aI.eN q.aI&&(p.o.eN q.o&&(p.path.toList==q.path.toList&&(p.query.toList==q.query.toList&&(p.bP==q.bP&&(p.method.toList==q.method.toList&&(p.head.toList==q.head.toList&&p.kB==q.kB))))))
theorem bI.sW(p q:bI):p.eN q=true↔p=q:=by
 obtain⟨a,d,g,i,j,k,l,m⟩:=p;obtain⟨a',d',g',i',j',k',l',m'⟩:=q;simp only[bI.eN,Bool.and_eq_true,beq_iff_eq,bI.mk.injEq,toList_inj,cO.sW]
def star:List UInt8:=[42]
def WC:List UInt8:=[97,117,116,104,111,114,105,122,97,116,105,111,110]
def bI.lets(m:ByteArray)(bP:Bool)(p:bI):Bool:=p.method.toList==m.toList||(p.method.toList==star&&!bP)
def bI.iq(h:ByteArray)(bP:Bool)(p:bI):Bool:=p.head.toList==h.toList||(p.head.toList==star&&(!bP&&h.toList !=WC))
def TL(m:ByteArray)(bP:Bool)(cU:List ByteArray)(ps:List bI):Bool :=
 (lp m||ps.any (bI.lets m bP))&&cU.all fun h=>ps.any (bI.iq h bP)
structure lu where
 aI:cO
 o:cO
 path:ByteArray
 query:ByteArray
 method:ByteArray
 cU:List dW
 bP:Bool
def lu.iA(r:lu)(ps:List bI):Bool:=TL (eD r.method) r.bP (rQ r.cU) ps
def lu.needs(r:lu):Bool:=!r.aI.eN r.o&&!r.iA []
def bI.like(p q:bI):Bool:=({p with kB:=q.kB}:bI).eN q
def bI.alive(now:Int)(p:bI):Bool:=decide (now<p.kB)
def zt(b:List bI)(p:bI):List bI:=(b.filter fun q=>!p.like q)++[p]
def ob(b l:List bI)(now:Int):List bI :=
 let c:=(l.foldl zt b).filter (bI.alive now)
 c.drop (c.length-32)
def lu.NP(r:lu)(now:Int)(p:bI):Bool:=p.alive now&&(p.aI.eN r.aI&&((p.o.eN r.o&&(p.path.toList==r.path.toList&&p.query.toList==r.query.toList))&&(p.bP||!r.bP)))
def dY(b:List bI)(r:lu)(now:Int):List bI:=b.filter (r.NP now)
def hZ(b:List bI)(r:lu)(now:Int):Bool:=!r.needs||r.iA (dY b r now)
theorem DF(b l:List bI)(now:Int):(ob b l now).length<=32:=by
 unfold ob;simp only[List.length_drop];omega
theorem NQ(b:List bI)(p:bI):(zt b p).length<=b.length+1:=by
 unfold zt;have:=List.length_filter_le (fun q=>!p.like q) b;simp;omega
theorem DG:∀(l:List bI) (b:List bI),(l.foldl zt b).length<=b.length+l.length
 |[],b=>by simp
 |p :: l,b=>by
  have h1:=DG l (zt b p);have h2:=NQ b p;simp only[List.foldl_cons,List.length_cons];omega
def I_:Bs:=[117,115,101,114,110,97,109,101]
def TS:Bs:=[117,114,105]
def I':Bs:=[114,101,115,112,111,110,115,101]
def nNc:Bs:=[110,99]
def xd:Bs:=[99,110,111,110,99,101]
def TT:Bs:=[68,105,103,101,115,116]
def kd(scheme:Int)(aL:Bool):Bs:=(if scheme=3 then BB else rM)++(if aL then sZ else [])
structure cE where
 scheme:Int
 ar:Bs
 aE:Bs
 aK:Bs
 aL:Bool
 bU:Bs
 user:Bs
 uri:Bs
 KC:Bs
 aB:Bs
 count:Bs
def qP(n v:Bs):ew×Bs:=((n,v),cL v)
def pP(n v:Bs):ew×Bs:=((n,v),v)
def cE.head(d:cE):List (ew×Bs):=[qP I_ d.user,qP pH d.ar,qP pI d.aE,qP TS d.uri,qP I' d.KC,pP sY (kd d.scheme d.aL)]
def cE.two(d:cE):List (ew×Bs):=if d.bU.isEmpty then []else [pP Dt d.bU,pP nNc d.count]
def cE.cn(d:cE):List (ew×Bs):=if !d.bU.isEmpty||d.aL then [qP xd d.aB]else []
def cE.op(d:cE):List (ew×Bs):=if d.aK.isEmpty then []else [qP gP d.aK]
def cE.tB(d:cE):List (ew×Bs):=d.head++(d.two++(d.cn++d.op))
def cE.fair(d:cE):Bool:=jk d.user&&(jk d.ar&&(jk d.aE&&(jk d.uri&&(jk d.KC&&((!(!d.bU.isEmpty||d.aL)||jk d.aB)&&(d.aK.isEmpty||jk d.aK))))))
def cE.text(d:cE):Bs:=TT++32 :: rp d.tB
end Go.Proofs.YtjdmjbdkdmbaiaaGreatDoor
