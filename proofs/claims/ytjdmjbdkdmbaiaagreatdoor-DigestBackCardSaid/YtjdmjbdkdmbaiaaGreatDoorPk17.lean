/- Sha2, KnownPure. -/
import Derived.Test.YtjdmjbdkdmbaiaaGreatDoorPk14
import Derived.Great.BuildSlice
set_option maxRecDepth 100000
set_option maxHeartbeats 16000000
set_option linter.unusedSimpArgs false
namespace Go.Proofs.YtjdmjbdkdmbaiaaGreatDoor
open Go.RowKit
theorem k_.cell{w:World}{g:Nat}{l:List Int}(h:k_ w g l){j:Nat}(hj:j<l.length):w.cell? ⟨g,j,none⟩=some (.int .u32 (l.getD j 0)):=by
 unfold k_ at h;simp only[World.cell?,h];simp[List.getElem?_append_left,hj,List.getD_eq_getElem?_getD]
theorem k_.zero{w:World}{g:Nat}{l:List Int}(h:k_ w g l)(hj:l.length<64):w.cell? ⟨g,l.length,none⟩=some (.int .u32 0):=by
 unfold k_ at h;have e:((l++List.replicate (64-l.length) 0).map (Value.int IntKind.u32))[l.length]?=some (Value.int IntKind.u32 0):=by
  rw[List.getElem?_map,List.getElem?_append_right (Nat.le_refl _),Nat.sub_self,List.getElem?_replicate];rw[if_pos (by omega)];rfl
 simp only[World.cell?,h];simpa using e
theorem k_.free{w:World}{g:Nat}{l:List Int}(h:k_ w g l)(j:Nat):w.frozen? ⟨g,j,none⟩=false:=by
 unfold k_ at h;simp[World.frozen?,h]
theorem k_.set{w:World}{g:Nat}{l:List Int}(h:k_ w g l)(hj:l.length<64)(x:Int):k_ (w.setCell ⟨g,l.length,none⟩ (.int .u32 x)) g (l++[x]):=by
 unfold k_ at h ⊢;rw[nH h]
 congr 2
 have e:List.replicate (64-l.length) (0:Int)=0 :: List.replicate (64-(l++[x]).length) 0:=by
  rw[List.length_append,show 64-l.length=(64-(l.length+[x].length))+1 from by simp;omega,List.replicate_succ]
 rw[e];simp
theorem ahz(a b c d:Int):IntKind.u32.wrap (IntKind.u32.wrap (IntKind.u32.wrap (a+b)+c)+d)=(a+b+c+d)%4294967296:=by
 have e:∀x:Int,IntKind.u32.wrap x=x%4294967296:=fun x=>by simp[IntKind.wrap,IntKind.signed,IntKind.bits]
 rw[e,e,e];omega
theorem yP(x:Int):IntKind.u32.wrap x=x%4294967296:=by simp[IntKind.wrap,IntKind.signed,IntKind.bits]
theorem ahA(a b c d e:Int):IntKind.u32.wrap (IntKind.u32.wrap (IntKind.u32.wrap (IntKind.u32.wrap (a+b)+c)+d)+e)=(a+b+c+d+e)%4294967296:=by
 rw[yP,yP,yP,yP];omega
theorem aao(a0 a1 a2 a3 a4 a5 a6 a7:Int):Tryz.prog.built 254 [(0,.int .u32 a0),(1,.int .u32 a1),(2,.int .u32 a2),(3,.int .u32 a3),(4,.int .u32 a4),(5,.int .u32 a5),(6,.int .u32 a6),(7,.int .u32 a7)]=some #[.int .u32 a0,.int .u32 a1,.int .u32 a2,.int .u32 a3,.int .u32 a4,.int .u32 a5,.int .u32 a6,.int .u32 a7]:=by kernel_rfl
theorem zI{ops:Array Oper}{rest:List Oper}{o:Oper}{a:Act}{w:World}{Q:Exit->Act->World->Prop}(hg:o.guard=none)(x0 x1 x2 x3 x4 x5 x6 x7:Operand)
  (ho:o.op=.build 254 #[(0,x0),(1,x1),(2,x2),(3,x3),(4,x4),(5,x5),(6,x6),(7,x7)])(d:Option Tmp)(hd:o.dst=d)(v0 v1 v2 v3 v4 v5 v6 v7:Int)
  (h0:a.eval x0=.int .u32 v0)(h1:a.eval x1=.int .u32 v1)(h2:a.eval x2=.int .u32 v2)(h3:a.eval x3=.int .u32 v3)(h4:a.eval x4=.int .u32 v4)(h5:a.eval x5=.int .u32 v5)(h6:a.eval x6=.int .u32 v6)(h7:a.eval x7=.int .u32 v7)
  (h:wpList Tryz.prog ops Q rest (a.put d (.agg #[.int .u32 v0,.int .u32 v1,.int .u32 v2,.int .u32 v3,.int .u32 v4,.int .u32 v5,.int .u32 v6,.int .u32 v7])) w):wpList Tryz.prog ops Q (o :: rest) a w:=by
 refine wpList_buildTo hg 254 _ ho d hd _ ?_ h;simp only[List.map_toArray,List.map_cons,List.map_nil,h0,h1,h2,h3,h4,h5,h6,h7];exact aao _ _ _ _ _ _ _ _
theorem qo{w:World}{g k:Nat}(h:k≠g)(cs:Array Value):(w.setRow g cs).heap[k]?=w.heap[k]?:=by
 simp[World.setRow,Array.getElem?_modify,Ne.symm h]
theorem PL{a w:World}(h:Fr ay a w){g:Nat}(hg:a.heap.size<=g)(cs:Array Value):Fr ay a (w.setRow g cs) :=
 ⟨h.os,h.tape,h.output,by show a.heap.size<=(w.setRow g cs).heap.size;rw[World.setRow];simp only[Array.size_modify];exact h.size,fun k hk hn=>(qo (by omega) cs).trans (h.block k hk hn)⟩
theorem aap(v0 v1 v2 v3 v4 v5 v6 v7:Int):(#[.int .u32 v0,.int .u32 v1,.int .u32 v2,.int .u32 v3,.int .u32 v4,.int .u32 v5,.int .u32 v6,.int .u32 v7]:Array Value).all (·.oneCell')=true:=by simp[Value.oneCell']
def oI(w:World)(g:Nat)(l:List Int):Prop:=w.heap[g]?=some (.cells (l.map (Value.int .u32)).toArray 254 (0,0))
theorem oI.cell{w:World}{g:Nat}{l:List Int}(h:oI w g l){j:Nat}(hj:j<l.length):w.cell? ⟨g,j,none⟩=some (.int .u32 (l.getD j 0)):=by
 unfold oI at h;simp only[World.cell?,h];simp[hj,List.getD_eq_getElem?_getD]
theorem oI.free{w:World}{g:Nat}{l:List Int}(h:oI w g l)(j:Nat):w.frozen? ⟨g,j,none⟩=false:=by
 unfold oI at h;simp[World.frozen?,h]
theorem oI.set{w:World}{g:Nat}{l:List Int}(h:oI w g l)(j:Nat)(x:Int):oI (w.setCell ⟨g,j,none⟩ (.int .u32 x)) g (l.set j x):=by
 unfold oI at h ⊢;rw[nH h];simp[List.map_set]
def Cn(a b:List Int):Nat->List Int
 |0=>a
 |k+1=>(Cn a b k).set k ((a.getD k 0+b.getD k 0)%4294967296)
theorem EP(a b:List Int):∀k,(Cn a b k).length=a.length
 |0=>rfl
 |k+1=>by rw[Cn,List.length_set,EP a b k]
theorem ER(a b:List Int):∀k j,k<=j->(Cn a b k).getD j 0=a.getD j 0
 |0,_,_=>rfl
 |k+1,j,h=>by
  rw[Cn,List.getD_eq_getElem?_getD,List.getElem?_set,if_neg (by omega), <-List.getD_eq_getElem?_getD,ER a b k j (by omega)]
theorem Vg(T:List UInt8):∀k,∀x∈(uX T k).list,0<=x/\x<4294967296
 |0=>by
  intro x hx;simp only[uX,Sh.list,sh0,List.mem_cons,List.not_mem_nil,or_false]at hx;rcases hx with rfl|rfl|rfl|rfl|rfl|rfl|rfl|rfl<;>decide
 |k+1=>by
  intro x hx;simp only[uX,tN,Jr,Sh.list,List.mem_cons,List.not_mem_nil,or_false]at hx;rcases hx with rfl|rfl|rfl|rfl|rfl|rfl|rfl|rfl<;>exact uW _
def aoL(H V:Sh)(g g1:Nat)(w:World)(i:Value)(wr:World):Prop :=
 ∃k:Nat,k<=8/\i=.int .i64 k/\oI wr g (Cn H.list V.list k)/\oI wr g1 V.list/\Fr ay w wr
def aoM(tr:Nat->Sh)(ws:List Int)(H:Sh)(g g1 gw:Nat)(w:World)(i:Value)(wr:World):Prop :=
 ∃k:Nat,k<=64/\i=.int .i64 k/\pj wr g (tr k)/\pj wr g1 H/\k_ wr gw ws/\Fr ay w wr
theorem pj.cells{w:World}{g:Nat}{h:Sh}(hm:pj w g h):w.cell? ⟨g,0,none⟩=some (.int .u32 h.v0)/\w.cell? ⟨g,1,none⟩=some (.int .u32 h.v1)/\w.cell? ⟨g,2,none⟩=some (.int .u32 h.v2)/\w.cell? ⟨g,3,none⟩=some (.int .u32 h.v3) /\
  w.cell? ⟨g,4,none⟩=some (.int .u32 h.v4)/\w.cell? ⟨g,5,none⟩=some (.int .u32 h.v5)/\w.cell? ⟨g,6,none⟩=some (.int .u32 h.v6)/\w.cell? ⟨g,7,none⟩=some (.int .u32 h.v7):=by
 unfold pj at hm;simp[World.cell?,hm]
def ahB(X:List UInt8)(g:Nat)(w:World)(i:Value)(wr:World):Prop:=∃k:Nat,k<=64/\i=.int .i64 k/\k_ wr g (SU X k)/\Fr ay w wr
set_option pp.deepTerms true in
set_option pp.maxSteps 1000000 in
theorem Ha(s:ByteArray)(w:World)(hs:s.size<4398046511104)(ht:kZ w) :
  Calls Tryz.prog 163 #[.string s] w fun e w'=>e=.returned (.string ⟨(D0 s.data.toList).toArray⟩)/\Fr ay w w':=by
 have c0:=ht.b.2 0 _ rfl;have c1:=ht.b.2 1 _ rfl;have c2:=ht.b.2 2 _ rfl;have c3:=ht.b.2 3 _ rfl;have c4:=ht.b.2 4 _ rfl;have c5:=ht.b.2 5 _ rfl;have c6:=ht.b.2 6 _ rfl;have c7:=ht.b.2 7 _ rfl
 have dF:Fr ay w (w.alloc (.cells #[.int .u32 1779033703,.int .u32 3144134277,.int .u32 1013904242,.int .u32 2773480762,.int .u32 1359893119,.int .u32 2600822924,.int .u32 528734635,.int .u32 1541459225] 254)):=(Fr.refl ay w).alloc _
 have NJ:pj (w.alloc (.cells #[.int .u32 1779033703,.int .u32 3144134277,.int .u32 1013904242,.int .u32 2773480762,.int .u32 1359893119,.int .u32 2600822924,.int .u32 528734635,.int .u32 1541459225] 254)) w.heap.size sh0:=af _ _;have HM0:=O NJ;clear NJ;go_enter Tryz.func163,Tryz.ntmps163;go_wp2_with fail
 clear c0 c1 c2 c3 c4 c5 c6 c7;refine(Jm s false _ (by omega)).mono ?_;rintro e w1⟨rfl,bt⟩;obtain⟨T,hT⟩:∃T,T=(⟨(pd false s.data.toList).toArray⟩:ByteArray):=⟨_,rfl⟩;rw[<-hT];have Zh:T.data.toList=pd false s.data.toList:=by rw[hT]
 have Zi:T.size=(pd false s.data.toList).length:=by rw[<-Zh];simp
 obtain⟨Zj,N7⟩:=DY false s.data.toList;rw[<-Zi]at Zj N7;have Gn:s.data.toList.length=s.size:=by simp
 rw[Gn]at N7;have se:=O (show D0 s.data.toList=jO false (uX T.data.toList (T.size/64)).list by unfold D0;rw[Zh,Zi]);have HM1:=O (show pj w1 w.heap.size sh0 from bt.keep HM0.out (fun h=>h));have gV:=O (dF.trans bt);clear hT Zh Zi HM0 dF bt Gn;go_wp2;go_loopw[4] (af_ T w.heap.size w) (fun t _=>match t with| .string x=>x.size|_=>0)
 case atStart=>exact⟨0,by omega,by rw[Nat.mul_zero];congr 1;apply Go.WideShapes.bytes_inj;rw[fg];rfl,HM1.out,gV.out⟩
 case round =>
  obtain⟨n,hn,rfl,hm,aW⟩:=hrel;generalize wr=wo at *
  by_cases hne:64*n<T.size
  ·have Zk:64<=(T.extract (64*n) T.size).size:=by rw[eA];omega
   have ans:(T.extract (64*n) T.size).size<17592186044416:=by rw[eA];omega
   have kT:=O (Jo T (64*n) 64);have hXl:=O (fg T (64*n));generalize T.extract (64*n) T.size=X at *
   have HM:=O hm;have o7:=O (show uX T.data.toList (n+1)=tN X.data.toList (uX T.data.toList n)by rw[hXl.out];rfl);generalize uX T.data.toList n=H at *
   clear hm;have hx:X.toList.isEmpty=false:=by
    rw[ByteArray.toList_eq];cases hq:X.data.toList with
    |nil=>rw[dw.1 hq]at Zk;omega
    |cons a l=>rfl
   have hx':¬X.toList=[]:=by rw[ByteArray.toList_eq];intro h;rw[dw.1 h]at Zk;omega
   go_wp2;go_loopw[23] (ahB X.data.toList wo.heap.size wo) (fun i _=>64-(intOf i).toNat)
   case atStart=>exact⟨0,by omega,rfl,by unfold k_;rw[af];kernel_rfl,(Fr.refl _ _).alloc _⟩
   case round =>
    obtain⟨k,hk,rfl,sF,fe⟩:=hrel;have hlen:=O (Jq X.data.toList k);have rO:=O (show SU X.data.toList (k+1)=Av X.data.toList (SU X.data.toList k) k from rfl);have H64:=O (show k=64->SU X.data.toList k=SU X.data.toList 64 from fun h=>by rw[h]);generalize SU X.data.toList k=l at *
    by_cases MU:k<64
    ·have lf:(k:Int)<64:=by omega
     have hz:=sF.zero (by rw[hlen.out];exact MU);have hf:=sF.free k;rw[hlen.out]at hz;have ln:=O (sF.set (by rw[hlen.out];exact MU) (Au X.data.toList l k));by_cases pg:k<16
     ·have ahC:(k:Int)<16:=by omega
      obtain⟨wv,zx⟩:∃wv,wv=lh false (X.extract (4*k) X.size).data.toList:=⟨_,rfl⟩;have mQ:=O (fun W=>pV (X.extract (4*k) X.size) false W (by rw[eA];omega) (by rw[eA];omega));rw[<-zx]at mQ;have HN:=O (show Au X.data.toList l k=wv by unfold Au;rw[if_pos pg,zx,fg]);clear zx;have q2:4*(k:Int)<=(X.size:Int):=by omega
      go_wp2_with fail
      refine(mQ.out _).mono ?_;rintro e w5⟨rfl,nq,rfl⟩;have Ay:=O (show k_ (wr.drewN nq) wo.heap.size l from sF);have hz5:(wr.drewN nq).cell? ⟨wo.heap.size,k,none⟩=some (.int .u32 0):=hz;have gH:(wr.drewN nq).frozen? ⟨wo.heap.size,k,none⟩=false:=hf;have ahD:=O (show k_ ((wr.drewN nq).setCell ⟨wo.heap.size,k,none⟩ (.int .u32 wv)) wo.heap.size (Av X.data.toList l k)from by
       have h:=sF.set (by rw[hlen.out];exact MU) wv;rw[hlen.out]at h;unfold Av;rw[HN.out];exact h)
      have sD:=fe.drewN nq;clear hz hf;generalize wr.drewN nq=wd at *
      go_wp2;go_roundw
      case rel=>exact⟨k+1,by omega,by go_num,by rw[rO.out];exact ahD.out,sD.dI (p:=⟨wo.heap.size,k,none⟩) (Nat.le_refl _) _⟩
      case measure=>simp[intOf];omega
     ·have ahC:¬(k:Int)<16:=by omega
      obtain⟨Te,e16⟩:∃j:Nat,(k:Int)-16=(j:Int):=⟨k-16,by omega⟩;obtain⟨j15,e15⟩:∃j:Nat,(k:Int)-15=(j:Int):=⟨k-15,by omega⟩;obtain⟨j7,e7⟩:∃j:Nat,(k:Int)-7=(j:Int):=⟨k-7,by omega⟩;obtain⟨j2,e2⟩:∃j:Nat,(k:Int)-2=(j:Int):=⟨k-2,by omega⟩;have x16:=sF.cell (j:=Te) (by rw[hlen.out];omega);have x15:=sF.cell (j:=j15) (by rw[hlen.out];omega);have x7:=sF.cell (j:=j7) (by rw[hlen.out];omega)
      have x2:=sF.cell (j:=j2) (by rw[hlen.out];omega);have HN:=O (show Au X.data.toList l k=(l.getD Te 0+l.getD j7 0+Zo (l.getD j15 0)+Zp (l.getD j2 0))%4294967296 by
       unfold Au;rw[if_neg pg,show k-16=Te by omega,show k-15=j15 by omega,show k-7=j7 by omega,show k-2=j2 by omega])
      generalize l.getD Te 0=v16 at *
      generalize l.getD j15 0=v15 at *
      generalize l.getD j7 0=v7 at *
      generalize l.getD j2 0=v2 at *
      have w16:IntKind.i64.wrap ((k:Int)-16)=(Te:Int):=by rw[<-e16];exact IntWalk.i64_in _ (by omega)
      have w15:IntKind.i64.wrap ((k:Int)-15)=(j15:Int):=by rw[<-e15];exact IntWalk.i64_in _ (by omega)
      have w7:IntKind.i64.wrap ((k:Int)-7)=(j7:Int):=by rw[<-e7];exact IntWalk.i64_in _ (by omega)
      have w2:IntKind.i64.wrap ((k:Int)-2)=(j2:Int):=by rw[<-e2];exact IntWalk.i64_in _ (by omega)
      have b16:(Te:Int)<64:=by omega
      have b15:(j15:Int)<64:=by omega
      have b7:(j7:Int)<64:=by omega
      have b2:(j2:Int)<64:=by omega
      have n16:Te<64:=by omega
      have n15:j15<64:=by omega
      have n7:j7<64:=by omega
      have n2:j2<64:=by omega
      go_wp2;go_quiet (fail);have X16:(wr.drewN nq).cell? ⟨wo.heap.size,Te,none⟩=some (.int .u32 v16):=x16;have X7:(wr.drewN nq).cell? ⟨wo.heap.size,j7,none⟩=some (.int .u32 v7):=x7;have hz5:(wr.drewN nq).cell? ⟨wo.heap.size,k,none⟩=some (.int .u32 0):=hz;have gH:(wr.drewN nq).frozen? ⟨wo.heap.size,k,none⟩=false:=hf;have Ay:=O (show k_ (wr.drewN nq) wo.heap.size l from sF);have sD:=fe.drewN nq
      clear x16 x7 hz hf sF ln fe;generalize wr.drewN nq=wd at *
      go_wp2_with fail
      have y16:IntKind.i64.wrap (Te:Int)=(Te:Int):=IntWalk.i64_in _ (by omega);have y7:IntKind.i64.wrap (j7:Int)=(j7:Int):=IntWalk.i64_in _ (by omega);clear w16 w15 w7 w2;refine wp_region_still_tail 29 (by kernel_rfl) (by kernel_rfl) ?_;simp only[List.take_succ_cons,List.take_zero,List.drop_succ_cons,List.drop_zero]
      iterate 11 still_step
      still_call (anu v15 _)
      iterate 1 still_step
      still_call (af2 v15 _)
      iterate 6 still_step
      still_call (af3 v2 _)
      iterate 1 still_step
      still_call (af4 v2 _)
      iterate 6 still_step
      refine wpStill_nil ?_;change wpList _ _ _ _ _ wd.drew;have HS:=O (show∀x,k_ (wd.drew.setCell ⟨wo.heap.size,k,none⟩ (.int .u32 x)) wo.heap.size (l++[x])from fun x=>by
       have h:=(show k_ wd.drew wo.heap.size l from Ay.out).set (by rw[hlen.out];exact MU) x;rw[hlen.out]at h;exact h)
      have hz6:wd.drew.cell? ⟨wo.heap.size,k,none⟩=some (.int .u32 0):=hz5;have jz:wd.drew.frozen? ⟨wo.heap.size,k,none⟩=false:=gH;have Vh:Fr ay wo wd.drew:=sD.drew;clear hz5 gH X16 X7 y16 y7 e16 e15 e7 e2;generalize wd.drew=we at *
      go_wp2_with fail
      go_wp2;go_roundw
      case rel=>exact⟨k+1,by omega,by go_num,by rw[rO.out];unfold Av;rw[HN.out];unfold Zo Zp DZ;rw[<-ahz];exact HS.out _,Vh.dI (p:=⟨wo.heap.size,k,none⟩) (Nat.le_refl _) _⟩
      case measure=>simp[intOf];omega
    ·have hk5:k=64:=by omega
     rw[show((k:Nat):Int)=64 from by omega];subst hk5;have HWS:=O (H64.out rfl);have HW:=O sF;clear H64;have hm3:pj wr w.heap.size H:=fe.keep HM.out (fun h=>h);obtain⟨c0,c1,c2,c3,c4,c5,c6,c7⟩:=hm3.cells;have SQ:=O hm3;obtain⟨gv,hgv⟩:∃gv,gv=wr.heap.size:=⟨_,rfl⟩;have awV:w.heap.size<gv:=by rw[hgv];exact aj hm3
     have awW:wo.heap.size<gv:=by rw[hgv];exact aj sF
     have awX:w.heap.size<wo.heap.size:=aj HM.out;clear hm3 sF;obtain⟨tr,htr⟩:∃tr,tr=tM l H:=⟨_,rfl⟩;have zV:=O (show∀k,tr (k+1)=N_ (tr k) (shP l k (tr k)) (shQ (tr k))from fun k=>by rw[htr];rfl);have LS:=O (show tr 0=H by rw[htr];rfl);have HSB:=O (show tN X.data.toList H=Jr H (tr 64)by unfold tN;rw[htr,HWS.out]);clear htr;go_wp2;clear c0 c1 c2 c3 c4 c5 c6 c7
     have Al:Fr ay wr (wr.alloc (.cells #[.int .u32 H.v0,.int .u32 H.v1,.int .u32 H.v2,.int .u32 H.v3,.int .u32 H.v4,.int .u32 H.v5,.int .u32 H.v6,.int .u32 H.v7] 254)):=(Fr.refl ay wr).alloc _;have B4:=aW.trans (fe.trans Al);rw[<-hgv];have HG:=O hgv;clear hgv;go_loopw[74] (aoM tr l H gv w.heap.size wo.heap.size w) (fun i _=>64-(intOf i).toNat)
     case atStart=>exact⟨0,by omega,rfl,by rw[LS.out,HG.out];exact af _ _,Al.keep SQ.out (fun h=>h),Al.keep HW.out (fun h=>h),B4⟩
     case round =>
      clear Al B4 SQ HW fe;obtain⟨k,hk,rfl,hv,hh,hww,kY⟩:=hrel;generalize wr=wi at *
      by_cases MU:k<64
      ·have lf:(k:Int)<64:=by omega
       obtain⟨z,hz⟩:∃z,yc[k]?=some z:=⟨_,List.getElem?_eq_getElem (by show k<64;omega)⟩;have Xu:wi.cell? ⟨2,k,none⟩=some (.int .u32 z):=(ht.fr kY).r.2 k z hz;have T8:=O (show yc.getD k 0=z by rw[List.getD_eq_getElem?_getD,hz];rfl);clear hz;have hwk:=hww.cell (j:=k) (by rw[hlen.out];exact MU);obtain⟨x,hx⟩:∃x,x=l.getD k 0:=⟨_,rfl⟩;rw[<-hx]at hwk;have LU:=O (zV.out k);generalize tr k=V at *
       have HP:=O (show shP l k V=(V.v7+DZ (gJ V.v4 26) (gJ V.v4 21) (gJ V.v4 7)+bits .xor .u32 (bits .and .u32 V.v4 V.v5) (bits .and .u32 (Gl V.v4) V.v6)+z+x)%4294967296 by unfold shP;rw[T8.out,hx]);obtain⟨c0,c1,c2,c3,c4,c5,c6,c7⟩:=hv.cells;have HV:=O hv;have HH:=O hh;have rf:=O hww;clear hv hh hww hx;go_wp2;go_quiet (fail);go_wp2_with fail
       have HV2:=O (show pj (wi.drewN nq) gv V from HV.out);have HH2:=O (show pj (wi.drewN nq) w.heap.size H from HH.out);have ahE:=O (show k_ (wi.drewN nq) wo.heap.size l from rf.out);have aas:(wi.drewN nq).cell? ⟨2,k,none⟩=some (.int .u32 z):=Xu;have aoS:(wi.drewN nq).cell? ⟨wo.heap.size,k,none⟩=some (.int .u32 x):=hwk;have jD:=kY.drewN nq;clear HV HH rf Xu hwk kY c0 c1 c2 c3 c4 c5 c6 c7
       generalize wi.drewN nq=wd at *
       obtain⟨c0,c1,c2,c3,c4,c5,c6,c7⟩:=HV2.out.cells;refine wp_region_still_tail 30 (by kernel_rfl) (by kernel_rfl) ?_;simp only[List.take_succ_cons,List.take_zero,List.drop_succ_cons,List.drop_zero]
       iterate 3 still_step
       still_call (anv V.v4 _)
       iterate 1 still_step
       still_call (af5 V.v4 _)
       iterate 2 still_step
       still_call (af6 V.v4 _)
       iterate 21 still_step
       refine wpStill_nil ?_;rw[show(if IntKind.u32.signed=true then(-1:Int)else IntKind.u32.max)=IntKind.u32.max from rfl];rw[show bits .xor .u32 IntKind.u32.max V.v4=Gl V.v4 from rfl];generalize hy0:Gl V.v4=y0;generalize hy2:bits .xor .u32 (bits .and .u32 V.v4 V.v5) (bits .and .u32 y0 V.v6)=y2;generalize bits .and .u32 y0 V.v6=y3
       generalize ze:bits .xor .u32 (bits .xor .u32 (gJ V.v4 26) (gJ V.v4 21)) (gJ V.v4 7)=y1;generalize zo:IntKind.u32.wrap (V.v7+y1)=s1;generalize Kp:IntKind.u32.wrap (s1+y2)=s2;generalize Nv:IntKind.u32.wrap (s2+z)=s3;generalize WY:IntKind.u32.wrap (s3+x)=p;have HP2:=O (show shP l k V=p by rw[HP.out, <-WY, <-Nv, <-Kp, <-zo, <-ze, <-hy2, <-hy0,ahA];rfl);clear WY Nv Kp zo ze hy2 hy0 HP aas aoS
       change wpList _ _ _ _ _ wd.drew;have HV3:=O (show pj (wd.drew) gv V from HV2.out);have HH3:=O (show pj (wd.drew) w.heap.size H from HH2.out);have ahG:=O (show k_ (wd.drew) wo.heap.size l from ahE.out);have sD:=jD.drew;clear HV2 HH2 ahE jD c0 c1 c2 c3 c4 c5 c6 c7;generalize wd.drew=we at *
       obtain⟨c0,c1,c2,c3,c4,c5,c6,c7⟩:=HV3.out.cells
       iterate 7 go_step
       refine wp_region_still_tail 24 (by kernel_rfl) (by kernel_rfl) ?_;simp only[List.take_succ_cons,List.take_zero,List.drop_succ_cons,List.drop_zero]
       iterate 1 still_step
       still_call (anw V.v0 _)
       iterate 1 still_step
       still_call (af7 V.v0 _)
       iterate 2 still_step
       still_call (af8 V.v0 _)
       iterate 17 still_step
       refine wpStill_nil ?_;generalize hy4:bits .xor .u32 (bits .xor .u32 (bits .and .u32 V.v0 V.v1) (bits .and .u32 V.v0 V.v2)) (bits .and .u32 V.v1 V.v2)=y4;generalize hy5:bits .xor .u32 (bits .xor .u32 (gJ V.v0 30) (gJ V.v0 19)) (gJ V.v0 10)=y5;generalize hs5:IntKind.u32.wrap (y5+y4)=q;have HQ2:=O (show shQ V=q by rw[<-hs5, <-hy5, <-hy4];unfold shQ DZ;rw[yP]);clear hs5 hy5 hy4
       change wpList _ _ _ _ _ we.drew;have HV4:=O (show pj (we.drew) gv V from HV3.out);have HH4:=O (show pj (we.drew) w.heap.size H from HH3.out);have aoU:=O (show k_ (we.drew) wo.heap.size l from ahG.out);have Vh:=sD.drew;clear HV3 HH3 ahG sD c0 c1 c2 c3 c4 c5 c6 c7;generalize we.drew=wf at *
       obtain⟨c0,c1,c2,c3,c4,c5,c6,c7⟩:=HV4.out.cells;have hb:wf.heap[gv]?=some (.cells #[.int .u32 V.v0,.int .u32 V.v1,.int .u32 V.v2,.int .u32 V.v3,.int .u32 V.v4,.int .u32 V.v5,.int .u32 V.v6,.int .u32 V.v7] 254 (0,0)):=HV4.out;have HB:=O hb;clear hb
       go_wp2_with (first|((with_reducible refine ag ⟨some 154,_,_,_,_,_⟩ ?_);go_must(refine zI rfl (.tmp 137) (.tmp 139) (.tmp 141) (.tmp 143) (.tmp 147) (.tmp 149) (.tmp 151) (.tmp 153) rfl (some 154) rfl ((p+q)%4294967296) V.v0 V.v1 V.v2 ((V.v3+p)%4294967296) V.v4 V.v5 V.v6 rfl rfl rfl rfl rfl rfl rfl rfl ?_))|((with_reducible refine ag ⟨none,_,_,_,_,_⟩ ?_);go_must(refine wpList_store_rowTo rfl 254 (.tmp 9) (.tmp 154) rfl rfl gv #[.int .u32 ((p+q)%4294967296),.int .u32 V.v0,.int .u32 V.v1,.int .u32 V.v2,.int .u32 ((V.v3+p)%4294967296),.int .u32 V.v4,.int .u32 V.v5,.int .u32 V.v6] rfl rfl _ _ HB.out (by kernel_rfl) rfl (aap _ _ _ _ _ _ _ _) ?_);have jn:=O (show pj (wf.setRow gv #[.int .u32 ((p+q)%4294967296),.int .u32 V.v0,.int .u32 V.v1,.int .u32 V.v2,.int .u32 ((V.v3+p)%4294967296),.int .u32 V.v4,.int .u32 V.v5,.int .u32 V.v6]) gv (N_ V p q)from setRow_heap _ _ _ _ _ _ HB.out);have HH5:=O (show pj (wf.setRow gv #[.int .u32 ((p+q)%4294967296),.int .u32 V.v0,.int .u32 V.v1,.int .u32 V.v2,.int .u32 ((V.v3+p)%4294967296),.int .u32 V.v4,.int .u32 V.v5,.int .u32 V.v6]) w.heap.size H from(qo (by omega) _).trans HH4.out);have aoV:=O (show k_ (wf.setRow gv #[.int .u32 ((p+q)%4294967296),.int .u32 V.v0,.int .u32 V.v1,.int .u32 V.v2,.int .u32 ((V.v3+p)%4294967296),.int .u32 V.v4,.int .u32 V.v5,.int .u32 V.v6]) wo.heap.size l from(qo (by omega) _).trans aoU.out);have FO:=O (show Fr ay w (wf.setRow gv #[.int .u32 ((p+q)%4294967296),.int .u32 V.v0,.int .u32 V.v1,.int .u32 V.v2,.int .u32 ((V.v3+p)%4294967296),.int .u32 V.v4,.int .u32 V.v5,.int .u32 V.v6])from PL Vh (by omega) _);clear Vh c0 c1 c2 c3 c4 c5 c6 c7;generalize wf.setRow gv #[.int .u32 ((p+q)%4294967296),.int .u32 V.v0,.int .u32 V.v1,.int .u32 V.v2,.int .u32 ((V.v3+p)%4294967296),.int .u32 V.v4,.int .u32 V.v5,.int .u32 V.v6]=wg at *))
       go_wp2;go_roundw
       case rel=>exact⟨k+1,by omega,by go_num,by rw[LU.out,HP2.out,HQ2.out];exact jn.out,HH5.out,aoV.out,FO.out⟩
       case measure=>simp[intOf];omega
      ·have hk5:k=64:=by omega
       rw[show((k:Nat):Int)=64 from by omega];subst hk5;clear hww;generalize tr 64=V at *
       have Xv:oI wi gv V.list:=hv;have hhz:oI wi w.heap.size (Cn H.list V.list 0):=hh;have HVZ:=O Xv;have HHZ:=O hhz;clear hv hh Xv hhz;go_wp2;go_loopw[156] (aoL H V w.heap.size gv w) (fun i _=>8-(intOf i).toNat)
       case atStart=>exact⟨0,by omega,rfl,HHZ.out,HVZ.out,kY⟩
       case round =>
        clear HVZ HHZ kY;obtain⟨k,hk,rfl,hz,Xv,jD⟩:=hrel;generalize wr=wx at *
        have hL1:H.list.length=8:=rfl;have hL2:V.list.length=8:=rfl;by_cases MU:k<8
        ·have lf:(k:Int)<8:=by omega
         have c0:=hz.cell (j:=k) (by rw[EP];omega);rw[ER _ _ k k (Nat.le_refl _)]at c0;have c1:=Xv.cell (j:=k) (by omega);have f0:=hz.free k;have jn:=O (show oI (wx.drew.setCell ⟨w.heap.size,k,none⟩ (.int .u32 ((H.list.getD k 0+V.list.getD k 0)%4294967296))) w.heap.size (Cn H.list V.list (k+1))from(show oI wx.drew w.heap.size (Cn H.list V.list k)from hz).set k _)
         have HVZ:=O (show oI (wx.drew.setCell ⟨w.heap.size,k,none⟩ (.int .u32 ((H.list.getD k 0+V.list.getD k 0)%4294967296))) gv V.list from by
          unfold oI;rw[Below.heap_setCell _ _ _ _ (show gv≠w.heap.size by omega)];exact Xv)
         have py:=O (jD.drew);generalize H.list.getD k 0=x0 at *
         generalize V.list.getD k 0=x1 at *
         clear hz Xv jD;go_wp2;refine wp_region_still_tail 8 (by kernel_rfl) (by kernel_rfl) ?_;simp only[List.take_succ_cons,List.take_zero,List.drop_succ_cons,List.drop_zero]
         iterate 8 still_step
         refine wpStill_nil ?_;change wpList _ _ _ _ _ wx.drew;have c2:wx.drew.cell? ⟨w.heap.size,k,none⟩=some (.int .u32 x0):=c0;have f2:wx.drew.frozen? ⟨w.heap.size,k,none⟩=false:=f0;clear c0 c1 f0;generalize wx.drew=wy at *
         go_wp2_with fail
         go_wp2;go_roundw
         case rel=>exact⟨k+1,by omega,by go_num,by first|exact jn.out|(rw[yP];exact jn.out),by first|exact HVZ.out|(rw[yP];exact HVZ.out),py.out.dI (p:=⟨w.heap.size,k,none⟩) (Nat.le_refl _) _⟩
         case measure=>simp[intOf];omega
        ·have hk8:k=8:=by omega
         subst hk8;have Ue:pj wx w.heap.size (Jr H V):=hz;have aoW:=O Ue;have ant:(64:Int)<=(X.size:Int):=by omega
         clear hz Xv Ue;go_wp2;refine⟨⟨n+1,by omega,?_,?_,jD⟩,?_⟩
         ·rw[kT.out];rfl
         ·rw[o7.out,HSB.out];exact aoW.out
         ·show(X.extract 64 X.size).size<X.size;rw[eA];omega
  ·have Jp:64*n=T.size:=by omega
   have he:(T.extract (64*n) T.size)=⟨#[]⟩:=by apply Go.WideShapes.bytes_inj;rw[fg,List.drop_eq_nil_of_le (by simp;omega)]
   rw[he];have N8:=O (show uX T.data.toList (T.size/64)=uX T.data.toList n by rw[<-Jp];congr 1;omega);have FQ:=Vg T.data.toList n;generalize uX T.data.toList n=H at *
   have hz:oI wo w.heap.size H.list:=hm;have TX:=O (vX w.heap.size H.list false wo (by show 8<=8;omega) (aj hm) (fun j x hj=>by
    have hl:j<H.list.length:=(List.getElem?_eq_some_iff.1 hj).1;rw[hz.cell hl,List.getD_eq_getElem?_getD,hj];rfl) FQ)
   clear hm FQ hz;go_wp2_with fail
   refine TX.out.mono ?_;rintro e w5⟨rfl,gH⟩;go_wp2;go_ret;exact⟨by rw[se.out,N8.out];rfl,aW.trans gH⟩
def bA(l:Bs):ByteArray:=⟨l.toArray⟩
theorem cN(l:Bs):(bA l).data.toList=l:=by unfold bA;simp
theorem NA(s:ByteArray):bA s.data.toList=s:=by unfold bA;simp
def eZ(ps:List ew)(name:Bs):Option Bs:=(ps.find? fun p=>bf p.1 name).map (·.2)
def pH:Bs:=[114,101,97,108,109]
def BA:Bs:=[98,97,115,105,99]
def xa:Bs:=[100,105,103,101,115,116]
def sY:Bs:=[97,108,103,111,114,105,116,104,109]
def rM:Bs:=[77,68,53]
def BB:Bs:=[83,72,65,45,50,53,54]
def sZ:Bs:=[45,115,101,115,115]
def pI:Bs:=[110,111,110,99,101]
def Dt:Bs:=[113,111,112]
def gO:Bs:=[97,117,116,104]
def kI:Bs:=[97,117,116,104,45,105,110,116]
def gP:Bs:=[111,112,97,113,117,101]
def uQ:Bs:=[115,116,97,108,101]
def gz:Bs:=[116,114,117,101]
def lo:Bs:=[100,111,109,97,105,110]
def NB(s:Bs):Option (Int×Bool) :=
 if bf s rM then some (2,false)
 else if bf s (rM++sZ)then some (2,true)
 else if bf s BB then some (3,false)
 else if bf s (BB++sZ)then some (3,true)
 else none
def IV(l:List Bs):Option Bs :=
 if l.any (fun w=>bf w gO)then some gO else if l.any (fun w=>bf w kI)then some kI else none
def NC(q:Bs):Option Bs :=
 match dz q with
 | .error _=>none
 | .ok l=>if 40<l.length then none else IV l
def ND(ps:List ew):Option Bs :=
 match eZ ps Dt with
 |none=>some []
 |some q=>NC q
def BC(d:Bs):List Bs:=((bD 32 d).filter fun p=>FZ 47 p).map jK
def iz(x:iI):Option (cQ aF) :=
 match eZ x.params pH with
 |none=>none
 |some ar =>
  if bf x.scheme BA then some ⟨1,bA ar,bA [],bA [],false,bA [],false,[]⟩else
  match NB ((eZ x.params sY).getD rM)with
  |none=>none
  |some (k,aL) =>
   if !bf x.scheme xa then none else
   match eZ x.params pI with
   |none=>none
   |some aE =>
    match ND x.params with
    |none=>none
    |some q=>some ⟨k,bA ar,bA aE,bA ((eZ x.params gP).getD []),aL,bA q,bf ((eZ x.params uQ).getD []) gz,(BC ((eZ x.params lo).getD [])).map bA⟩
def IW:cQ aF:=⟨0,bA [],bA [],bA [],false,bA [],false,[]⟩
def kq(a:cQ aF)(x:iI):cQ aF :=
 match iz x with
 |none=>a
 |some b=>if a.scheme<b.scheme then b else a
def d_(l:List iI):cQ aF:=l.foldl kq IW
theorem F2(l:List iI)(x:iI):d_ (l++[x])=kq (d_ l) x:=by simp[d_]
end Go.Proofs.YtjdmjbdkdmbaiaaGreatDoor
