/- OpenA, ListPlain, WordedP, Plain, Sha1, Basic. -/
import Derived.Test.YtjdmjbdkdmbaiaaGreatDoorPk7
import Derived.Test.YtjdmjbdkdmbaiaaGreatDoorPk8
import Derived.Deep.RegionHeld3
import Derived.StillTailTactics
set_option maxRecDepth 100000
set_option maxHeartbeats 16000000
set_option linter.unusedSimpArgs false
namespace Go.Proofs.YtjdmjbdkdmbaiaaGreatDoor
open Go.ChangeShapes Go.WideShapes Go.ChangeAt Go.RowKit Go.Deep
section
variable {H : Type} {enc : TypeId × Value → H} {P : Program} {W : World}
theorem rG{e:TypeId}:∀ {l:List (DataW H)} {d:DataW H},d∈l->∀n∈d.weights P e,n∈DataW.weightsAll P e l
 |d' :: r,d,hd,n,hn=>by
  simp only[DataW.weightsAll,List.mem_append];rcases List.mem_cons.1 hd with rfl|h
  ·exact Or.inl hn
  ·exact Or.inr (rG h n hn)
def kf(P:Program)(t:TypeId)(d:DataW H):Prop:=∀n∈d.weights P t,n<=reachBytes
theorem ky{t:TypeId}{fs:Array Field}{fuel:Nat}{cs:List Value}{x:DataW H×List MemPlace}(ht:P.underlying t=some (.struct fs))(h:DataW.trod enc P W 0 (fun _=>true) true fuel t cs=some x) :
  cs.length=P.cellsOf t/\∃n,∀(i:Nat) (t':TypeId) (o k:Nat),fs[i]?.map (fun f=>(f.type,f.offset))=some (t',o)->P.cellsOf t'=k->∃y,DataW.trod enc P W 0 (fun _=>true) true n t' ((cs.drop o).take k)=some y/\(kf P t x.1->kf P t' y.1):=by
 obtain⟨xs,n,_,rfl,hl,j_,hf⟩:=DataW.trod_struct ht h;refine⟨hl,n,fun i t' o k he hk=>?_⟩;obtain⟨f,hi,e⟩:=Option.map_eq_some_iff.1 he;injection e with e1 e2
 subst e1 e2 hk;have pD:i<fs.size:=(Array.getElem?_eq_some_iff.1 hi).1;refine⟨xs[i],by rw[hf i f hi];exact List.getElem?_eq_getElem _,fun hL m hm=>hL m ?_⟩;simp only[DataW.weights,ht];refine DataW.weights_mem_each (j:=i) (t:=f.type) (d:=xs[i].1) ?_ ?_ m hm
 ·rw[List.getElem?_map,Array.getElem?_toList,hi];rfl
 ·rw[List.getElem?_map,List.getElem?_eq_getElem (by omega)];rfl
theorem i_{t:TypeId}{fuel:Nat}{cs:List Value}{x:DataW H×List MemPlace}(ht:P.underlying t=some .bool)(h:DataW.trod enc P W 0 (fun _=>true) true fuel t cs=some x):∃b,cs=[.bool b]:=by
 obtain⟨b,e,_⟩:=DataW.trod_bool ht h;exact⟨b,e⟩
theorem ig{t:TypeId}{k:IntKind}{fuel:Nat}{cs:List Value}{x:DataW H×List MemPlace}(ht:P.underlying t=some (.int k))(h:DataW.trod enc P W 0 (fun _=>true) true fuel t cs=some x):∃n,cs=[.int k n]/\(Lit.int k n).wf=true:=by
 obtain⟨b,e,_,hw⟩:=DataW.trod_int ht h;exact⟨b,e,hw⟩
theorem b_{t:TypeId}{fuel:Nat}{cs:List Value}{x:DataW H×List MemPlace}(ht:P.underlying t=some .string)(h:DataW.trod enc P W 0 (fun _=>true) true fuel t cs=some x) :
  ∃s:ByteArray,cs=[.string s]/\(kf P t x.1->s.size<=reachBytes):=by
 obtain⟨s,e,hx,_⟩:=DataW.trod_string ht h;refine⟨s,e,fun hL=>?_⟩;have:=hL s.data.toList.length (by rw[hx];simp[DataW.weights]);simpa using this
end
variable {H : Type} {enc : TypeId × Value → H} {W : World}
theorem oL:Tryz.prog.cellsOf 4=1:=by kernel_rfl
theorem nS:Tryz.prog.cellsOf 3=1:=by kernel_rfl
theorem dT:Tryz.prog.cellsOf 9=1:=by kernel_rfl
theorem vy:Tryz.prog.cellsOf 24=3:=by kernel_rfl
def cO.Ft(o:cO):Prop:=o.host.size<=reachBytes
theorem aqa{α:Type}{l:List α}(h:l.length=3):∃a b c,l=[a,b,c]:=by
 match l,h with
 |[a,b,c],_=>exact⟨a,b,c,rfl⟩
theorem aiU{α:Type}{l:List α}(h:l.length=2):∃a b,l=[a,b]:=by
 match l,h with
 |[a,b],_=>exact⟨a,b,rfl⟩
theorem Fu{fuel:Nat}{cs:List Value}{x:DataW H×List MemPlace}(h:DataW.trod enc Tryz.prog W 0 (fun _=>true) true fuel 24 cs=some x) :
  ∃o:cO,cs=o.cells/\(Lit.int .i64 o.port).wf=true/\(kf Tryz.prog 24 x.1->o.Ft):=by
 obtain⟨hl,n,hf⟩:=ky Tryz.underlying24 h;rw[vy]at hl;obtain⟨c0,c1,c2,rfl⟩:=aqa hl;obtain⟨y0,h0,l0⟩:=hf 0 4 0 _ rfl oL;obtain⟨y1,h1,l1⟩:=hf 1 9 1 _ rfl dT;obtain⟨y2,h2,l2⟩:=hf 2 3 2 _ rfl nS;simp only[List.drop,List.take]at h0 h1 h2;obtain⟨b0,e0⟩:=i_ Tryz.underlying4 h0;obtain⟨b1,e1,w1⟩:=b_ Tryz.underlying9 h1;obtain⟨b2,e2,w2⟩:=ig Tryz.underlying3 h2;simp at e0 e1 e2;subst e0 e1 e2
 exact⟨⟨b0,b1,b2⟩,rfl,w2,fun hL=>w1 (l1 hL)⟩
theorem jY{P:Program}{ts:List TypeId}{ds:List (DataW H)}(mz:(DataW.weightsEach P ts ds).all (· <=reachBytes)=true){j:Nat}{t:TypeId}{d:DataW H}(ht:ts[j]?=some t)(hd:ds[j]?=some d):kf P t d:=fun n hn=>by
 have:=List.all_eq_true.1 mz n (DataW.weights_mem_each ht hd n hn);simpa using this
open Go.RowKit
theorem pF{p:UInt8->Bool}{t:List UInt8}(ht:∀c,t.head?=some c->p c=false):t.dropWhile p=t:=by
 cases t with
 |nil=>rfl
 |cons c t=>rw[List.dropWhile_cons_of_neg (by simp[ht c rfl])]
theorem ep.isOk{s:ByteArray}{w w':World}{e:Ending}{ws:List (List UInt8)}(h:ep s w e w')(hl:dz s.data.toList=.ok ws)(hn:ws.length<=40) :
  ∃v,e=.returned (.tuple #[v,.nilIface])/\Strs w.heap.size w' v (bw ws)/\Fr ay w w':=by
 obtain⟨v,er,he,hf,hm⟩:=h;rw[hl]at hm;have NF:if 40<ws.length then v=.slice none 0 0/\zQ w' er (some (4,none))else Strs w.heap.size w' v (bw ws)/\er=.nilIface:=hm
 rw[if_neg (show¬40<ws.length by omega)]at NF;obtain⟨hv,hr⟩:=NF;exact⟨v,by rw[he,hr],hv,hf⟩
theorem dD.isOk{b i j:Nat}{s:ByteArray}{w w':World}{e:Ending}{a:List UInt8}(h:dD b s i w e w')(hq:dm s.data.toList i=Option.some (a,j)) :
  e=.returned (.tuple #[.string ⟨a.toArray⟩,.bool true])/\aU w' b s j/\Fr (one b) w w':=by
 obtain⟨he,hc,hf⟩:=h;rw[hq]at he;have h1:jc s.data.toList i=a:=by simp[jc,hq]
 have h2:kj s.data.toList i=j:=by simp[kj,hq]
 rw[h1]at he;rw[h2]at hc;exact⟨he,hc,hf⟩
theorem dD.isNone{b i:Nat}{s:ByteArray}{w w':World}{e:Ending}(h:dD b s i w e w')(hq:dm s.data.toList i=Option.none) :
  e=.returned (.tuple #[.string ⟨#[]⟩,.bool false])/\aU w' b s i/\Fr (one b) w w':=by
 obtain⟨he,hc,hf⟩:=h;rw[hq]at he;have h1:jc s.data.toList i=[]:=by simp[jc,hq]
 have h2:kj s.data.toList i=i:=by simp[kj,hq]
 rw[h1]at he;rw[h2]at hc;exact⟨he,hc,hf⟩
def xA:List UInt8:=[34,40,41,58,60,62,63,64,91,92,93,123,125]
def eR(c:UInt8):Bool:=(decide (c.toNat<32)&&!decide (c.toNat=9))||decide (c.toNat=127)||decide (0<=Lib.indexByte xA c)
theorem F_(c:UInt8)(w:World) :
  Calls Tryz.prog 243 #[.int .u8 (c.toNat:Int)] w fun e w'=>e=.returned (.bool (eR c))/\w'=w:=by
 by_cases h1:c.toNat<32/\¬c.toNat=9
 ·obtain⟨h1,h2⟩:=h1;have hb:=O (show eR c=true by unfold eR;rw[decide_eq_true h1,decide_eq_false h2];rfl);have i1:(c.toNat:Int)<32:=by omega
  have i2:¬(c.toNat:Int)=9:=by omega
  go_enter Tryz.func243,Tryz.ntmps243;go_wp2;go_ret;exact⟨cJ hb.out.symm,rfl⟩
 ·by_cases h3:c.toNat=127
  ·have hb:=O (show eR c=true by unfold eR;rw[decide_eq_true h3];simp);have i1:¬(c.toNat:Int)<32:=by omega
   have i3:(c.toNat:Int)=127:=by omega
   go_enter Tryz.func243,Tryz.ntmps243;go_wp2;go_ret;exact⟨cJ hb.out.symm,rfl⟩
  ·have hb:=O (show eR c=decide (0<=Lib.indexByte xA c)by
    unfold eR;rw[decide_eq_false h3];by_cases h4:c.toNat<32
    ·have h9:c.toNat=9:=by omega
     rw[decide_eq_true h4,decide_eq_true h9];rfl
    ·rw[decide_eq_false h4];rfl)
   have HI:=O (show Calls Tryz.prog 202 #[.string ⟨#[34,40,41,58,60,62,63,64,91,92,93,123,125]⟩,.int .u8 (c.toNat:Int)] w fun e w'=>e=.returned (.int .i64 (Lib.indexByte xA c))/\w'=w from
    (Tryz.strings_IndexByte ⟨#[34,40,41,58,60,62,63,64,91,92,93,123,125]⟩ c.toNat w).mono fun e w' ⟨he,hw⟩=>⟨by
     have hc:((c.toNat:Int).toNat.toUInt8)=c:=by simp
     rw[hc]at he;rw[he];rfl,hw⟩)
   by_cases h4:c.toNat<32
   ·have i1:(c.toNat:Int)<32:=by omega
    have i2:(c.toNat:Int)=9:=by omega
    have hi9:=HI.out;rw[i2]at hi9;have HI9:=O hi9;clear hi9;have i3:((c.toNat:Int)==127)=false:=by rw[beq_eq_false_iff_ne];omega
    go_enter Tryz.func243,Tryz.ntmps243;go_wp2_with fail
    refine HI9.out.mono ?_;rintro e u⟨rfl,rfl⟩;go_wp2;go_ret
    first|exact⟨cJ hb.out.symm,rfl⟩|exact⟨cJ (show(((c.toNat:Int)==127)||decide (0<=Lib.indexByte xA c))=eR c by rw[i3,hb.out];rfl),rfl⟩
   ·have i1:¬(c.toNat:Int)<32:=by omega
    have i2:¬(c.toNat:Int)=127:=by omega
    have i3:((c.toNat:Int)==127)=false:=by rw[beq_eq_false_iff_ne];exact i2
    go_enter Tryz.func243,Tryz.ntmps243;go_wp2_with fail
    refine HI.out.mono ?_;rintro e u⟨rfl,rfl⟩;go_wp2;go_ret
    first|exact⟨cJ hb.out.symm,rfl⟩|exact⟨cJ (show(((c.toNat:Int)==127)||decide (0<=Lib.indexByte xA c))=eR c by rw[i3,hb.out];rfl),rfl⟩
def mM:List UInt8:=[32,42,44,45,46,59,61]
def lg(c:UInt8):Bool:=jG c||decide (0<=Lib.indexByte mM c)
def pJ(s:ByteArray):Bool:=s.data.toList.all lg
def afy(s:ByteArray)(w:World)(i:Value)(wr:World):Prop:=∃k:Nat,k<=s.size/\i=.int .i64 k/\(s.data.toList.take k).all lg=true/\Fr ay w wr
theorem tq(s:ByteArray)(w:World)(hs:s.size<100000) :
  Calls Tryz.prog 244 #[.string s] w fun e w'=>e=.returned (.bool (pJ s))/\Fr ay w w':=by
 go_enter Tryz.func244,Tryz.ntmps244;go_wp2;go_loopw[7] (afy s w) (fun i _=>s.size-(intOf i).toNat)
 case atStart=>exact⟨0,by omega,rfl,rfl,Fr.refl _ _⟩
 case round =>
  obtain⟨k,hk,rfl,dy,aW⟩:=hrel;by_cases cG:k<s.size
  ·have lf:(k:Int)<(s.size:Int):=by omega
   have mi:=byte_at s k cG;have HI:=O (show Calls Tryz.prog 202 #[.string ⟨#[32,42,44,45,46,59,61]⟩,.int .u8 (s[k].toNat:Int)] wr fun e w'=>e=.returned (.int .i64 (Lib.indexByte mM s[k]))/\w'=wr from
    (Tryz.strings_IndexByte ⟨#[32,42,44,45,46,59,61]⟩ s[k].toNat wr).mono fun e w' ⟨he,hw⟩=>⟨by
     have hc:((s[k].toNat:Int).toNat.toUInt8)=s[k]:=by simp
     rw[hc]at he;rw[he];rfl,hw⟩)
   have F':=O (show lg s[k]=true->(s.data.toList.take (k+1)).all lg=true from fun h=>by rw[List.take_add_one,mi,List.all_append,dy];simp[h]);have Wy:=O (show lg s[k]=false->pJ s=false from fun h=>by unfold pJ;rw[List.all_eq_false];exact⟨s[k],List.mem_of_getElem? mi,by simp[h]⟩);have pD:=s[k].toNat_lt;by_cases g0:s[k].toNat<=47
   ·have q1:(s[k].toNat:Int)<48:=by omega
    have q2:¬57<(s[k].toNat:Int):=by omega
    have q3:(s[k].toNat:Int)<97:=by omega
    have q4:¬122<(s[k].toNat:Int):=by omega
    have q5:(s[k].toNat:Int)<65:=by omega
    have q6:¬90<(s[k].toNat:Int):=by omega
    have wI:jG s[k]=false:=by unfold jG;simp;omega
    have uR:=O wI;clear wI mi dy;go_wp2_with fail
    refine HI.out.mono ?_;rintro e u⟨rfl,rfl⟩;by_cases rm:0<=Lib.indexByte mM s[k]
    ·have Ga:¬Lib.indexByte mM s[k]<0:=by omega
     have HY:=O (F'.out (by unfold lg;rw[uR.out,decide_eq_true rm];rfl));go_wp2;go_roundw
     case rel=>exact⟨k+1,by omega,by go_num,HY.out,aW⟩
     case measure=>simp[intOf];omega
    ·have Ga:Lib.indexByte mM s[k]<0:=by omega
     have HN:=O (Wy.out (by unfold lg;rw[uR.out,decide_eq_false rm];rfl));go_wp2;go_ret;exact⟨by rw[HN.out];rfl,aW⟩
   ·skip
    by_cases g1:s[k].toNat<=57
    ·have q1:¬(s[k].toNat:Int)<48:=by omega
     have q2:¬57<(s[k].toNat:Int):=by omega
     have q3:(s[k].toNat:Int)<97:=by omega
     have q4:¬122<(s[k].toNat:Int):=by omega
     have q5:(s[k].toNat:Int)<65:=by omega
     have q6:¬90<(s[k].toNat:Int):=by omega
     have hy:=F'.out (by unfold lg jG;simp;omega);have HY:=O hy;clear hy dy mi;go_wp2;go_roundw
     case rel=>exact⟨k+1,by omega,by go_num,HY.out,aW⟩
     case measure=>simp[intOf];omega
    ·skip
     by_cases g2:s[k].toNat<=64
     ·have q1:¬(s[k].toNat:Int)<48:=by omega
      have q2:57<(s[k].toNat:Int):=by omega
      have q3:(s[k].toNat:Int)<97:=by omega
      have q4:¬122<(s[k].toNat:Int):=by omega
      have q5:(s[k].toNat:Int)<65:=by omega
      have q6:¬90<(s[k].toNat:Int):=by omega
      have wI:jG s[k]=false:=by unfold jG;simp;omega
      have uR:=O wI;clear wI mi dy;go_wp2_with fail
      refine HI.out.mono ?_;rintro e u⟨rfl,rfl⟩;by_cases rm:0<=Lib.indexByte mM s[k]
      ·have Ga:¬Lib.indexByte mM s[k]<0:=by omega
       have HY:=O (F'.out (by unfold lg;rw[uR.out,decide_eq_true rm];rfl));go_wp2;go_roundw
       case rel=>exact⟨k+1,by omega,by go_num,HY.out,aW⟩
       case measure=>simp[intOf];omega
      ·have Ga:Lib.indexByte mM s[k]<0:=by omega
       have HN:=O (Wy.out (by unfold lg;rw[uR.out,decide_eq_false rm];rfl));go_wp2;go_ret;exact⟨by rw[HN.out];rfl,aW⟩
     ·skip
      by_cases g3:s[k].toNat<=90
      ·have q1:¬(s[k].toNat:Int)<48:=by omega
       have q2:57<(s[k].toNat:Int):=by omega
       have q3:(s[k].toNat:Int)<97:=by omega
       have q4:¬122<(s[k].toNat:Int):=by omega
       have q5:¬(s[k].toNat:Int)<65:=by omega
       have q6:¬90<(s[k].toNat:Int):=by omega
       have hy:=F'.out (by unfold lg jG;simp;omega);have HY:=O hy;clear hy dy mi;go_wp2;go_roundw
       case rel=>exact⟨k+1,by omega,by go_num,HY.out,aW⟩
       case measure=>simp[intOf];omega
      ·skip
       by_cases g4:s[k].toNat<=96
       ·have q1:¬(s[k].toNat:Int)<48:=by omega
        have q2:57<(s[k].toNat:Int):=by omega
        have q3:(s[k].toNat:Int)<97:=by omega
        have q4:¬122<(s[k].toNat:Int):=by omega
        have q5:¬(s[k].toNat:Int)<65:=by omega
        have q6:90<(s[k].toNat:Int):=by omega
        have wI:jG s[k]=false:=by unfold jG;simp;omega
        have uR:=O wI;clear wI mi dy;go_wp2_with fail
        refine HI.out.mono ?_;rintro e u⟨rfl,rfl⟩;by_cases rm:0<=Lib.indexByte mM s[k]
        ·have Ga:¬Lib.indexByte mM s[k]<0:=by omega
         have HY:=O (F'.out (by unfold lg;rw[uR.out,decide_eq_true rm];rfl));go_wp2;go_roundw
         case rel=>exact⟨k+1,by omega,by go_num,HY.out,aW⟩
         case measure=>simp[intOf];omega
        ·have Ga:Lib.indexByte mM s[k]<0:=by omega
         have HN:=O (Wy.out (by unfold lg;rw[uR.out,decide_eq_false rm];rfl));go_wp2;go_ret;exact⟨by rw[HN.out];rfl,aW⟩
       ·skip
        by_cases g5:s[k].toNat<=122
        ·have q1:¬(s[k].toNat:Int)<48:=by omega
         have q2:57<(s[k].toNat:Int):=by omega
         have q3:¬(s[k].toNat:Int)<97:=by omega
         have q4:¬122<(s[k].toNat:Int):=by omega
         have q5:¬(s[k].toNat:Int)<65:=by omega
         have q6:90<(s[k].toNat:Int):=by omega
         have hy:=F'.out (by unfold lg jG;simp;omega);have HY:=O hy;clear hy dy mi;go_wp2;go_roundw
         case rel=>exact⟨k+1,by omega,by go_num,HY.out,aW⟩
         case measure=>simp[intOf];omega
        ·skip
         have q1:¬(s[k].toNat:Int)<48:=by omega
         have q2:57<(s[k].toNat:Int):=by omega
         have q3:¬(s[k].toNat:Int)<97:=by omega
         have q4:122<(s[k].toNat:Int):=by omega
         have q5:¬(s[k].toNat:Int)<65:=by omega
         have q6:90<(s[k].toNat:Int):=by omega
         have wI:jG s[k]=false:=by unfold jG;simp;omega
         have uR:=O wI;clear wI mi dy;go_wp2_with fail
         refine HI.out.mono ?_;rintro e u⟨rfl,rfl⟩;by_cases rm:0<=Lib.indexByte mM s[k]
         ·have Ga:¬Lib.indexByte mM s[k]<0:=by omega
          have HY:=O (F'.out (by unfold lg;rw[uR.out,decide_eq_true rm];rfl));go_wp2;go_roundw
          case rel=>exact⟨k+1,by omega,by go_num,HY.out,aW⟩
          case measure=>simp[intOf];omega
         ·have Ga:Lib.indexByte mM s[k]<0:=by omega
          have HN:=O (Wy.out (by unfold lg;rw[uR.out,decide_eq_false rm];rfl));go_wp2;go_ret;exact⟨by rw[HN.out];rfl,aW⟩
  ·have lf:¬(k:Int)<(s.size:Int):=by omega
   have bR:=O (show pJ s=true by
    unfold pJ;rw[List.take_of_length_le (by simp;omega)]at dy;exact dy)
   clear dy;go_wp2;go_ret;exact⟨by rw[bR.out];rfl,aW⟩
def yc:List Int:=[1116352408,1899447441,3049323471,3921009573,961987163,1508970993,2453635748,2870763221,3624381080,310598401,607225278,1426881987,1925078388,2162078206,2614888103,3248222580,3835390401,4022224774,264347078,604807628,770255983,1249150122,1555081692,1996064986,2554220882,2821834349,2952996808,3210313671,3336571891,3584528711,113926993,338241895,666307205,773529912,1294757372,1396182291,1695183700,1986661051,2177026350,2456956037,2730485921,2820302411,3259730800,3345764771,3516065817,3600352804,4094571909,275423344,430227734,506948616,659060556,883997877,958139571,1322822218,1537002063,1747873779,1955562222,2024104815,2227730452,2361852424,2428436474,2756734187,3204031479,3329325298]
def N9:List Int:=[1779033703,3144134277,1013904242,2773480762,1359893119,2600822924,528734635,1541459225]
structure kZ (w:World):Prop where
 r:iu w 2 .u32 yc
 b:iu w 1 .u32 N9
theorem kZ.fr{w w':World}(h:kZ w)(hf:Fr ay w w'):kZ w':=⟨h.r.fr hf,h.b.fr hf⟩
def DZ(a b c:Int):Int:=bits .xor .u32 (bits .xor .u32 a b) c
def Zo(x:Int):Int:=DZ (gJ x 25) (gJ x 14) (x/8)
def Zp(y:Int):Int:=DZ (gJ y 15) (gJ y 13) (y/1024)
def Au(X:List UInt8)(l:List Int)(i:Nat):Int:=if i<16 then lh false (X.drop (4*i))else(l.getD (i-16) 0+l.getD (i-7) 0+Zo (l.getD (i-15) 0)+Zp (l.getD (i-2) 0))%4294967296
def Av(X:List UInt8)(l:List Int)(i:Nat):List Int:=l++[Au X l i]
def SU(X:List UInt8):Nat->List Int
 |0=>[]
 |i+1=>Av X (SU X i) i
theorem Jq(X:List UInt8):∀i,(SU X i).length=i
 |0=>rfl
 |i+1=>by rw[SU,Av,List.length_append,Jq X i];rfl
theorem rb(x:Int)(w:World)(j n:Nat)(h:(decide (0<j/\j<32/\n<32/\bits .and .u64 (-(j:Int)+18446744073709551616) 31=(n:Int)))=true) :
  Calls Tryz.prog 220 #[.int .u32 x,.int .i64 (-(j:Int))] w fun e w'=>e=.returned (.int .u32 (gJ x n))/\w'=w:=by
 have h:=of_decide_eq_true h;exact(Ud x (-(j:Int)) n w (by omega) (by omega) h.2.2.2 h.2.2.1).mono fun _ _ ⟨he,hw⟩=>⟨he,hw.symm⟩
theorem anu(x:Int)(w:World):Calls Tryz.prog 220 #[.int .u32 x,.int .i64 (-7)] w fun e w'=>e=.returned (.int .u32 (gJ x 25))/\w'=w:=rb x w 7 25 (by decide +kernel)
theorem af2(x:Int)(w:World):Calls Tryz.prog 220 #[.int .u32 x,.int .i64 (-18)] w fun e w'=>e=.returned (.int .u32 (gJ x 14))/\w'=w:=rb x w 18 14 (by decide +kernel)
theorem af3(x:Int)(w:World):Calls Tryz.prog 220 #[.int .u32 x,.int .i64 (-17)] w fun e w'=>e=.returned (.int .u32 (gJ x 15))/\w'=w:=rb x w 17 15 (by decide +kernel)
theorem af4(x:Int)(w:World):Calls Tryz.prog 220 #[.int .u32 x,.int .i64 (-19)] w fun e w'=>e=.returned (.int .u32 (gJ x 13))/\w'=w:=rb x w 19 13 (by decide +kernel)
theorem anv(x:Int)(w:World):Calls Tryz.prog 220 #[.int .u32 x,.int .i64 (-6)] w fun e w'=>e=.returned (.int .u32 (gJ x 26))/\w'=w:=rb x w 6 26 (by decide +kernel)
theorem af5(x:Int)(w:World):Calls Tryz.prog 220 #[.int .u32 x,.int .i64 (-11)] w fun e w'=>e=.returned (.int .u32 (gJ x 21))/\w'=w:=rb x w 11 21 (by decide +kernel)
theorem af6(x:Int)(w:World):Calls Tryz.prog 220 #[.int .u32 x,.int .i64 (-25)] w fun e w'=>e=.returned (.int .u32 (gJ x 7))/\w'=w:=rb x w 25 7 (by decide +kernel)
theorem anw(x:Int)(w:World):Calls Tryz.prog 220 #[.int .u32 x,.int .i64 (-2)] w fun e w'=>e=.returned (.int .u32 (gJ x 30))/\w'=w:=rb x w 2 30 (by decide +kernel)
theorem af7(x:Int)(w:World):Calls Tryz.prog 220 #[.int .u32 x,.int .i64 (-13)] w fun e w'=>e=.returned (.int .u32 (gJ x 19))/\w'=w:=rb x w 13 19 (by decide +kernel)
theorem af8(x:Int)(w:World):Calls Tryz.prog 220 #[.int .u32 x,.int .i64 (-22)] w fun e w'=>e=.returned (.int .u32 (gJ x 10))/\w'=w:=rb x w 22 10 (by decide +kernel)
structure Sh where
 v0:Int
 v1:Int
 v2:Int
 v3:Int
 v4:Int
 v5:Int
 v6:Int
 v7:Int
def pj(w:World)(g:Nat)(h:Sh):Prop:=w.heap[g]?=some (.cells #[.int .u32 h.v0,.int .u32 h.v1,.int .u32 h.v2,.int .u32 h.v3,.int .u32 h.v4,.int .u32 h.v5,.int .u32 h.v6,.int .u32 h.v7] 254 (0,0))
def shP(ws:List Int)(k:Nat)(v:Sh):Int:=(v.v7+DZ (gJ v.v4 26) (gJ v.v4 21) (gJ v.v4 7)+bits .xor .u32 (bits .and .u32 v.v4 v.v5) (bits .and .u32 (Gl v.v4) v.v6)+yc.getD k 0+ws.getD k 0)%4294967296
def shQ(v:Sh):Int:=(DZ (gJ v.v0 30) (gJ v.v0 19) (gJ v.v0 10)+DZ (bits .and .u32 v.v0 v.v1) (bits .and .u32 v.v0 v.v2) (bits .and .u32 v.v1 v.v2))%4294967296
def N_(v:Sh)(p q:Int):Sh:=⟨(p+q)%4294967296,v.v0,v.v1,v.v2,(v.v3+p)%4294967296,v.v4,v.v5,v.v6⟩
def tM(ws:List Int)(h:Sh):Nat->Sh
 |0=>h
 |k+1=>N_ (tM ws h k) (shP ws k (tM ws h k)) (shQ (tM ws h k))
def Jr(h v:Sh):Sh:=⟨(h.v0+v.v0)%4294967296,(h.v1+v.v1)%4294967296,(h.v2+v.v2)%4294967296,(h.v3+v.v3)%4294967296,(h.v4+v.v4)%4294967296,(h.v5+v.v5)%4294967296,(h.v6+v.v6)%4294967296,(h.v7+v.v7)%4294967296⟩
def tN(X:List UInt8)(h:Sh):Sh:=Jr h (tM (SU X 64) h 64)
def sh0:Sh:=⟨1779033703,3144134277,1013904242,2773480762,1359893119,2600822924,528734635,1541459225⟩
def uX(T:List UInt8):Nat->Sh
 |0=>sh0
 |k+1=>tN (T.drop (64*k)) (uX T k)
def Sh.list(s:Sh):List Int:=[s.v0,s.v1,s.v2,s.v3,s.v4,s.v5,s.v6,s.v7]
def D0(l:List UInt8):List UInt8:=jO false (uX (pd false l) ((pd false l).length/64)).list
def af_(T:ByteArray)(g:Nat)(w:World)(t:Value)(wr:World):Prop:=∃k:Nat,64*k<=T.size/\t=.string (T.extract (64*k) T.size)/\pj wr g (uX T.data.toList k)/\Fr ay w wr
def k_(w:World)(g:Nat)(l:List Int):Prop:=w.heap[g]?=some (.cells ((l++List.replicate (64-l.length) 0).map (Value.int .u32)).toArray 256 (0,0))
def La(c:UInt8):Bool:=c<32||c==127
def fY(s:ByteArray):Bool:=s.data.toList.all fun c=>!La c
def yh(user pass:ByteArray):ByteArray:=⟨([66,97,115,105,99,32]++pk (user.data.toList++[58]++pass.data.toList)).toArray⟩
def im(user pass:ByteArray)(e:Ending):Prop :=
 if 0<=Lib.indexByte user.data.toList 58 then e=.returned (.tuple #[.string ⟨#[]⟩,.iface 116 (.int .i64 1)])
 else if fY user&&fY pass then e=.returned (.tuple #[.string (yh user pass),.nilIface])
 else e=.returned (.tuple #[.string ⟨#[]⟩,.iface 116 (.int .i64 3)])
def agf(user pass:ByteArray)(w:World)(i:Value)(wr:World):Prop:=∃k:Nat,k<=2/\i=.int .i64 k/\(0<k->fY user=true)/\(1<k->fY pass=true)/\Fr ay w wr
def anM(s:ByteArray)(w:World)(i:Value)(wr:World):Prop:=∃k:Nat,k<=s.size/\i=.int .i64 k/\(s.data.toList.take k).all (fun c=>!La c)=true/\Fr ay w wr
theorem BZ{a b x:ByteArray}{k:Nat}(h:[a,b][k]?=some x):k=0/\x=a\/k=1/\x=b:=by
 match k,h with
 |0,h=>exact .inl ⟨rfl,by simpa using h.symm⟩
 |1,h=>exact .inr ⟨rfl,by simpa using h.symm⟩
 |k+2,h=>simp at h
theorem Az(user pass:ByteArray)(w:World)(hu:user.size<=100000)(hp:pass.size<=100000) :
  Calls Tryz.prog 84 #[.agg #[.string user,.string pass]] w fun e w'=>im user pass e/\Fr ay w w':=by
 have fa:Fr ay w (w.alloc (.cells #[.string user,.string pass] 31)):=(Fr.refl ay w).alloc _;have o7:=af w (.cells #[.string user,.string pass] 31);by_cases hc:0<=Lib.indexByte user.data.toList 58
 ·have HP:=O (show∀e,im user pass e↔e=.returned (.tuple #[.string ⟨#[]⟩,.iface 116 (.int .i64 1)])from fun e=>by unfold im;rw[if_pos hc]);have hd:decide (0<=Lib.indexByte user.data.toList 58)=true:=decide_eq_true hc;go_enter Tryz.func84,Tryz.ntmps84;go_wp2_with fail
  refine(Tryz.strings_Contains_one user 58 _).mono ?_;rintro e u1⟨rfl,rfl⟩;rw[hd];go_wp2;go_ret2;exact⟨(HP.out _).2 rfl,fa⟩
 ·have hd:decide (0<=Lib.indexByte user.data.toList 58)=false:=decide_eq_false hc;have wM:=O (show(fY user&&fY pass)=false->im user pass (.returned (.tuple #[.string ⟨#[]⟩,.iface 116 (.int .i64 3)]))from fun h=>by unfold im;rw[if_neg hc,if_neg (by simp[h])])
  have Gu:=O (show(fY user&&fY pass)=true->im user pass (.returned (.tuple #[.string (yh user pass),.nilIface]))from fun h=>by unfold im;rw[if_neg hc,if_pos h]);have gS:=O fa;have HCA:=O (show∀U,Fr ay (w.alloc (.cells #[.string user,.string pass] 31)) U->U.cell? ⟨w.heap.size,0,none⟩=some (.string user)/\U.cell? ⟨w.heap.size,1,none⟩=some (.string pass)from fun U hU=>by
   have ng:=hU.keep o7 (fun h=>h);simp[World.cell?,ng])
  have B4:Fr ay w ((w.alloc (.cells #[.string user,.string pass] 31)).alloc (.cells #[.string user,.string pass] 9)):=fa.alloc _;have uF:∀U,Fr ay ((w.alloc (.cells #[.string user,.string pass] 31)).alloc (.cells #[.string user,.string pass] 9)) U ->
    U.cell? ⟨w.heap.size,0,none⟩=some (.string user)/\U.cell? ⟨w.heap.size,1,none⟩=some (.string pass)/\∀(k:Nat) x,[user,pass][k]?=some x->U.cell? ⟨w.heap.size+1,k,none⟩=some (.string x):=fun U hU=>by
   have gZ:=hU.keep (((Fr.refl ay _).alloc _).keep o7 (fun h=>h)) (fun h=>h);have ng:=hU.keep (af (w.alloc (.cells #[.string user,.string pass] 31)) (.cells #[.string user,.string pass] 9)) (fun h=>h);rw[World.size_alloc]at ng;refine⟨by simp[World.cell?,gZ],by simp[World.cell?,gZ],fun k x hx=>?_⟩;rcases BZ hx with ⟨rfl,rfl⟩|⟨rfl,rfl⟩<;>simp[World.cell?,ng]
  have JC:=O uF;have jF:=O B4;clear fa o7 uF B4;go_enter Tryz.func84,Tryz.ntmps84;go_wp2_with fail
  refine(Tryz.strings_Contains_one user 58 _).mono ?_;rintro e u1⟨rfl,rfl⟩;rw[hd];go_wp2;obtain⟨wl,zW⟩:∃wl,wl=(w.alloc (.cells #[.string user,.string pass] 31)).alloc (.cells #[.string user,.string pass] 9):=⟨_,rfl⟩;rw[<-zW]at JC jF ⊢;clear zW;go_loopw[17] (agf user pass wl) (fun i _=>2-(intOf i).toNat)
  case atStart=>exact⟨0,by omega,rfl,by omega,by omega,Fr.refl _ _⟩
  case round =>
   obtain⟨k,hk,rfl,iJ,bt,aW⟩:=hrel;generalize wr=wo at *
   by_cases ng:k<2
   ·have anN:(k:Int)<2:=by omega
    obtain⟨s,hs⟩:∃s,[user,pass][k]?=some s:=⟨_,List.getElem?_eq_getElem (by simpa using ng)⟩;have hcell:=(JC.out wo aW).2.2 k s hs;have mz:s.size<=100000:=by rcases BZ hs with ⟨_,rfl⟩|⟨_,rfl⟩<;>assumption
    have Ur:=O (show fY s=true->(0<k+1->fY user=true)/\(1<k+1->fY pass=true)from fun h=>by
     rcases BZ hs with ⟨rfl,rfl⟩|⟨rfl,rfl⟩
     ·exact⟨fun _=>h,fun h=>by omega⟩
     ·exact⟨fun _=>iJ (by omega),fun _=>h⟩)
    have Wy:=O (show fY s=false->(fY user&&fY pass)=false from fun h=>by
     rcases BZ hs with ⟨rfl,rfl⟩|⟨rfl,rfl⟩<;>simp[h])
    clear hs iJ bt;go_wp2;go_loopw[23] (anM s wl) (fun i _=>s.size-(intOf i).toNat)
    case atStart=>exact⟨0,by omega,rfl,rfl,aW⟩
    case round =>
     obtain⟨j,hj,rfl,dy,fe⟩:=hrel;by_cases hj2:j<s.size
     ·have anO:(j:Int)<(s.size:Int):=by omega
      have mi:=byte_at s j hj2;by_cases hb:La s[j]=true
      ·have HFI:=O (show fY s=false by
        unfold fY;rw[List.all_eq_false];exact⟨s[j],List.mem_of_getElem? mi,by simp[hb]⟩)
       have hor:s[j].toNat<32\/s[j].toNat=127:=by
        unfold La at hb;simp only[Bool.or_eq_true,decide_eq_true_eq,beq_iff_eq]at hb;rcases hb with h|h
        ·exact .inl (UInt8.lt_iff_toNat_lt.1 h)
        ·exact .inr (by rw[h];rfl)
       by_cases Zx:s[j].toNat<32
       ·have agi:(s[j].toNat:Int)<32:=by omega
        go_wp2;go_ret2;exact⟨wM.out (Wy.out HFI.out),jF.out.trans fe⟩
       ·have agi:¬(s[j].toNat:Int)<32:=by omega
        have av1:s[j].toNat=127:=by omega
        have agj:(s[j].toNat:Int)=127:=by omega
        go_wp2;go_ret2;exact⟨wM.out (Wy.out HFI.out),jF.out.trans fe⟩
      ·have hor:¬s[j].toNat<32/\¬s[j].toNat=127:=by
        unfold La at hb;simp only[Bool.or_eq_true,decide_eq_true_eq,beq_iff_eq,not_or]at hb;exact⟨fun h=>hb.1 (UInt8.lt_iff_toNat_lt.2 h),fun h=>hb.2 (UInt8.toNat_inj.1 h)⟩
       obtain⟨o1,o2⟩:=hor;have agi:¬(s[j].toNat:Int)<32:=by omega
       have agj:¬(s[j].toNat:Int)=127:=by omega
       have uR:=O (show(s.data.toList.take (j+1)).all (fun c=>!La c)=true by
        rw[List.take_add_one,mi,List.all_append,dy];simp[hb])
       clear mi dy;go_wp2;go_roundw
       case rel=>exact⟨j+1,by omega,by go_num,uR.out,fe⟩
       case measure=>simp[intOf];omega
     ·have anO:¬(j:Int)<(s.size:Int):=by omega
      have HFI:=O (show fY s=true by
       unfold fY;rw[List.take_of_length_le (by simp;omega)]at dy;exact dy)
      clear dy;go_wp2;go_roundw
      case rel=>exact⟨k+1,by omega,by go_num,(Ur.out HFI.out).1,(Ur.out HFI.out).2,fe⟩
      case measure=>simp[intOf];omega
   ·have anN:¬(k:Int)<2:=by omega
    have FQ:(fY user&&fY pass)=true:=by rw[iJ (by omega),bt (by omega)];rfl
    have HPO:=O (Gu.out FQ);obtain⟨c0,c1,_⟩:=JC.out wo aW;have o9:¬9223372036854775807<user.size+1:=by omega
    have fC:¬9223372036854775807<user.size+1+pass.size:=by omega
    clear iJ bt FQ;have anP:=O (fun W=>Gt (user++⟨#[58]⟩++pass) W (by simp[ByteArray.size_append];show user.size+1+pass.size<_;omega));have q_:=O (show(pk (user++⟨#[58]⟩++pass).data.toList).length<=400000 from by rw[JB];simp[ByteArray.data_append];omega);have Us:=O (show(⟨#[66,97,115,105,99,32]⟩++⟨(pk (user++⟨#[58]⟩++pass).data.toList).toArray⟩:ByteArray)=yh user pass from by
     apply Go.WideShapes.bytes_inj;unfold yh;simp[ByteArray.data_append])
    go_wp2_with fail
    refine(anP.out _).mono ?_;rintro e w7⟨rfl,jC⟩;generalize pk (user++⟨#[58]⟩++pass).data.toList=bl at *
    have jQ:¬9223372036854775807<6+bl.length:=by have:=q_.out;omega
    go_wp2;go_ret2;rw[<-Us.out]at HPO;exact⟨HPO.out,(jF.out.trans aW).trans jC⟩
end Go.Proofs.YtjdmjbdkdmbaiaaGreatDoor
