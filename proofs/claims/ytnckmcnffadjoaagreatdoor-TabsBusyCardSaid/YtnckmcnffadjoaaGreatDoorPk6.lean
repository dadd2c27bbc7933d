/- Lemmas for the law's walk. -/
import Derived.Test.YtnckmcnffadjoaaGreatDoorPk5
import Derived.Deep.RegionHeld3
import Derived.StillTailTactics
set_option maxRecDepth 100000
set_option maxHeartbeats 16000000
set_option linter.unusedSimpArgs false
namespace Go.Proofs.YtnckmcnffadjoaaGreatDoor
open Go.Proofs.Tryz
open Go.RowKit
variable {t:TypeId} {fuel j b i base n c:Nat} {cs:List Value} {s:aj} {w w':World} {e:Ending} {ss:List aj}
def um:gz:=⟨true,⟨#[97,46,116,101,115,116]⟩,443⟩
theorem Ai(w:World):Calls prog 23 #[] w fun e w'=>e=.returned (.agg um.cells.toArray)/\Fr aR w w':=by
 go_enter func23,ntmps23;go_wp2;refine aS (bu bC _ _ w.heap.size 32 #[.bool true,.string ⟨#[97,46,116,101,115,116]⟩,.int .i64 443] (0,0) _ rfl (aB _ _) underlying32 rfl af) rfl ?_;exact⟨rfl,(ae _ _).alloc _⟩
open Go.ChangeShapes Go.WideShapes Go.ChangeAt Go.RowKit Go.Deep
section
variable {H : Type} {enc : TypeId × Value → H} {P : Program} {W : World}
theorem ye{e:TypeId}:∀ {l:List (DataW H)} {d:DataW H},d∈l->∀n∈d.weights P e,n∈DataW.weightsAll P e l
 |d' :: r,d,hd,n,hn=>by
  simp only[DataW.weightsAll,bK];rcases bB.1 hd with rfl|h
  ·exact Or.inl hn
  ·exact Or.inr (ye h n hn)
def pC(P:Program)(t:TypeId)(d:DataW H):Prop:=∀n∈d.weights P t,n<=reachBytes
theorem n9{fs:Array Field}{x:DataW H×List MemPlace}(ht:P.underlying t=some (.struct fs))(h:DataW.trod enc P W 0 (fun _=>true) true fuel t cs=some x) :
  cs.length=P.cellsOf t/\∃n,∀(i:Nat) (t':TypeId) (o k:Nat),fs[i]?.map (fun f=>(f.type,f.offset))=some (t',o)->P.cellsOf t'=k->∃y,DataW.trod enc P W 0 (fun _=>true) true n t' ((cs.drop o).take k)=some y/\(pC P t x.1->pC P t' y.1):=by
 obtain⟨xs,n,_,rfl,hl,oz,hf⟩:=DataW.trod_struct ht h;refine⟨hl,n,fun i t' o k he hk=>?_⟩;obtain⟨f,hi,e⟩:=Option.map_eq_some_iff.1 he;injection e with e1 e2
 subst e1 e2 hk;have sO:i<fs.size:=(Array.getElem?_eq_some_iff.1 hi).1;refine⟨xs[i],by rw[hf i f hi];exact List.getElem?_eq_getElem _,fun hL m hm=>hL m ?_⟩;simp only[DataW.weights,ht];refine DataW.weights_mem_each (j:=i) (t:=f.type) (d:=xs[i].1) ?_ ?_ m hm
 ·rw[List.getElem?_map,Array.getElem?_toList,hi];rfl
 ·rw[List.getElem?_map,List.getElem?_eq_getElem ab];rfl
theorem nN{x:DataW H×List MemPlace}(ht:P.underlying t=some .bool)(h:DataW.trod enc P W 0 (fun _=>true) true fuel t cs=some x):∃b,cs=[.bool b]:=by
 obtain⟨b,e,_⟩:=DataW.trod_bool ht h;exact⟨b,e⟩
theorem kI{k:IntKind}{x:DataW H×List MemPlace}(ht:P.underlying t=some (.int k))(h:DataW.trod enc P W 0 (fun _=>true) true fuel t cs=some x):∃n,cs=[.int k n]/\(Lit.int k n).wf=true:=by
 obtain⟨b,e,_,hw⟩:=DataW.trod_int ht h;exact⟨b,e,hw⟩
theorem fl{x:DataW H×List MemPlace}(ht:P.underlying t=some .string)(h:DataW.trod enc P W 0 (fun _=>true) true fuel t cs=some x) :
  ∃s:aj,cs=[.string s]/\(pC P t x.1->s.size<=reachBytes):=by
 obtain⟨s,e,hx,_⟩:=DataW.trod_string ht h;refine⟨s,e,fun hL=>?_⟩;have:=hL s.data.toList.length (by rw[hx];simp[DataW.weights]);simpa using this
end
variable {H : Type} {enc : TypeId × Value → H} {W : World}
theorem vh:prog.cellsOf 4=1:=af
theorem pV:prog.cellsOf 3=1:=af
theorem iW:prog.cellsOf 9=1:=af
theorem BH:prog.cellsOf 32=3:=af
def gz.MF(o:gz):Prop:=o.host.size<=reachBytes
theorem aqB{α:Type}{l:List α}(h:l.length=3):∃a b c,l=[a,b,c]:=by
 match l,h with
 |[a,b,c],_=>exact⟨a,b,c,rfl⟩
theorem akR{α:Type}{l:List α}(h:l.length=2):∃a b,l=[a,b]:=by
 match l,h with
 |[a,b],_=>exact⟨a,b,rfl⟩
theorem MG{x:DataW H×List MemPlace}(h:DataW.trod enc prog W 0 (fun _=>true) true fuel 32 cs=some x) :
  ∃o:gz,cs=o.cells/\(Lit.int .i64 o.port).wf=true/\(pC prog 32 x.1->o.MF):=by
 obtain⟨hl,n,hf⟩:=n9 underlying32 h;rw[BH]at hl;obtain⟨c0,c1,c2,rfl⟩:=aqB hl;obtain⟨y0,h0,l0⟩:=hf 0 4 0 _ rfl vh;obtain⟨y1,h1,l1⟩:=hf 1 9 1 _ rfl iW;obtain⟨y2,h2,l2⟩:=hf 2 3 2 _ rfl pV;simp only[List.drop,List.take]at h0 h1 h2;obtain⟨b0,e0⟩:=nN underlying4 h0;obtain⟨b1,e1,w1⟩:=fl underlying9 h1;obtain⟨b2,e2,w2⟩:=kI underlying3 h2;simp at e0 e1 e2;subst e0 e1 e2
 exact⟨⟨b0,b1,b2⟩,rfl,w2,fun hL=>w1 (l1 hL)⟩
theorem MH{P:Program}{ts:List TypeId}{ds:List (DataW H)}(xM:(DataW.weightsEach P ts ds).all (· <=reachBytes)=true){d:DataW H}(ht:ts[j]?=some t)(hd:ds[j]?=some d):pC P t d:=fun n hn=>by
 have:=gA.1 xM n (DataW.weights_mem_each ht hd n hn);simpa using this
theorem v8{p:UInt8->Bool}{t:aG}(ht:∀c,t.head?=some c->p c=false):t.dropWhile p=t:=by
 cases t with
 |nil=>rfl
 |cons c t=>rw[List.dropWhile_cons_of_neg (by simp[ht c rfl])]
theorem jx.isOk{ws:List (aG)}(h:jx s w e w')(hl:gY s.data.toList=.ok ws)(hn:ws.length<=40) :
  ∃v,e=.returned (.tuple #[v,.nilIface])/\Strs w.heap.size w' v (dP ws)/\Fr aR w w':=by
 obtain⟨v,er,he,hf,hm⟩:=h;rw[hl]at hm;have Cr:if 40<ws.length then v=.slice none 0 0/\F9 w' er (some (4,none))else Strs w.heap.size w' v (dP ws)/\er=.nilIface:=hm
 rw[aq (show¬40<ws.length from ab)]at Cr;obtain⟨hv,hr⟩:=Cr;exact⟨v,by rw[he,hr],hv,hf⟩
theorem ib.isOk{a:aG}(h:ib b s i w e w')(hq:gM s.data.toList i=Option.some (a,j)) :
  e=.returned (.tuple #[.string ⟨a.toArray⟩,.bool true])/\du w' b s j/\Fr (one b) w w':=by
 obtain⟨he,hc,hf⟩:=h;rw[hq]at he;have h1:nP s.data.toList i=a:=by simp[nP,hq]
 have h2:pH s.data.toList i=j:=by simp[pH,hq]
 rw[h1]at he;rw[h2]at hc;exact⟨he,hc,hf⟩
theorem ib.isNone(h:ib b s i w e w')(hq:gM s.data.toList i=Option.none) :
  e=.returned (.tuple #[.string ⟨#[]⟩,.bool false])/\du w' b s i/\Fr (one b) w w':=by
 obtain⟨he,hc,hf⟩:=h;rw[hq]at he;have h1:nP s.data.toList i=[]:=by simp[nP,hq]
 have h2:pH s.data.toList i=i:=by simp[pH,hq]
 rw[h1]at he;rw[h2]at hc;exact⟨he,hc,hf⟩
def Dl:aG:=[34,40,41,58,60,62,63,64,91,92,93,123,125]
def kj(c:UInt8):Bool:=(decide (c.toNat<32)&&!decide (c.toNat=9))||decide (c.toNat=127)||decide (0<=Lib.indexByte Dl c)
theorem Nl(c:UInt8)(w:World) :
  Calls prog 219 #[.int .u8 (c.toNat:Int)] w fun e w'=>e=.returned (.bool (kj c))/\w'=w:=by
 by_cases h1:c.toNat<32/\¬c.toNat=9
 ·obtain⟨h1,h2⟩:=h1;have hb:=O (show kj c=true by unfold kj;rw[bf h1,bh h2];rfl);have i1:(c.toNat:Int)<32:=ab;have i2:¬(c.toNat:Int)=9:=ab;go_enter func219,ntmps219;go_wp2;go_ret;exact⟨fx hb.o.symm,rfl⟩
 ·by_cases h3:c.toNat=127
  ·have hb:=O (show kj c=true by unfold kj;rw[bf h3];simp);have i1:¬(c.toNat:Int)<32:=ab;have i3:(c.toNat:Int)=127:=ab;go_enter func219,ntmps219;go_wp2;go_ret;exact⟨fx hb.o.symm,rfl⟩
  ·have hb:=O (show kj c=decide (0<=Lib.indexByte Dl c)by
    unfold kj;rw[bh h3];by_cases h4:c.toNat<32
    ·have h9:c.toNat=9:=ab;rw[bf h4,bf h9];rfl
    ·rw[bh h4];rfl)
   have HI:=O (show Calls prog 202 #[.string ⟨#[34,40,41,58,60,62,63,64,91,92,93,123,125]⟩,.int .u8 (c.toNat:Int)] w fun e w'=>e=.returned (.int .i64 (Lib.indexByte Dl c))/\w'=w from
    (strings_IndexByte ⟨#[34,40,41,58,60,62,63,64,91,92,93,123,125]⟩ c.toNat w).mono fun e w' ⟨he,hw⟩=>⟨by
     have hc:((c.toNat:Int).toNat.toUInt8)=c:=aQ;rw[hc]at he;rw[he];rfl,hw⟩)
   by_cases h4:c.toNat<32
   ·have i1:(c.toNat:Int)<32:=ab;have i2:(c.toNat:Int)=9:=ab;have hi9:=HI.o;rw[i2]at hi9;have HI9:=O hi9;clear hi9;have i3:((c.toNat:Int)==127)=false:=by rw[aN];omega
    go_enter func219,ntmps219;go_wp2_with fail
    refine HI9.o.mono ?_;rintro e u⟨rfl,rfl⟩;go_wp2;go_ret
    first|exact⟨fx hb.o.symm,rfl⟩|exact⟨fx (show(((c.toNat:Int)==127)||decide (0<=Lib.indexByte Dl c))=kj c by rw[i3,hb.o];rfl),rfl⟩
   ·have i1:¬(c.toNat:Int)<32:=ab;have i2:¬(c.toNat:Int)=127:=ab;have i3:((c.toNat:Int)==127)=false:=by rw[aN];exact i2
    go_enter func219,ntmps219;go_wp2_with fail
    refine HI.o.mono ?_;rintro e u⟨rfl,rfl⟩;go_wp2;go_ret
    first|exact⟨fx hb.o.symm,rfl⟩|exact⟨fx (show(((c.toNat:Int)==127)||decide (0<=Lib.indexByte Dl c))=kj c by rw[i3,hb.o];rfl),rfl⟩
def sT:aG:=[32,42,44,45,46,59,61]
def qM(c:UInt8):Bool:=oG c||decide (0<=Lib.indexByte sT c)
def wj(s:aj):Bool:=s.data.toList.all qM
def ahi(s:aj)(w:World)(i:Value)(wr:World):Prop:=∃k:Nat,k<=s.size/\i=.int .i64 k/\(s.data.toList.take k).all qM=true/\Fr aR w wr
theorem zv(s:aj)(w:World)(hs:s.size<100000) :
  Calls prog 220 #[.string s] w fun e w'=>e=.returned (.bool (wj s))/\Fr aR w w':=by
 go_enter func220,ntmps220;go_wp2;go_loopw[7] (ahi s w) (fun i _=>s.size-(intOf i).toNat)
 case atStart=>exact⟨0,ab,rfl,rfl,ae _ _⟩
 case round =>
  obtain⟨k,hk,rfl,iB,cK⟩:=hrel;by_cases eX:k<s.size
  ·have py:(k:Int)<(s.size:Int):=ab;have qZ:=byte_at s k eX;have HI:=O (show Calls prog 202 #[.string ⟨#[32,42,44,45,46,59,61]⟩,.int .u8 (s[k].toNat:Int)] wr fun e w'=>e=.returned (.int .i64 (Lib.indexByte sT s[k]))/\w'=wr from
    (strings_IndexByte ⟨#[32,42,44,45,46,59,61]⟩ s[k].toNat wr).mono fun e w' ⟨he,hw⟩=>⟨by
     have hc:((s[k].toNat:Int).toNat.toUInt8)=s[k]:=aQ;rw[hc]at he;rw[he];rfl,hw⟩)
   have Nn:=O (show qM s[k]=true->(s.data.toList.take (k+1)).all qM=true from fun h=>by rw[bZ,qZ,j9,iB];simp[h]);have HNO:=O (show qM s[k]=false->wj s=false from fun h=>by unfold wj;rw[jl];exact⟨s[k],bT qZ,by simp[h]⟩);have sO:=s[k].toNat_lt;by_cases g0:s[k].toNat<=47
   ·have q1:(s[k].toNat:Int)<48:=ab;have q2:¬57<(s[k].toNat:Int):=ab;have q3:(s[k].toNat:Int)<97:=ab;have q4:¬122<(s[k].toNat:Int):=ab;have q5:(s[k].toNat:Int)<65:=ab;have q6:¬90<(s[k].toNat:Int):=ab;have Cs:oG s[k]=false:=by unfold oG;simp;omega
    have A':=O Cs;clear Cs qZ iB;go_wp2_with fail
    refine HI.o.mono ?_;rintro e u⟨rfl,rfl⟩;by_cases xm:0<=Lib.indexByte sT s[k]
    ·have Np:¬Lib.indexByte sT s[k]<0:=ab;have HY:=O (Nn.o (by unfold qM;rw[A'.o,bf xm];rfl));go_wp2;go_roundw
     case rel=>exact⟨k+1,ab,a_,HY.o,cK⟩
     case measure=>simp[intOf];omega
    ·have Np:Lib.indexByte sT s[k]<0:=ab;have HN:=O (HNO.o (by unfold qM;rw[A'.o,bh xm];rfl));go_wp2;go_ret;exact⟨by rw[HN.o];rfl,cK⟩
   ·skip
    by_cases g1:s[k].toNat<=57
    ·have q1:¬(s[k].toNat:Int)<48:=ab;have q2:¬57<(s[k].toNat:Int):=ab;have q3:(s[k].toNat:Int)<97:=ab;have q4:¬122<(s[k].toNat:Int):=ab;have q5:(s[k].toNat:Int)<65:=ab;have q6:¬90<(s[k].toNat:Int):=ab;have hy:=Nn.o (by unfold qM oG;simp;omega);have HY:=O hy;clear hy iB qZ;go_wp2;go_roundw
     case rel=>exact⟨k+1,ab,a_,HY.o,cK⟩
     case measure=>simp[intOf];omega
    ·skip
     by_cases g2:s[k].toNat<=64
     ·have q1:¬(s[k].toNat:Int)<48:=ab;have q2:57<(s[k].toNat:Int):=ab;have q3:(s[k].toNat:Int)<97:=ab;have q4:¬122<(s[k].toNat:Int):=ab;have q5:(s[k].toNat:Int)<65:=ab;have q6:¬90<(s[k].toNat:Int):=ab;have Cs:oG s[k]=false:=by unfold oG;simp;omega
      have A':=O Cs;clear Cs qZ iB;go_wp2_with fail
      refine HI.o.mono ?_;rintro e u⟨rfl,rfl⟩;by_cases xm:0<=Lib.indexByte sT s[k]
      ·have Np:¬Lib.indexByte sT s[k]<0:=ab;have HY:=O (Nn.o (by unfold qM;rw[A'.o,bf xm];rfl));go_wp2;go_roundw
       case rel=>exact⟨k+1,ab,a_,HY.o,cK⟩
       case measure=>simp[intOf];omega
      ·have Np:Lib.indexByte sT s[k]<0:=ab;have HN:=O (HNO.o (by unfold qM;rw[A'.o,bh xm];rfl));go_wp2;go_ret;exact⟨by rw[HN.o];rfl,cK⟩
     ·skip
      by_cases g3:s[k].toNat<=90
      ·have q1:¬(s[k].toNat:Int)<48:=ab;have q2:57<(s[k].toNat:Int):=ab;have q3:(s[k].toNat:Int)<97:=ab;have q4:¬122<(s[k].toNat:Int):=ab;have q5:¬(s[k].toNat:Int)<65:=ab;have q6:¬90<(s[k].toNat:Int):=ab;have hy:=Nn.o (by unfold qM oG;simp;omega);have HY:=O hy;clear hy iB qZ;go_wp2;go_roundw
       case rel=>exact⟨k+1,ab,a_,HY.o,cK⟩
       case measure=>simp[intOf];omega
      ·skip
       by_cases g4:s[k].toNat<=96
       ·have q1:¬(s[k].toNat:Int)<48:=ab;have q2:57<(s[k].toNat:Int):=ab;have q3:(s[k].toNat:Int)<97:=ab;have q4:¬122<(s[k].toNat:Int):=ab;have q5:¬(s[k].toNat:Int)<65:=ab;have q6:90<(s[k].toNat:Int):=ab;have Cs:oG s[k]=false:=by unfold oG;simp;omega
        have A':=O Cs;clear Cs qZ iB;go_wp2_with fail
        refine HI.o.mono ?_;rintro e u⟨rfl,rfl⟩;by_cases xm:0<=Lib.indexByte sT s[k]
        ·have Np:¬Lib.indexByte sT s[k]<0:=ab;have HY:=O (Nn.o (by unfold qM;rw[A'.o,bf xm];rfl));go_wp2;go_roundw
         case rel=>exact⟨k+1,ab,a_,HY.o,cK⟩
         case measure=>simp[intOf];omega
        ·have Np:Lib.indexByte sT s[k]<0:=ab;have HN:=O (HNO.o (by unfold qM;rw[A'.o,bh xm];rfl));go_wp2;go_ret;exact⟨by rw[HN.o];rfl,cK⟩
       ·skip
        by_cases g5:s[k].toNat<=122
        ·have q1:¬(s[k].toNat:Int)<48:=ab;have q2:57<(s[k].toNat:Int):=ab;have q3:¬(s[k].toNat:Int)<97:=ab;have q4:¬122<(s[k].toNat:Int):=ab;have q5:¬(s[k].toNat:Int)<65:=ab;have q6:90<(s[k].toNat:Int):=ab;have hy:=Nn.o (by unfold qM oG;simp;omega);have HY:=O hy;clear hy iB qZ;go_wp2;go_roundw
         case rel=>exact⟨k+1,ab,a_,HY.o,cK⟩
         case measure=>simp[intOf];omega
        ·skip
         have q1:¬(s[k].toNat:Int)<48:=ab;have q2:57<(s[k].toNat:Int):=ab;have q3:¬(s[k].toNat:Int)<97:=ab;have q4:122<(s[k].toNat:Int):=ab;have q5:¬(s[k].toNat:Int)<65:=ab;have q6:90<(s[k].toNat:Int):=ab;have Cs:oG s[k]=false:=by unfold oG;simp;omega
         have A':=O Cs;clear Cs qZ iB;go_wp2_with fail
         refine HI.o.mono ?_;rintro e u⟨rfl,rfl⟩;by_cases xm:0<=Lib.indexByte sT s[k]
         ·have Np:¬Lib.indexByte sT s[k]<0:=ab;have HY:=O (Nn.o (by unfold qM;rw[A'.o,bf xm];rfl));go_wp2;go_roundw
          case rel=>exact⟨k+1,ab,a_,HY.o,cK⟩
          case measure=>simp[intOf];omega
         ·have Np:Lib.indexByte sT s[k]<0:=ab;have HN:=O (HNO.o (by unfold qM;rw[A'.o,bh xm];rfl));go_wp2;go_ret;exact⟨by rw[HN.o];rfl,cK⟩
  ·have py:¬(k:Int)<(s.size:Int):=ab;have fc:=O (show wj s=true by
    unfold wj;rw[aC bG]at iB;exact iB)
   clear iB;go_wp2;go_ret;exact⟨by rw[fc.o];rfl,cK⟩
def DT:List Int:=[1116352408,1899447441,3049323471,3921009573,961987163,1508970993,2453635748,2870763221,3624381080,310598401,607225278,1426881987,1925078388,2162078206,2614888103,3248222580,3835390401,4022224774,264347078,604807628,770255983,1249150122,1555081692,1996064986,2554220882,2821834349,2952996808,3210313671,3336571891,3584528711,113926993,338241895,666307205,773529912,1294757372,1396182291,1695183700,1986661051,2177026350,2456956037,2730485921,2820302411,3259730800,3345764771,3516065817,3600352804,4094571909,275423344,430227734,506948616,659060556,883997877,958139571,1322822218,1537002063,1747873779,1955562222,2024104815,2227730452,2361852424,2428436474,2756734187,3204031479,3329325298]
def UU:List Int:=[1779033703,3144134277,1013904242,2773480762,1359893119,2600822924,528734635,1541459225]
structure tL (w:World):Prop where
 r:om w 2 .u32 DT
 b:om w 1 .u32 UU
theorem tL.fr(h:tL w)(hf:Fr aR w w'):tL w':=⟨h.r.fr hf,h.b.fr hf⟩
def KY(a b c:Int):Int:=bits .xor .u32 (bits .xor .u32 a b) c
def adE(x:Int):Int:=KY (ma x 25) (ma x 14) (x/8)
def adF(y:Int):Int:=KY (ma y 15) (ma y 13) (y/1024)
def Gz(X:aG)(l:List Int)(i:Nat):Int:=if i<16 then qN false (X.drop (4*i))else(l.getD (i-16) 0+l.getD (i-7) 0+adE (l.getD (i-15) 0)+adF (l.getD (i-2) 0))%4294967296
def GA(X:aG)(l:List Int)(i:Nat):List Int:=l++[Gz X l i]
def Yc(X:aG):Nat->List Int
 |0=>[]
 |i+1=>GA X (Yc X i) i
theorem P'(X:aG):∀i,(Yc X i).length=i
 |0=>rfl
 |i+1=>by rw[Yc,GA,aM,P' X i];rfl
theorem rb(x:Int)(w:World)(j n:Nat)(h:(decide (0<j/\j<32/\n<32/\bits .and .u64 (-(j:Int)+18446744073709551616) 31=(n:Int)))=true) :
  Calls prog 240 #[.int .u32 x,.int .i64 (-(j:Int))] w fun e w'=>e=.returned (.int .u32 (ma x n))/\w'=w:=by
 have h:=of_decide_eq_true h;exact(Zr x (-(j:Int)) n w ab ab h.2.2.2 h.2.2.1).mono fun _ _ ⟨he,hw⟩=>⟨he,hw.symm⟩
theorem anv(x:Int)(w:World):Calls prog 240 #[.int .u32 x,.int .i64 (-7)] w fun e w'=>e=.returned (.int .u32 (ma x 25))/\w'=w:=rb x w 7 25 dp
theorem ahJ(x:Int)(w:World):Calls prog 240 #[.int .u32 x,.int .i64 (-18)] w fun e w'=>e=.returned (.int .u32 (ma x 14))/\w'=w:=rb x w 18 14 dp
theorem ahK(x:Int)(w:World):Calls prog 240 #[.int .u32 x,.int .i64 (-17)] w fun e w'=>e=.returned (.int .u32 (ma x 15))/\w'=w:=rb x w 17 15 dp
theorem ahL(x:Int)(w:World):Calls prog 240 #[.int .u32 x,.int .i64 (-19)] w fun e w'=>e=.returned (.int .u32 (ma x 13))/\w'=w:=rb x w 19 13 dp
theorem anw(x:Int)(w:World):Calls prog 240 #[.int .u32 x,.int .i64 (-6)] w fun e w'=>e=.returned (.int .u32 (ma x 26))/\w'=w:=rb x w 6 26 dp
theorem ahM(x:Int)(w:World):Calls prog 240 #[.int .u32 x,.int .i64 (-11)] w fun e w'=>e=.returned (.int .u32 (ma x 21))/\w'=w:=rb x w 11 21 dp
theorem ahN(x:Int)(w:World):Calls prog 240 #[.int .u32 x,.int .i64 (-25)] w fun e w'=>e=.returned (.int .u32 (ma x 7))/\w'=w:=rb x w 25 7 dp
theorem anx(x:Int)(w:World):Calls prog 240 #[.int .u32 x,.int .i64 (-2)] w fun e w'=>e=.returned (.int .u32 (ma x 30))/\w'=w:=rb x w 2 30 dp
theorem ahO(x:Int)(w:World):Calls prog 240 #[.int .u32 x,.int .i64 (-13)] w fun e w'=>e=.returned (.int .u32 (ma x 19))/\w'=w:=rb x w 13 19 dp
theorem ahP(x:Int)(w:World):Calls prog 240 #[.int .u32 x,.int .i64 (-22)] w fun e w'=>e=.returned (.int .u32 (ma x 10))/\w'=w:=rb x w 22 10 dp
structure Sh where
 v0:Int
 v1:Int
 v2:Int
 v3:Int
 v4:Int
 v5:Int
 v6:Int
 v7:Int
def vM(w:World)(g:Nat)(h:Sh):Prop:=w.heap[g]?=some (.cells #[.int .u32 h.v0,.int .u32 h.v1,.int .u32 h.v2,.int .u32 h.v3,.int .u32 h.v4,.int .u32 h.v5,.int .u32 h.v6,.int .u32 h.v7] 291 (0,0))
def shP(ws:List Int)(k:Nat)(v:Sh):Int:=(v.v7+KY (ma v.v4 26) (ma v.v4 21) (ma v.v4 7)+bits .xor .u32 (bits .and .u32 v.v4 v.v5) (bits .and .u32 (ND v.v4) v.v6)+DT.getD k 0+ws.getD k 0)%4294967296
def shQ(v:Sh):Int:=(KY (ma v.v0 30) (ma v.v0 19) (ma v.v0 10)+KY (bits .and .u32 v.v0 v.v1) (bits .and .u32 v.v0 v.v2) (bits .and .u32 v.v1 v.v2))%4294967296
def UW(v:Sh)(p q:Int):Sh:=⟨(p+q)%4294967296,v.v0,v.v1,v.v2,(v.v3+p)%4294967296,v.v4,v.v5,v.v6⟩
def zJ(ws:List Int)(h:Sh):Nat->Sh
 |0=>h
 |k+1=>UW (zJ ws h k) (shP ws k (zJ ws h k)) (shQ (zJ ws h k))
def Qa(h v:Sh):Sh:=⟨(h.v0+v.v0)%4294967296,(h.v1+v.v1)%4294967296,(h.v2+v.v2)%4294967296,(h.v3+v.v3)%4294967296,(h.v4+v.v4)%4294967296,(h.v5+v.v5)%4294967296,(h.v6+v.v6)%4294967296,(h.v7+v.v7)%4294967296⟩
def zK(X:aG)(h:Sh):Sh:=Qa h (zJ (Yc X 64) h 64)
def sh0:Sh:=⟨1779033703,3144134277,1013904242,2773480762,1359893119,2600822924,528734635,1541459225⟩
def Bg(T:aG):Nat->Sh
 |0=>sh0
 |k+1=>zK (T.drop (64*k)) (Bg T k)
def Sh.list(s:Sh):List Int:=[s.v0,s.v1,s.v2,s.v3,s.v4,s.v5,s.v6,s.v7]
def KZ(l:aG):aG:=oQ false (Bg (vJ false l) ((vJ false l).length/64)).list
def ahR(T:aj)(g:Nat)(w:World)(t:Value)(wr:World):Prop:=∃k:Nat,64*k<=T.size/\t=.string (T.extract (64*k) T.size)/\vM wr g (Bg T.data.toList k)/\Fr aR w wr
def qH(w:World)(g:Nat)(l:List Int):Prop:=w.heap[g]?=some (.cells ((l++List.replicate (64-l.length) 0).map (Value.int .u32)).toArray 293 (0,0))
theorem Qi:∀l:aG,(vN l).length=(l.length+2)/3*4
 |[]=>rfl
 |[_]=>by simp[vN]
 |[_,_]=>by simp[vN]
 |a :: b :: c :: r=>by
  have ih:=Qi r;simp only[vN,List.length_cons]at ih ⊢;omega
open Go.RowKit Go.Shelf
attribute [local go_sem] Oper.semAt_some
theorem NR(s:aj)(c:UInt8)(w:World) :
  Calls prog 155 #[.string s,.string ⟨#[c]⟩] w fun e w'=>e=.returned (.int .i64 (Lib.indexByte s.data.toList c))/\w'=w:=by
 go_enter func155,ntmps155;go_wp2_with fail
 refine(stringslite_Index_one s c w).mono ?_;rintro e w1⟨rfl,rfl⟩;go_wp2;go_ret;exact⟨rfl,rfl⟩
def U5(w:World)(k:Nat):Nat:=match w.cell? ⟨k,0,none⟩with
 |some (.string s)=>s.size+1
 |_=>0
theorem Cz(s:aj)(k n:Nat)(w:World)(hn:1<=n)(hs:s.size<100000)
  (h0:w.heap[k]?=some (.cells #[.string s] 9 (0,0)))(h1:w.heap[k+1]?=some (.cells #[.string ⟨#[46]⟩] 9 (0,0)))(h2:w.heap[k+2]?=some (.cells #[.int .i64 0] 3 (0,0))) :
  U3 Fence.wide n prog 234 #[.pointer (some ⟨k+1,0,none⟩),.pointer (some ⟨k,0,none⟩),.pointer (some ⟨k+2,0,none⟩)] (fun x:aj=>Value.string x) k (jc 46 s) w:=by
 intro l J Jx W hfW hJ hJx hY hJ0;have b0:=hfW.keep h0 (fun h=>h);have b1:=hfW.keep h1 (fun h=>h);have b2:=hfW.keep h2 (fun h=>h);have c0:W.cell? ⟨k,0,none⟩=some (.string s):=by simp[World.cell?,b0]
 have c1:W.cell? ⟨k+1,0,none⟩=some (.string ⟨#[46]⟩):=by simp[World.cell?,b1]
 refine callsIn_of_wp func234 rfl trivial ?_ rfl;simp only[ntmps234,aW,List.length_cons,List.length_nil,Nat.reduceAdd,Nat.reduceSub,Array.replicate_succ,Array.replicate_zero,List.push_toArray,List.append_toArray,List.nil_append,List.cons_append];gi_wp2
 gi_loopw [] (fun wr=>∃(pre:List aj) (r:aj),pre++jc 46 r=jc 46 s/\r.size<=s.size/\wr.heap[k]?=some (.cells #[.string r] 9 (0,0))/\wr.heap[k+1]?=some (.cells #[.string ⟨#[46]⟩] 9 (0,0))/\wr.heap[k+2]?=some (.cells #[.int .i64 0] 3 (0,0))/\J pre wr) (fun wr=>U5 wr k)
 case atStart=>exact⟨[],s,rfl,ay _,b0,b1,b2,hJ0⟩
 case round =>
  obtain⟨pre,r,y_,hrs,d0,d1,d2,hj⟩:=hrel;have e0:wr.cell? ⟨k,0,none⟩=some (.string r):=by simp[World.cell?,d0]
  have e1:wr.cell? ⟨k+1,0,none⟩=some (.string ⟨#[46]⟩):=by simp[World.cell?,d1]
  have e2:wr.cell? ⟨k+2,0,none⟩=some (.int .i64 0):=by simp[World.cell?,d2]
  gi_wp2_with fail
  refine⟨trivial,?_⟩;refine(callsIn_wide.2 (NR r 46 wr)).mono ?_;rintro e u⟨rfl,rfl⟩;by_cases xm:0<=Lib.indexByte r.data.toList 46
  ·obtain⟨i,hi⟩:∃i:Nat,Lib.indexByte r.data.toList 46=(i:Int):=⟨(Lib.indexByte r.data.toList 46).toNat,ab⟩;have hil:i<r.size:=by have:=U4 hi;simpa using this
   have HPH:=O (D2 46 r i hi);rw[hi];clear hi xm;have q0:¬(i:Int)<0:=ab;have q1:(0:Int)<=(i:Int):=ab;have q2:(i:Int)<=(r.size:Int):=ab;have q3:(i:Int)+1<=(r.size:Int):=ab;have q4:(0:Int)<=(i:Int)+1:=ab;obtain⟨fn,tmps,assign,body,hy,hR⟩:=hY pre (r.extract 0 i) u hj ⟨jc 46 (r.extract (i+1) r.size),by rw[cH,List.singleton_append, <-HPH.o];exact y_⟩;gi_wp2;refine hR.mono ?_
   rintro e W3(⟨rfl,hJ3,IA⟩|⟨rfl,xU⟩)
   ·have f0:=(IA k ab ab).trans d0;have f1:=(IA (k+1) ab ab).trans d1;have f2:=(IA (k+2) ab ab).trans d2;clear e0 e1 e2 IA;have e0:W3.cell? ⟨k,0,none⟩=some (.string r):=by simp[World.cell?,f0]
    have e1:W3.cell? ⟨k+1,0,none⟩=some (.string ⟨#[46]⟩):=by simp[World.cell?,f1]
    have e3:W3.frozen? ⟨k,0,none⟩=false:=by simp[World.frozen?,f0]
    gi_wp2;have g0:(W3.setCell ⟨k,0,none⟩ (.string (r.extract (i+1) r.size))).heap[k]?=some (.cells #[.string (r.extract (i+1) r.size)] 9 (0,0)):=by simp[World.setCell,Array.getElem?_modify,f0]
    have hz:(r.extract (i+1) r.size).size=r.size-(i+1):=by rw[gB];omega
    refine⟨⟨pre++[r.extract 0 i],r.extract (i+1) r.size,by rw[cH,List.singleton_append, <-HPH.o];exact y_,ab,g0,(Below.heap_setCell _ _ _ _ aQ).trans f1,(Below.heap_setCell _ _ _ _ aQ).trans f2,hJ _ _ _ hJ3 ((ae (fun j=>j=k) W3).setCell (p:=⟨k,0,none⟩) (fun _=>rfl) _)⟩,?_⟩;unfold U5;simp only[World.cell?,g0,d0];simp;omega
   ·gi_wp2;refine aS (results_none rfl _ _ _) rfl ?_;exact⟨⟨_,rfl⟩,.inr ⟨pre++[r.extract 0 i],⟨jc 46 (r.extract (i+1) r.size),by rw[cH,List.singleton_append, <-HPH.o];exact y_⟩,xU⟩⟩
  ·have HPM:=O (show pre++[r]=jc 46 s by rw[<-B_ 46 r xm];exact y_);obtain⟨fn,tmps,assign,body,hy,hR⟩:=hY pre r u hj ⟨[],by rw[dR];exact HPM.o⟩;have q0:Lib.indexByte r.data.toList 46<0:=ab;clear xm;gi_wp2;refine hR.mono ?_;rintro e W3(⟨rfl,hJ3,IA⟩|⟨rfl,xU⟩)
   ·gi_wp2;go_end0;exact⟨⟨_,rfl⟩,.inl (by rw[<-HPM.o];exact hJ3)⟩
   ·gi_wp2;go_end0;exact⟨⟨_,rfl⟩,.inr ⟨pre++[r],⟨[],by rw[dR];exact HPM.o⟩,xU⟩⟩
theorem Strs.pop{a:Addr}{x:aj}(h:Strs base w (.slice (some a) n c) (ss++[x])):Strs base w (.slice (some a) ss.length c) ss:=by
 obtain⟨h1,h2⟩:=h;rcases h2 with ⟨hv,_⟩|⟨g,cap,cur,hv,hg,hh,h3,h4,h5,h6⟩
 ·cases hv
 ·cases hv;refine⟨aQ,Or.inr ⟨g,c,cur,rfl,hg,hh,?_,h4,h5,?_⟩⟩
  ·simp at h3;omega
  ·have e:(cur.toList.take (ss.length*1))=(cur.toList.take ((ss++[x]).length*1)).take ss.length:=by
    rw[kA];congr 1;simp
   rw[e,h6];simp
theorem Strs.U6(h:Strs base w (.slice none n c) ss):ss=[]:=by
 rcases h.2 with ⟨_,hn⟩|⟨g,cap,cur,hq,_⟩
 ·exact cg hn
 ·cases hq
theorem Strs.cap{base:Nat}{w:World}{a:Option Addr}{n c:Nat}{ss:List aj}(h:Strs base w (.slice a n c) ss):ss.length<=c:=by
 rcases h.2 with ⟨hq,hn⟩|⟨g,cap,cur,hq,_,_,h3,_⟩
 ·rw[hn];exact aI _
 ·cases hq;exact h3
theorem Rx{α:Type}{l:List α}{k:Nat}{x:α}(h:l[k]?=some x):l.drop k=x :: l.drop (k+1):=by
 obtain⟨hk,e⟩:=List.getElem?_eq_some_iff.1 h;rw[cR hk,e]
theorem nV(l:List (aG))(p:aG):dP (l++[p])=dP l++[⟨p.toArray⟩]:=by unfold dP;simp
theorem ft(l:List (aG)):(dP l).length=l.length:=by unfold dP;simp
theorem zP(c:UInt8):∀l:aG,(dZ c l).length<=l.length+1
 |[]=>by simp[dZ]
 |x :: l=>by
  have ih:=zP c l;have hne:=xk c l;by_cases h:x=c
  ·subst h;rw[rF];simp;omega
  ·cases e:dZ c l with
   |nil=>exact absurd e hne
   |cons p ps=>rw[ob h e];rw[e]at ih;simp at ih ⊢; omega
theorem D3{l:List (aG)}(h:Strs base w (.slice none n c) (dP l)):l.length=0:=by
 rw[<-ft l,Strs.U6 h];rfl
theorem U7(l:List (aG))(p:aG)(last:Bool):(ij l p last).length<=l.length+1:=by
 have hp:(zo l).length<=l.length:=by unfold zo;split<;>simp
 unfold ij;split
 ·split<;>simp<;>omega
 ·split
  ·split<;>simp
  ·simp
theorem join_eq(l:List (aG)):Lib.join ((dP l).map (·.data.toList)) [47]=v_ 47 l:=by
 have e:(dP l).map (·.data.toList)=l:=by unfold dP;rw[im];simp[Function.comp_def]
 rw[e]
 induction l with
 |nil=>rfl
 |cons p ps ih =>
  cases ps with
  |nil=>simp[Lib.join,v_]
  |cons q qs =>
   have ih':=ih (by unfold dP;rw[im];simp[Function.comp_def]);rw[v_, <-ih'];simp[Lib.join]
theorem Ry(v:Value)(l:List (aG))(w:World)(hv:fN w v (dP l))(hn:l.length<=140737488355328)(hlen:(v_ 47 l).length<=140737488355328) :
  Calls prog 207 #[v,.string ⟨#[47]⟩] w fun e w'=>e=.returned (.string ⟨(v_ 47 l).toArray⟩)/\Fr aR w w':=by
 have ej:=join_eq l;rcases hv with ⟨a,c,rfl,hs,_⟩|⟨bk,o,c,rfl,h1,h2,h3,h4⟩
 ·have hl:l=[]:=by cases l with|nil=>rfl|cons p ps=>simp[dP]at hs
  subst hl;exact(strings_Join_none _ _ _ _).mono (by rintro e w1 ⟨rfl,rfl⟩;exact⟨rfl,ae _ _⟩)
 ·refine(strings_Join bk o c (dP l) ⟨#[47]⟩ w h4 h3 (by rw[ft];exact hn) h1 (by show(Lib.join _ [47]).length<=_;rw[ej];exact hlen)).mono ?_;rintro e w1⟨rfl,hb⟩;refine⟨?_,fj hb⟩;show Ending.returned (.string ⟨(Lib.join _ [47]).toArray⟩)=_;rw[ej]
def ah7(s:aG)(base:Nat)(w1:World)(parts:List (aG))(v i:Value)(wr:World):Prop :=
 ∃(k:Nat) (l:List (aG)),k<=parts.length/\i=.int .i64 k/\Strs base wr v (dP l)/\l.length<=k/\pW l (parts.drop k)=mD s/\Fr aR w1 wr
theorem Rz(s:aj):∃t:aj,t.data.toList=BS s.data.toList/\t.size<=s.size+1/\(Lib.hasPrefix s.data.toList [47]=true->t=s)/\(Lib.hasPrefix s.data.toList [47]=false->t=⟨#[47]⟩++s):=by
 have hp:Lib.hasPrefix s.data.toList [47]=true↔s.data.toList.head?=some 47:=by
  cases h:s.data.toList with
  |nil=>simp[Lib.hasPrefix]
  |cons a l=>simp[Lib.hasPrefix];exact eq_comm
 cases h:Lib.hasPrefix s.data.toList [47]
 ·have h1:(⟨#[47]⟩:aj).size=1:=rfl;refine⟨⟨#[47]⟩++s,?_,by rw[jg,h1];omega,(fun e=>by cases e),fun _=>rfl⟩;unfold BS;rw[aq (fun e=>by rw[hp.2 e]at h;cases h)];simp
 ·refine⟨s,?_,ab,fun _=>rfl,(fun e=>by cases e)⟩;unfold BS;rw[az (hp.1 h)]
theorem RA(s:aG):(BS s).length<=s.length+1:=by unfold BS;split<;>simp
theorem join_le(c:UInt8):∀ps:List (aG),(v_ c ps).length<=(ps.map fun p=>p.length+1).sum
 |[]=>by simp[v_]
 |[p]=>by simp[v_]
 |p :: q :: ps=>by
  have ih:=join_le c (q :: ps);rw[v_];simp at ih ⊢;omega
theorem Lg(f:aG->Nat):∀l:List (aG),((l.dropLast).map f).sum<=(l.map f).sum
 |[]=>aQ
 |[p]=>aQ
 |p :: q :: ps=>by
  have ih:=Lg f (q :: ps);rw[List.dropLast_cons_of_ne_nil aQ];simp at ih ⊢;omega
theorem U8:∀(ps l:List (aG)),((pW l ps).map fun p=>p.length+1).sum<=(l.map fun p=>p.length+1).sum+(ps.map fun p=>p.length+1).sum
 |[],l=>by simp[pW]
 |p :: ps,l=>by
  have ih:=U8 ps (ij l p ps.isEmpty);have au4:((zo l).map fun p=>p.length+1).sum<=(l.map fun p=>p.length+1).sum:=by
   unfold zo;split
   ·exact Lg _ l
   ·exact ay _
  have jq:((ij l p ps.isEmpty).map fun p=>p.length+1).sum<=(l.map fun p=>p.length+1).sum+(p.length+1):=by
   unfold ij;split
   ·split
    ·simp only[bH,List.sum_append,cA,dn,List.sum_cons,List.sum_nil,List.length_nil];omega
    ·omega
   ·split
    ·split
     ·simp only[bH,List.sum_append,cA,dn,List.sum_cons,List.sum_nil,List.length_nil];omega
     ·omega
    ·simp only[bH,List.sum_append,cA,dn,List.sum_cons,List.sum_nil];omega
  show((pW (ij l p ps.isEmpty) ps).map fun p=>p.length+1).sum<=_;simp at ih jq ⊢;omega
theorem Bi(c:UInt8):∀l:aG,((dZ c l).map fun p=>p.length+1).sum<=l.length+1
 |[]=>by simp[dZ]
 |x :: l=>by
  have ih:=Bi c l;have hne:=xk c l;by_cases h:x=c
  ·subst h;rw[rF];simp at ih ⊢; omega
  ·cases e:dZ c l with
   |nil=>exact absurd e hne
   |cons p ps=>rw[ob h e];rw[e]at ih;simp at ih ⊢; omega
theorem RB(s:aG):(oM s).length<=s.length+2:=by
 have h1:=join_le 47 (mD s);have h2:=U8 (dZ 47 (BS s)) [];have h3:=Bi 47 (BS s);have h4:=RA s;unfold oM;unfold mD at h1 ⊢;simp at h1 h2 h3 h4 ⊢;omega
theorem RC(s:aj)(w:World)(hs:s.size<100000) :
  Calls prog 178 #[.string s] w fun e w'=>e=.returned (.string ⟨(oM s.data.toList).toArray⟩)/\Fr aR w w':=by
 obtain⟨t,ht,X8,TF,PO⟩:=Rz s;obtain⟨parts,D4⟩:∃parts,parts=dZ 47 t.data.toList:=⟨_,rfl⟩;have Fg:parts.length<=100001:=by rw[D4];have:=zP 47 t.data.toList;simp at this;omega
 have Yf:jc 47 t=dP parts:=by rw[D4];rfl
 have HGO:=O (show pW [] parts=mD s.data.toList by rw[D4,ht];rfl);have zO:=O (show(oM s.data.toList).length<=140737488355328 by have:=RB s.data.toList;simp at this;omega);obtain⟨W,hW⟩:∃W,W=w.alloc (.cells ((jc 47 t).map Value.string).toArray 9):=⟨_,rfl⟩;have hfW:Fr aR w W:=by rw[hW];exact(ae aR w).alloc _
 have hzW:W.heap.size=w.heap.size+1:=by rw[hW];simp
 have lZ:W.heap[w.heap.size]?=some (.cells ((jc 47 t).map Value.string).toArray 9 (0,0)):=by rw[hW];exact aB _ _
 have xi:=O ((yB t 47 w ab).mono (fun e w' h=>by rw[<-hW,Yf,ft]at h;exact⟨h.1,h.2.symm⟩):Calls prog 125 #[.string t,.string ⟨#[47]⟩] w fun e w'=>e=.returned (.slice (some ⟨w.heap.size,0,none⟩) parts.length parts.length)/\W=w');rw[Yf]at lZ;clear hW Yf;have ah8:=O (show∀U,Fr aR W U->∀(k:Nat) p,parts[k]?=some p->U.cell? ⟨w.heap.size,k,none⟩=some (.string ⟨p.toArray⟩)from fun U hU k p hp=>by
  have:=hU.keep lZ (fun h=>h);simp[World.cell?,this,dP,hp])
 clear lZ;have U9:∀(v:Value) (wr:World) (l:List (aG)),Strs (w.heap.size+1) wr v (dP l)->l.length<=100001->l=mD s.data.toList->Fr aR W wr ->
   Calls prog 207 #[v,.string ⟨#[47]⟩] wr fun e w'=>e=.returned (.string ⟨(oM s.data.toList).toArray⟩)/\Fr aR w w':=fun v wr l hv hl e hf=>by
  have:=(Ry v l wr hv.at ab (by rw[e];exact zO.o)).mono (R':=fun e w'=>e=.returned (.string ⟨(oM s.data.toList).toArray⟩)/\Fr aR w w') (fun e' w' ⟨h1,h2⟩=>⟨by rw[h1,e];rfl,(hfW.trans hf).trans h2⟩);exact this
 have U9:=O U9;have ah9:=O (show Calls prog 177 #[.string s,.string ⟨#[47]⟩] w fun e w'=>e=.returned (.bool (Lib.hasPrefix s.data.toList (⟨#[47]⟩:aj).data.toList))/\w=w' from(strings_HasPrefix s ⟨#[47]⟩ w).mono fun e w' h=>⟨h.1,h.2.symm⟩);cases vO:Lib.hasPrefix s.data.toList [47]
 case' false =>
  have e:=PO vO;have U_:=xi.o;rw[e]at U_;clear TF PO ht e D4;go_enter func178,ntmps178;go_wp2_with fail
  refine ah9.o.mono ?_;rintro e u⟨rfl,rfl⟩;rw[show Lib.hasPrefix s.data.toList (⟨#[47]⟩:aj).data.toList=false from vO];go_wp2_with fail
  refine U_.mono ?_;rintro e u⟨rfl,rfl⟩
 case' true =>
  have e:=TF vO;have U_:=xi.o;rw[e]at U_;clear TF PO ht e D4;go_enter func178,ntmps178;go_wp2_with fail
  refine ah9.o.mono ?_;rintro e u⟨rfl,rfl⟩;rw[show Lib.hasPrefix s.data.toList (⟨#[47]⟩:aj).data.toList=true from vO];go_wp2_with fail
  refine U_.mono ?_;rintro e u⟨rfl,rfl⟩
 all_goals
  go_wp2;go_loopw[3,17] (ah7 s.data.toList (w.heap.size+1) W parts) (fun _ i _=>parts.length-(intOf i).toNat)
  case atStart=>exact⟨0,[],aI _,rfl,kT _ _,ay _,by rw[eD];exact HGO.o,ae _ _⟩
  case round =>
   obtain⟨k,l,hk,rfl,hv,hlk,hgo,cK⟩:=hrel;have HG:=O hgo;clear hgo;obtain⟨av,cv,Lh⟩:=hv.form;rw[ft]at Lh;subst Lh;have Cp:w.heap.size+1<=wr.heap.size:=by have:=cK.size;omega
   by_cases eX:k<parts.length
   ·have py:(k:Int)<(parts.length:Int):=ab;obtain⟨p,hp⟩:∃p,parts[k]?=some p:=⟨_,List.getElem?_eq_getElem eX⟩;have hcell:=ah8.o wr cK k p hp;have TG:=O (show pW l (parts.drop k)=pW (ij l p (parts.drop (k+1)).isEmpty) (parts.drop (k+1))by rw[Rx hp];rfl);clear hp;have CY:(⟨p.toArray⟩:aj).toList=p:=by rw[aO]
    obtain⟨pb,Yf⟩:∃pb:aj,pb=⟨p.toArray⟩:=⟨_,rfl⟩;rw[<-Yf]at hcell CY;have HPB:=O Yf;clear Yf;have FD:=O (show∀(l':List (aG)),l'=ij l p (parts.drop (k+1)).isEmpty->l'.length<=k+1/\pW l' (parts.drop (k+1))=mD s.data.toList from fun l' e=>by
     have:=U7 l p (parts.drop (k+1)).isEmpty;rw[e];exact⟨ab,by rw[<-TG.o];exact HG.o⟩)
    by_cases hla:k+1=parts.length
    ·have HE:=O (show(parts.drop (k+1)).isEmpty=true by rw[hla];simp);have hl1:((k:Int)==(parts.length:Int)-1)=true:=dT.2 ab;clear hla;by_cases sV:p=Uk
     ·subst sV;have Fg:pb.toList=[46,46]:=CY;clear CY;by_cases hlen:1<l.length
      ·have hli:(1:Int)<(l.length:Int):=ab;obtain⟨l0,x,TH⟩:∃l0 x,l=l0++[x]:=⟨l.dropLast,l.getLast (by intro e;rw[e]at hlen;simp at hlen),(List.dropLast_concat_getLast _).symm⟩;have hll:l.length=l0.length+1:=by rw[TH];simp
       obtain⟨ad,had⟩:∃ad,av=some ad:=by
        cases av with
        |none=>exact absurd (D3 hv) ab
        |some ad=>exact⟨ad,rfl⟩
       subst had;have NS:=O (show zo l=l0 by unfold zo;rw[az hlen,TH];simp);rw[TH,nV]at hv;rw[hll];rw[show(l0++[x]).length=(dP l0).length+1 from by rw[ft];simp]at hv;replace hv:=Strs.pop hv;rw[ft]at hv;have q1:(0:Int)<=(l0.length:Int):=ab;have q4:(l0.length:Int)<=(cv:Int):=by have:=Strs.cap hv;rw[ft]at this;omega
       have q5:l0.length<=cv:=ab;have q2:(1:Int)<(l0.length:Int)+1:=ab;have q3:(l0.length:Int)+1-1=(l0.length:Int):=ab;clear hli TH;have HX:=O (FD.o (l0++[[]]) (by unfold ij;rw[az rfl,HE.o,NS.o];rfl))
       go_wp2_with (at_builtin;refine nO rfl _ _ rfl (w.heap.size+1) (.slice (some ad) _ cv) (dP l0) rfl (by apply iE;exact hv) ⟨wr.heap.size,0,none⟩ 1 ⟨#[]⟩ rfl (jv _ _ _ _) (by rw[ft];omega) bG ?_;intro v2 w3 BO CO)
       have ic:=O ((cK.alloc (.cells #[.string ⟨#[]⟩] 9)).fQ CO (fun j hj=>by have:=hv.block j hj;omega));go_roundw
       case rel=>exact⟨k+1,l0++[[]],ab,a_,by rw[nV];exact BO,(HX.o).1,(HX.o).2,ic.o⟩
       case measure=>simp[intOf];omega
      ·have hli:¬(1:Int)<(l.length:Int):=ab;have NS:=O (show zo l=l by unfold zo;rw[aq hlen]);have HX:=O (FD.o (l++[[]]) (by unfold ij;rw[az rfl,HE.o,NS.o];rfl));go_wp2_with (at_builtin;refine nO rfl _ _ rfl (w.heap.size+1) (.slice av _ cv) (dP l) rfl (by apply iE;exact hv) ⟨wr.heap.size,0,none⟩ 1 ⟨#[]⟩ rfl (jv _ _ _ _) (by rw[ft];omega) bG ?_;intro v2 w3 BO CO)
       have ic:=O ((cK.alloc (.cells #[.string ⟨#[]⟩] 9)).fQ CO (fun j hj=>by have:=hv.block j hj;omega));go_roundw
       case rel=>exact⟨k+1,l++[[]],ab,a_,by rw[nV];exact BO,(HX.o).1,(HX.o).2,ic.o⟩
       case measure=>simp[intOf];omega
     ·have adN:¬pb.toList=[46,46]:=fun e=>sV (CY.symm.trans e);have an1:(pb.toList== [46,46])=false:=aN.2 adN;by_cases zj:p=ac9
      ·subst zj;have Fg:pb.toList=[46]:=CY;clear CY;have HX:=O (FD.o (l++[[]]) (by unfold ij;rw[aq sV,az rfl,HE.o];rfl));clear sV;go_wp2_with (at_builtin;refine nO rfl _ _ rfl (w.heap.size+1) (.slice av _ cv) (dP l) rfl (by apply iE;exact hv) ⟨wr.heap.size,0,none⟩ 1 ⟨#[]⟩ rfl (jv _ _ _ _) (by rw[ft];omega) bG ?_;intro v2 w3 BO CO)
       have ic:=O ((cK.alloc (.cells #[.string ⟨#[]⟩] 9)).fQ CO (fun j hj=>by have:=hv.block j hj;omega));go_roundw
       case rel=>exact⟨k+1,l++[[]],ab,a_,by rw[nV];exact BO,(HX.o).1,(HX.o).2,ic.o⟩
       case measure=>simp[intOf];omega
      ·have adO:¬pb.toList=[46]:=fun e=>zj (CY.symm.trans e);have an2:(pb.toList== [46])=false:=aN.2 adO;have HX:=O (FD.o (l++[p]) (by unfold ij;rw[aq sV,aq zj]));clear sV zj CY;go_wp2_with (at_builtin;refine nO rfl _ _ rfl (w.heap.size+1) (.slice av _ cv) (dP l) rfl (by apply iE;exact hv) ⟨wr.heap.size,0,none⟩ 1 pb rfl (jv _ _ _ _) (by rw[ft];omega) bG ?_;intro v2 w3 BO CO)
       have ic:=O ((cK.alloc (.cells #[.string pb] 9)).fQ CO (fun j hj=>by have:=hv.block j hj;omega));go_roundw
       case rel=>exact⟨k+1,l++[p],ab,a_,by rw[nV, <-HPB.o];exact BO,(HX.o).1,(HX.o).2,ic.o⟩
       case measure=>simp[intOf];omega
    ·have HE:=O (show(parts.drop (k+1)).isEmpty=false by
      cases e:parts.drop (k+1)with
      |nil=>have:=ar List.length e;simp at this;omega
      |cons a b=>rfl)
     have hl1:((k:Int)==(parts.length:Int)-1)=false:=aN.2 ab;by_cases sV:p=Uk
     ·subst sV;have Fg:pb.toList=[46,46]:=CY;clear CY;by_cases hlen:1<l.length
      ·have hli:(1:Int)<(l.length:Int):=ab;obtain⟨l0,x,TH⟩:∃l0 x,l=l0++[x]:=⟨l.dropLast,l.getLast (by intro e;rw[e]at hlen;simp at hlen),(List.dropLast_concat_getLast _).symm⟩;have hll:l.length=l0.length+1:=by rw[TH];simp
       obtain⟨ad,had⟩:∃ad,av=some ad:=by
        cases av with
        |none=>exact absurd (D3 hv) ab
        |some ad=>exact⟨ad,rfl⟩
       subst had;have NS:=O (show zo l=l0 by unfold zo;rw[az hlen,TH];simp);rw[TH,nV]at hv;rw[hll];rw[show(l0++[x]).length=(dP l0).length+1 from by rw[ft];simp]at hv;replace hv:=Strs.pop hv;rw[ft]at hv;have q1:(0:Int)<=(l0.length:Int):=ab;have q4:(l0.length:Int)<=(cv:Int):=by have:=Strs.cap hv;rw[ft]at this;omega
       have q5:l0.length<=cv:=ab;have q2:(1:Int)<(l0.length:Int)+1:=ab;have q3:(l0.length:Int)+1-1=(l0.length:Int):=ab;clear hli TH;have HX:=O (FD.o (l0) (by unfold ij;rw[az rfl,HE.o,NS.o];rfl));go_wp2;go_roundw
       case rel=>exact⟨k+1,l0,ab,a_,hv,(HX.o).1,(HX.o).2,cK⟩
       case measure=>simp[intOf];omega
      ·have hli:¬(1:Int)<(l.length:Int):=ab;have NS:=O (show zo l=l by unfold zo;rw[aq hlen]);have HX:=O (FD.o (l) (by unfold ij;rw[az rfl,HE.o,NS.o];rfl));go_wp2;go_roundw
       case rel=>exact⟨k+1,l,ab,a_,hv,(HX.o).1,(HX.o).2,cK⟩
       case measure=>simp[intOf];omega
     ·have adN:¬pb.toList=[46,46]:=fun e=>sV (CY.symm.trans e);have an1:(pb.toList== [46,46])=false:=aN.2 adN;by_cases zj:p=ac9
      ·subst zj;have Fg:pb.toList=[46]:=CY;clear CY;have HX:=O (FD.o (l) (by unfold ij;rw[aq sV,az rfl,HE.o];rfl));clear sV;go_wp2;go_roundw
       case rel=>exact⟨k+1,l,ab,a_,hv,(HX.o).1,(HX.o).2,cK⟩
       case measure=>simp[intOf];omega
      ·have adO:¬pb.toList=[46]:=fun e=>zj (CY.symm.trans e);have an2:(pb.toList== [46])=false:=aN.2 adO;have HX:=O (FD.o (l++[p]) (by unfold ij;rw[aq sV,aq zj]));clear sV zj CY;go_wp2_with (at_builtin;refine nO rfl _ _ rfl (w.heap.size+1) (.slice av _ cv) (dP l) rfl (by apply iE;exact hv) ⟨wr.heap.size,0,none⟩ 1 pb rfl (jv _ _ _ _) (by rw[ft];omega) bG ?_;intro v2 w3 BO CO)
       have ic:=O ((cK.alloc (.cells #[.string pb] 9)).fQ CO (fun j hj=>by have:=hv.block j hj;omega));go_roundw
       case rel=>exact⟨k+1,l++[p],ab,a_,by rw[nV, <-HPB.o];exact BO,(HX.o).1,(HX.o).2,ic.o⟩
       case measure=>simp[intOf];omega
   ·have py:¬(k:Int)<(parts.length:Int):=ab;have he:l=mD s.data.toList:=by
     have:=HG.o;rw[List.drop_of_length_le ab]at this;exact this
    have hj:=O (U9.o _ wr l hv ab he cK);clear he;go_wp2_with fail
    refine hj.o.mono ?_;rintro e w9⟨rfl,ZD⟩;go_wp2;go_ret;exact⟨rfl,ZD⟩
