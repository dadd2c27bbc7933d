/- Lemmas for the law's walk. -/
import Derived.Test.YtnckmcnffadjoaaGreatDoorPk20
set_option maxRecDepth 100000
set_option maxHeartbeats 16000000
set_option linter.unusedSimpArgs false
namespace Go.Proofs.YtnckmcnffadjoaaGreatDoor
open Go.Proofs.Tryz
open Go.RowKit
variable {c:UInt8} {s:aj} {o:iz} {w:World}
theorem aaM(r:gq Value)(v:Value)(ps:List jy)(w:World)(h:lQ w v ps)(hz:lB ps)(ht:wO w)(h0: -9223372036854775808<=r.dm.port)(h1:r.dm.port<=9223372036854775807)(hs:r.dm.host.size<100000) :
  Calls prog 130 #[.agg r.cells.toArray,v] w fun e w'=>e=.returned (.bool (Nr (xH r.dm).data.toList r.fU ps))/\Fr aR w w':=by
 have gJ:Hid (Nr (xH r.dm).data.toList r.fU ps=(if !qC ps re then false else if(lu ps re== [42])&&!r.fU then true else if lu ps re !=(xH r.dm).data.toList then false else !r.fU||(lu ps KD==lU))):=O rfl;generalize Nr (xH r.dm).data.toList r.fU ps=res at gJ ⊢;obtain⟨rc,uS⟩:∃rc,rc=r.cells.toArray:=⟨_,rfl⟩;obtain⟨wb,j_⟩:∃wb,wb=w.alloc (.cells rc 37):=⟨_,rfl⟩
 have ks:Fr aR w wb:=by rw[j_];exact(ae aR w).alloc _
 have mf:wb.heap[w.heap.size]?=some (.cells rc 37 (0,0)):=by rw[j_];exact aB _ _
 have HC:=O (show∀U,Fr aR wb U->U.cell? ⟨w.heap.size,1,none⟩=some (.bool r.dm.aF)/\U.cell? ⟨w.heap.size,2,none⟩=some (.string r.dm.host)/\U.cell? ⟨w.heap.size,3,none⟩=some (.int .i64 r.dm.port)/\U.cell? ⟨w.heap.size,11,none⟩=some (.bool r.fU)from fun U hU=>by
  have j:=hU.keep mf id;rw[uS]at j;have hc:∀i u,r.cells[i]?=some u->U.cell? ⟨w.heap.size,i,none⟩=some u:=fun i u hu=>by simp only[World.cell?,j];simpa using hu
  exact⟨hc 1 _ rfl,hc 2 _ rfl,hc 3 _ rfl,hc 11 _ rfl⟩)
 obtain⟨so,hso,xM⟩:=uq ps re hz;obtain⟨sc,hsc,hcz⟩:=uq ps KD hz;have HG:=O (fun(u:World) (hu:Fr aR w u)=>wU v ps re u (bg h hu) hz ag so _ hso rfl);have HK:=O (fun(u:World) (hu:Fr aR w u)=>wU v ps KD u (bg h hu) hz ag sc _ hsc rfl);have HT:=O (fun(u:World) (hu:Fr aR w u)=>Vg r.dm u (ht.fr hu) h0 h1 hs);have mr:=O ks;have qY:=O j_;rw[hso,hsc]at gJ;obtain⟨av,cv,hv⟩:=lQ.form h;subst hv
 clear h hz ht h0 h1 hs ks mf hso hsc;rw[<-uS];clear uS j_;generalize qC ps KD=bc at HK;cases hb:qC ps re
 ·have HR:=O (show res=false by rw[gJ.out,hb];rfl);have SD:=O (HG.o wb mr.o);rw[hb]at SD;clear hb gJ;go_enter func130,ntmps130;go_wp2_with fail
  rw[<-qY.o];refine SD.o.mono ?_;rintro e u1⟨rfl,df⟩;go_wp2;go_ret;exact⟨by rw[HR.o];rfl,mr.o.trans df⟩
 ·have SD:=O (HG.o wb mr.o);rw[hb]at SD gJ;clear hb;have HTT:=O (show so.toList=so.data.toList from aO _);generalize xH r.dm=t at *
  cases e1:(so.toList== [42])
  ·have JX:=O (show res=(if so.data.toList !=t.data.toList then false else !r.fU||(sc.data.toList==lU))by rw[gJ.out, <-HTT.o,e1];rfl);clear gJ;go_enter func130,ntmps130;go_wp2_with fail
   rw[<-qY.o];refine SD.o.mono ?_;rintro e u1⟨rfl,df⟩;have k_:=O df;obtain⟨k1,k2,k3,k4⟩:=HC.o u1 df;clear df;go_wp2_with fail
   refine(HT.o u1 (mr.o.trans k_.o)).mono ?_;rintro e u2⟨rfl,dy⟩;have fO:=O (k_.o.trans dy);clear dy k1 k2 k3 k4;cases e2:(so.data.toList==t.data.toList)
   ·have hne:¬so.toList=t.toList:=by
     rw[aO,aO];exact aN.1 e2
    have Ve:(so.toList==t.toList)=false:=by rw[aN];exact hne
    have HR:=O (show res=false by rw[JX.o];unfold bne;rw[e2];rfl);clear JX e2;go_wp2;go_ret;exact⟨by rw[HR.o];rfl,mr.o.trans fO.o⟩
   ·have heq:so.toList=t.toList:=by
     rw[aO,aO];exact dT.1 e2
    have Nq:=O (show res=(!r.fU||(sc.data.toList==lU))by rw[JX.o];unfold bne;rw[e2];rfl);have HEQ:=O heq;have Ve:(so.toList==t.toList)=true:=by rw[dT];exact heq
    clear JX e2 heq;go_wp2_with fail
    refine(HK.o u2 (mr.o.trans fO.o)).mono ?_;rintro e u3⟨rfl,iv⟩;have ic:=O (fO.o.trans iv);obtain⟨k1,k2,k3,k4⟩:=HC.o u3 ic.o;clear iv;have SE:=O (show sc.toList=sc.data.toList from aO _);cases e4:r.fU
    ·rw[e4]at k4;have HR:=O (show res=true by rw[Nq.o,e4];rfl);clear e4;go_wp2;go_ret;exact⟨by rw[HR.o];rfl,mr.o.trans ic.o⟩
    ·rw[e4]at k4 Nq;clear e4;cases e3:(sc.toList== [116,114,117,101])
     ·have HR:=O (show res=false by rw[Nq.o, <-SE.o];exact e3);go_wp2;go_ret;exact⟨by rw[HR.o];rfl,mr.o.trans ic.o⟩
     ·have HR:=O (show res=true by rw[Nq.o, <-SE.o];exact e3);go_wp2;go_ret;exact⟨by rw[HR.o];rfl,mr.o.trans ic.o⟩
  ·cases e5:r.fU
   ·have HR:=O (show res=true by rw[gJ.out, <-HTT.o,e1,e5];rfl);clear gJ;go_enter func130,ntmps130;go_wp2_with fail
    rw[<-qY.o];refine SD.o.mono ?_;rintro e u1⟨rfl,df⟩;have k_:=O df;obtain⟨k1,k2,k3,k4⟩:=HC.o u1 df;clear df;rw[e5]at k4;clear e5;go_wp2;go_ret;exact⟨by rw[HR.o];rfl,mr.o.trans k_.o⟩
   ·have JX:=O (show res=(if so.data.toList !=t.data.toList then false else !true||(sc.data.toList==lU))by rw[gJ.out, <-HTT.o,e1,e5];rfl);clear gJ;go_enter func130,ntmps130;go_wp2_with fail
    rw[<-qY.o];refine SD.o.mono ?_;rintro e u1⟨rfl,df⟩;have k_:=O df;obtain⟨k1,k2,k3,k4⟩:=HC.o u1 df;clear df;rw[e5]at k4 HC;clear e5;go_wp2_with fail
    refine(HT.o u1 (mr.o.trans k_.o)).mono ?_;rintro e u2⟨rfl,dy⟩;have fO:=O (k_.o.trans dy);clear dy k1 k2 k3 k4;cases e2:(so.data.toList==t.data.toList)
    ·have hne:¬so.toList=t.toList:=by
      rw[aO,aO];exact aN.1 e2
     have Ve:(so.toList==t.toList)=false:=by rw[aN];exact hne
     have HR:=O (show res=false by rw[JX.o];unfold bne;rw[e2];rfl);clear JX e2;go_wp2;go_ret;exact⟨by rw[HR.o];rfl,mr.o.trans fO.o⟩
    ·have heq:so.toList=t.toList:=by
      rw[aO,aO];exact dT.1 e2
     have Nq:=O (show res=(!true||(sc.data.toList==lU))by rw[JX.o];unfold bne;rw[e2];rfl);have HEQ:=O heq;have Ve:(so.toList==t.toList)=true:=by rw[dT];exact heq
     clear JX e2 heq;go_wp2_with fail
     refine(HK.o u2 (mr.o.trans fO.o)).mono ?_;rintro e u3⟨rfl,iv⟩;have ic:=O (fO.o.trans iv);obtain⟨k1,k2,k3,k4⟩:=HC.o u3 ic.o;clear iv;have SE:=O (show sc.toList=sc.data.toList from aO _);cases e3:(sc.toList== [116,114,117,101])
     ·have HR:=O (show res=false by rw[Nq.o, <-SE.o];exact e3);go_wp2;go_ret;exact⟨by rw[HR.o];rfl,mr.o.trans ic.o⟩
     ·have HR:=O (show res=true by rw[Nq.o, <-SE.o];exact e3);go_wp2;go_ret;exact⟨by rw[HR.o];rfl,mr.o.trans ic.o⟩
theorem afk(l:Bs):Lib.trimSuffix l [13]=ua l:=by
 unfold Lib.trimSuffix Lib.hasSuffix ua;rcases List.eq_nil_or_concat l with rfl|⟨a,b,rfl⟩
 ·rfl
 ·have h1:(List.isSuffixOf [13] (a.concat b)=true)↔b=13:=by
   rw[List.isSuffixOf_iff_suffix,List.concat_eq_append];constructor
   ·rintro⟨t,ht⟩;have:=(List.append_inj' ht rfl).2;simpa using this.symm
   ·rintro rfl;exact⟨a,rfl⟩
  have h2:(a.concat b).getLast?=some b:=by rw[List.concat_eq_append];simp
  rw[h2];by_cases hb:b=13
  ·rw[az (h1.2 hb),az (by rw[hb]),List.dropLast_eq_take];rfl
  ·rw[aq (fun h=>hb (h1.1 h)),aq (fun h=>hb (ka h))]
theorem Hm(l:Bs):(ua l).length<=l.length:=by unfold ua;split<;>simp
theorem SI(h:¬0<=Lib.indexByte s.data.toList c):mE c s.data.toList=(s.data.toList,[],false) :=
 Gd c _ (fun hc=>(Ii _ _).1 h c hc rfl)
theorem WR{i:Nat}(h:Lib.indexByte s.data.toList c=(i:Int)):mE c s.data.toList=(s.data.toList.take i,s.data.toList.drop (i+1),true):=by
 obtain⟨he,hn⟩:=xo _ _ _ h;have:=Ko c (s.data.toList.take i) (s.data.toList.drop (i+1)) hn;rw[<-he]at this;exact this
theorem BF(c:UInt8):∀d:Bs,(dZ c d).length<=d.length+1/\∀p∈dZ c d,p.length<=d.length
 |[]=>by simp[dZ]
 |x :: d=>by
  have ih:=BF c d;by_cases hx:x=c
  ·subst hx;rw[rF];refine⟨bG,fun p hp=>?_⟩;rcases bB.1 hp with rfl|hp
   ·simp
   ·have:=ih.2 p hp;simp;omega
  ·cases e:dZ c d with
   |nil=>exact absurd e (xk c d)
   |cons q qs =>
    rw[e]at ih;rw[ob hx e];refine⟨by simp at ih ⊢; omega,fun p hp=>?_⟩;rcases bB.1 hp with rfl|hp
    ·have:=ih.2 q (cQ ..);simp;omega
    ·have:=ih.2 p (bN _ hp);simp;omega
def OU(s:aj)(w:World)(e:Ending)(w':World):Prop :=
 Fr aR w w'/\match mQ s.data.toList with
 | .ok ps=>∃v,e=.returned (.tuple #[v,.nilIface])/\OwnRows w.heap.size 171 2 w' v (ps.map oy)
 | .error n=>∃er,e=.returned (.tuple #[.slice none 0 0,er])/\VS n er w'
def akd(L:List Bs)(w:World)(out t:Value)(wr:World):Prop :=
 ∃(k:Nat) (acc:List jy),k<=L.length/\t=.int .i64 k/\OwnRows w.heap.size 171 2 wr out (acc.map oy)/\kU L []=kU (L.drop k) acc/\acc.length<=40/\Fr aR w wr
theorem Mh{L:List Bs}{k:Nat}{x:Bs}{acc:List jy}(h:L[k]?=some x):kU (L.drop k) acc=match Dr x with
  |none=>.error 3
  |some none=>kU (L.drop (k+1)) acc
  |some (some p)=>if acc.length=40 then .error 4 else kU (L.drop (k+1)) (acc++[p]):=by
 have hk:=(List.getElem?_eq_some_iff.1 h).1;have hx:L.drop k=x :: L.drop (k+1):=by
  rw[cR hk];have:=(List.getElem?_eq_some_iff.1 h).2;rw[this]
 rw[hx,kU];rfl
theorem OV(s:aj)(w:World)(hs:s.size<100000) :
  Calls prog 64 #[.string s] w (OU s w):=by
 by_cases h3:3000<s.size
 ·have h3':(3000:Int)<(s.size:Int):=ab;have HE:=O (show mQ s.data.toList=.error 4 by unfold mQ;rw[az (show 3000<s.data.toList.length from h3)]);go_enter func64,ntmps64;go_wp2;go_ret2;refine⟨ae _ _,?_⟩;rw[HE.o];exact⟨_,rfl,Or.inl rfl⟩
 ·have h3':¬(3000:Int)<(s.size:Int):=ab;have HE:=O (show mQ s.data.toList=kU (dZ 10 s.data.toList) []by unfold mQ;rw[aq (show¬3000<s.data.toList.length from h3)]);have hle:=BF 10 s.data.toList;have xi:=O (yB s 10 w ab);obtain⟨L,hL⟩:∃L,L=dZ 10 s.data.toList:=⟨_,rfl⟩;obtain⟨B,hB⟩:∃B,B=jc 10 s:=⟨_,rfl⟩;have hBL:B=L.map fun l=>(⟨l.toArray⟩:aj):=by rw[hB,hL];rfl
  have hlen:B.length=L.length:=by rw[hBL,ai]
  rw[<-hL]at HE hle;rw[<-hB]at xi;have YX:=O hle;have hL1:L.length<=3001:=by have h:=hle.1;have h2:s.data.toList.length=s.size:=rfl;omega
  have o9:=O hBL;have Vz:=O (show∀p∈L,p.length<=3000 from fun p hp=>by have h:=hle.2 p hp;have h2:s.data.toList.length=s.size:=rfl;omega);clear hle hL hB hBL;go_enter func64,ntmps64;go_wp2_with fail
  refine xi.o.mono ?_;rintro e w0⟨rfl,hw0⟩;have pg:Fr aR w w0:=by rw[hw0];exact(ae _ _).alloc _
  have tC:w0.heap[w.heap.size]?=some (.cells (B.map Value.string).toArray 9 (0,0)):=by rw[hw0];exact aB _ _
  have HC:=O (show∀U,Fr aR w0 U->∀(k:Nat) x,L[k]?=some x->U.cell? ⟨w.heap.size,k,none⟩=some (.string ⟨x.toArray⟩)from fun U hU k x hx=>by
   have h:=hU.keep tC id;have e:(B.map Value.string)[k]?=some (.string ⟨x.toArray⟩):=by rw[List.getElem?_map,o9.o,List.getElem?_map,hx];rfl
   simp only[World.cell?,h];simpa using e)
  have Yy:=O pg;rw[hlen];clear hw0 pg tC xi o9 hlen;go_wp2;go_loopw[4,17] (akd L w0) (fun _ t _=>L.length-(intOf t).toNat)
  case atStart=>exact⟨0,[],aI _,rfl,dv _ _ _ _,by rw[eD],ag,ae _ _⟩
  case round =>
   obtain⟨k,acc,hk,rfl,ho,hn,ahc,cK⟩:=hrel;obtain⟨ao,co,MY⟩:=ho.form;rw[ai]at MY;subst MY;by_cases eX:k<L.length
   ·have py:(k:Int)<(L.length:Int):=ab;have dN:=O (List.getElem?_eq_getElem eX);have g_:=O (bL eX);generalize L[k]=x at dN g_;have hxz:=Vz.o x g_.o;have c0:=HC.o wr cK k x dN.o;obtain⟨lb,YF⟩:∃lb:aj,lb=⟨x.toArray⟩:=⟨_,rfl⟩;have Gi:lb.data.toList=x:=by rw[YF]
    rw[<-YF]at c0;obtain⟨y,hy⟩:∃y:aj,y=⟨(Lib.trimSuffix lb.data.toList [13]).toArray⟩:=⟨_,rfl⟩;have hyl:y.data.toList=ua x:=by rw[hy,Gi,afk]
    have hyz:y.size<=3000:=by
     have h:=Hm x;have h2:y.data.toList.length=y.size:=rfl;rw[hyl]at h2;omega
    have M1:lb.size<=3000:=by have h2:lb.data.toList.length=lb.size:=rfl;rw[Gi]at h2;omega
    have HTS:=O (show Calls prog 126 #[.string lb,.string ⟨#[13]⟩] wr fun e w'=>e=.returned (.string y)/\wr=w' from(strings_TrimSuffix lb ⟨#[13]⟩ wr ab).mono (by rintro e w' ⟨rfl,rfl⟩;exact⟨by rw[hy],rfl⟩));have lH:=O (Mh (acc:=acc) dN.o);have HN:=O hn;have HO:=O ho
    have HLR:=O (show Dr x=if y.data.toList.isEmpty then some none else if !(mE 58 y.data.toList).2.2||!AX (mE 58 y.data.toList).1 then none else some (some ((mE 58 y.data.toList).1,trimB (mE 58 y.data.toList).2.1))by rw[hyl];rfl);clear YF Gi hy hyl hn ho;have TF:y.toList=y.data.toList:=aO _;by_cases hy0:y.size=0
    ·have Fi:=gW.2 hy0;have afl:y.toList=[]:=by rw[TF];exact Fi
     have apQ:(y.toList== [])=true:=by rw[afl];rfl
     have HR:=O (show kU L []=kU (L.drop (k+1)) acc by rw[HN.o,lH.o,HLR.o,Fi];rfl);clear TF Fi;go_wp2_with fail
     refine HTS.o.mono ?_;rintro e u⟨rfl,rfl⟩;go_wp2;go_roundw
     case rel=>exact⟨k+1,acc,ab,a_,HO.o,HR.o,ahc,cK⟩
     case measure=>simp[intOf];omega
    ·have Fi:¬y.data.toList=[]:=fun h=>hy0 (gW.1 h);have afl:¬y.toList=[]:=by rw[TF];exact Fi
     have apQ:(y.toList== [])=false:=by rw[aN];exact afl
     have OW:=O (show Dr x=if !(mE 58 y.data.toList).2.2||!AX (mE 58 y.data.toList).1 then none else some (some ((mE 58 y.data.toList).1,trimB (mE 58 y.data.toList).2.1))by
      rw[HLR.o,aq (by simpa using Fi)])
     clear TF Fi HLR;by_cases xm:0<=Lib.indexByte y.data.toList 58
     ·obtain⟨i,hi⟩:∃i:Nat,Lib.indexByte y.data.toList 58=(i:Int):=⟨(Lib.indexByte y.data.toList 58).toNat,ab⟩;have hil:i<y.size:=U4 hi;have hcut:=WR hi;obtain⟨nm,Ye⟩:∃nm:aj,nm=y.extract 0 i:=⟨_,rfl⟩;obtain⟨vl,Tx⟩:∃vl:aj,vl=y.extract (i+1) y.size:=⟨_,rfl⟩;have rW:nm.data.toList=y.data.toList.take i:=by rw[Ye,oU];simp
      have afm:vl.data.toList=y.data.toList.drop (i+1):=by
       rw[Tx,oU];exact aC (by rw[bJ];exact ay _)
      have hnz:nm.size<=3000:=by
       have h2:nm.data.toList.length=nm.size:=rfl;rw[rW,aJ]at h2;have h3:y.data.toList.length=y.size:=rfl;omega
      have hvz:vl.size<=3000:=by
       have h2:vl.data.toList.length=vl.size:=rfl;rw[afm,bJ]at h2;have h3:y.data.toList.length=y.size:=rfl;omega
      have Ij:=O (Kv y 58 i wr ab hi hil);rw[<-Ye, <-Tx]at Ij;rw[hcut]at OW;simp only at OW;rw[<-rW, <-afm]at OW;clear Ye Tx rW afm hcut;cases Jk:AX nm.data.toList
      ·have HR:=O (show mQ s.data.toList=.error 3 by rw[HE.o,HN.o,lH.o,OW.o,Jk];rfl);have HIS:=O (fun U=>Db nm U ab);rw[Jk]at HIS;clear Jk hi xm;go_wp2_with fail
       refine HTS.o.mono ?_;rintro e u⟨rfl,rfl⟩;go_wp2_with fail
       refine Ij.o.mono ?_;rintro e u⟨rfl,n,rfl⟩;go_wp2_with fail
       refine(HIS.o _).mono ?_;rintro e u⟨rfl,rfl⟩;have tC:=aB (wr.drewN n) (.cells #[.int .i64 3,.int .i64 k] 213);have HBK:=O tC;have NB:=O ((cK.drewN n).alloc (.cells #[.int .i64 3,.int .i64 k] 213));clear tC;go_wp2;go_ret2;refine⟨Yy.o.trans NB.o,?_⟩;rw[HR.o];exact⟨_,rfl,Or.inr ⟨_,k,rfl,HBK.o⟩⟩
      ·by_cases H':acc.length=40
       ·have HR:=O (show mQ s.data.toList=.error 4 by rw[HE.o,HN.o,lH.o,OW.o,Jk];simp[H']);have HIS:=O (fun U=>Db nm U ab);rw[Jk]at HIS;have i40:(acc.length:Int)=40:=ab;clear Jk hi xm;go_wp2_with fail
        refine HTS.o.mono ?_;rintro e u⟨rfl,rfl⟩;go_wp2_with fail
        refine Ij.o.mono ?_;rintro e u⟨rfl,n,rfl⟩;go_wp2_with fail
        refine(HIS.o _).mono ?_;rintro e u⟨rfl,rfl⟩;have NB:=O (cK.drewN n);go_wp2;go_ret2;refine⟨Yy.o.trans NB.o,?_⟩;rw[HR.o];exact⟨_,rfl,Or.inl rfl⟩
       ·have HIS:=O (fun U=>Db nm U ab);have HTR:=O (fun U=>sR vl ⟨#[32,9]⟩ U ab ag ag ag);obtain⟨tv,htv⟩:∃tv:aj,tv=⟨(Lib.trimS vl.data.toList [32,9]).toArray⟩:=⟨_,rfl⟩;have Q3:tv.data.toList=trimB vl.data.toList:=by rw[htv];rfl
        have apS:=O (show∀U,Calls prog 128 #[.string vl,.string ⟨#[32,9]⟩] U fun e w'=>e=.returned (.string tv)/\Fr aR U w' from fun U=>by rw[htv];exact HTR.o U);have HPC:=O (show oy (nm.data.toList,tv.data.toList)=[.string nm,.string tv]by unfold oy;simp only[Ul]);have HR:=O (show kU L []=kU (L.drop (k+1)) (acc++[(nm.data.toList,tv.data.toList)])by rw[HN.o,lH.o,OW.o,Jk,Q3];simp[H']);rw[Jk]at HIS
        have i40:¬(acc.length:Int)=40:=ab;clear Jk hi xm htv Q3 HTR;go_wp2_with fail
        refine HTS.o.mono ?_;rintro e u⟨rfl,rfl⟩;go_wp2_with fail
        refine Ij.o.mono ?_;rintro e u⟨rfl,n,rfl⟩;go_wp2_with fail
        refine(HIS.o _).mono ?_;rintro e u⟨rfl,rfl⟩;go_wp2_with fail
        refine(apS.o _).mono ?_;rintro e u⟨rfl,hu⟩;have V3:=O ((cK.drewN n).trans hu);have HOU:=O (HO.o.drewN (n:=n) |>.fr hu (fun _ _ h=>h));have hsu:w0.heap.size<=u.heap.size:=V3.o.size;clear hu
        go_wp2_with (at_builtin;refine nQ rfl _ _ 35 171 rfl 2 32 (.agg #[.string ⟨#[]⟩,.string ⟨#[]⟩]) underlying35 KK rfl ag ag w0.heap.size (.slice ao acc.length co) (acc.map oy) rfl (HOU.o.alloc _) u.heap.size 1 [.string nm,.string tv] rfl rfl ct (fun i u hi=>by rw[World.cell?_alloc_mark];simpa using hi) (by rw[ai];omega) bG ?_;intro v' w4 eY Ct)
        have jV:=O ((V3.o.alloc (.cells #[.string nm,.string tv] 171)).fQ Ct (fun j hj=>HOU.o.block j hj));go_roundw
        case rel=>exact⟨k+1,acc++[(nm.data.toList,tv.data.toList)],ab,a_,by rw[bH,cA,dn,HPC.o];exact eY,HR.o,bG,jV.o⟩
        case measure=>simp[intOf];omega
     ·have hcut:=SI xm;have HR:=O (show mQ s.data.toList=.error 3 by rw[HE.o,HN.o,lH.o,OW.o,hcut];rfl);have Ij:=O (Gf y 58 wr xm);clear xm hcut;go_wp2_with fail
      refine HTS.o.mono ?_;rintro e u⟨rfl,rfl⟩;go_wp2_with fail
      refine Ij.o.mono ?_;rintro e u⟨rfl,rfl⟩;have tC:=aB u (.cells #[.int .i64 3,.int .i64 k] 213);have HBK:=O tC;have NB:=O (cK.alloc (.cells #[.int .i64 3,.int .i64 k] 213));clear tC;go_wp2;go_ret2;refine⟨Yy.o.trans NB.o,?_⟩;rw[HR.o];exact⟨_,rfl,Or.inr ⟨_,k,rfl,HBK.o⟩⟩
   ·have py:¬(k:Int)<(L.length:Int):=ab;have Ku:L.drop k=[]:=List.drop_of_length_le ab;have HR:=O (show mQ s.data.toList=.ok acc by rw[HE.o,hn,Ku];rfl);have HO:=O ho;clear ho hn;go_wp2;go_ret2;refine⟨Yy.o.trans cK,?_⟩;rw[HR.o];exact⟨_,rfl,HO.o.up Yy.o.size⟩
theorem dx.eq{v w:dx}(h:∀i,v.part i=w.part i)(hn:v.now=w.now):v=w:=by
 cases v;cases w;simp only[dx.mk.injEq];exact⟨funext h,hn⟩
theorem dx.VM(w:dx)(k:Nat):w.set k (w.part k)=w:=by
 refine dx.eq (fun i=>?_) rfl;unfold dx.set;show(if i=k then w.part k else w.part i)=w.part i;split
 ·rename_i h;rw[h]
 ·rfl
theorem dx.aen(w:dx)(k:Nat)(p:dM):(w.set k p).part k=p:=by unfold dx.set;simp
theorem dx.Z5(w:dx){k i:Nat}(p:dM)(h:i≠k):(w.set k p).part i=w.part i:=by unfold dx.set;simp[h]
theorem th{w:dx}(h:o.right=false):iC w o=(w,rep 7):=by unfold iC;rw[h];rfl
theorem qt{w:dx}(h:o.right=true)(hw:o.what≠10):iC w o=(w.set o.part.toNat (sF (w.part o.part.toNat) w.now o).1,(sF (w.part o.part.toNat) w.now o).2):=by
 unfold iC;rw[az h,aq hw]
theorem rX{w:dx}(h:o.right=true)(hw:o.what=10):iC w o=if o.n<0\/1099511627776-w.now<o.n then(w,rep 7)else({w with now:=w.now+o.n},rep 1):=by
 unfold iC;rw[az h,az hw]
theorem iM(h:o.right=true):0<=o.part/\o.part<4:=by
 unfold iz.right iz.VL at h;simp only[cD,dD]at h;exact⟨h.2.2.1.1,h.2.2.1.2.1⟩
abbrev kR := @dx.aen
abbrev mW := @dx.Z5
abbrev oY := @dx.VM
theorem jX{P:Program}{ops:Array Oper}{a:Act}{w:World}{K:Act->World->Prop}{Q:Exit->Act->World->Prop}{E:Prop}{o:Oper}(zd:o.guard=none)(ty:TypeId)(x y:Operand)(ho:o.op=.store ty x y)
  (g:Nat)(cells:Array Value)(hx:a.eval x=.pointer (some ⟨g,0,none⟩))(hy:a.eval y=.agg cells)
  (t:TypeId)(old:Array Value)(hg:w.heap[g]?=some (.cells old t (0,0)))(hi:(P.info? ty).map (·.size)=some cells.size)
  (hold:old.size=cells.size)(h1:cells.all (·.oneCell')=true)(h:K (a.put o.dst undef) (w.setRow g cells)):if Region.wanted o (yielded ops a.tmps)=true then Oper.wp P o a w K Q else E:=by
 have hw:Region.wanted o (yielded ops a.tmps)=true:=by simp[Region.wanted,zd]
 rw[az hw];exact wp_store_row ty x y ho g cells hx hy t old hg hi hold h1 h
def Wj(xs:List nu)(w:World)(e:Ending)(w':World):Prop :=
 Fr aR w w'/\∃r:fK Value,r.Reads (Strs w.heap.size w') (jm xs)/\e=.returned (.tuple #[.agg r.cells.toArray,.bool (decide (0<(jm xs).scheme))])
def ajD(w:World)(xs:List nu)(t:Value)(wr:World):Prop :=
 ∃(k:Nat) (r:fK Value),k<=xs.length/\t=.int .i64 k/\wr.heap[w.heap.size]?=some (.cells gQ 112 (0,0))/\fS wr (w.heap.size+1) r/\r.Reads (Strs w.heap.size wr) (jm (xs.take k))/\Fr aR w wr
theorem Reads.apg{base:Nat}{r:fK Value}{a:fK bD}(h:r.Reads (Strs base w) a):r.dom.oneCell'=true:=by
 obtain⟨x,c,e⟩:=h.2.2.2.2.2.2.2.form;rw[e];rfl
theorem Oy(base:Nat)(w:World):jt.Reads (Strs base w) PL:=⟨rfl,rfl,rfl,rfl,rfl,rfl,rfl,kT _ _⟩
theorem Strs.upS{b b':Nat}{v:Value}{ss:List aj}(h:Strs b' w v ss)(hb:b<=b'):Strs b w v ss:=yj h hb
theorem Wk(v:Value)(xs:List nu)(w:World)(h:uU w v xs)(_hl:xs.length<=1000000)(hz:∀x∈xs,x.Fit) :
  Calls prog 55 #[v] w (Wj xs w):=by
 obtain⟨av,cv,hv⟩:=h.form;subst hv;obtain⟨w2,eB⟩:∃w2,w2=(w.alloc (.cells gQ 112)).alloc (.cells gQ 112):=⟨_,rfl⟩;have df:Fr aR (w.alloc (.cells gQ 112)) w2:=by rw[eB];exact(ae _ _).alloc _
 have ox:w2.heap[w.heap.size]?=some (.cells gQ 112 (0,0)):=df.keep (aB w _) id;have kC:fS w2 (w.heap.size+1) jt:=by
  rw[eB];have:=aB (w.alloc (.cells gQ 112)) (.cells gQ 112);rw[show(w.alloc (.cells gQ 112)).heap.size=w.heap.size+1 from aQ]at this;exact this
 have dy:Fr aR w w2:=((ae aR w).alloc _).trans df;have nJ:=O eB;clear eB df;go_enter func55,ntmps55;go_wp2_with fail
 rw[<-nJ.o];go_loopw[11] (ajD w xs) (fun t _=>xs.length-(intOf t).toNat)
 case atStart=>exact⟨0,jt,aI _,rfl,ox,kC,Oy _ _,dy⟩
 case round =>
  obtain⟨k,r,hk,rfl,vG,xW,He,cK⟩:=hrel;by_cases eX:k<xs.length
  case pos =>
   have py:(k:Int)<(xs.length:Int):=ab;have dN:=O (List.getElem?_eq_getElem eX);have HZ:=O (hz _ (bL eX));generalize xs[k]=x at dN HZ;obtain⟨bk,of,pv,rfl,h1,h2,c0,c1,c2,hp⟩:=(h.fH cK).cells dN.o;unfold maxLen at h2;have HBT:=O (show jm (xs.take (k+1))=pO (jm (xs.take k)) x by rw[bZ,dN.o];exact Nh _ _);obtain⟨a1,c1',e1⟩:=hp.form;subst e1
   obtain⟨wb,j_⟩:∃wb,wb=wr.alloc (.cells #[.string (bA x.scheme),.string (bA x.token),.slice a1 x.params.length c1'] 198):=⟨_,rfl⟩;have ks:Fr aR wr wb:=by rw[j_];exact(ae aR wr).alloc _
   have Zc:kM wb wr.heap.size (bA x.scheme) (bA x.token) (.slice a1 x.params.length c1'):=by rw[j_];exact aB _ _
   have x0:=Zc.cell0;have x1:=Zc.hZ;have x2:=Zc.lV;have KN:=O (Sn x _ wb (bg hp ks) HZ.o);have qY:=O j_;have hsb:w.heap.size+1<wb.heap.size:=by have:=bj (ks.keep xW id);exact this
   clear j_ hp;go_wp2_with fail
   rw[<-qY.o];refine KN.o.mono ?_;intro e w3 hkp;obtain⟨iv,Zv⟩:=hkp;have Wl:=(ks.trans iv).keep vG id;have aeX:fS w3 (w.heap.size+1) r:=(ks.trans iv).keep xW id;have aaC:r.Reads (Strs w.heap.size w3) (jm (xs.take k)):=He.mono (fun u l hu=>hu.fr (ks.trans iv) (fun _ h=>h.elim));have ic:=O ((cK.trans ks).trans iv);have Ug:w.heap.size+1<w3.heap.size:=cN hsb iv.size
   clear x0 x1 x2 c0 c1 c2 Zc vG xW He;cases Rv:nd x with
   |none =>
    rw[Rv]at Zv;subst Zv;have pZ:=O (show jm (xs.take (k+1))=jm (xs.take k)by rw[HBT.o];unfold pO;rw[Rv]);have jq:=fun W=>run_storeCells_new (P:=prog) W 112 gQ gQ.toList rfl Sg;have kK:Fr aR w3 (w3.alloc (.cells gQ 112)):=(ae _ _).alloc _;have QA:=kK.keep Wl id;have Oz:fS (w3.alloc (.cells gQ 112)) (w.heap.size+1) r:=kK.keep aeX id
    have aeY:r.Reads (Strs w.heap.size (w3.alloc (.cells gQ 112))) (jm (xs.take k)):=aaC.mono (fun u l hu=>hu.fr kK (fun _ h=>h.elim));have jV:=O (ic.o.trans kK);clear Rv;go_wp2;go_roundw
    case rel=>exact⟨k+1,r,ab,a_,QA,Oz,by rw[pZ.o];exact aeY,jV.o⟩
    case measure=>simp[intOf];omega
   |some a =>
    rw[Rv]at Zv;obtain⟨r2,aaD,rfl⟩:=Zv;have dY:=O (Jc r2 (Reads.apg aaD));obtain⟨y,hy⟩:∃y,y=r2.cells.toArray:=⟨_,rfl⟩;have Dm:y.size=8:=by rw[hy];rfl
    have HY:=O hy;have ZF:y.all (·.oneCell')=true:=by rw[hy];exact dY.o
    have za:(prog.info? 112).map (·.size)=some y.size:=by rw[Dm];kernel_rfl
    have hyz:gQ.size=y.size:=by rw[Dm];rfl
    have hrz:r.cells.toArray.size=y.size:=by rw[Dm];rfl
    obtain⟨w4,qF⟩:∃w4,w4=w3.alloc (.cells y 112):=⟨_,rfl⟩;have kK:Fr aR w3 w4:=by rw[qF];exact(ae _ _).alloc _
    have ajF:fS w4 w3.heap.size r2:=by rw[qF,hy];exact aB _ _
    have QA:=kK.keep Wl id;have Oz:fS w4 (w.heap.size+1) r:=kK.keep aeX id;have aeY:r.Reads (Strs w.heap.size w4) (jm (xs.take k)):=aaC.mono (fun u l hu=>hu.fr kK (fun _ h=>h.elim));have apj:r2.Reads (Strs w.heap.size w4) a:=aaD.mono (fun u l hu=>(hu.upS ab).fr kK (fun _ h=>h.elim));have jV:=O (ic.o.trans kK);have Oq:=O qF
    have n0:w4.cell? ⟨w3.heap.size,0,none⟩=some (.int .i64 a.scheme):=by rw[<-aaD.1];exact ajF.cell rfl
    have m0:w4.cell? ⟨w.heap.size+1,0,none⟩=some (.int .i64 (jm (xs.take k)).scheme):=by rw[<-aaC.1];exact Oz.cell rfl
    have ajG:=O (show jm (xs.take (k+1))=if(jm (xs.take k)).scheme<a.scheme then a else jm (xs.take k)by rw[HBT.o];unfold pO;rw[Rv]);have hs4:w3.heap.size<w4.heap.size:=by rw[qF];simp
    rw[<-hy];clear Rv hy qF Wl aeX aaC aaD;by_cases sO:(jm (xs.take k)).scheme<a.scheme
    case pos =>
     have pZ:=O (show jm (xs.take (k+1))=a by rw[ajG.o,az sO]);obtain⟨w5,hw5⟩:∃w5,w5=w4.setRow (w.heap.size+1) y:=⟨_,rfl⟩;have lG:Fr (one (w.heap.size+1)) w4 w5:=by rw[hw5];exact(ae (one (w.heap.size+1)) w4).setRow (fun _=>rfl) y
     have GC:=O hw5;have ajH:=lG.keep QA (fun h=>by have h':w.heap.size=w.heap.size+1:=h;omega);have apk:fS w5 (w.heap.size+1) r2:=by rw[hw5,HY.o];unfold fS;simp[World.setRow,Array.getElem?_modify,show w4.heap[w.heap.size+1]?=_ from Oz]
     have apl:r2.Reads (Strs w.heap.size w5) a:=apj.mono (fun u l hu=>hu.aaw lG Oz ag);have tU:=O (jV.o.step lG (fun k hk h=>by have h':k=w.heap.size+1:=h;omega));clear hw5 lG
     go_wp2_with (first|((with_reducible refine kt ⟨none,.store 112 (.tmp 7) (.tmp 18),_,_,_,_⟩ ?_);refine pQ rfl 112 (.tmp 7) (.tmp 18) rfl gQ y rfl rfl za hyz ZF ?_;rw[<-Oq.o])|((with_reducible refine cY 28 ?_);refine aH rfl 112 (.tmp 7) rfl w3.heap.size rfl 112 y (0,0) _ (by rw[HY.o];exact ajF) underlying112 rfl za ?_)|((with_reducible refine kt ⟨none,.store 112 (.tmp 4) (.tmp 28),_,_,_,_⟩ ?_);refine aE rfl 112 (.tmp 4) (.tmp 28) rfl (w.heap.size+1) y rfl rfl 112 r.cells.toArray Oz za hrz ZF ?_;rw[<-GC.o])|fail)
     go_roundw
     case rel=>exact⟨k+1,r2,ab,a_,ajH,apk,by rw[pZ.o];exact apl,tU.o⟩
     case measure=>simp[intOf];omega
    case neg =>
     have pZ:=O (show jm (xs.take (k+1))=jm (xs.take k)by rw[ajG.o,aq sO]);go_wp2_with (first|((with_reducible refine kt ⟨none,.store 112 (.tmp 7) (.tmp 18),_,_,_,_⟩ ?_);refine pQ rfl 112 (.tmp 7) (.tmp 18) rfl gQ y rfl rfl za hyz ZF ?_;rw[<-Oq.o])|fail)
     go_roundw
     case rel=>exact⟨k+1,r,ab,a_,QA,Oz,by rw[pZ.o];exact aeY,jV.o⟩
     case measure=>simp[intOf];omega
  case neg =>
   have py:¬(k:Int)<(xs.length:Int):=ab;have iB:xs.take k=xs:=aC ab;rw[iB]at He;have b0:=xW.cell (i:=0) rfl;have b1:=xW.cell (i:=1) rfl;have b2:=xW.cell (i:=2) rfl;have b3:=xW.cell (i:=3) rfl;have b4:=xW.cell (i:=4) rfl;have b5:=xW.cell (i:=5) rfl;have b6:=xW.cell (i:=6) rfl;have b7:=xW.cell (i:=7) rfl;obtain⟨da,dc,hd⟩:=He.2.2.2.2.2.2.2.form;rw[hd]at b7;have VZ:=O He;have HD:=O hd;have sx:=O cK
   have z:∀i u,gQ[i]?=some u->wr.cell? ⟨w.heap.size,i,none⟩=some u:=fun i u hu=>by simp only[World.cell?,vG];simpa using hu
   have zf:∀i,wr.frozen? ⟨w.heap.size,i,none⟩=false:=fun i=>by simp[World.frozen?,vG]
   have z0:=z 0 _ rfl;have f0:=zf 0;have z1:=z 1 _ rfl;have f1:=zf 1;have z2:=z 2 _ rfl;have f2:=zf 2;have z3:=z 3 _ rfl;have f3:=zf 3;have z4:=z 4 _ rfl;have f4:=zf 4;have z5:=z 5 _ rfl;have f5:=zf 5;have z6:=z 6 _ rfl;have f6:=zf 6;have z7:=z 7 _ rfl;have f7:=zf 7;clear z zf;have gJ:=O vG;clear hd vG xW He cK;go_wp2_with fail
   go_region
   all_goals
    have pq:fS wr w.heap.size jt:=gJ.o
    have Bk:=((((((((pq.set 0 (.int .i64 r.scheme) (r':={jt with scheme:=r.scheme}) rfl).set 1 (.string r.aK) (r':={jt with scheme:=r.scheme,aK:=r.aK}) rfl).set 2 (.string r.bq) (r':={jt with scheme:=r.scheme,aK:=r.aK,bq:=r.bq}) rfl).set 3 (.string r.cj) (r':={jt with scheme:=r.scheme,aK:=r.aK,bq:=r.bq,cj:=r.cj}) rfl).set 4 (.bool r.cy) (r':={jt with scheme:=r.scheme,aK:=r.aK,bq:=r.bq,cj:=r.cj,cy:=r.cy}) rfl).set 5 (.string r.eE) (r':={jt with scheme:=r.scheme,aK:=r.aK,bq:=r.bq,cj:=r.cj,cy:=r.cy,eE:=r.eE}) rfl).set 6 (.bool r.cM) (r':={jt with scheme:=r.scheme,aK:=r.aK,bq:=r.bq,cj:=r.cj,cy:=r.cy,eE:=r.eE,cM:=r.cM}) rfl).set 7 (.slice da (jm xs).dom.length dc) (r':={jt with scheme:=r.scheme,aK:=r.aK,bq:=r.bq,cj:=r.cj,cy:=r.cy,eE:=r.eE,cM:=r.cM,dom:=.slice da (jm xs).dom.length dc}) rfl)
    have nF:=(((((((((ae (one w.heap.size) wr).setCell (p:=⟨w.heap.size,0,none⟩) (fun _=>rfl) (.int .i64 r.scheme)).setCell (p:=⟨w.heap.size,1,none⟩) (fun _=>rfl) (.string r.aK)).setCell (p:=⟨w.heap.size,2,none⟩) (fun _=>rfl) (.string r.bq)).setCell (p:=⟨w.heap.size,3,none⟩) (fun _=>rfl) (.string r.cj)).setCell (p:=⟨w.heap.size,4,none⟩) (fun _=>rfl) (.bool r.cy)).setCell (p:=⟨w.heap.size,5,none⟩) (fun _=>rfl) (.string r.eE)).setCell (p:=⟨w.heap.size,6,none⟩) (fun _=>rfl) (.bool r.cM)).setCell (p:=⟨w.heap.size,7,none⟩) (fun _=>rfl) (.slice da (jm xs).dom.length dc))
    generalize ((((((((wr.setCell ⟨w.heap.size,0,none⟩ (.int .i64 r.scheme)).setCell ⟨w.heap.size,1,none⟩ (.string r.aK)).setCell ⟨w.heap.size,2,none⟩ (.string r.bq)).setCell ⟨w.heap.size,3,none⟩ (.string r.cj)).setCell ⟨w.heap.size,4,none⟩ (.bool r.cy)).setCell ⟨w.heap.size,5,none⟩ (.string r.eE)).setCell ⟨w.heap.size,6,none⟩ (.bool r.cM)).setCell ⟨w.heap.size,7,none⟩ (.slice da (jm xs).dom.length dc))=w6 at Bk nF ⊢
    have CC:({jt with scheme:=r.scheme,aK:=r.aK,bq:=r.bq,cj:=r.cj,cy:=r.cy,eE:=r.eE,cM:=r.cM,dom:=.slice da (jm xs).dom.length dc}:fK Value)=r:=by rw[<-HD.o]
    rw[CC]at Bk;have apm:r.Reads (Strs w.heap.size w6.drew) (jm xs):=VZ.o.mono (fun u l hu=>(hu.aaw nF gJ.o ag).drew);have yX:=O (sx.o.step nF (fun k hk h=>by have h':k=w.heap.size:=h;omega));have ED:fS w6.drew w.heap.size r:=Bk;have d0:=ED.cell (i:=0) rfl;have d1:=ED.cell (i:=1) rfl;have d2:=ED.cell (i:=2) rfl;have d3:=ED.cell (i:=3) rfl;have d4:=ED.cell (i:=4) rfl;have d5:=ED.cell (i:=5) rfl
    have d6:=ED.cell (i:=6) rfl;have d7:=ED.cell (i:=7) rfl;have hsc:r.scheme=(jm xs).scheme:=VZ.o.1;clear Bk nF pq;go_wp2;refine aS (results_cell_tmp bC _ _ w.heap.size 112 r.cells.toArray (0,0) _ rfl ED underlying112 rfl af) rfl ?_;exact⟨yX.o.drewN 1,r,apm,by rw[<-hsc];rfl⟩
