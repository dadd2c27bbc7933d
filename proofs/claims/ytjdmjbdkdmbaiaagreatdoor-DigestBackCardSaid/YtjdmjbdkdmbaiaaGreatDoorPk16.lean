/- RowPaD. -/
import Derived.Test.YtjdmjbdkdmbaiaaGreatDoorPk12
set_option maxRecDepth 100000
set_option maxHeartbeats 16000000
set_option linter.unusedSimpArgs false
namespace Go.Proofs.YtjdmjbdkdmbaiaaGreatDoor
open Go.RowKit
def Z8(b:Nat)(w:World)(bk cap:Nat)(p:List Value->Bool)(xs:List (List Value))(i j:Value)(wr:World):Prop :=
 ∃(m n:Nat) (ys:List (List Value)),i=.int .i64 m/\j=.int .i64 n/\m<n/\n<=xs.length/\ys.length=xs.length/\OwnRows b 65 12 wr (.slice (some ⟨bk,0,none⟩) xs.length cap) ys /\
  ys.take m=(xs.take n).filter (fun x=>!p x)/\ys.drop n=xs.drop n/\Fr (one bk) w wr
theorem ud{p:List Value->Bool}:∀ {l:List (List Value)} (i:Nat),l.any p=true->∃k x,l[k]?=some x/\p x=true/\(l.take k).any p=false/\gT p l i=((i+k:Nat):Int)
 |[],_,h=>by simp at h
 |a :: l,i,h=>by
  cases ha:p a
  ·rw[List.any_cons,ha,Bool.false_or]at h;obtain⟨k,x,h1,h2,h3,h4⟩:=ud (i+1) h;refine⟨k+1,x,by simpa using h1,h2,by simp[ha,h3],?_⟩;rw[gT,ha];simp only[Bool.false_eq_true,if_false];rw[h4];congr 1;omega
  ·exact⟨0,a,rfl,ha,rfl,by rw[gT,ha];simp⟩
theorem ue{p:List Value->Bool}{l:List (List Value)}(h:l.any p=false):l.filter (fun x=>!p x)=l:=by
 rw[List.filter_eq_self];intro a ha;have:=List.any_eq_false.1 h a ha;simpa using this
theorem kD(b:Nat)(g:Nat)(cap:Array Value)(p:List Value->Bool)(v:Value)(xs:List (List Value))(w:World)(eg:∀args w,(callFunc g args).run Tryz.prog w=.ok (.enter g args) w)(hp:dn (own v) w g cap p xs)(hv:OwnRows b 65 12 w v xs) :
  Calls Tryz.prog 180 #[v,.func (.func g) #[] cap] w fun e w'=>∃a c,e=.returned (.slice a (xs.filter (fun x=>!p x)).length c)/\OwnRows b 65 12 w' (.slice a (xs.filter (fun x=>!p x)).length c) (xs.filter (fun x=>!p x))/\Fr (own v) w w'/\own (.slice a (xs.filter (fun x=>!p x)).length c)=own v:=by
 cases dL:xs.any p
 ·have l_:=O (fD (i:=0) dL);rw[ue dL];obtain⟨av,cv,cA⟩:=hv.form;subst cA;go_enter Tryz.func180,Tryz.ntmps180;go_wp2_with fail
  refine(oB g cap p _ xs w eg hp.none hv.at).mono ?_;rintro e w1⟨rfl,bt⟩;rw[l_.out];go_wp2;go_ret;exact⟨_,_,rfl,hv.fr bt (fun _ _ h=>h),bt.mono (fun _ _ h=>absurd h (fun h=>h)),rfl⟩
 ·obtain⟨k0,x0,B7,yp,pn,l_⟩:=ud 0 dL;rw[Nat.zero_add]at l_;have SL:=(List.getElem?_eq_some_iff.1 B7).1;obtain⟨bk,cp,D9⟩:∃bk cp,v=.slice (some ⟨bk,0,none⟩) xs.length cp:=by
   rcases hv.2.2 with ⟨_,hn⟩|⟨bk,cp,cur,hv,_⟩
   ·omega
   ·exact⟨bk,cp,hv⟩
  subst D9;obtain⟨wK,cur,nu,q1,q2,q3,q4,q5,q6⟩:=hv.open (g:=bk) rfl;cases nu;unfold maxLen at q4;have bG:=O hv.1;have yq:=O (show xs.take k0=(xs.take (k0+1)).filter (fun x=>!p x)by
   rw[bz B7,List.filter_append,ue pn];simp[yp])
  have HP:=O hp;have ZL:=O l_;clear dL pn B7 yp l_ q2 q5 q6 hp;go_enter Tryz.func180,Tryz.ntmps180;go_wp2_with fail
  refine(oB g cap p _ xs w eg HP.out.none hv.at).mono ?_;rintro e w1⟨rfl,bt⟩;rw[ZL.out];have FG:=hv.fr bt (fun _ _ h=>h);have UA:((k0:Int)== -1)=false:=by rw[beq_eq_false_iff_ne];omega
  go_wp2;go_loopw[5,6] (Z8 b w bk cp p xs) (fun _ j _=>xs.length-(intOf j).toNat)
  case atStart=>exact⟨k0,k0+1,xs,rfl,by go_num,by omega,by omega,rfl,FG,yq.out,rfl,bt.mono (fun _ _ h=>absurd h (fun h=>h))⟩
  case round =>
   obtain⟨m,n,ys,rfl,rfl,hmn,hn,hlen,a_,lS,mU,aW⟩:=hrel;have HT:=O lS;have HD:=O mU;have eF:=O hlen;clear lS mU hlen;rw[<-eF.out]at a_;have ma:=a_.at;by_cases cG:n<xs.length
   ·rcases ma.2 with ⟨_,_,_,e,_⟩|⟨ZE,of,c,hf,h1,h2,h3,h4⟩
    ·have hl:=eF.out;rw[e]at hl;simp at hl;omega
    ·cases hf;have bC:=O (List.getElem?_eq_getElem cG);have sw:ys[n]?=some xs[n]:=by
      have e:=congrArg (fun l:List (List Value)=>l[0]?) HD.out;simp only[List.getElem?_drop,Nat.add_zero]at e;rw[e,bC.out]
     have hcell:=h4 n _ sw;simp only[Nat.zero_add]at hcell;have ed:=O (List.getElem_mem cG);generalize xs[n]=x at bC hcell ed sw;have gD:=(bG.out x ed.out).1;have sM:=O (bG.out x ed.out).2
     have fR:=fun W=>run_storeCells_new (P:=Tryz.prog) W 65 #[.bool false,.string ⟨#[]⟩,.int .i64 0,.bool false,.string ⟨#[]⟩,.int .i64 0,.string ⟨#[]⟩,.string ⟨#[]⟩,.bool false,.string ⟨#[]⟩,.string ⟨#[]⟩,.int .i64 0] x (by rw[gD];rfl) sM.out;have dF:Fr ay wr (wr.alloc (.cells x.toArray 65)):=(Fr.refl ay wr).alloc _
     have cF:=O (HP.out x ed.out (wr.alloc (.cells x.toArray 65)) ((aW.alloc _).mono (fun k _ h=>by have e:k=bk:=h;rw[e];rfl)));have B9:=O (vd gD);have fe:=aW.alloc (.cells x.toArray 65);have bV:=a_.fr dF (fun _ _ h=>h);have mB:(wr.alloc (.cells x.toArray 65)).heap[wr.heap.size]?=some (.cells x.toArray 65 (0,0)):=af _ _;have nE:=O mB;clear h4 sw mB dF
     go_wp2_with (first|((with_reducible refine ag ⟨some 25,_,_,_,_,_⟩ ?_);go_must(refine wpList_load_mid rfl 65 (.tmp 24) rfl bk (n*12) rfl x _ hcell Tryz.underlying65 rfl B9.out ?_))|((with_reducible refine ag ⟨some 27,_,_,_,_,_⟩ ?_);go_must(refine wpList_load_row rfl 65 (.tmp 7) rfl wr.heap.size rfl _ x.toArray (0,0) _ nE.out Tryz.underlying65 rfl (by rw[List.size_toArray];exact B9.out) ?_))|fail)
     have AF:wr.heap.size<(wr.alloc (.cells x.toArray 65)).heap.size:=by simp
     clear fR hcell;generalize wr.alloc (.cells x.toArray 65)=W2 at *
     refine cF.out.mono ?_;rintro e w3⟨rfl,dv⟩;have kY:=fe.trans (dv.mono (fun _ _ h=>absurd h (fun h=>h)));have cz:=bV.fr dv (fun _ _ h=>h);have jQ:=O (dv.keep nE.out (fun h=>h));have GH:=O eF.out;cases ml:p x
     ·have ZM:=O (cz.there (g:=bk) (cap:=cp) (by rw[eF.out]) (o:=m*12) (n:=x.toArray.size) (by
       have hmc:(m+1)*12<=cp*12:=Nat.mul_le_mul_right _ (by omega);rw[List.size_toArray,gD];omega))
      have cZ:=cz.store (i:=m) (y:=x) (by rw[eF.out];omega) gD sM.out (g:=bk) rfl;rw[eF.out]at cZ;have jD:=kY.step (Fr.setCells (Fr.refl (one bk) w3) (fun _=>rfl) x (m*12)) (fun _ _ h=>h)
      go_wp2_with (first|((with_reducible refine ag ⟨some 32,_,_,_,_,_⟩ ?_);go_must(refine wpList_load_row rfl 65 (.tmp 7) rfl wr.heap.size rfl _ x.toArray (0,0) _ jQ.out Tryz.underlying65 rfl (by rw[List.size_toArray];exact B9.out) ?_))|((with_reducible refine ag ⟨none,.store 65 _ _,_,_,_,_⟩ ?_);go_must(refine wpList_store_mid rfl 65 (.tmp 33) (.tmp 32) rfl bk (m*12) x.toArray rfl rfl ZM.out (by rw[List.size_toArray];exact B9.out) (all_oneCell_toArray sM.out) ?_))|fail)
      go_roundw
      case rel =>
       refine⟨m+1,n+1,ys.set m x,by go_num,by go_num,by omega,by omega,by rw[List.length_set];exact GH.out,cZ,?_,?_,jD⟩
       ·rw[bz (l:=ys.set m x) (List.getElem?_set_self (by rw[GH.out];omega)),List.take_set_of_le (Nat.le_refl m),bz bC.out,List.filter_append,HT.out];simp[ml]
       ·rw[List.drop_set_of_lt (by omega)];have e:=congrArg (List.drop 1) HD.out;simpa[List.drop_drop]using e
      case measure=>simp[intOf];omega
     ·rw[eF.out]at cz;go_wp2_with fail
      go_roundw
      case rel =>
       refine⟨m,n+1,ys,rfl,by go_num,by omega,by omega,GH.out,cz,?_,?_,kY⟩
       ·rw[bz bC.out,List.filter_append,HT.out];simp[ml]
       ·have e:=congrArg (List.drop 1) HD.out;simpa[List.drop_drop]using e
      case measure=>simp[intOf];omega
   ·have mn:n=xs.length:=by omega
    subst mn;have bR:=O (show ys.take m=xs.filter (fun x=>!p x)by have h:=HT.out;rw[List.take_of_length_le (Nat.le_refl _)]at h;exact h);have nv:(ys.take m).length=m:=by rw[List.length_take,eF.out];omega
    have yr:=O (show(xs.filter (fun x=>!p x)).length=m by rw[<-bR.out];exact nv);have hcut:=a_.cut (i:=m) (by rw[eF.out];omega) (g:=bk) (cap:=cp) (by rw[eF.out]);have hle:(xs.length-m)*12+m*12<=cp*12:=by rw[<-Nat.add_mul];exact Nat.mul_le_mul_right _ (by omega)
    have wO:(Builtin.zeroCells zF (xs.length-m)).toList.length=(xs.length-m)*12:=by simp[Builtin.zeroCells]
    have uF:=fun ty=>eB (P:=Tryz.prog) wr 60 65 ty zF Tryz.underlying60 (fun w=>by kernel_rfl) (by decide) JM bk (m*12) (xs.length-m) (cp-m) (by omega) (by
     have:=a_.there (g:=bk) (cap:=cp) (by rw[eF.out]) (o:=m*12) (n:=(xs.length-m)*12) (by omega);exact this)
    have sx:=hcut.behind (o:=m*12) (vs:=(Builtin.zeroCells zF (xs.length-m)).toList) (by rw[nv];exact Nat.le_refl _) (g:=bk) (cap:=cp) (by rw[nv]) (by rw[wO];omega);have jD:=aW.step (Fr.setCells (Fr.refl (one bk) wr) (fun _=>rfl) (Builtin.zeroCells zF (xs.length-m)).toList (m*12)) (fun _ _ h=>h);clear a_ ma hcut wO nv hle eF;go_wp2_with fail
    go_ret;rw[yr.out, <-bR.out];exact⟨_,_,rfl,sx,jD.mono (fun k _ h=>by have e:k=bk:=h;rw[e];rfl),rfl⟩
theorem Z9:∃i0:TypeInfo,Tryz.prog.info? 65=some i0/\i0.size=12:=by
 have h:(Tryz.prog.info? 65).map (·.size)=some 12:=by kernel_rfl
 cases hq:Tryz.prog.info? 65 with
 |none=>rw[hq]at h;cases h
 |some i=>rw[hq]at h;exact⟨i,rfl,by simpa using h⟩
theorem Lv(b:Nat)(bk cp i j:Nat)(xs:List (List Value))(w:World)(hv:OwnRows b 65 12 w (.slice (some ⟨bk,0,none⟩) xs.length cp) xs)(hij:i<j)(hj:j<=xs.length) :
  Calls Tryz.prog 185 #[.slice (some ⟨bk,0,none⟩) xs.length cp,.int .i64 i,.int .i64 j] w fun e w'=>e=.returned (.slice (some ⟨bk,0,none⟩) (i+(xs.length-j)) cp)/\OwnRows b 65 12 w' (.slice (some ⟨bk,0,none⟩) (i+(xs.length-j)) cp) (xs.take i++xs.drop j)/\Fr (one bk) w w':=by
 obtain⟨i0,qD,iy⟩:=Z9;obtain⟨wK,cur,nu,q1,q2,q3,q4,q5,q6⟩:=hv.open (g:=bk) rfl;cases nu;unfold maxLen at q4;have bC:=hv.at;have bG:=hv.1;obtain⟨news,fx⟩:∃news,news=(xs.drop j).flatten:=⟨_,rfl⟩;have hdr:∀x∈xs.drop j,x.length=12/\∀u∈x,u.oneCell'=true:=fun x hx=>bG x (List.mem_of_mem_drop hx);have hlen:news.length=(xs.length-j)*12:=by rw[fx,eU (fun x hx=>(hdr x hx).1),List.length_drop]
 obtain⟨A,hA,GI⟩:∃A:Addr,(if cp=j then some (⟨bk,0,none⟩:Addr)else some ⟨bk,j*12,none⟩)=some A/\Hid (∀t u,news[t]?=some u->w.drew.cell? (A.add t)=some u):=by
  by_cases h:cp=j
  ·refine⟨⟨bk,0,none⟩,by simp[h],fun t u hu=>?_⟩
   have h0:news.length=0:=by rw[hlen];have:xs.length-j=0:=by omega
                             rw[this,Nat.zero_mul]
   rw[List.length_eq_zero_iff.1 h0]at hu;simp at hu
  ·refine⟨⟨bk,j*12,none⟩,by simp[h],fun t u hu=>?_⟩;have ht:t<(xs.length-j)*12:=by
    have:=(List.getElem?_eq_some_iff.1 hu).1;omega
   have jZ:xs.flatten[j*12+t]?=some u:=by
    have e:xs.flatten=(xs.take j).flatten++(xs.drop j).flatten:=by rw[<-List.flatten_append,List.take_append_drop]
    have hl:(xs.take j).flatten.length=j*12:=by rw[eU (fun x hx=>(bG x (List.mem_of_mem_take hx)).1),List.length_take,Nat.min_eq_left hj]
    rw[e,List.getElem?_append_right (by omega),hl,show j*12+t-j*12=t from by omega, <-fx];exact hu
   have ZO:j*12+t<xs.length*12:=by
    have:(xs.length-j)*12+j*12=xs.length*12:=by rw[<-Nat.add_mul];congr 1;omega
    omega
   rw[<-q6,List.getElem?_take_of_lt ZO]at jZ;have pz:cur[j*12+t]?=some u:=by simpa using jZ
   have ea:(Addr.add ⟨bk,j*12,none⟩ t)=⟨bk,j*12+t,none⟩:=by unfold Addr.add;split<;>simp_all
   rw[ea];show w.cell? _=some u;simp[World.cell?,q2,pz]
 have s1:=O hlen;have s2:=O (show∀u∈news,u.oneCell'=true by
  intro u hu;rw[fx]at hu;obtain⟨x,hx,FR⟩:=List.mem_flatten.1 hu;exact(hdr x hx).2 u FR)
 have s3:=O (show∀t,t<news.length->(w.drew.cell? ⟨bk,0+i*12+t,none⟩).isSome=true/\w.drew.frozen? ⟨bk,0+i*12+t,none⟩=false by
  intro t ht;rw[Nat.zero_add];have hle:i*12+(xs.length-j)*12<=cp*12:=by rw[<-Nat.add_mul];exact Nat.mul_le_mul_right _ (by omega)
  have:=hv.there (g:=bk) (cap:=cp) rfl (o:=i*12) (n:=(xs.length-j)*12) hle t (by omega);exact this)
 have OI:OwnRows b 65 12 w.drew (.slice (some ⟨bk,0,none⟩) xs.length cp) xs:=hv;have mH:=OI.xJ (i:=i) (ys:=xs.drop j) (by omega) hdr (g:=bk) (cap:=cp) rfl (by rw[List.length_drop];omega);rw[List.length_drop, <-fx]at mH;have sy:Fr (one bk) w (w.drew.setCells bk (i*12) news):=((Fr.refl (one bk) w).drew).setCells (fun _=>rfl) _ _;obtain⟨W1,pZ⟩:∃W1,W1=w.drew.setCells bk (0+i*12) news:=⟨_,rfl⟩
 have HW:=O pZ;rw[Nat.zero_add]at pZ;rw[<-pZ]at mH sy;have mn:(xs.take i++xs.drop j).length=i+(xs.length-j):=by rw[List.length_append,List.length_take,List.length_drop];omega
 have hm:i+(xs.length-j)<xs.length:=by omega
 have wO:(Builtin.zeroCells zF (xs.length-(i+(xs.length-j)))).toList.length=(xs.length-(i+(xs.length-j)))*12:=by simp[Builtin.zeroCells]
 have hle:(i+(xs.length-j))*12+(xs.length-(i+(xs.length-j)))*12<=cp*12:=by rw[<-Nat.add_mul];exact Nat.mul_le_mul_right _ (by omega)
 have uF:=fun ty=>eB (P:=Tryz.prog) W1 60 65 ty zF Tryz.underlying60 (fun w=>by kernel_rfl) (by decide) JM bk ((i+(xs.length-j))*12) (xs.length-(i+(xs.length-j))) (cp-(i+(xs.length-j))) (by omega) (by
  have:=mH.there (g:=bk) (cap:=cp) (by rw[mn]) (o:=(i+(xs.length-j))*12) (n:=(xs.length-(i+(xs.length-j)))*12) hle;exact this)
 have sx:=mH.behind (o:=(i+(xs.length-j))*12) (vs:=(Builtin.zeroCells zF (xs.length-(i+(xs.length-j)))).toList) (by rw[mn];exact Nat.le_refl _) (g:=bk) (cap:=cp) (by rw[mn]) (by rw[wO];omega);have jD:=sy.step (Fr.setCells (Fr.refl (one bk) W1) (fun _=>rfl) (Builtin.zeroCells zF (xs.length-(i+(xs.length-j)))).toList ((i+(xs.length-j))*12)) (fun _ _ h=>h)
 have hne:((i:Int)==(j:Int))=false:=by rw[beq_eq_false_iff_ne];omega
 have ZQ:i<=cp:=by omega
 have ZR:j<=cp:=by omega
 have HA:=O hA;clear pZ mH OI sy fx hlen hdr bG bC mn wO hle q2 q5 q6 hv;go_enter Tryz.func185,Tryz.ntmps185;go_wp2_with fail
 have hA:=HA.out;go_region_law (refine step_append_room rfl (.tmp 22) (.tmp 25) 60 rfl 65 i0 12 Tryz.underlying60 qD iy bk 0 i cp (by simp[Act.eval,Act.put]) A (xs.length-j) (cp-j) news (by simp[Act.eval,Act.put]) s1.out GI.out s2.out (by omega) s3.out ?_;rw[<-HW.out])
 all_goals
  go_wp2_with fail
  go_ret;exact⟨rfl,sx,jD⟩
end Go.Proofs.YtjdmjbdkdmbaiaaGreatDoor
