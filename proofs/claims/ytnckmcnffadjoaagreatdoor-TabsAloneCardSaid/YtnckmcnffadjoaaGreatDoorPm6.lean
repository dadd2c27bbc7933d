/- Lemmas for the law's walk. -/
import Derived.Test.YtnckmcnffadjoaaGreatDoorPm4
set_option maxRecDepth 100000
set_option maxHeartbeats 16000000
set_option linter.unusedSimpArgs false
namespace Go.Proofs.YtnckmcnffadjoaaGreatDoor
open Go.Proofs.Tryz
open Go.RowKit
variable {x cs:aX} {fuel k g:Nat} {s:aj} {w w' W:World} {e:Ending} {laid:List (String×DataW Unit)}
abbrev Yi:bS:= #[.bool false,.string ⟨#[]⟩,.int .i64 0,.int .i64 0]
theorem Ql:∀v∈Yi.toList,v.oneCell'=true:=du
theorem On(h:x.length=4):(prog.info? 97).map (·.size)=some x.length:=by rw[h];kernel_rfl
def aeV(w:World)(p:aX->Bool)(xs:cZ)(i:Value)(wr:World):Prop :=
 ∃k:Nat,k<=xs.length/\i=.int .i64 k/\(xs.take k).any p=false/\Fr aS w wr
theorem zY(g:Nat)(cap:bS)(p:aX->Bool)(v:Value)(xs:cZ)(w:World)(eg:∀args w,(callFunc g args).run prog w=.ok (.enter g args) w)(hp:gP aS w g cap p xs)(hv:dY 4 w v xs) :
  aB 198 #[v,.func (.func g) #[] cap] w fun e w'=>e=.returned (.int .i64 (lU p xs 0))/\Fr aS w w':=by
 obtain⟨av,cv,fJ⟩:=hv.form;subst fJ;have eb:=O hv.1;go_enter func198,ntmps198;go_wp2;go_loopw[8] (aeV w p xs) (fun i _=>xs.length-(intOf i).toNat)
 case atStart=>exact⟨0,aQ _,rfl,rfl,ae _ _⟩
 case round =>
  obtain⟨k,hk,rfl,hn,cL⟩:=hrel;have HN:=O hn;clear hn;by_cases fo:k<xs.length
  ·rcases(hv.fI cL).2 with ⟨_,_,_,e,_⟩|⟨bk,of,c,hf,h1,h2,h3,h4⟩
   ·rw[e]at fo;exact absurd fo (ct _)
   ·cases hf;unfold maxLen at h2;have dT:=O (List.getElem?_eq_getElem fo);have hcell:=h4 k _ dT.o;have iD:=O (bN fo);generalize xs[k]=x at dT hcell iD;have fD:=O (hp x iD.o wr cL);have lB:=(eb.o x iD.o).1;clear h4;cases qF:p x
    ·have qe:=O (any_take_succ dT.o HN.o qF);go_wp2_with (first|((with_reducible refine di 15 ?_);refine a_ rfl 97 (.tmp 14) rfl bk (of+k*4) rfl x _ hcell underlying97 rfl (On lB) ?_)|fail)
     refine fD.o.mono ?_;rintro e w1⟨rfl,dr⟩;rw[qF];go_wp2;go_roundw
     case rel=>exact⟨k+1,ab,bg,qe.o,cL.trans dr⟩
     case measure=>simp[intOf];omega
    ·have fg:=O (oT (i:=0) dT.o qF HN.o);go_wp2_with (first|((with_reducible refine di 15 ?_);refine a_ rfl 97 (.tmp 14) rfl bk (of+k*4) rfl x _ hcell underlying97 rfl (On lB) ?_)|fail)
     refine fD.o.mono ?_;rintro e w1⟨rfl,dr⟩;rw[qF];go_wp2;go_ret;rw[fg.o,bw];exact⟨rfl,cL.trans dr⟩
  ·have fg:=O (show lU p xs 0= -1 from kt (by have h:=HN.o;rw[aD ab]at h;exact h));go_wp2;go_ret;rw[fg.o];exact⟨rfl,cL⟩
def aeW(b:Nat)(w:World)(bk cap:Nat)(p:aX->Bool)(xs:cZ)(i j:Value)(wr:World):Prop :=
 ∃(m n:Nat) (ys:cZ),i=.int .i64 m/\j=.int .i64 n/\m<n/\n<=xs.length/\ys.length=xs.length/\OwnRows b 97 4 wr (.slice (some ⟨bk,0,none⟩) xs.length cap) ys /\
  ys.take m=(xs.take n).filter (fun x=>!p x)/\ys.drop n=xs.drop n/\Fr (one bk) w wr
theorem zZ{p:aX->Bool}:∀ {l:cZ} (i:Nat),l.any p=true->∃k x,l[k]?=some x/\p x=true/\(l.take k).any p=false/\lU p l i=((i+k:Nat):Int)
 |[],_,h=>by simp at h
 |a :: l,i,h=>by
  cases ha:p a
  ·rw[List.any_cons,ha,jM]at h;obtain⟨k,x,h1,h2,h3,h4⟩:=zZ (i+1) h;refine⟨k+1,x,by simpa using h1,h2,by simp[ha,h3],?_⟩;rw[lU,ha];simp only[cJ,eW];rw[h4];congr 1;omega
  ·exact⟨0,a,rfl,ha,rfl,by rw[lU,ha];simp⟩
theorem z_{p:aX->Bool}{l:cZ}(h:l.any p=false):l.filter (fun x=>!p x)=l:=by
 rw[List.filter_eq_self];intro a ha;have:=eY.1 h a ha;simpa using this
theorem Fv(b:Nat)(g:Nat)(cap:bS)(p:aX->Bool)(v:Value)(xs:cZ)(w:World)(eg:∀args w,(callFunc g args).run prog w=.ok (.enter g args) w)(hp:gP (own v) w g cap p xs)(hv:OwnRows b 97 4 w v xs) :
  aB 141 #[v,.func (.func g) #[] cap] w fun e w'=>∃a c,e=.returned (.slice a (xs.filter (fun x=>!p x)).length c)/\OwnRows b 97 4 w' (.slice a (xs.filter (fun x=>!p x)).length c) (xs.filter (fun x=>!p x))/\Fr (own v) w w'/\own (.slice a (xs.filter (fun x=>!p x)).length c)=own v:=by
 cases jk:xs.any p
 ·have rP:=O (kt (i:=0) jk);rw[z_ jk];obtain⟨av,cv,fJ⟩:=hv.form;subst fJ;go_enter func141,ntmps141;go_wp2_with fail
  refine(zY g cap p _ xs w eg hp.none hv.at).mono ?_;rintro e w1⟨rfl,dr⟩;rw[rP.o];go_wp2;go_ret;exact⟨_,_,rfl,hv.fr dr (fun _ _ h=>h),dr.mono (fun _ _ h=>absurd h id),rfl⟩
 ·obtain⟨k0,x0,Ip,DU,vp,rP⟩:=zZ 0 jk;rw[bw]at rP;have QV:=(List.getElem?_eq_some_iff.1 Ip).1;obtain⟨bk,cp,KS⟩:∃bk cp,v=.slice (some ⟨bk,0,none⟩) xs.length cp:=by
   rcases hv.2.2 with ⟨_,hn⟩|⟨bk,cp,cur,hv,_⟩
   ·omega
   ·exact⟨bk,cp,hv⟩
  subst KS;obtain⟨Cj,cur,se,q1,q2,q3,q4,q5,q6⟩:=hv.open (g:=bk) rfl;cases se;unfold maxLen at q4;have eb:=O hv.1;have DV:=O (show xs.take k0=(xs.take (k0+1)).filter (fun x=>!p x)by
   rw[dZ Ip,cG,z_ vp];simp[DU])
  have HP:=O hp;have Zy:=O rP;clear jk vp Ip DU rP q2 q5 q6 hp;go_enter func141,ntmps141;go_wp2_with fail
  refine(zY g cap p _ xs w eg HP.o.none hv.at).mono ?_;rintro e w1⟨rfl,dr⟩;rw[Zy.o];have EZ:=hv.fr dr (fun _ _ h=>h);have Jz:((k0:Int)== -1)=false:=by rw[aL];omega
  go_wp2;go_loopw[5,6] (aeW b w bk cp p xs) (fun _ j _=>xs.length-(intOf j).toNat)
  case atStart=>exact⟨k0,k0+1,xs,rfl,bg,ab,ab,rfl,EZ,DV.o,rfl,dr.mono (fun _ _ h=>absurd h id)⟩
  case round =>
   obtain⟨m,n,ys,rfl,rfl,hmn,hn,hlen,cR,rE,sO,cL⟩:=hrel;have HT:=O rE;have HD:=O sO;have jS:=O hlen;clear rE sO hlen;rw[<-jS.o]at cR;have rQ:=cR.at;by_cases fo:n<xs.length
   ·rcases rQ.2 with ⟨_,_,_,e,_⟩|⟨Jy,of,c,hf,h1,h2,h3,h4⟩
    ·have hl:=jS.o;rw[e]at hl;simp at hl;omega
    ·cases hf;have dT:=O (List.getElem?_eq_getElem fo);have yj:ys[n]?=some xs[n]:=by
      have e:=ar (fun l:cZ=>l[0]?) HD.o;simp only[List.getElem?_drop,Nat.add_zero]at e;rw[e,dT.o]
     have hcell:=h4 n _ yj;simp only[bw]at hcell;have iD:=O (bN fo);generalize xs[n]=x at dT hcell iD yj;have lB:=(eb.o x iD.o).1;have mM:=O (eb.o x iD.o).2;have ir:=fun W=>run_storeCells_new (P:=prog) W 97 #[.bool false,.string ⟨#[]⟩,.int .i64 0,.int .i64 0] x (by rw[lB];rfl) mM.o;have gS:Fr aS wr (wr.alloc (.cells x.toArray 97)):=(ae aS wr).alloc _
     have fD:=O (HP.o x iD.o (wr.alloc (.cells x.toArray 97)) ((cL.alloc _).mono (fun k _ h=>by have e:k=bk:=h;rw[e];rfl)));have Iw:=O (On lB);have jq:=cL.alloc (.cells x.toArray 97);have fC:=cR.fr gS (fun _ _ h=>h);have qk:(wr.alloc (.cells x.toArray 97)).heap[wr.heap.size]?=some (.cells x.toArray 97 (0,0)):=aC _ _;have tR:=O qk;clear h4 yj qk gS
     go_wp2_with (first|((with_reducible refine di 25 ?_);refine a_ rfl 97 (.tmp 24) rfl bk (n*4) rfl x _ hcell underlying97 rfl Iw.o ?_)|((with_reducible refine di 27 ?_);refine aH rfl 97 (.tmp 7) rfl wr.heap.size rfl _ x.toArray (0,0) _ tR.o underlying97 rfl (by rw[aZ];exact Iw.o) ?_)|fail)
     have hlw:wr.heap.size<(wr.alloc (.cells x.toArray 97)).heap.size:=aR;clear ir hcell;generalize wr.alloc (.cells x.toArray 97)=W2 at *
     refine fD.o.mono ?_;rintro e w3⟨rfl,iz⟩;have qD:=jq.trans (iz.mono (fun _ _ h=>absurd h id));have fu:=fC.fr iz (fun _ _ h=>h);have tu:=O (iz.keep tR.o id);have NL:=O jS.o;cases qF:p x
     ·have X3:=O (fu.there (g:=bk) (cap:=cp) (by rw[jS.o]) (o:=m*4) (n:=x.toArray.size) (by
       have hmc:(m+1)*4<=cp*4:=bP _ ab;rw[aZ,lB];omega))
      have fa:=fu.store (i:=m) (y:=x) (by rw[jS.o];omega) lB mM.o (g:=bk) rfl;rw[jS.o]at fa;have ox:=qD.step (fG (ae (one bk) w3) (fun _=>rfl) x (m*4)) (fun _ _ h=>h)
      go_wp2_with (first|((with_reducible refine di 32 ?_);refine aH rfl 97 (.tmp 7) rfl wr.heap.size rfl _ x.toArray (0,0) _ tu.o underlying97 rfl (by rw[aZ];exact Iw.o) ?_)|((with_reducible refine cW 97 ?_);refine iu rfl 97 (.tmp 33) (.tmp 32) rfl bk (m*4) x.toArray rfl rfl X3.o (by rw[aZ];exact Iw.o) (bX mM.o) ?_)|fail)
      go_roundw
      case rel =>
       refine⟨m+1,n+1,ys.set m x,bg,bg,ab,ab,by rw[ed];exact NL.o,fa,?_,?_,ox⟩
       ·rw[dZ (l:=ys.set m x) (List.getElem?_set_self (by rw[NL.o];omega)),gl (ay m),dZ dT.o,cG,HT.o];simp[qF]
       ·rw[gq ab];have e:=ar (List.drop 1) HD.o;simpa[eB]using e
      case measure=>simp[intOf];omega
     ·rw[jS.o]at fu;go_wp2_with fail
      go_roundw
      case rel =>
       refine⟨m,n+1,ys,rfl,bg,ab,ab,NL.o,fu,?_,?_,qD⟩
       ·rw[dZ dT.o,cG,HT.o];simp[qF]
       ·have e:=ar (List.drop 1) HD.o;simpa[eB]using e
      case measure=>simp[intOf];omega
   ·have rR:n=xs.length:=ab;subst rR;have fg:=O (show ys.take m=xs.filter (fun x=>!p x)by have h:=HT.o;rw[aD (ay _)]at h;exact h);have sN:(ys.take m).length=m:=by rw[aM,jS.o];omega
    have zC:=O (show(xs.filter (fun x=>!p x)).length=m by rw[<-fg.o];exact sN);have hcut:=cR.cut (i:=m) (by rw[jS.o];omega) (g:=bk) (cap:=cp) (by rw[jS.o]);have hle:(xs.length-m)*4+m*4<=cp*4:=by rw[<-dF];exact bP _ ab
    have Co:(Builtin.zeroCells Yi (xs.length-m)).toList.length=(xs.length-m)*4:=by simp[Builtin.zeroCells]
    have xr:=fun ty=>jF (P:=prog) wr 81 97 ty Yi underlying81 (fun w=>af) ag Ql bk (m*4) (xs.length-m) (cp-m) ab (by
     have:=cR.there (g:=bk) (cap:=cp) (by rw[jS.o]) (o:=m*4) (n:=(xs.length-m)*4) ab;exact this)
    have yk:=hcut.behind (o:=m*4) (vs:=(Builtin.zeroCells Yi (xs.length-m)).toList) (by rw[sN];exact ay _) (g:=bk) (cap:=cp) (by rw[sN]) (by rw[Co];omega);have ox:=cL.step (fG (ae (one bk) wr) (fun _=>rfl) (Builtin.zeroCells Yi (xs.length-m)).toList (m*4)) (fun _ _ h=>h);clear cR rQ hcut Co sN hle jS;go_wp2_with fail
    go_ret;rw[zC.o, <-fg.o];exact⟨_,_,rfl,yk,ox.mono (fun k _ h=>by have e:k=bk:=h;rw[e];rfl),rfl⟩
theorem aeX:∃i0:TypeInfo,prog.info? 97=some i0/\i0.size=4:=by
 have h:(prog.info? 97).map (·.size)=some 4:=af;cases hq:prog.info? 97 with
 |none=>rw[hq]at h;cases h
 |some i=>rw[hq]at h;exact⟨i,rfl,by simpa using h⟩
theorem Sf(b:Nat)(bk cp i j:Nat)(xs:cZ)(w:World)(hv:OwnRows b 97 4 w (.slice (some ⟨bk,0,none⟩) xs.length cp) xs)(QR:i<j)(hj:j<=xs.length) :
  aB 69 #[.slice (some ⟨bk,0,none⟩) xs.length cp,.int .i64 i,.int .i64 j] w fun e w'=>e=.returned (.slice (some ⟨bk,0,none⟩) (i+(xs.length-j)) cp)/\OwnRows b 97 4 w' (.slice (some ⟨bk,0,none⟩) (i+(xs.length-j)) cp) (xs.take i++xs.drop j)/\Fr (one bk) w w':=by
 obtain⟨i0,qA,k_⟩:=aeX;obtain⟨Cj,cur,se,q1,q2,q3,q4,q5,q6⟩:=hv.open (g:=bk) rfl;cases se;unfold maxLen at q4;have dT:=hv.at;have eb:=hv.1;obtain⟨news,kJ⟩:∃news,news=(xs.drop j).flatten:=⟨_,rfl⟩;have hdr:∀x∈xs.drop j,x.length=4/\∀u∈x,u.oneCell'=true:=fun x hx=>eb x (eD hx);have hlen:news.length=(xs.length-j)*4:=by rw[kJ,gD (fun x hx=>(hdr x hx).1),bK]
 obtain⟨A,hA,NM⟩:∃A:Addr,(if cp=j then some (⟨bk,0,none⟩:Addr)else some ⟨bk,j*4,none⟩)=some A/\Hid (∀t u,news[t]?=some u->w.drew.cell? (A.add t)=some u):=by
  by_cases h:cp=j
  ·refine⟨⟨bk,0,none⟩,by simp[h],fun t u hu=>?_⟩
   have h0:news.length=0:=by rw[hlen];have:xs.length-j=0:=by omega
                             rw[this,il]
   rw[dH.1 h0]at hu;simp at hu
  ·refine⟨⟨bk,j*4,none⟩,by simp[h],fun t u hu=>?_⟩;have ht:t<(xs.length-j)*4:=by
    have:=(List.getElem?_eq_some_iff.1 hu).1;omega
   have nu:xs.flatten[j*4+t]?=some u:=by
    have e:xs.flatten=(xs.take j).flatten++(xs.drop j).flatten:=by rw[<-en,fO]
    have hl:(xs.take j).flatten.length=j*4:=by rw[gD (fun x hx=>(eb x (eC hx)).1),aM,dP hj]
    rw[e,List.getElem?_append_right ab,hl,show j*4+t-j*4=t from ab, <-kJ];exact hu
   have hjt:j*4+t<xs.length*4:=by
    have:(xs.length-j)*4+j*4=xs.length*4:=by rw[<-dF];congr 1;omega
    omega
   rw[<-q6,List.getElem?_take_of_lt hjt]at nu;have zD:cur[j*4+t]?=some u:=by simpa using nu
   have ea:(Addr.add ⟨bk,j*4,none⟩ t)=⟨bk,j*4+t,none⟩:=by unfold Addr.add;split<;>simp_all
   rw[ea];show w.cell? _=some u;simp[World.cell?,q2,zD]
 have s1:=O hlen;have s2:=O (show∀u∈news,u.oneCell'=true by
  intro u hu;rw[kJ]at hu;obtain⟨x,hx,Gn⟩:=fL.1 hu;exact(hdr x hx).2 u Gn)
 have s3:=O (show∀t,t<news.length->(w.drew.cell? ⟨bk,0+i*4+t,none⟩).isSome=true/\w.drew.frozen? ⟨bk,0+i*4+t,none⟩=false by
  intro t ht;rw[bw];have hle:i*4+(xs.length-j)*4<=cp*4:=by rw[<-dF];exact bP _ ab
  have:=hv.there (g:=bk) (cap:=cp) rfl (o:=i*4) (n:=(xs.length-j)*4) hle t ab;exact this)
 have Vc:OwnRows b 97 4 w.drew (.slice (some ⟨bk,0,none⟩) xs.length cp) xs:=hv;have qx:=Vc.De (i:=i) (ys:=xs.drop j) ab hdr (g:=bk) (cap:=cp) rfl (by rw[bK];omega);rw[bK, <-kJ]at qx;have yl:Fr (one bk) w (w.drew.setCells bk (i*4) news):=((ae (one bk) w).drew).setCells (fun _=>rfl) _ _;obtain⟨W1,Cm⟩:∃W1,W1=w.drew.setCells bk (0+i*4) news:=⟨_,rfl⟩;have HW:=O Cm;rw[bw]at Cm;rw[<-Cm]at qx yl
 have rR:(xs.take i++xs.drop j).length=i+(xs.length-j):=by rw[aN,aM,bK];omega
 have hm:i+(xs.length-j)<xs.length:=ab;have Co:(Builtin.zeroCells Yi (xs.length-(i+(xs.length-j)))).toList.length=(xs.length-(i+(xs.length-j)))*4:=by simp[Builtin.zeroCells]
 have hle:(i+(xs.length-j))*4+(xs.length-(i+(xs.length-j)))*4<=cp*4:=by rw[<-dF];exact bP _ ab
 have xr:=fun ty=>jF (P:=prog) W1 81 97 ty Yi underlying81 (fun w=>af) ag Ql bk ((i+(xs.length-j))*4) (xs.length-(i+(xs.length-j))) (cp-(i+(xs.length-j))) ab (by
  have:=qx.there (g:=bk) (cap:=cp) (by rw[rR]) (o:=(i+(xs.length-j))*4) (n:=(xs.length-(i+(xs.length-j)))*4) hle;exact this)
 have yk:=qx.behind (o:=(i+(xs.length-j))*4) (vs:=(Builtin.zeroCells Yi (xs.length-(i+(xs.length-j)))).toList) (by rw[rR];exact ay _) (g:=bk) (cap:=cp) (by rw[rR]) (by rw[Co];omega);have ox:=yl.step (fG (ae (one bk) W1) (fun _=>rfl) (Builtin.zeroCells Yi (xs.length-(i+(xs.length-j)))).toList ((i+(xs.length-j))*4)) (fun _ _ h=>h);have hne:((i:Int)==(j:Int))=false:=by rw[aL];omega
 have adT:i<=cp:=ab;have adU:j<=cp:=ab;have HA:=O hA;clear Cm qx Vc yl kJ hlen hdr eb dT rR Co hle q2 q5 q6 hv;go_enter func69,ntmps69;go_wp2_with fail
 have hA:=HA.o;go_region_law (refine step_append_room rfl (.tmp 22) (.tmp 25) 81 rfl 97 i0 4 underlying81 qA k_ bk 0 i cp (by simp[Act.eval,Act.put]) A (xs.length-j) (cp-j) news (by simp[Act.eval,Act.put]) s1.o NM.out s2.o ab s3.o ?_;rw[<-HW.o])
 all_goals
  go_wp2_with fail
  go_ret;exact⟨rfl,yk,ox⟩
open Go.ChangeShapes Go.WideShapes Go.ChangeAt Go.RowKit Go.Deep
section
variable {H : Type} {enc : TypeId × Value → H} {P : Program} {W : World}
theorem lg.afG{α β:Type}{R:α->β->Prop}{f:Nat->α}{g:Nat->β}(n:Nat)(h:∀i,i<n->R (f i) (g i)):lg R ((List.range n).map f) ((List.range n).map g):=by
 induction n with
 |zero=>exact .nil
 |succ n ih =>
  rw[List.range_succ,bG,bG];exact(ih (fun i hi=>h i ab)).app (.cons (h n ab) .nil)
theorem EB{t e:TypeId}{k bytes:Nat}{β:Type} [Inhabited β]{Q:aX->β->Prop}{S:β->Prop}(ht:P.underlying t=some (.slice e))(hk:P.cellsOf e=k)(QV:0<k)(qW:P.bytesOf e=bytes)
  (el:∀ {fuel:Nat} {cs:aX} {x:DataW H×List MemPlace},DataW.trod enc P W 0 (fun _=>true) true fuel e cs=some x->∃b,Q cs b/\cs.length=k/\(∀u∈cs,u.oneCell'=true)/\(o_ P e x.1->S b))
  {fuel:Nat}{cs:aX}{x:DataW H×List MemPlace}(h:DataW.trod enc P W 0 (fun _=>true) true fuel t cs=some x) :
  ∃(v:Value) (css:cZ) (bs:List β),cs=[v]/\dY k W v css/\lg Q css bs/\(o_ P t x.1->bs.length*bytes<=reachBytes/\∀b∈bs,S b):=by
 rcases open_slice ht h with ⟨rfl,rfl⟩|⟨a,len,cap,m,n,D,Pl,rfl,_,hl,hm,hme,rfl,hc⟩
 ·exact⟨_,[],[],rfl,dY.nil _ _,.nil,fun _=>⟨aR,aR⟩⟩
 simp only[ef]at hme;subst hme;rw[hk]at hc;have each:∀i,i<len->∃q:aX×β,W.cells? 0 (a.add (i*k)) k=some q.1/\Q q.1 q.2/\q.1.length=k/\(∀u∈q.1,u.oneCell'=true)/\(o_ P e (D i)->S q.2):=fun i hi=>by
  obtain⟨cs',h1,h2⟩:=hc i ab;obtain⟨b,hq,hlen,eb,hs⟩:=el h2;exact⟨(cs',b),h1,hq,hlen,eb,hs⟩
 obtain⟨q,hq⟩:=choose_lt each;refine⟨_,(List.range len).map fun i=>(q i).1,(List.range len).map fun i=>(q i).2,rfl,⟨?_,?_⟩,lg.afG len (fun i hi=>(hq i hi).2.1),fun hL=>⟨?_,?_⟩⟩
 ·intro y hy;obtain⟨i,hi,rfl⟩:=b_.1 hy;have hi:=hq i (List.mem_range.1 hi);exact⟨hi.2.2.1,hi.2.2.2.1⟩
 ·by_cases h0:len=0
  ·subst h0;exact Or.inl ⟨_,_,rfl,rfl,fun e=>by cases e⟩
  ·have cell:∀i,i<len->∀j u,(q i).1[j]?=some u->W.cell? (a.add (i*k+j))=some u:=fun i hi j u hu=>by
    obtain⟨_,hlen,hcell⟩:=World.cells?_some (hq i hi).1;have:=hcell j (by have:=(List.getElem?_eq_some_iff.1 hu).1;have:=(hq i hi).2.2.1;omega);rw[add_add]at this;rw[this,hu]
   obtain⟨b,off,spot⟩:=a;have Tu:=(hq 0 ab).2.2.1;have hc0:=cell 0 ab 0 _ (List.getElem?_eq_getElem ab);have akI:spot=none:=by simpa[Addr.add]using World.cell?_spot hc0
   subst akI;have LW:∀j,(Addr.add ⟨b,off,none⟩ j)=⟨b,off+j,none⟩:=by intro j;unfold Addr.add;split<;>simp_all
   have hbl:b<W.heap.size:=by
    have h0:=World.block_lt_of_cell? _ _ hc0;rw[LW]at h0;exact h0
   refine Or.inr ⟨b,off,m,aR,by simpa using hl,hm,hbl,fun j y hj i u hi=>?_⟩;rw[List.getElem?_map]at hj;obtain⟨k',Zr,rfl⟩:=Option.map_eq_some_iff.1 hj;obtain⟨hj1,rfl⟩:=List.getElem?_eq_some_iff.1 Zr;simp at hj1;have:=cell j hj1 i u (by simpa using hi)
   rwa [LW, <-Nat.add_assoc]at this
 ·unfold o_ at hL;simp only[DataW.weights,ht]at hL;have:=hL _ (cY ..);simp only[ai,List.length_range,qW]at this;have e1:(len+(m-len))*bytes=m*bytes:=by congr 1;omega
  rw[e1]at this;have h2:len*bytes<=m*bytes:=bP _ hl;simp only[ai,List.length_range];omega
 ·intro b hb;obtain⟨i,hi,rfl⟩:=b_.1 hb;have hi':=List.mem_range.1 hi;refine(hq i hi').2.2.2.2 (fun n hn=>?_);unfold o_ at hL;simp only[DataW.weights,ht]at hL;exact hL n (bQ _ (List.mem_append_left _ (xJ (b_.2 ⟨i,hi,rfl⟩) _ hn)))
end
variable {H : Type} {enc : TypeId × Value → H} {W : World}
theorem Am:prog.cellsOf 171=2:=af
theorem Mr{x:DataW H×List MemPlace}(h:DataW.trod enc prog W 0 (fun _=>true) true fuel 171 cs=some x) :
  ∃b:aj×aj,cs=[.string b.1,.string b.2]/\cs.length=2/\(∀u∈cs,u.oneCell'=true)/\(o_ prog 171 x.1->b.1.size<=reachBytes/\b.2.size<=reachBytes):=by
 obtain⟨hl,n,hf⟩:=nZ underlying171 h;rw[Am]at hl;obtain⟨c0,c1,rfl⟩:=akH hl;obtain⟨y0,h0,l0⟩:=hf 0 9 0 _ rfl iU;obtain⟨y1,h1,l1⟩:=hf 1 9 1 _ rfl iU;simp only[List.drop,List.take]at h0 h1;obtain⟨u,eu,wu⟩:=ft underlying9 h0;obtain⟨q,eq,wq⟩:=ft underlying9 h1;simp only[fF,iM]at eu eq;subst eu eq;refine⟨(u,q),rfl,rfl,?_,fun hL=>⟨wu (l0 hL),wq (l1 hL)⟩⟩;intro v hv;simp only[bB,cz,dX]at hv
 rcases hv with rfl|rfl<;>rfl
theorem EC{α β:Type}{f:β->α}:∀ {l:List α} {m:List β},lg (fun a b=>a=f b) l m->l=m.map f
 |_,_,.nil=>rfl
 |_,_,.cons h t=>by rw[cE, <-h,EC t]
instance:Inhabited (aj×aj):=⟨(.empty,.empty)⟩
theorem Je{x:DataW H×List MemPlace}(h:DataW.trod enc prog W 0 (fun _=>true) true fuel 35 cs=some x) :
  ∃(v:Value) (ps:List (aj×aj)),cs=[v]/\dY 2 W v (ps.map fun p=>[.string p.1,.string p.2])/\(o_ prog 35 x.1->ps.length*32<=reachBytes/\∀p∈ps,p.1.size<=reachBytes/\p.2.size<=reachBytes):=by
 obtain⟨v,css,bs,rfl,hr,hb,hs⟩:=EB (Q:=fun cs (b:aj×aj)=>cs=[.string b.1,.string b.2]) (S:=fun b=>b.1.size<=reachBytes/\b.2.size<=reachBytes) underlying35 Am ag (by kernel_rfl:prog.bytesOf 171=32) Mr h;exact⟨v,bs,rfl,by rw[<-EC hb];exact hr,hs⟩
abbrev zOp:bS:= #[.int .i64 0,.int .i64 0,.bool false,.string ⟨#[]⟩,.int .i64 0,.bool false,.string ⟨#[]⟩,.int .i64 0,.string ⟨#[]⟩,.string ⟨#[]⟩,.string ⟨#[]⟩,.slice none 0 0,.bool false,.string ⟨#[]⟩,.bool false,.string ⟨#[]⟩,.string ⟨#[]⟩,.string ⟨#[]⟩,.string ⟨#[]⟩,.int .i64 0,.bool false,.int .i64 0]
theorem Xw(h:x.length=22):(prog.info? 41).map (·.size)=some x.length:=by rw[h];kernel_rfl
theorem XA(h:x.length=24):(prog.info? 66).map (·.size)=some x.length:=by rw[h];kernel_rfl
theorem XC(h:x.length=2):(prog.info? 171).map (·.size)=some x.length:=by rw[h];kernel_rfl
def afS(w:World)(p:aX->Bool)(xs:cZ)(i:Value)(wr:World):Prop :=
 ∃k:Nat,k<=xs.length/\i=.int .i64 k/\(xs.take k).any p=false/\Fr aS w wr
theorem Ji(g:Nat)(cap:bS)(p:aX->Bool)(v:Value)(xs:cZ)(w:World)(eg:∀args w,(callFunc g args).run prog w=.ok (.enter g args) w)(hp:gP aS w g cap p xs)(hv:dY 2 w v xs) :
  aB 201 #[v,.func (.func g) #[] cap] w fun e w'=>e=.returned (.int .i64 (lU p xs 0))/\Fr aS w w':=by
 obtain⟨av,cv,fJ⟩:=hv.form;subst fJ;have eb:=O hv.1;go_enter func201,ntmps201;go_wp2;go_loopw[8] (afS w p xs) (fun i _=>xs.length-(intOf i).toNat)
 case atStart=>exact⟨0,aQ _,rfl,rfl,ae _ _⟩
 case round =>
  obtain⟨k,hk,rfl,hn,cL⟩:=hrel;have HN:=O hn;clear hn;by_cases fo:k<xs.length
  ·rcases(hv.fI cL).2 with ⟨_,_,_,e,_⟩|⟨bk,of,c,hf,h1,h2,h3,h4⟩
   ·rw[e]at fo;exact absurd fo (ct _)
   ·cases hf;unfold maxLen at h2;have dT:=O (List.getElem?_eq_getElem fo);have hcell:=h4 k _ dT.o;have iD:=O (bN fo);generalize xs[k]=x at dT hcell iD;have fD:=O (hp x iD.o wr cL);have lB:=(eb.o x iD.o).1;clear h4;cases qF:p x
    ·have qe:=O (any_take_succ dT.o HN.o qF);go_wp2_with (first|((with_reducible refine di 15 ?_);refine a_ rfl 171 (.tmp 14) rfl bk (of+k*2) rfl x _ hcell underlying171 rfl (XC lB) ?_)|fail)
     refine fD.o.mono ?_;rintro e w1⟨rfl,dr⟩;rw[qF];go_wp2;go_roundw
     case rel=>exact⟨k+1,ab,bg,qe.o,cL.trans dr⟩
     case measure=>simp[intOf];omega
    ·have fg:=O (oT (i:=0) dT.o qF HN.o);go_wp2_with (first|((with_reducible refine di 15 ?_);refine a_ rfl 171 (.tmp 14) rfl bk (of+k*2) rfl x _ hcell underlying171 rfl (XC lB) ?_)|fail)
     refine fD.o.mono ?_;rintro e w1⟨rfl,dr⟩;rw[qF];go_wp2;go_ret;rw[fg.o,bw];exact⟨rfl,cL.trans dr⟩
  ·have fg:=O (show lU p xs 0= -1 from kt (by have h:=HN.o;rw[aD ab]at h;exact h));go_wp2;go_ret;rw[fg.o];exact⟨rfl,cL⟩
theorem Cu(g:Nat)(cap:bS)(p:aX->Bool)(v:Value)(xs:cZ)(w:World)(eg:∀args w,(callFunc g args).run prog w=.ok (.enter g args) w)(hp:gP aS w g cap p xs)(hv:dY 2 w v xs) :
  aB 150 #[v,.func (.func g) #[] cap] w fun e w'=>e=.returned (.bool (xs.any p))/\Fr aS w w':=by
 have hb:=O (rL p xs 0);go_enter func150,ntmps150;go_wp2_with fail
 refine(Ji g cap p v xs w eg hp hv).mono ?_;rintro e w1⟨rfl,dr⟩;go_wp2;go_ret;exact⟨fB hb.o,dr⟩
abbrev Bs:=aI
abbrev jz:=Bs×Bs
structure nt where
 scheme:Bs
 token:Bs
 params:List jz
def oq(c:UInt8):Bool:=dN c||c==44
def T9:aI:=[97,98,99,100,101,102,103,104,105,106,107,108,109,110,111,112,113,114,115,116,117,118,119,120,121,122,65,66,67,68,69,70,71,72,73,74,75,76,77,78,79,80,81,82,83,84,85,86,87,88,89,90,48,49,50,51,52,53,54,55,56,57,45,46,95,126,43,47]
def E5(c:UInt8):Bool:=T9.contains c
def lj(c:UInt8):Bool:=[61].contains c
def T_:Bs->Bool
 |[]=>true
 |c :: _=>c==44
def eX(r:Bs):Bs:=r.dropWhile dN
def iH(r:Bs):Bs:=r.dropWhile oq
def n_(r:Bs):Bool:=T_ (eX r)
def ia(r:Bs):Bs:=r.takeWhile fW
def iB(r:Bs):Bs:=r.dropWhile fW
def M5(b:UInt8):Bs->Bool
 |[]=>false
 |c :: _=>c==b
def lI(r:Bs):Bool:=!(ia r).isEmpty&&M5 61 (eX (iB r))
def mg(r:Bs):Bs:=r.takeWhile E5
def nG(r:Bs):Bs:=(r.dropWhile E5).takeWhile lj
def su(r:Bs):Bs:=(r.dropWhile E5).dropWhile lj
def singleR(r:Bs):Option (Bs×Bs):=if !(mg r).isEmpty&&n_ (su r)then some (mg r++nG r,eX (su r))else none
def AJ:Bs->Option (Bs×Bs)
 |[]=>none
 |c :: t=>if c==34 then vy t else none
def pI(r:Bs):Option (Bs×Bs):=if(ia r).isEmpty then AJ r else some (ia r,iB r)
def nH(r:Bs):Bs:=eX ((eX (iB r)).drop 1)
def uk(ps:List jz)(n:Bs):Bool:=ps.any fun q=>dJ q.1 n
def ld(ps:List jz)(r:Bs):Except Nat (jz×Bs) :=
 if !lI r then .error 3 else
 match pI (nH r)with
 |none=>.error 3
 |some q=>if uk ps (ia r)then .error 9 else if ps.length=16 then .error 4 else .ok ((ia r,q.1),q.2)
def gU:Nat->List jz->Bs->Except Nat (List jz×Bs)
 |0,ps,r=>.ok (ps,r)
 |f+1,ps,r =>
  match ld ps r with
  | .error e=>.error e
  | .ok (p,r1)=>if n_ r1 then(if lI (iH r1)then gU f (ps++[p]) (iH r1)else .ok (ps++[p],iH r1))else .error 3
def pJ:Bs->Bool
 |[]=>false
 |c :: _=>dN c
def pk(k:Nat)(r:Bs):Except Nat (nt×Bs) :=
 if(ia r).isEmpty then .error 3
 else if k=8 then .error 4
 else if n_ (iB r)then .ok (⟨ia r,[],[]⟩,eX (iB r))
 else if !pJ (iB r)then .error 3
 else match singleR (eX (iB r))with
  |some q=>.ok (⟨ia r,q.1,[]⟩,q.2)
  |none=>match gU ((eX (iB r)).length+1) [] (eX (iB r))with
   | .error e=>.error e
   | .ok q=>.ok (⟨ia r,[],q.1⟩,q.2)
def kf:Nat->List nt->Bs->Except Nat (List nt)
 |0,acc,_=>.ok acc
 |f+1,acc,r =>
  if(iH r).isEmpty then .ok acc else
  match pk acc.length (iH r)with
  | .error e=>.error e
  | .ok (x,r1)=>kf f (acc++[x]) r1
def mC(l:Bs):Except Nat (List nt):=if 3000<l.length then .error 4 else kf (l.length+1) [] l
theorem qg(p:UInt8->Bool)(r:Bs):(r.dropWhile p).length<=r.length:=(jb p).length_le
theorem lJ(r:Bs):(eX r).length<=r.length:=qg _ r
theorem oI(r:Bs):(iH r).length<=r.length:=qg _ r
theorem pK(p:UInt8->Bool)(r:Bs):(r.takeWhile p).length+(r.dropWhile p).length=r.length:=by
 rw[<-aN,List.takeWhile_append_dropWhile]
theorem rk(r:Bs):(ia r).length+(iB r).length=r.length:=pK _ r
theorem FM{r:Bs}(h:(ia r).isEmpty=false):(iB r).length<r.length:=by
 have h1:=rk r;cases e:ia r with
 |nil=>rw[e]at h;cases h
 |cons c t=>rw[e]at h1;simp at h1;omega
theorem ac2{r a z:Bs}(h:vy r=some (a,z)):a.length+z.length+1<=r.length:=Hj _ r a z (ay _) h
theorem QI{r a z:Bs}(h:AJ r=some (a,z)):a.length+z.length+2<=r.length:=by
 cases r with
 |nil=>cases h
 |cons c t =>
  have h':(if c==34 then vy t else none)=some (a,z):=h;by_cases hc:(c==34)=true
  ·rw[az hc]at h';have:=ac2 h';simp;omega
  ·rw[aq hc]at h';cases h'
theorem QJ{r a z:Bs}(h:pI r=some (a,z)):a.length+z.length<=r.length:=by
 unfold pI at h;split at h
 ·have:=QI h;omega
 ·cases h;have:=rk r;omega
theorem M6(r:Bs):(nH r).length<=(iB r).length:=by
 unfold nH;have h1:=lJ ((eX (iB r)).drop 1);have h2:=lJ (iB r);have h3:((eX (iB r)).drop 1).length<=(eX (iB r)).length:=aR;omega
theorem BF{r:Bs}(h:lI r=true):(ia r).isEmpty=false:=by
 unfold lI at h;simp only[cF,Bool.not_eq_true']at h;exact h.1
theorem CW{r:Bs}(h:lI r=true):(nH r).length+2<=r.length:=by
 have hw:=FM (BF h);unfold lI at h;simp only[cF]at h;have h2:=h.2;unfold nH;have h3:=lJ (iB r);cases e:eX (iB r)with
 |nil=>rw[e]at h2;cases h2
 |cons c t =>
  rw[e]at h3;have h4:=lJ ((c :: t).drop 1);simp at h3 h4 ⊢; omega
theorem tN{ps:List jz}{r:Bs}{p:jz}{z:Bs}(h:ld ps r=.ok (p,z)):p.1.length+p.2.length+z.length<r.length:=by
 unfold ld at h;by_cases hn:lI r=true
 ·rw[aq (by simp[hn])]at h;have h1:=CW hn;have h0:=M6 r;have hw:=rk r;cases hv:pI (nH r)with
  |none=>rw[hv]at h;cases h
  |some q =>
   rw[hv]at h;simp only at h;split at h
   ·cases h
   ·split at h
    ·cases h
    ·cases h;have:=QJ (a:=q.1) (z:=q.2) hv;unfold lI at hn;simp only[cF]at hn;have h2:=hn.2;have h5:(nH r).length+1<=(iB r).length:=by
      unfold nH;have h3:=lJ (iB r);cases e:eX (iB r)with
      |nil=>rw[e]at h2;cases h2
      |cons c t =>
       rw[e]at h3;have h4:=lJ ((c :: t).drop 1);simp at h3 h4 ⊢; omega
     simp only;omega
 ·rw[az (by simpa using hn)]at h;cases h
theorem um:∀(f:Nat) (ps:List jz) (r:Bs),r.length<f->gU f ps r=gU (r.length+1) ps r
 |0,_,_,h=>absurd h (ct _)
 |f+1,ps,r,h=>by
  rw[gU,gU];cases hp:ld ps r with
  |error e=>rfl
  |ok q =>
   obtain⟨p,r1⟩:=q;have hl:=tN hp;have hg:=oI r1;simp only;split
   ·split
    ·rw[um f _ _ ab,um r.length _ _ ab]
    ·rfl
   ·rfl
theorem CX:∀(f:Nat) (ps:List jz) (r:Bs) (q:List jz×Bs),gU f ps r=.ok q->q.2.length<=r.length
 |0,ps,r,q,h=>by rw[gU]at h;cases h;exact ay _
 |f+1,ps,r,q,h=>by
  rw[gU]at h;cases hp:ld ps r with
  |error e=>rw[hp]at h;cases h
  |ok p =>
   rw[hp]at h;obtain⟨p,r1⟩:=p;have hl:=tN hp;have hg:=oI r1;simp only at h;split at h
   ·split at h
    ·have:=CX f _ _ q h;omega
    ·cases h;simp only;omega
   ·cases h
theorem CY{r t z:Bs}(h:singleR r=some (t,z)):t.length+z.length<=r.length:=by
 unfold singleR at h;split at h
 ·cases h;have h1:=pK E5 r;have h2:=pK lj (r.dropWhile E5);have h3:=lJ (su r);unfold su at h3 ⊢;unfold mg nG;rw[aN];omega
 ·cases h
theorem Cx{r:Bs}{x:nt}{z:Bs}(h:pk k r=.ok (x,z)):z.length<r.length:=by
 unfold pk at h;split at h
 ·cases h
 rename_i hw;have hw':(ia r).isEmpty=false:=by simpa using hw
 have h1:=FM hw';have h2:=lJ (iB r);split at h
 ·cases h
 split at h
 ·cases h;omega
 split at h
 ·cases h
 split at h
 ·rename_i q hq;cases h;have:=CY (t:=q.1) (z:=q.2) hq;omega
 ·split at h
  ·cases h
  ·rename_i q hq;cases h;have:=CX _ _ _ _ hq;omega
theorem qh:∀(f:Nat) (acc:List nt) (r:Bs),r.length<f->kf f acc r=kf (r.length+1) acc r
 |0,_,_,h=>absurd h (ct _)
 |f+1,acc,r,h=>by
  rw[kf,kf];split
  ·rfl
  ·cases ho:pk acc.length (iH r)with
   |error e=>rfl
   |ok q =>
    obtain⟨x,r1⟩:=q;have h1:=Cx ho;have h2:=oI r;simp only;rw[qh f _ _ ab,qh r.length _ _ ab]
theorem sx(r:Bs):iH (iH r)=iH r:=by
 refine vD (fun c hc=>?_);have:=List.head?_dropWhile_not oq r;unfold iH at hc;rw[hc]at this;simpa using this
theorem Cg(r:Bs):eX (eX r)=eX r:=by
 refine vD (fun c hc=>?_);have:=List.head?_dropWhile_not dN r;unfold eX at hc;rw[hc]at this;simpa using this
theorem Hl(r:Bs):n_ (eX r)=n_ r:=by unfold n_;rw[Cg]
theorem uo:∀r:Bs,iH (eX r)=iH r
 |[]=>rfl
 |c :: t=>by
  cases h:dN c
  ·have:eX (c :: t)=c :: t:=by unfold eX;rw[List.dropWhile_cons_of_neg (by simp[h])]
   rw[this]
  ·have e1:eX (c :: t)=eX t:=by unfold eX;rw[List.dropWhile_cons_of_pos h]
   have e2:iH (c :: t)=iH t:=by unfold iH;rw[List.dropWhile_cons_of_pos (by simp[oq,h])]
   rw[e1,e2,uo t]
theorem BG(f:Nat)(acc:List nt){r r':Bs}(h:iH r=iH r'):kf (f+1) acc r=kf (f+1) acc r':=by
 rw[kf,kf,h]
def J'(c:UInt8):Bool:=decide (48<=c.toNat/\c.toNat<=57)
theorem Ka{c:UInt8}:J' c=true↔48<=c.toNat/\c.toNat<=57:=by unfold J';simp
def E7:aj:=⟨#[48,49,50,51,52,53,54,55,56,57]⟩
theorem M9:∀b∈E7.data.toList,b.toNat<128:=du
theorem Ue:∀n:Fin 256,E7.data.toList.contains n.val.toUInt8=J' n.val.toUInt8:=du
theorem QK(c:UInt8):E7.data.toList.contains c=J' c:=by
 have h:=Ue ⟨c.toNat,c.toNat_lt⟩;simpa using h
theorem Kb(l:aI):l.all (E7.data.toList.contains ·)=l.all J':=by
 congr 1;funext c;exact QK c
def yZ(n:Int)(c:UInt8):Int:=min (n*10+((c.toNat:Int)-48)) 2147483648
def y_(l:aI):Int:=l.foldl yZ 0
def oK(l:aI):Bool:=!l.isEmpty&&l.all J'
theorem QL{l:aI}{x:UInt8}(h:l[k]?=some x):y_ (l.take (k+1))=yZ (y_ (l.take k)) x:=by
 rw[cC,h];simp[y_]
theorem xS:∀(l:aI) (n:Int),l.all J'=true->0<=n->n<=2147483648->0<=l.foldl yZ n/\l.foldl yZ n<=2147483648
 |[],n,_,h0,h1=>⟨h0,h1⟩
 |c :: l,n,h,h0,h1=>by
  rw[List.all_cons,cF]at h;have hc:=Ka.1 h.1;rw[List.foldl_cons];refine xS l _ h.2 ?_ ?_<;>(unfold yZ;omega)
def sD(s:aj)(w:World)(e:Ending)(w':World):Prop :=
 e=.returned (.tuple (if oK s.data.toList then #[.int .i64 (y_ s.data.toList),.nilIface]else #[.int .i64 0,.iface 105 (.int .i64 3)]))/\Fr aS w w'
theorem sD.ok(h:sD s w e w')(hd:oK s.data.toList=true):e=.returned (.tuple #[.int .i64 (y_ s.data.toList),.nilIface])/\Fr aS w w':=by
 obtain⟨he,hf⟩:=h;rw[hd]at he;exact⟨he,hf⟩
theorem sD.no(h:sD s w e w')(hd:oK s.data.toList=false):e=.returned (.tuple #[.int .i64 0,.iface 105 (.int .i64 3)])/\Fr aS w w':=by
 obtain⟨he,hf⟩:=h;rw[hd]at he;exact⟨he,hf⟩
def ac7(s:aj)(w:World)(n i:Value)(wr:World):Prop:=∃k:Nat,k<=s.size/\i=.int .i64 k/\n=.int .i64 (y_ (s.data.toList.take k))/\Fr aS w wr
theorem Kc(s:aj)(w:World)(hs:s.size<17592186044416) :
  aB 196 #[.string s] w (sD s w):=by
 by_cases h0:s.size=0
 ·have Kd:=gX.2 h0;have hd:=O (show oK s.data.toList=false by rw[Kd];rfl);have he:s.toList.isEmpty=true:=by rw[aO,Kd];rfl
  have he':s.toList=[]:=by rw[aO,Kd]
  clear Kd;go_enter func196,ntmps196;go_wp2;go_ret2;unfold sD;rw[hd.o];exact⟨rfl,ae _ _⟩
 ·have hne:s.data.toList≠ []:=fun h=>h0 (gX.1 h);have he:s.toList.isEmpty=false:=by rw[aO];simpa using hne
  have he':¬s.toList=[]:=by rw[aO];exact hne
  have TR:=O (sy s E7 w ab ag ag M9);cases iX:s.data.toList.all J'
  ·have hd:=O (show oK s.data.toList=false by unfold oK;rw[iX];simp);have Pv:=O (show Lib.trimS s.data.toList E7.data.toList≠ []from fun h=>by rw[wQ,Kb,iX]at h;cases h);clear iX hne;go_enter func196,ntmps196;go_wp2_with fail
   refine TR.o.mono ?_;rintro e w1⟨rfl,dr⟩;have t1:¬(⟨(Lib.trimS s.data.toList E7.data.toList).toArray⟩:aj).toList=[]:=by rw[aO];simpa using Pv.o
   have t2:(⟨(Lib.trimS s.data.toList E7.data.toList).toArray⟩:aj).toList.isEmpty=false:=by rw[aO];simpa using Pv.o
   generalize (⟨(Lib.trimS s.data.toList E7.data.toList).toArray⟩:aj)=z at *
   go_wp2;go_ret2;unfold sD;rw[hd.o];exact⟨rfl,dr⟩
  ·have hd:=O (show oK s.data.toList=true by unfold oK;rw[iX];simpa using hne);have Pv:=O (show Lib.trimS s.data.toList E7.data.toList=[]by rw[wQ,Kb,iX]);have J3:=O iX;clear iX hne;go_enter func196,ntmps196;go_wp2_with fail
   refine TR.o.mono ?_;rintro e w1⟨rfl,dr⟩;rw[Pv.o];clear TR;go_wp2;go_loopw[4,16] (ac7 s w) (fun _ i _=>s.size-(intOf i).toNat)
   case atStart=>exact⟨0,aQ _,rfl,rfl,dr⟩
   case round =>
    obtain⟨k,hk,rfl,rfl,cL⟩:=hrel;have hr:=xS (s.data.toList.take k) 0 (by rw[gB];exact fun x hx=>gB.1 J3.o x (eC hx)) ab ab;change 0<=y_ (s.data.toList.take k)/\y_ (s.data.toList.take k)<=2147483648 at hr;obtain⟨r0,r1⟩:=hr;by_cases fo:k<s.size
    ·have dT:=byte_at s k fo;have hdg:=Ka.1 (gB.1 J3.o _ (cq dT));have Jp:=O (QL dT);generalize hx:s[k]=x at dT hdg Jp;obtain⟨d0,d1⟩:=hdg;clear dT;generalize y_ (s.data.toList.take k)=n at *
     go_wp2;go_roundw
     case rel=>exact⟨k+1,ab,bg,by rw[Jp.o];rfl,cL⟩
     case measure=>simp[intOf];omega
    ·have fg:=O (show y_ (s.data.toList.take k)=y_ s.data.toList by rw[aD bI]);go_wp2;go_ret2;unfold sD;rw[hd.o, <-fg.o];exact⟨rfl,cL⟩
def FQ(s:aj):Bool:=s.data.toList.all fun c=>!kh c
def rC:List aj:=[⟨#[97,112,112,108,105,99,97,116,105,111,110,47,120,45,119,119,119,45,102,111,114,109,45,117,114,108,101,110,99,111,100,101,100]⟩,⟨#[109,117,108,116,105,112,97,114,116,47,102,111,114,109,45,100,97,116,97]⟩,⟨#[116,101,120,116,47,112,108,97,105,110]⟩]
def sG(s:aj)(c:UInt8):aj:=if 0<=Lib.indexByte s.data.toList c then s.extract 0 (Lib.indexByte s.data.toList c).toNat else s
def FR(s:aj):aj:=⟨(nv (Lib.trimS (sG s 59).data.toList [32,9])).toArray⟩
def lZ(name value:aj):Bool :=
 if 128<value.size then false
 else if nv name.data.toList=[97,99,99,101,112,116]then FQ value
 else if nv name.data.toList=[97,99,99,101,112,116,45,108,97,110,103,117,97,103,101]then vH value
 else if nv name.data.toList=[99,111,110,116,101,110,116,45,108,97,110,103,117,97,103,101]then vH value
 else if nv name.data.toList=[99,111,110,116,101,110,116,45,116,121,112,101]then FQ value&&Lib.containsS rC (FR value)
 else false
theorem uq(p:UInt8->Bool):∀l:aI,(l.dropWhile p).length<=l.length
 |[]=>ay _
 |a :: l=>by
  rw[List.dropWhile_cons];split
  ·exact Nat.le_succ_of_le (uq p l)
  ·exact ay _
theorem Kf(l cs:aI):(Lib.trimS l cs).length<=l.length:=by
 unfold Lib.trimS Lib.trimLeftS Lib.trimRightS;refine aG (uq _ _) ?_;rw[List.length_reverse];refine aG (uq _ _) ?_;rw[List.length_reverse];exact ay _
def ag_(s:aj)(w:World)(b i:Value)(wr:World):Prop:=∃k:Nat,k<=s.size/\i=.int .i64 k/\b=.bool ((s.data.toList.take k).all fun c=>!kh c)/\Fr aS w wr
theorem QM(name value:aj)(w:World)(hn:name.size<100000)(hv:value.size<100000) :
  aB 181 #[.agg #[.string name,.string value]] w fun e w'=>e=.returned (.bool (lZ name value))/\Fr aS w w':=by
 obtain⟨wb,j6⟩:∃wb,wb=w.alloc (.cells #[.string name,.string value] 171):=⟨_,rfl⟩;have ks:Fr aS w wb:=by rw[j6];exact(ae aS w).alloc _
 have mf:wb.heap[w.heap.size]?=some (.cells #[.string name,.string value] 171 (0,0)):=by rw[j6];exact aC _ _
 have HC:=O (show∀U,Fr aS wb U->U.cell? ⟨w.heap.size,0,none⟩=some (.string name)/\U.cell? ⟨w.heap.size,1,none⟩=some (.string value)from fun U hU=>by
  have j1:=hU.keep mf id;simp[World.cell?,j1])
 have qV:=O j6;have mr:=O ks;clear j6 ks mf;by_cases ag':128<value.size
 ·have HP:=O (show lZ name value=false by unfold lZ;rw[az ag']);have i128:(128:Int)<(value.size:Int):=ab;go_enter func181,ntmps181;go_wp2;rw[<-qV.o];go_ret;exact⟨by rw[HP.o];rfl,mr.o⟩
 ·have HP:=O (show lZ name value=if nv name.data.toList=[97,99,99,101,112,116]then FQ value
 else if nv name.data.toList=[97,99,99,101,112,116,45,108,97,110,103,117,97,103,101]then vH value
 else if nv name.data.toList=[99,111,110,116,101,110,116,45,108,97,110,103,117,97,103,101]then vH value
 else if nv name.data.toList=[99,111,110,116,101,110,116,45,116,121,112,101]then FQ value&&Lib.containsS rC (FR value)
 else false by unfold lZ;rw[aq ag'])
  have i128:¬(128:Int)<(value.size:Int):=ab;go_enter func181,ntmps181;go_wp2;rw[<-qV.o];go_loopw[3,15] (ag_ value wb) (fun _ i _=>value.size-(intOf i).toNat)
  case atStart=>exact⟨0,ab,rfl,rfl,ae _ _⟩
  case round =>
   obtain⟨k,hk,rfl,rfl,cL⟩:=hrel;obtain⟨c0,c1⟩:=HC.o wr cL;by_cases fo:k<value.size
   ·have pq:(k:Int)<(value.size:Int):=ab;have qW:=byte_at value k fo;have mj:=O (show((value.data.toList.take (k+1)).all fun c=>!kh c)=(((value.data.toList.take k).all fun c=>!kh c)&&!kh value[k])by rw[cC,qW,j5];simp);clear qW;cases hb:(value.data.toList.take k).all fun c=>!kh c
    ·have Tg:=O (show((value.data.toList.take (k+1)).all fun c=>!kh c)=false by rw[mj.o,hb];rfl);clear hb;go_wp2;go_roundw
     case rel=>exact⟨k+1,ab,bg,by rw[Tg.o],cL⟩
     case measure=>simp[intOf];omega
    ·have Tg:=O (show((value.data.toList.take (k+1)).all fun c=>!kh c)=!kh value[k]by rw[mj.o,hb];rfl);clear hb;go_wp2_with fail
     refine(Na value[k] _).mono ?_;rintro e u⟨rfl,rfl⟩;go_wp2;go_roundw
     case rel=>exact⟨k+1,ab,bg,by rw[Tg.o],cL⟩
     case measure=>simp[intOf];omega
   ·have pq:¬(k:Int)<(value.size:Int):=ab;rw[show((value.data.toList.take k).all fun c=>!kh c)=FQ value from by rw[aD bI];rfl];generalize FQ value=sf at *
    go_wp2_with fail
    refine(rj name wr ab).mono ?_;rintro e u1⟨rfl,dr⟩;have lC:=O (cL.trans dr);clear dr c0 c1;obtain⟨c0,c1⟩:=HC.o u1 lC.o;generalize nv name.data.toList=nl at *
    by_cases a1:nl=[97,99,99,101,112,116]
    ·subst a1;have HE:=O (show lZ name value=sf by rw[HP.o,az rfl]);go_wp2;go_ret;exact⟨by rw[HE.o];rfl,mr.o.trans lC.o⟩
    have HP1:=O (by have h:=HP.o;rw[aq a1]at h;exact h);have b1:(nl== [97,99,99,101,112,116])=false:=aL.2 a1;by_cases a2:nl=[97,99,99,101,112,116,45,108,97,110,103,117,97,103,101]
    ·subst a2;have HE:=O (show lZ name value=vH value by rw[HP1.o,az rfl]);clear b1 a1;go_wp2_with fail
     refine(zb value u1 hv).mono ?_;rintro e u2⟨rfl,dB⟩;go_wp2;go_ret;exact⟨by rw[HE.o];rfl,mr.o.trans (lC.o.trans dB)⟩
    have HP2:=O (by have h:=HP1.o;rw[aq a2]at h;exact h);have b2:(nl== [97,99,99,101,112,116,45,108,97,110,103,117,97,103,101])=false:=aL.2 a2;by_cases a3:nl=[99,111,110,116,101,110,116,45,108,97,110,103,117,97,103,101]
    ·subst a3;have HE:=O (show lZ name value=vH value by rw[HP2.o,az rfl]);clear b1 a1 b2 a2;go_wp2_with fail
     refine(zb value u1 hv).mono ?_;rintro e u2⟨rfl,dB⟩;go_wp2;go_ret;exact⟨by rw[HE.o];rfl,mr.o.trans (lC.o.trans dB)⟩
    have HP3:=O (by have h:=HP2.o;rw[aq a3]at h;exact h);have b3:(nl== [99,111,110,116,101,110,116,45,108,97,110,103,117,97,103,101])=false:=aL.2 a3;by_cases a4:nl=[99,111,110,116,101,110,116,45,116,121,112,101]
    ·subst a4;have HE:=O (show lZ name value=(sf&&Lib.containsS rC (FR value))by rw[HP3.o,az rfl]);clear b1 a1 b2 a2 b3 a3;have Hr:=O (show aB 127 #[.string value,.string ⟨#[59]⟩] u1 fun e w'=>(∃r f,e=.returned (.tuple #[.string (sG value 59),.string r,.bool f]))/\Fr aS u1 w' by
      by_cases hc:0<=Lib.indexByte value.data.toList 59
      ·obtain⟨i,hi⟩:∃i:Nat,Lib.indexByte value.data.toList 59=(i:Int):=⟨(Lib.indexByte value.data.toList 59).toNat,ab⟩;have hl:i<value.size:=by
        have h:=(Lib.indexByte_some hi).1;have:=(List.getElem?_eq_some_iff.1 h).1;simpa using this
       refine(Ke value 59 i u1 ab hi hl).mono ?_;rintro e w'⟨rfl,n,rfl⟩;refine⟨⟨value.extract (i+1) value.size,true,?_⟩,(ae aS u1).drewN n⟩;unfold sG;rw[az hc,hi];rfl
      ·refine(FP value 59 u1 hc).mono ?_;rintro e w'⟨rfl,rfl⟩;refine⟨⟨⟨#[]⟩,false,?_⟩,ae _ _⟩;unfold sG;rw[aq hc])
     have hbz:(sG value 59).size<=value.size:=by
      unfold sG;split
      ·simp[gC];omega
      ·exact ay _
     have HKB:=O (show FR value=⟨(nv (Lib.trimS (sG value 59).data.toList [32,9])).toArray⟩from rfl);generalize sG value 59=bv at *
     go_wp2_with fail
     refine Hr.o.mono ?_;rintro e u2⟨⟨r,f,rfl⟩,dB⟩;have f_:=O (lC.o.trans dB);clear Hr dB;go_wp2_with fail
     refine(sy bv ⟨#[32,9]⟩ u2 ab ag ag ag).mono ?_;rintro e u3⟨rfl,iz⟩;have iA:=O (f_.o.trans iz);clear iz;have QN:=Kf bv.data.toList [32,9];have hbs:bv.data.toList.length=bv.size:=aR;rw[show(⟨#[32,9]⟩:aj).data.toList=[32,9]from rfl];generalize Lib.trimS bv.data.toList [32,9]=tl at *
     have XT:(⟨tl.toArray⟩:aj).size<17592186044416:=by show tl.toArray.size<_;simp;omega
     go_wp2_with fail
     refine(rj ⟨tl.toArray⟩ u3 XT).mono ?_;rintro e u4⟨rfl,kQ⟩;have jZ:=O (iA.o.trans kQ);rw[show(⟨(nv (⟨tl.toArray⟩:aj).data.toList).toArray⟩:aj)=FR value from by rw[HKB.o]];clear kQ QN XT hbs;generalize FR value=kv at *
     cases sf
     ·go_wp2;go_ret;exact⟨by rw[HE.o];rfl,mr.o.trans (bF jZ.o (by repeat(first|exact ae _ _|apply bz)))⟩
     ·have HCO:=O (slices_Contains_string u4.heap.size 0 3 3 rC kv (u4.alloc (.cells (rC.map Value.string).toArray 9)) (bd rfl) (bd rfl) (fun j hj=>by
       have h:=aC u4 (.cells (rC.map Value.string).toArray 9);have e:(rC.map Value.string)[j]?=some (.string (rC.getD j ByteArray.empty)):=by rw[List.getElem?_map,List.getElem?_eq_getElem hj,List.getD_eq_getElem?_getD,List.getElem?_eq_getElem hj];rfl
       rw[bw];simp only[World.cell?,h];simpa using e))
      have xn:=O (show Fr aS wb (u4.alloc (.cells (rC.map Value.string).toArray 9))from jZ.o.alloc _);go_wp2_with fail
      refine HCO.o.mono ?_;rintro e u5⟨rfl,rfl⟩;rw[show rC.take 3=rC from rfl];go_wp2;go_ret;exact⟨by rw[HE.o];rfl,mr.o.trans xn.o⟩
    have b4:(nl== [99,111,110,116,101,110,116,45,116,121,112,101])=false:=aL.2 a4;have HE:=O (show lZ name value=false by rw[HP3.o,aq a4]);go_wp2;go_ret;exact⟨by rw[HE.o];rfl,mr.o.trans lC.o⟩
theorem fZ(w:World)(t:TypeId)(ss:List aj)(hl:ss.length<=maxLen):fP (w.alloc (.cells (ss.map Value.string).toArray t)) (.slice (some ⟨w.heap.size,0,none⟩) ss.length ss.length) ss:=by
 refine Or.inr ⟨w.heap.size,0,ss.length,rfl,ay _,hl,aR,fun j x hj=>?_⟩;rw[bw];simp only[World.cell?,aC];simp[hj]
def kM(ss:List aj):aI:=Lib.join (ss.map (·.data.toList)) [58]
def kD(Nt:Bool)(ss:List aj):aj:=if Nt then⟨(KE (kM ss)).toArray⟩else⟨(KB (kM ss)).toArray⟩
theorem Zk(l:aI):(KB l).length=32:=by unfold KB oN;rw[Dm,od];rfl
theorem Zl(l:aI):(KE l).length=64:=by unfold KE oN;rw[Dm,od];rfl
theorem lK(Nt:Bool)(ss:List aj):(kD Nt ss).size<=64:=by
 unfold kD;cases Nt
 ·show(KB _).toArray.size<=64;simp[Zk]
 ·show(KE _).toArray.size<=64;simp[Zl]
def tz(fQ:Int)(w:World):Prop:=∀(v:Value) (ss:List aj) (W:World),Fr aS w W->fP W v ss->ss.length<=100000->(kM ss).length<=100000 ->
  aB 159 #[.int .i64 fQ,v] W fun e w'=>e=.returned (.string (kD (decide (fQ=3)) ss))/\Fr aS W w'
theorem tz.fr{fQ:Int}(h:tz fQ w)(hf:Fr aS w w'):tz fQ w':=fun v ss W hW=>h v ss W (hf.trans hW)
theorem KF(v:Value)(ss:List aj)(w:World)(hv:fP w v ss)(hn:ss.length<=100000)(hlen:(kM ss).length<=100000) :
  aB 207 #[v,.string ⟨#[58]⟩] w fun e w'=>e=.returned (.string ⟨(kM ss).toArray⟩)/\Fr aS w w':=by
 rcases hv with ⟨a,c,rfl,rfl,_⟩|⟨bk,o,c,rfl,h1,h2,h3,h4⟩
 ·exact(strings_Join_none _ _ _ _).mono (by rintro e w1 ⟨rfl,rfl⟩;exact⟨rfl,ae _ _⟩)
 ·exact(strings_Join bk o c ss ⟨#[58]⟩ w h4 h3 ab h1 (by unfold kM at hlen;show(Lib.join _ [58]).length<=_;omega)).mono (by rintro e w1 ⟨rfl,hb⟩;exact⟨rfl,fk hb⟩)
theorem Zm(fQ:Int)(h3:fQ≠3)(w:World)(ht:uz w):tz fQ w:=by
 intro v ss W hW hv hn hlen;have hT:=O (ht.fr hW);clear ht;have HJ:=O (KF v ss W hv hn hlen);clear hv;have hz:(⟨(kM ss).toArray⟩:aj).size<4398046511104:=by show(kM ss).toArray.size<_;simp;omega
 have HB:=O (show kD (decide (fQ=3)) ss=⟨(KB (kM ss)).toArray⟩from by rw[bD h3];rfl);generalize kM ss=tx at *
 clear hW;go_enter func159,ntmps159;go_wp2_with fail
 refine HJ.o.mono ?_;rintro e u1⟨rfl,dr⟩;go_wp2_with fail
 refine(Zh ⟨tx.toArray⟩ u1 hz (hT.o.fr dr)).mono ?_;rintro e u2⟨rfl,dB⟩;go_wp2;go_ret;exact⟨(ar (fun b=>Ending.returned (.string b)) HB.o).symm,dr.trans dB⟩
theorem PU{P:Program}{W:World}{x:String×DataW Unit}:∀ {laid:List (String×DataW Unit)},laidMet P laid W->x∈laid->∃r,laidMet P (x :: r) W
 |y :: l,h,hm=>by
  rcases bB.1 hm with rfl|hm
  ·exact⟨l,h⟩
  ·exact PU (laidMet.tail h) hm
theorem rH{P:Program}{W:World}{laid:List (String×DataW Unit)}{name:String}{k:IntKind}{zs:List Int}{g:Nat}{t e:TypeId}{n:Nat}
  (h:laidMet P laid W)(hm:(name,Lib.tabData k zs)∈laid)
  (hg:P.globalNamed name=some g)(Tq:(P.globals[g]?).map (·.type)=some t)(ht:P.underlying t=some (.array n e))(he:P.underlying e=some (.int k))(hce:P.cellsOf e=1)(hct:P.cellsOf t=n):Lib.TabIs P W name k zs:=by
 obtain⟨r,hr⟩:=PU h hm;exact Lib.tabIs_of_head hg Tq ht he hce hct hr
theorem Zn{i:Nat}{v:Value}(h:w.cell? ⟨g,i,none⟩=some v):g<w.heap.size:=by
 cases hb:w.heap[g]? with
 |none=>simp[World.cell?,hb]at h
 |some o=>exact bj hb
theorem vV{P:Program}{name:String}{k:IntKind}{zs:List Int}(hT:Lib.TabIs P W name k zs)(hg:P.globalNamed name=some g)(hz:0<zs.length):oP W g k zs:=by
 have hc:∀(i:Nat) z,zs[i]?=some z->W.cell? ⟨g,i,none⟩=some (.int k z):=fun i z hi=>by
  obtain⟨hl,he⟩:=List.getElem?_eq_some_iff.1 hi;rw[hT.cell hg i hl,List.getD_eq_getElem?_getD,hi];rfl
 exact⟨Zn (hc 0 _ (List.getElem?_eq_getElem hz)),hc⟩
theorem KG(h:laidMet prog laid W)(hm:("gatepost/api.Sines",Lib.tabData .u32 Dw)∈laid/\("gatepost/sum.turns",Lib.tabData .i64 (oO.map Int.ofNat))∈laid):uz W :=
 ⟨vV (rH h hm.1 (g:=3) af af underlying293 underlying290 af af) af ag,
  vV (rH h hm.2 (g:=4) af af underlying299 underlying3 af af) af ag⟩
theorem KH(h:laidMet prog laid W)(hm:("gatepost/api.Roots",Lib.tabData .u32 DA)∈laid/\("gatepost/api.Begin",Lib.tabData .u32 UJ)∈laid):uA W :=
 ⟨vV (rH h hm.1 (g:=2) af af underlying293 underlying290 af af) af ag,
  vV (rH h hm.2 (g:=1) af af underlying291 underlying290 af af) af ag⟩
def Ri(c:UInt8):Bool:=c<32||c==127
def lF(s:aj):Bool:=s.data.toList.all fun c=>!Ri c
def DF(user pass:aj):aj:=⟨([66,97,115,105,99,32]++vo (user.data.toList++[58]++pass.data.toList)).toArray⟩
def mR(user pass:aj)(e:Ending):Prop :=
 if 0<=Lib.indexByte user.data.toList 58 then e=.returned (.tuple #[.string ⟨#[]⟩,.iface 105 (.int .i64 1)])
 else if lF user&&lF pass then e=.returned (.tuple #[.string (DF user pass),.nilIface])
 else e=.returned (.tuple #[.string ⟨#[]⟩,.iface 105 (.int .i64 3)])
def ahP(user pass:aj)(w:World)(i:Value)(wr:World):Prop:=∃k:Nat,k<=2/\i=.int .i64 k/\(0<k->lF user=true)/\(1<k->lF pass=true)/\Fr aS w wr
def anR(s:aj)(w:World)(i:Value)(wr:World):Prop:=∃k:Nat,k<=s.size/\i=.int .i64 k/\(s.data.toList.take k).all (fun c=>!Ri c)=true/\Fr aS w wr
theorem Ik{a b x:aj}(h:[a,b][k]?=some x):k=0/\x=a\/k=1/\x=b:=by
 match k,h with
 |0,h=>exact .inl ⟨rfl,by simpa using h.symm⟩
 |1,h=>exact .inr ⟨rfl,by simpa using h.symm⟩
 |k+2,h=>simp at h
theorem Gf(user pass:aj)(w:World)(hu:user.size<=100000)(hp:pass.size<=100000) :
  aB 49 #[.agg #[.string user,.string pass]] w fun e w'=>mR user pass e/\Fr aS w w':=by
 have ks:Fr aS w (w.alloc (.cells #[.string user,.string pass] 39)):=(ae aS w).alloc _;have pY:=aC w (.cells #[.string user,.string pass] 39);by_cases hc:0<=Lib.indexByte user.data.toList 58
 ·have HP:=O (show∀e,mR user pass e↔e=.returned (.tuple #[.string ⟨#[]⟩,.iface 105 (.int .i64 1)])from fun e=>by unfold mR;rw[az hc]);have hd:decide (0<=Lib.indexByte user.data.toList 58)=true:=bM hc;go_enter func49,ntmps49;go_wp2_with fail
  refine(strings_Contains_one user 58 _).mono ?_;rintro e u1⟨rfl,rfl⟩;rw[hd];go_wp2;go_ret2;exact⟨(HP.o _).2 rfl,ks⟩
 ·have hd:decide (0<=Lib.indexByte user.data.toList 58)=false:=bD hc;have Cl:=O (show(lF user&&lF pass)=false->mR user pass (.returned (.tuple #[.string ⟨#[]⟩,.iface 105 (.int .i64 3)]))from fun h=>by unfold mR;rw[aq hc,aq (by simp[h])]);have KM:=O (show(lF user&&lF pass)=true->mR user pass (.returned (.tuple #[.string (DF user pass),.nilIface]))from fun h=>by unfold mR;rw[aq hc,az h])
  have mr:=O ks;have HCA:=O (show∀U,Fr aS (w.alloc (.cells #[.string user,.string pass] 39)) U->U.cell? ⟨w.heap.size,0,none⟩=some (.string user)/\U.cell? ⟨w.heap.size,1,none⟩=some (.string pass)from fun U hU=>by
   have rZ:=hU.keep pY id;simp[World.cell?,rZ])
  have MR:Fr aS w ((w.alloc (.cells #[.string user,.string pass] 39)).alloc (.cells #[.string user,.string pass] 9)):=ks.alloc _;have xr:∀U,Fr aS ((w.alloc (.cells #[.string user,.string pass] 39)).alloc (.cells #[.string user,.string pass] 9)) U ->
    U.cell? ⟨w.heap.size,0,none⟩=some (.string user)/\U.cell? ⟨w.heap.size,1,none⟩=some (.string pass)/\∀(k:Nat) x,[user,pass][k]?=some x->U.cell? ⟨w.heap.size+1,k,none⟩=some (.string x):=fun U hU=>by
   have mf:=hU.keep (((ae aS _).alloc _).keep pY id) id;have rZ:=hU.keep (aC (w.alloc (.cells #[.string user,.string pass] 39)) (.cells #[.string user,.string pass] 9)) id;rw[bO]at rZ;refine⟨by simp[World.cell?,mf],by simp[World.cell?,mf],fun k x hx=>?_⟩;rcases Ik hx with ⟨rfl,rfl⟩|⟨rfl,rfl⟩<;>simp[World.cell?,rZ]
  have Ff:=O xr;have rK:=O MR;clear ks pY xr MR;go_enter func49,ntmps49;go_wp2_with fail
  refine(strings_Contains_one user 58 _).mono ?_;rintro e u1⟨rfl,rfl⟩;rw[hd];go_wp2;obtain⟨wl,EO⟩:∃wl,wl=(w.alloc (.cells #[.string user,.string pass] 39)).alloc (.cells #[.string user,.string pass] 9):=⟨_,rfl⟩;rw[<-EO]at Ff rK ⊢;clear EO;go_loopw[17] (ahP user pass wl) (fun i _=>2-(intOf i).toNat)
  case atStart=>exact⟨0,ab,rfl,ab,ab,ae _ _⟩
  case round =>
   obtain⟨k,hk,rfl,pd,dr,cL⟩:=hrel;generalize wr=wo at *
   by_cases rZ:k<2
   ·have anS:(k:Int)<2:=ab;obtain⟨s,hs⟩:∃s,[user,pass][k]?=some s:=⟨_,List.getElem?_eq_getElem (by simpa using rZ)⟩;have hcell:=(Ff.o wo cL).2.2 k s hs;have yG:s.size<=100000:=by rcases Ik hs with ⟨_,rfl⟩|⟨_,rfl⟩<;>assumption
    have MT:=O (show lF s=true->(0<k+1->lF user=true)/\(1<k+1->lF pass=true)from fun h=>by
     rcases Ik hs with ⟨rfl,rfl⟩|⟨rfl,rfl⟩
     ·exact⟨fun _=>h,fun h=>ab⟩
     ·exact⟨fun _=>pd ab,fun _=>h⟩)
    have HNO:=O (show lF s=false->(lF user&&lF pass)=false from fun h=>by
     rcases Ik hs with ⟨rfl,rfl⟩|⟨rfl,rfl⟩<;>simp[h])
    clear hs pd dr;go_wp2;go_loopw[23] (anR s wl) (fun i _=>s.size-(intOf i).toNat)
    case atStart=>exact⟨0,ab,rfl,rfl,cL⟩
    case round =>
     obtain⟨j,hj,rfl,iX,jq⟩:=hrel;by_cases hj2:j<s.size
     ·have anT:(j:Int)<(s.size:Int):=ab;have qW:=byte_at s j hj2;by_cases hb:Ri s[j]=true
      ·have HFI:=O (show lF s=false by
        unfold lF;rw[jh];exact⟨s[j],cq qW,by simp[hb]⟩)
       have hor:s[j].toNat<32\/s[j].toNat=127:=by
        unfold Ri at hb;simp only[Bool.or_eq_true,dG,dW]at hb;rcases hb with h|h
        ·exact .inl (UInt8.lt_iff_toNat_lt.1 h)
        ·exact .inr (by rw[h];rfl)
       by_cases h32:s[j].toNat<32
       ·have ahR:(s[j].toNat:Int)<32:=ab;go_wp2;go_ret2;exact⟨Cl.o (HNO.o HFI.o),rK.o.trans jq⟩
       ·have ahR:¬(s[j].toNat:Int)<32:=ab;have auV:s[j].toNat=127:=ab;have ahS:(s[j].toNat:Int)=127:=ab;go_wp2;go_ret2;exact⟨Cl.o (HNO.o HFI.o),rK.o.trans jq⟩
      ·have hor:¬s[j].toNat<32/\¬s[j].toNat=127:=by
        unfold Ri at hb;simp only[Bool.or_eq_true,dG,dW,not_or]at hb;exact⟨fun h=>hb.1 (UInt8.lt_iff_toNat_lt.2 h),fun h=>hb.2 (iW.1 h)⟩
       obtain⟨o1,o2⟩:=hor;have ahR:¬(s[j].toNat:Int)<32:=ab;have ahS:¬(s[j].toNat:Int)=127:=ab;have AL:=O (show(s.data.toList.take (j+1)).all (fun c=>!Ri c)=true by
        rw[cC,qW,j5,iX];simp[hb])
       clear qW iX;go_wp2;go_roundw
       case rel=>exact⟨j+1,ab,bg,AL.o,jq⟩
       case measure=>simp[intOf];omega
     ·have anT:¬(j:Int)<(s.size:Int):=ab;have HFI:=O (show lF s=true by
       unfold lF;rw[aD bI]at iX;exact iX)
      clear iX;go_wp2;go_roundw
      case rel=>exact⟨k+1,ab,bg,(MT.o HFI.o).1,(MT.o HFI.o).2,jq⟩
      case measure=>simp[intOf];omega
   ·have anS:¬(k:Int)<2:=ab;have CE:(lF user&&lF pass)=true:=by rw[pd ab,dr ab];rfl
    have HPO:=O (KM.o CE);obtain⟨c0,c1,_⟩:=Ff.o wo cL;have qf:¬9223372036854775807<user.size+1:=ab;have kB:¬9223372036854775807<user.size+1+pass.size:=ab;clear pd dr CE;have anU:=O (fun W=>Nw (user++⟨#[58]⟩++pass) W (by simp[je];show user.size+1+pass.size<_;omega));have xe:=O (show(vo (user++⟨#[58]⟩++pass).data.toList).length<=400000 from by rw[P3];simp[gO];omega)
    have HEQ:=O (show(⟨#[66,97,115,105,99,32]⟩++⟨(vo (user++⟨#[58]⟩++pass).data.toList).toArray⟩:aj)=DF user pass from by
     apply Go.WideShapes.bytes_inj;unfold DF;simp[gO])
    go_wp2_with fail
    refine(anU.o _).mono ?_;rintro e w7⟨rfl,ov⟩;generalize vo (user++⟨#[58]⟩++pass).data.toList=bl at *
    have tu:¬9223372036854775807<6+bl.length:=by have:=xe.o;omega
    go_wp2;go_ret2;rw[<-HEQ.o]at HPO;exact⟨HPO.o,(rK.o.trans cL).trans ov⟩
