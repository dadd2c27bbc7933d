/- Lemmas for the law's walk. -/
import Derived.Test.YtnckmcnffadjoaaGreatDoorPk6
set_option maxRecDepth 100000
set_option maxHeartbeats 16000000
set_option linter.unusedSimpArgs false
namespace Go.Proofs.YtnckmcnffadjoaaGreatDoor
open Go.Proofs.Tryz
open Go.RowKit
variable {x cs:List Value} {fuel k:Nat} {s:aj} {w w':World} {e:Ending}
abbrev Yw:Array Value:= #[.bool false,.string ⟨#[]⟩,.int .i64 0,.int .i64 0]
theorem QC:∀v∈Yw.toList,v.oneCell'=true:=dp
theorem OH(h:x.length=4):(prog.info? 97).map (·.size)=some x.length:=by rw[h];kernel_rfl
def ae2(w:World)(p:List Value->Bool)(xs:List (List Value))(i:Value)(wr:World):Prop :=
 ∃k:Nat,k<=xs.length/\i=.int .i64 k/\(xs.take k).any p=false/\Fr aR w wr
theorem Ap(g:Nat)(cap:Array Value)(p:List Value->Bool)(v:Value)(xs:List (List Value))(w:World)(eg:∀args w,(callFunc g args).run prog w=.ok (.enter g args) w)(hp:gO aR w g cap p xs)(hv:dV 4 w v xs) :
  Calls prog 198 #[v,.func (.func g) #[] cap] w fun e w'=>e=.returned (.int .i64 (lW p xs 0))/\Fr aR w w':=by
 obtain⟨av,cv,fI⟩:=hv.form;subst fI;have dY:=O hv.1;go_enter func198,ntmps198;go_wp2;go_loopw[8] (ae2 w p xs) (fun i _=>xs.length-(intOf i).toNat)
 case atStart=>exact⟨0,aI _,rfl,rfl,ae _ _⟩
 case round =>
  obtain⟨k,hk,rfl,hn,cK⟩:=hrel;have HN:=O hn;clear hn;by_cases eX:k<xs.length
  ·rcases(hv.fH cK).2 with ⟨_,_,_,e,_⟩|⟨bk,of,c,hf,h1,h2,h3,h4⟩
   ·rw[e]at eX;exact absurd eX (bS _)
   ·cases hf;unfold maxLen at h2;have dN:=O (List.getElem?_eq_getElem eX);have hcell:=h4 k _ dN.o;have g_:=O (bL eX);generalize xs[k]=x at dN hcell g_;have fA:=O (hp x g_.o wr cK);have lF:=(dY.o x g_.o).1;clear h4;cases qI:p x
    ·have qi:=O (any_take_succ dN.o HN.o qI);go_wp2_with (first|((with_reducible refine cY 15 ?_);refine aU rfl 97 (.tmp 14) rfl bk (of+k*4) rfl x _ hcell underlying97 rfl (OH lF) ?_)|fail)
     refine fA.o.mono ?_;rintro e w1⟨rfl,df⟩;rw[qI];go_wp2;go_roundw
     case rel=>exact⟨k+1,ab,a_,qi.o,cK.trans df⟩
     case measure=>simp[intOf];omega
    ·have fc:=O (oV (i:=0) dN.o qI HN.o);go_wp2_with (first|((with_reducible refine cY 15 ?_);refine aU rfl 97 (.tmp 14) rfl bk (of+k*4) rfl x _ hcell underlying97 rfl (OH lF) ?_)|fail)
     refine fA.o.mono ?_;rintro e w1⟨rfl,df⟩;rw[qI];go_wp2;go_ret;rw[fc.o,bw];exact⟨rfl,cK.trans df⟩
  ·have fc:=O (show lW p xs 0= -1 from ku (by have h:=HN.o;rw[aC ab]at h;exact h));go_wp2;go_ret;rw[fc.o];exact⟨rfl,cK⟩
def ae3(b:Nat)(w:World)(bk cap:Nat)(p:List Value->Bool)(xs:List (List Value))(i j:Value)(wr:World):Prop :=
 ∃(m n:Nat) (ys:List (List Value)),i=.int .i64 m/\j=.int .i64 n/\m<n/\n<=xs.length/\ys.length=xs.length/\OwnRows b 97 4 wr (.slice (some ⟨bk,0,none⟩) xs.length cap) ys /\
  ys.take m=(xs.take n).filter (fun x=>!p x)/\ys.drop n=xs.drop n/\Fr (one bk) w wr
theorem Aq{p:List Value->Bool}:∀ {l:List (List Value)} (i:Nat),l.any p=true->∃k x,l[k]?=some x/\p x=true/\(l.take k).any p=false/\lW p l i=((i+k:Nat):Int)
 |[],_,h=>by simp at h
 |a :: l,i,h=>by
  cases ha:p a
  ·rw[List.any_cons,ha,jN]at h;obtain⟨k,x,h1,h2,h3,h4⟩:=Aq (i+1) h;refine⟨k+1,x,by simpa using h1,h2,by simp[ha,h3],?_⟩;rw[lW,ha];simp only[cG,eU];rw[h4];congr 1;omega
  ·exact⟨0,a,rfl,ha,rfl,by rw[lW,ha];simp⟩
theorem Ar{p:List Value->Bool}{l:List (List Value)}(h:l.any p=false):l.filter (fun x=>!p x)=l:=by
 rw[List.filter_eq_self];intro a ha;have:=eW.1 h a ha;simpa using this
theorem FQ(b:Nat)(g:Nat)(cap:Array Value)(p:List Value->Bool)(v:Value)(xs:List (List Value))(w:World)(eg:∀args w,(callFunc g args).run prog w=.ok (.enter g args) w)(hp:gO (own v) w g cap p xs)(hv:OwnRows b 97 4 w v xs) :
  Calls prog 141 #[v,.func (.func g) #[] cap] w fun e w'=>∃a c,e=.returned (.slice a (xs.filter (fun x=>!p x)).length c)/\OwnRows b 97 4 w' (.slice a (xs.filter (fun x=>!p x)).length c) (xs.filter (fun x=>!p x))/\Fr (own v) w w'/\own (.slice a (xs.filter (fun x=>!p x)).length c)=own v:=by
 cases jn:xs.any p
 ·have rT:=O (ku (i:=0) jn);rw[Ar jn];obtain⟨av,cv,fI⟩:=hv.form;subst fI;go_enter func141,ntmps141;go_wp2_with fail
  refine(Ap g cap p _ xs w eg hp.none hv.at).mono ?_;rintro e w1⟨rfl,df⟩;rw[rT.o];go_wp2;go_ret;exact⟨_,_,rfl,hv.fr df (fun _ _ h=>h),df.mono (fun _ _ h=>absurd h (fun h=>h)),rfl⟩
 ·obtain⟨k0,x0,IL,Ec,vO,rT⟩:=Aq 0 jn;rw[bw]at rT;have Nv:=(List.getElem?_eq_some_iff.1 IL).1;obtain⟨bk,cp,Lh⟩:∃bk cp,v=.slice (some ⟨bk,0,none⟩) xs.length cp:=by
   rcases hv.2.2 with ⟨_,hn⟩|⟨bk,cp,cur,hv,_⟩
   ·omega
   ·exact⟨bk,cp,hv⟩
  subst Lh;obtain⟨Cu,cur,sH,q1,q2,q3,q4,q5,q6⟩:=hv.open (g:=bk) rfl;cases sH;unfold maxLen at q4;have dY:=O hv.1;have Ed:=O (show xs.take k0=(xs.take (k0+1)).filter (fun x=>!p x)by
   rw[dW IL,cC,Ar vO];simp[Ec])
  have HP:=O hp;have ZL:=O rT;clear jn vO IL Ec rT q2 q5 q6 hp;go_enter func141,ntmps141;go_wp2_with fail
  refine(Ap g cap p _ xs w eg HP.o.none hv.at).mono ?_;rintro e w1⟨rfl,df⟩;rw[ZL.o];have Ft:=hv.fr df (fun _ _ h=>h);have JS:((k0:Int)== -1)=false:=by rw[aN];omega
  go_wp2;go_loopw[5,6] (ae3 b w bk cp p xs) (fun _ j _=>xs.length-(intOf j).toNat)
  case atStart=>exact⟨k0,k0+1,xs,rfl,a_,ab,ab,rfl,Ft,Ed.o,rfl,df.mono (fun _ _ h=>absurd h (fun h=>h))⟩
  case round =>
   obtain⟨m,n,ys,rfl,rfl,hmn,hn,hlen,cP,rI,td,cK⟩:=hrel;have HT:=O rI;have HD:=O td;have jW:=O hlen;clear rI td hlen;rw[<-jW.o]at cP;have rU:=cP.at;by_cases eX:n<xs.length
   ·rcases rU.2 with ⟨_,_,_,e,_⟩|⟨IM,of,c,hf,h1,h2,h3,h4⟩
    ·have hl:=jW.o;rw[e]at hl;simp at hl;omega
    ·cases hf;have dN:=O (List.getElem?_eq_getElem eX);have yF:ys[n]?=some xs[n]:=by
      have e:=ar (fun l:List (List Value)=>l[0]?) HD.o;simp only[List.getElem?_drop,Nat.add_zero]at e;rw[e,dN.o]
     have hcell:=h4 n _ yF;simp only[bw]at hcell;have g_:=O (bL eX);generalize xs[n]=x at dN hcell g_ yF;have lF:=(dY.o x g_.o).1;have mO:=O (dY.o x g_.o).2;have jq:=fun W=>run_storeCells_new (P:=prog) W 97 #[.bool false,.string ⟨#[]⟩,.int .i64 0,.int .i64 0] x (by rw[lF];rfl) mO.o;have gS:Fr aR wr (wr.alloc (.cells x.toArray 97)):=(ae aR wr).alloc _
     have fA:=O (HP.o x g_.o (wr.alloc (.cells x.toArray 97)) ((cK.alloc _).mono (fun k _ h=>by have e:k=bk:=h;rw[e];rfl)));have IV:=O (OH lF);have js:=cK.alloc (.cells x.toArray 97);have fy:=cP.fr gS (fun _ _ h=>h);have qp:(wr.alloc (.cells x.toArray 97)).heap[wr.heap.size]?=some (.cells x.toArray 97 (0,0)):=aB _ _;have ud:=O qp;clear h4 yF qp gS
     go_wp2_with (first|((with_reducible refine cY 25 ?_);refine aU rfl 97 (.tmp 24) rfl bk (n*4) rfl x _ hcell underlying97 rfl IV.o ?_)|((with_reducible refine cY 27 ?_);refine aH rfl 97 (.tmp 7) rfl wr.heap.size rfl _ x.toArray (0,0) _ ud.o underlying97 rfl (by rw[aW];exact IV.o) ?_)|fail)
     have hlw:wr.heap.size<(wr.alloc (.cells x.toArray 97)).heap.size:=aQ;clear jq hcell;generalize wr.alloc (.cells x.toArray 97)=W2 at *
     refine fA.o.mono ?_;rintro e w3⟨rfl,iv⟩;have qG:=js.trans (iv.mono (fun _ _ h=>absurd h (fun h=>h)));have fo:=fy.fr iv (fun _ _ h=>h);have tK:=O (iv.keep ud.o (fun h=>h));have N0:=O jW.o;cases qI:p x
     ·have Yg:=O (fo.there (g:=bk) (cap:=cp) (by rw[jW.o]) (o:=m*4) (n:=x.toArray.size) (by
       have hmc:(m+1)*4<=cp*4:=bO _ ab;rw[aW,lF];omega))
      have eY:=fo.store (i:=m) (y:=x) (by rw[jW.o];omega) lF mO.o (g:=bk) rfl;rw[jW.o]at eY;have oA:=qG.step (fF (ae (one bk) w3) (fun _=>rfl) x (m*4)) (fun _ _ h=>h)
      go_wp2_with (first|((with_reducible refine cY 32 ?_);refine aH rfl 97 (.tmp 7) rfl wr.heap.size rfl _ x.toArray (0,0) _ tK.o underlying97 rfl (by rw[aW];exact IV.o) ?_)|((with_reducible refine cV 97 ?_);refine iq rfl 97 (.tmp 33) (.tmp 32) rfl bk (m*4) x.toArray rfl rfl Yg.o (by rw[aW];exact IV.o) (bW mO.o) ?_)|fail)
      go_roundw
      case rel =>
       refine⟨m+1,n+1,ys.set m x,a_,a_,ab,ab,by rw[d_];exact N0.o,eY,?_,?_,oA⟩
       ·rw[dW (l:=ys.set m x) (List.getElem?_set_self (by rw[N0.o];omega)),gj (ay m),dW dN.o,cC,HT.o];simp[qI]
       ·rw[gl ab];have e:=ar (List.drop 1) HD.o;simpa[ey]using e
      case measure=>simp[intOf];omega
     ·rw[jW.o]at fo;go_wp2_with fail
      go_roundw
      case rel =>
       refine⟨m,n+1,ys,rfl,a_,ab,ab,N0.o,fo,?_,?_,qG⟩
       ·rw[dW dN.o,cC,HT.o];simp[qI]
       ·have e:=ar (List.drop 1) HD.o;simpa[ey]using e
      case measure=>simp[intOf];omega
   ·have rW:n=xs.length:=ab;subst rW;have fc:=O (show ys.take m=xs.filter (fun x=>!p x)by have h:=HT.o;rw[aC (ay _)]at h;exact h);have sZ:(ys.take m).length=m:=by rw[aJ,jW.o];omega
    have zU:=O (show(xs.filter (fun x=>!p x)).length=m by rw[<-fc.o];exact sZ);have hcut:=cP.cut (i:=m) (by rw[jW.o];omega) (g:=bk) (cap:=cp) (by rw[jW.o]);have hle:(xs.length-m)*4+m*4<=cp*4:=by rw[<-dC];exact bO _ ab
    have CA:(Builtin.zeroCells Yw (xs.length-m)).toList.length=(xs.length-m)*4:=by simp[Builtin.zeroCells]
    have vt:=fun ty=>jF (P:=prog) wr 81 97 ty Yw underlying81 (fun w=>af) ag QC bk (m*4) (xs.length-m) (cp-m) ab (by
     have:=cP.there (g:=bk) (cap:=cp) (by rw[jW.o]) (o:=m*4) (n:=(xs.length-m)*4) ab;exact this)
    have yG:=hcut.behind (o:=m*4) (vs:=(Builtin.zeroCells Yw (xs.length-m)).toList) (by rw[sZ];exact ay _) (g:=bk) (cap:=cp) (by rw[sZ]) (by rw[CA];omega);have oA:=cK.step (fF (ae (one bk) wr) (fun _=>rfl) (Builtin.zeroCells Yw (xs.length-m)).toList (m*4)) (fun _ _ h=>h);clear cP rU hcut CA sZ hle jW;go_wp2_with fail
    go_ret;rw[zU.o, <-fc.o];exact⟨_,_,rfl,yG,oA.mono (fun k _ h=>by have e:k=bk:=h;rw[e];rfl),rfl⟩
theorem ae4:∃i0:TypeInfo,prog.info? 97=some i0/\i0.size=4:=by
 have h:(prog.info? 97).map (·.size)=some 4:=af;cases hq:prog.info? 97 with
 |none=>rw[hq]at h;cases h
 |some i=>rw[hq]at h;exact⟨i,rfl,by simpa using h⟩
theorem Sx(b:Nat)(bk cp i j:Nat)(xs:List (List Value))(w:World)(hv:OwnRows b 97 4 w (.slice (some ⟨bk,0,none⟩) xs.length cp) xs)(Q8:i<j)(hj:j<=xs.length) :
  Calls prog 69 #[.slice (some ⟨bk,0,none⟩) xs.length cp,.int .i64 i,.int .i64 j] w fun e w'=>e=.returned (.slice (some ⟨bk,0,none⟩) (i+(xs.length-j)) cp)/\OwnRows b 97 4 w' (.slice (some ⟨bk,0,none⟩) (i+(xs.length-j)) cp) (xs.take i++xs.drop j)/\Fr (one bk) w w':=by
 obtain⟨i0,qD,kZ⟩:=ae4;obtain⟨Cu,cur,sH,q1,q2,q3,q4,q5,q6⟩:=hv.open (g:=bk) rfl;cases sH;unfold maxLen at q4;have dN:=hv.at;have dY:=hv.1;obtain⟨news,kL⟩:∃news,news=(xs.drop j).flatten:=⟨_,rfl⟩;have hdr:∀x∈xs.drop j,x.length=4/\∀u∈x,u.oneCell'=true:=fun x hx=>dY x (ez hx);have hlen:news.length=(xs.length-j)*4:=by rw[kL,gC (fun x hx=>(hdr x hx).1),bJ]
 obtain⟨A,hA,N1⟩:∃A:Addr,(if cp=j then some (⟨bk,0,none⟩:Addr)else some ⟨bk,j*4,none⟩)=some A/\Hid (∀t u,news[t]?=some u->w.drew.cell? (A.add t)=some u):=by
  by_cases h:cp=j
  ·refine⟨⟨bk,0,none⟩,by simp[h],fun t u hu=>?_⟩
   have h0:news.length=0:=by rw[hlen];have:xs.length-j=0:=by omega
                             rw[this,ik]
   rw[dF.1 h0]at hu;simp at hu
  ·refine⟨⟨bk,j*4,none⟩,by simp[h],fun t u hu=>?_⟩;have ht:t<(xs.length-j)*4:=by
    have:=(List.getElem?_eq_some_iff.1 hu).1;omega
   have nv:xs.flatten[j*4+t]?=some u:=by
    have e:xs.flatten=(xs.take j).flatten++(xs.drop j).flatten:=by rw[<-ed,fM]
    have hl:(xs.take j).flatten.length=j*4:=by rw[gC (fun x hx=>(dY x (dX hx)).1),aJ,dK hj]
    rw[e,List.getElem?_append_right ab,hl,show j*4+t-j*4=t from ab, <-kL];exact hu
   have hjt:j*4+t<xs.length*4:=by
    have:(xs.length-j)*4+j*4=xs.length*4:=by rw[<-dC];congr 1;omega
    omega
   rw[<-q6,List.getElem?_take_of_lt hjt]at nv;have zV:cur[j*4+t]?=some u:=by simpa using nv
   have ea:(Addr.add ⟨bk,j*4,none⟩ t)=⟨bk,j*4+t,none⟩:=by unfold Addr.add;split<;>simp_all
   rw[ea];show w.cell? _=some u;simp[World.cell?,q2,zV]
 have s1:=O hlen;have s2:=O (show∀u∈news,u.oneCell'=true by
  intro u hu;rw[kL]at hu;obtain⟨x,hx,GL⟩:=fL.1 hu;exact(hdr x hx).2 u GL)
 have s3:=O (show∀t,t<news.length->(w.drew.cell? ⟨bk,0+i*4+t,none⟩).isSome=true/\w.drew.frozen? ⟨bk,0+i*4+t,none⟩=false by
  intro t ht;rw[bw];have hle:i*4+(xs.length-j)*4<=cp*4:=by rw[<-dC];exact bO _ ab
  have:=hv.there (g:=bk) (cap:=cp) rfl (o:=i*4) (n:=(xs.length-j)*4) hle t ab;exact this)
 have Vn:OwnRows b 97 4 w.drew (.slice (some ⟨bk,0,none⟩) xs.length cp) xs:=hv;have qz:=Vn.Dw (i:=i) (ys:=xs.drop j) ab hdr (g:=bk) (cap:=cp) rfl (by rw[bJ];omega);rw[bJ, <-kL]at qz;have yH:Fr (one bk) w (w.drew.setCells bk (i*4) news):=((ae (one bk) w).drew).setCells (fun _=>rfl) _ _;obtain⟨W1,Cy⟩:∃W1,W1=w.drew.setCells bk (0+i*4) news:=⟨_,rfl⟩;have HW:=O Cy;rw[bw]at Cy;rw[<-Cy]at qz yH
 have rW:(xs.take i++xs.drop j).length=i+(xs.length-j):=by rw[aM,aJ,bJ];omega
 have hm:i+(xs.length-j)<xs.length:=ab;have CA:(Builtin.zeroCells Yw (xs.length-(i+(xs.length-j)))).toList.length=(xs.length-(i+(xs.length-j)))*4:=by simp[Builtin.zeroCells]
 have hle:(i+(xs.length-j))*4+(xs.length-(i+(xs.length-j)))*4<=cp*4:=by rw[<-dC];exact bO _ ab
 have vt:=fun ty=>jF (P:=prog) W1 81 97 ty Yw underlying81 (fun w=>af) ag QC bk ((i+(xs.length-j))*4) (xs.length-(i+(xs.length-j))) (cp-(i+(xs.length-j))) ab (by
  have:=qz.there (g:=bk) (cap:=cp) (by rw[rW]) (o:=(i+(xs.length-j))*4) (n:=(xs.length-(i+(xs.length-j)))*4) hle;exact this)
 have yG:=qz.behind (o:=(i+(xs.length-j))*4) (vs:=(Builtin.zeroCells Yw (xs.length-(i+(xs.length-j)))).toList) (by rw[rW];exact ay _) (g:=bk) (cap:=cp) (by rw[rW]) (by rw[CA];omega);have oA:=yH.step (fF (ae (one bk) W1) (fun _=>rfl) (Builtin.zeroCells Yw (xs.length-(i+(xs.length-j)))).toList ((i+(xs.length-j))*4)) (fun _ _ h=>h);have hne:((i:Int)==(j:Int))=false:=by rw[aN];omega
 have adZ:i<=cp:=ab;have ad0:j<=cp:=ab;have HA:=O hA;clear Cy qz Vn yH kL hlen hdr dY dN rW CA hle q2 q5 q6 hv;go_enter func69,ntmps69;go_wp2_with fail
 have hA:=HA.o;go_region_law (refine step_append_room rfl (.tmp 22) (.tmp 25) 81 rfl 97 i0 4 underlying81 qD kZ bk 0 i cp (by simp[Act.eval,Act.put]) A (xs.length-j) (cp-j) news (by simp[Act.eval,Act.put]) s1.o N1.out s2.o ab s3.o ?_;rw[<-HW.o])
 all_goals
  go_wp2_with fail
  go_ret;exact⟨rfl,yG,oA⟩
theorem SW:(prog.info? 171).map (fun i=>(i.zero,i.size,i.bytes))=some (some (.agg #[.string ⟨#[]⟩,.string ⟨#[]⟩]),2,32):=af
theorem Ax{ops:Array Oper}{rest:List Oper}{o:Oper}{a:Act}{Q:Exit->Act->World->Prop}{w:World}(zd:o.guard=none)(s x:Operand)
  (ho:o.op=.call {callee:=.builtin .append,args:= #[s,x],argTypes:= #[35,35]})(base:Nat)(v:Value)(l:List (List Value))(hs:a.eval s=v)(cP:OwnRows base 171 2 w v l)
  (vx:Value)(m:List (List Value))(hx:a.eval x=vx)(hm:dV 2 w vx m)(hlen:l.length+m.length<1000000000)(iD:base<=w.heap.size)
  (h:∀v' w',OwnRows base 171 2 w' v' (l++m)->w.grownBy w' v.ownBlock->wpList prog ops Q rest (a.put o.dst v') w'):wpList prog ops Q (o :: rest) a w:=by
 obtain⟨i0,hi,pq,kZ,lq⟩:=info_parts SW;obtain⟨ax,cx,fI⟩:=hm.form;have HM:=hm.1;cases ax with
 |none =>
  obtain⟨Y1,h2⟩:m=[]/\cx=0:=by
   rcases hm.2 with ⟨a',c',hv,hs,hc⟩|⟨bk,o',c,hf,_⟩
   ·rw[fI]at hv;injection hv with e1 e2 e3
    exact⟨hs,e3.trans (hc e1.symm)⟩
   ·rw[fI]at hf;injection hf with e1;cases e1
  subst Y1;have Ur:a.eval x=.slice none 0 0:=by rw[hx,fI,h2];rfl
  refine wpList_append_own_none zd s x 35 ho base 171 i0 2 underlying35 hi v l.length l.flatten hs cP.2 Ur ?_;exact h v w (by rw[dR];exact cP) ⟨rfl,rfl,rfl,ay _,fun _ _ _=>rfl⟩
 |some ad =>
  have zU:m.flatten.length=m.length*2:=gC (fun x hx=>(HM x hx).1);refine wpList_append_own w zd s x 35 ho base 171 i0 (.agg #[.string ⟨#[]⟩,.string ⟨#[]⟩]) 2 32 underlying35 hi pq kZ lq rfl ag v l.length l.flatten hs cP.2 ad m.length cx m.flatten (hx.trans fI) zU ?_ ?_ ?_ ?_ iD ?_
  ·intro j u hj;rcases hm.2 with ⟨_,_,_,e,_⟩|⟨bk,o',c,hf,g1,g2,g3,g4⟩
   ·subst e;simp at hj
   ·rw[hf]at fI;cases fI;have Y9:=(List.getElem?_eq_some_iff.1 hj).1;have hd:j/2<m.length:=ab;have hmo:j%2<2:=ab;have oz:(m[j/2]).length=2:=(HM _ (bL hd)).1;have e1:=rH (k:=2) (xs:=m) (fun x hx=>(HM x hx).1) (j:=j/2) (List.getElem?_eq_getElem hd) (i:=j%2) (List.getElem?_eq_getElem (by rw[oz];exact hmo));rw[Nat.div_add_mod']at e1;rw[e1]at hj;cases hj
    have:=g4 (j/2) _ (List.getElem?_eq_getElem hd) (j%2) _ (List.getElem?_eq_getElem (by rw[oz];exact hmo));have ea:(Addr.add ⟨bk,o',none⟩ j)=⟨bk,o'+j,none⟩:=by unfold Addr.add;split<;>simp_all
    rw[ea, <-this]
    congr 2
    omega
  ·intro u hu;obtain⟨y,hy,huy⟩:=fL.1 hu;exact(HM y hy).2 u huy
  ·unfold maxLen;omega
  ·omega
  ·intro v' w' h1 h2 _;refine h v' w' ⟨fun y hy=>?_,by simpa using h1⟩ h2;rcases bK.1 hy with hy|hy
   ·exact cP.1 y hy
   ·exact HM y hy
open Go.ChangeShapes Go.WideShapes Go.ChangeAt Go.RowKit Go.Deep
section
variable {H : Type} {enc : TypeId × Value → H} {P : Program} {W : World}
theorem lg.afP{α β:Type}{R:α->β->Prop}{f:Nat->α}{g:Nat->β}(n:Nat)(h:∀i,i<n->R (f i) (g i)):lg R ((List.range n).map f) ((List.range n).map g):=by
 induction n with
 |zero=>exact .nil
 |succ n ih =>
  rw[List.range_succ,bH,bH];exact(ih (fun i hi=>h i ab)).app (.cons (h n ab) .nil)
theorem EZ{t e:TypeId}{k bytes:Nat}{β:Type} [Inhabited β]{Q:List Value->β->Prop}{S:β->Prop}(ht:P.underlying t=some (.slice e))(hk:P.cellsOf e=k)(Nv:0<k)(qZ:P.bytesOf e=bytes)
  (el:∀ {fuel:Nat} {cs:List Value} {x:DataW H×List MemPlace},DataW.trod enc P W 0 (fun _=>true) true fuel e cs=some x->∃b,Q cs b/\cs.length=k/\(∀u∈cs,u.oneCell'=true)/\(pC P e x.1->S b))
  {fuel:Nat}{cs:List Value}{x:DataW H×List MemPlace}(h:DataW.trod enc P W 0 (fun _=>true) true fuel t cs=some x) :
  ∃(v:Value) (css:List (List Value)) (bs:List β),cs=[v]/\dV k W v css/\lg Q css bs/\(pC P t x.1->bs.length*bytes<=reachBytes/\∀b∈bs,S b):=by
 rcases open_slice ht h with ⟨rfl,rfl⟩|⟨a,len,cap,m,n,D,Pl,rfl,_,hl,hm,hme,rfl,hc⟩
 ·exact⟨_,[],[],rfl,dV.nil _ _,.nil,fun _=>⟨aQ,aQ⟩⟩
 simp only[eb]at hme;subst hme;rw[hk]at hc;have each:∀i,i<len->∃q:List Value×β,W.cells? 0 (a.add (i*k)) k=some q.1/\Q q.1 q.2/\q.1.length=k/\(∀u∈q.1,u.oneCell'=true)/\(pC P e (D i)->S q.2):=fun i hi=>by
  obtain⟨cs',h1,h2⟩:=hc i ab;obtain⟨b,hq,hlen,dY,hs⟩:=el h2;exact⟨(cs',b),h1,hq,hlen,dY,hs⟩
 obtain⟨q,hq⟩:=choose_lt each;refine⟨_,(List.range len).map fun i=>(q i).1,(List.range len).map fun i=>(q i).2,rfl,⟨?_,?_⟩,lg.afP len (fun i hi=>(hq i hi).2.1),fun hL=>⟨?_,?_⟩⟩
 ·intro y hy;obtain⟨i,hi,rfl⟩:=bV.1 hy;have hi:=hq i (List.mem_range.1 hi);exact⟨hi.2.2.1,hi.2.2.2.1⟩
 ·by_cases h0:len=0
  ·subst h0;exact Or.inl ⟨_,_,rfl,rfl,fun e=>by cases e⟩
  ·have cell:∀i,i<len->∀j u,(q i).1[j]?=some u->W.cell? (a.add (i*k+j))=some u:=fun i hi j u hu=>by
    obtain⟨_,hlen,hcell⟩:=World.cells?_some (hq i hi).1;have:=hcell j (by have:=(List.getElem?_eq_some_iff.1 hu).1;have:=(hq i hi).2.2.1;omega);rw[add_add]at this;rw[this,hu]
   obtain⟨b,off,spot⟩:=a;have TH:=(hq 0 ab).2.2.1;have hc0:=cell 0 ab 0 _ (List.getElem?_eq_getElem ab);have akS:spot=none:=by simpa[Addr.add]using World.cell?_spot hc0
   subst akS;have Mg:∀j,(Addr.add ⟨b,off,none⟩ j)=⟨b,off+j,none⟩:=by intro j;unfold Addr.add;split<;>simp_all
   have hbl:b<W.heap.size:=by
    have h0:=World.block_lt_of_cell? _ _ hc0;rw[Mg]at h0;exact h0
   refine Or.inr ⟨b,off,m,aQ,by simpa using hl,hm,hbl,fun j y hj i u hi=>?_⟩;rw[List.getElem?_map]at hj;obtain⟨k',NK,rfl⟩:=Option.map_eq_some_iff.1 hj;obtain⟨hj1,rfl⟩:=List.getElem?_eq_some_iff.1 NK;simp at hj1;have:=cell j hj1 i u (by simpa using hi)
   rwa [Mg, <-jU]at this
 ·unfold pC at hL;simp only[DataW.weights,ht]at hL;have:=hL _ (cQ ..);simp only[ai,List.length_range,qZ]at this;have e1:(len+(m-len))*bytes=m*bytes:=by congr 1;omega
  rw[e1]at this;have h2:len*bytes<=m*bytes:=bO _ hl;simp only[ai,List.length_range];omega
 ·intro b hb;obtain⟨i,hi,rfl⟩:=bV.1 hb;have hi':=List.mem_range.1 hi;refine(hq i hi').2.2.2.2 (fun n hn=>?_);unfold pC at hL;simp only[DataW.weights,ht]at hL;exact hL n (bN _ (List.mem_append_left _ (ye (bV.2 ⟨i,hi,rfl⟩) _ hn)))
end
variable {H : Type} {enc : TypeId × Value → H} {W : World}
theorem AG:prog.cellsOf 171=2:=af
theorem MI{x:DataW H×List MemPlace}(h:DataW.trod enc prog W 0 (fun _=>true) true fuel 171 cs=some x) :
  ∃b:aj×aj,cs=[.string b.1,.string b.2]/\cs.length=2/\(∀u∈cs,u.oneCell'=true)/\(pC prog 171 x.1->b.1.size<=reachBytes/\b.2.size<=reachBytes):=by
 obtain⟨hl,n,hf⟩:=n9 underlying171 h;rw[AG]at hl;obtain⟨c0,c1,rfl⟩:=akR hl;obtain⟨y0,h0,l0⟩:=hf 0 9 0 _ rfl iW;obtain⟨y1,h1,l1⟩:=hf 1 9 1 _ rfl iW;simp only[List.drop,List.take]at h0 h1;obtain⟨u,eu,wu⟩:=fl underlying9 h0;obtain⟨q,eq,wq⟩:=fl underlying9 h1;simp only[fE,iL]at eu eq;subst eu eq;refine⟨(u,q),rfl,rfl,?_,fun hL=>⟨wu (l0 hL),wq (l1 hL)⟩⟩;intro v hv;simp only[bB,cq,dU]at hv
 rcases hv with rfl|rfl<;>rfl
theorem E0{α β:Type}{f:β->α}:∀ {l:List α} {m:List β},lg (fun a b=>a=f b) l m->l=m.map f
 |_,_,.nil=>rfl
 |_,_,.cons h t=>by rw[cA, <-h,E0 t]
instance:Inhabited (aj×aj):=⟨(.empty,.empty)⟩
theorem Jz{x:DataW H×List MemPlace}(h:DataW.trod enc prog W 0 (fun _=>true) true fuel 35 cs=some x) :
  ∃(v:Value) (ps:List (aj×aj)),cs=[v]/\dV 2 W v (ps.map fun p=>[.string p.1,.string p.2])/\(pC prog 35 x.1->ps.length*32<=reachBytes/\∀p∈ps,p.1.size<=reachBytes/\p.2.size<=reachBytes):=by
 obtain⟨v,css,bs,rfl,hr,hb,hs⟩:=EZ (Q:=fun cs (b:aj×aj)=>cs=[.string b.1,.string b.2]) (S:=fun b=>b.1.size<=reachBytes/\b.2.size<=reachBytes) underlying35 AG ag (by kernel_rfl:prog.bytesOf 171=32) MI h;exact⟨v,bs,rfl,by rw[<-E0 hb];exact hr,hs⟩
abbrev zOp:Array Value:= #[.int .i64 0,.int .i64 0,.bool false,.string ⟨#[]⟩,.int .i64 0,.bool false,.string ⟨#[]⟩,.int .i64 0,.string ⟨#[]⟩,.string ⟨#[]⟩,.string ⟨#[]⟩,.slice none 0 0,.bool false,.string ⟨#[]⟩,.bool false,.string ⟨#[]⟩,.string ⟨#[]⟩,.string ⟨#[]⟩,.string ⟨#[]⟩,.int .i64 0,.bool false,.int .i64 0]
theorem XH(h:x.length=22):(prog.info? 41).map (·.size)=some x.length:=by rw[h];kernel_rfl
theorem XK(h:x.length=24):(prog.info? 66).map (·.size)=some x.length:=by rw[h];kernel_rfl
theorem XM(h:x.length=2):(prog.info? 171).map (·.size)=some x.length:=by rw[h];kernel_rfl
def af1(w:World)(p:List Value->Bool)(xs:List (List Value))(i:Value)(wr:World):Prop :=
 ∃k:Nat,k<=xs.length/\i=.int .i64 k/\(xs.take k).any p=false/\Fr aR w wr
theorem JF(g:Nat)(cap:Array Value)(p:List Value->Bool)(v:Value)(xs:List (List Value))(w:World)(eg:∀args w,(callFunc g args).run prog w=.ok (.enter g args) w)(hp:gO aR w g cap p xs)(hv:dV 2 w v xs) :
  Calls prog 201 #[v,.func (.func g) #[] cap] w fun e w'=>e=.returned (.int .i64 (lW p xs 0))/\Fr aR w w':=by
 obtain⟨av,cv,fI⟩:=hv.form;subst fI;have dY:=O hv.1;go_enter func201,ntmps201;go_wp2;go_loopw[8] (af1 w p xs) (fun i _=>xs.length-(intOf i).toNat)
 case atStart=>exact⟨0,aI _,rfl,rfl,ae _ _⟩
 case round =>
  obtain⟨k,hk,rfl,hn,cK⟩:=hrel;have HN:=O hn;clear hn;by_cases eX:k<xs.length
  ·rcases(hv.fH cK).2 with ⟨_,_,_,e,_⟩|⟨bk,of,c,hf,h1,h2,h3,h4⟩
   ·rw[e]at eX;exact absurd eX (bS _)
   ·cases hf;unfold maxLen at h2;have dN:=O (List.getElem?_eq_getElem eX);have hcell:=h4 k _ dN.o;have g_:=O (bL eX);generalize xs[k]=x at dN hcell g_;have fA:=O (hp x g_.o wr cK);have lF:=(dY.o x g_.o).1;clear h4;cases qI:p x
    ·have qi:=O (any_take_succ dN.o HN.o qI);go_wp2_with (first|((with_reducible refine cY 15 ?_);refine aU rfl 171 (.tmp 14) rfl bk (of+k*2) rfl x _ hcell underlying171 rfl (XM lF) ?_)|fail)
     refine fA.o.mono ?_;rintro e w1⟨rfl,df⟩;rw[qI];go_wp2;go_roundw
     case rel=>exact⟨k+1,ab,a_,qi.o,cK.trans df⟩
     case measure=>simp[intOf];omega
    ·have fc:=O (oV (i:=0) dN.o qI HN.o);go_wp2_with (first|((with_reducible refine cY 15 ?_);refine aU rfl 171 (.tmp 14) rfl bk (of+k*2) rfl x _ hcell underlying171 rfl (XM lF) ?_)|fail)
     refine fA.o.mono ?_;rintro e w1⟨rfl,df⟩;rw[qI];go_wp2;go_ret;rw[fc.o,bw];exact⟨rfl,cK.trans df⟩
  ·have fc:=O (show lW p xs 0= -1 from ku (by have h:=HN.o;rw[aC ab]at h;exact h));go_wp2;go_ret;rw[fc.o];exact⟨rfl,cK⟩
theorem CK(g:Nat)(cap:Array Value)(p:List Value->Bool)(v:Value)(xs:List (List Value))(w:World)(eg:∀args w,(callFunc g args).run prog w=.ok (.enter g args) w)(hp:gO aR w g cap p xs)(hv:dV 2 w v xs) :
  Calls prog 150 #[v,.func (.func g) #[] cap] w fun e w'=>e=.returned (.bool (xs.any p))/\Fr aR w w':=by
 have hb:=O (rP p xs 0);go_enter func150,ntmps150;go_wp2_with fail
 refine(JF g cap p v xs w eg hp hv).mono ?_;rintro e w1⟨rfl,df⟩;go_wp2;go_ret;exact⟨fx hb.o,df⟩
abbrev Bs:=aG
abbrev jy:=Bs×Bs
structure nu where
 scheme:Bs
 token:Bs
 params:List jy
def ow(c:UInt8):Bool:=dJ c||c==44
def Ui:aG:=[97,98,99,100,101,102,103,104,105,106,107,108,109,110,111,112,113,114,115,116,117,118,119,120,121,122,65,66,67,68,69,70,71,72,73,74,75,76,77,78,79,80,81,82,83,84,85,86,87,88,89,90,48,49,50,51,52,53,54,55,56,57,45,46,95,126,43,47]
def Fv(c:UInt8):Bool:=Ui.contains c
def ll(c:UInt8):Bool:=[61].contains c
def Uj:Bs->Bool
 |[]=>true
 |c :: _=>c==44
def eV(r:Bs):Bs:=r.dropWhile dJ
def iG(r:Bs):Bs:=r.dropWhile ow
def oa(r:Bs):Bool:=Uj (eV r)
def h_(r:Bs):Bs:=r.takeWhile fY
def iy(r:Bs):Bs:=r.dropWhile fY
def Nf(b:UInt8):Bs->Bool
 |[]=>false
 |c :: _=>c==b
def lL(r:Bs):Bool:=!(h_ r).isEmpty&&Nf 61 (eV (iy r))
def mg(r:Bs):Bs:=r.takeWhile Fv
def nG(r:Bs):Bs:=(r.dropWhile Fv).takeWhile ll
def sP(r:Bs):Bs:=(r.dropWhile Fv).dropWhile ll
def singleR(r:Bs):Option (Bs×Bs):=if !(mg r).isEmpty&&oa (sP r)then some (mg r++nG r,eV (sP r))else none
def A1:Bs->Option (Bs×Bs)
 |[]=>none
 |c :: t=>if c==34 then vV t else none
def pL(r:Bs):Option (Bs×Bs):=if(h_ r).isEmpty then A1 r else some (h_ r,iy r)
def nH(r:Bs):Bs:=eV ((eV (iy r)).drop 1)
def uC(ps:List jy)(n:Bs):Bool:=ps.any fun q=>dG q.1 n
def ld(ps:List jy)(r:Bs):Except Nat (jy×Bs) :=
 if !lL r then .error 3 else
 match pL (nH r)with
 |none=>.error 3
 |some q=>if uC ps (h_ r)then .error 9 else if ps.length=16 then .error 4 else .ok ((h_ r,q.1),q.2)
def gU:Nat->List jy->Bs->Except Nat (List jy×Bs)
 |0,ps,r=>.ok (ps,r)
 |f+1,ps,r =>
  match ld ps r with
  | .error e=>.error e
  | .ok (p,r1)=>if oa r1 then(if lL (iG r1)then gU f (ps++[p]) (iG r1)else .ok (ps++[p],iG r1))else .error 3
def pM:Bs->Bool
 |[]=>false
 |c :: _=>dJ c
def pn(k:Nat)(r:Bs):Except Nat (nu×Bs) :=
 if(h_ r).isEmpty then .error 3
 else if k=8 then .error 4
 else if oa (iy r)then .ok (⟨h_ r,[],[]⟩,eV (iy r))
 else if !pM (iy r)then .error 3
 else match singleR (eV (iy r))with
  |some q=>.ok (⟨h_ r,q.1,[]⟩,q.2)
  |none=>match gU ((eV (iy r)).length+1) [] (eV (iy r))with
   | .error e=>.error e
   | .ok q=>.ok (⟨h_ r,[],q.1⟩,q.2)
def ki:Nat->List nu->Bs->Except Nat (List nu)
 |0,acc,_=>.ok acc
 |f+1,acc,r =>
  if(iG r).isEmpty then .ok acc else
  match pn acc.length (iG r)with
  | .error e=>.error e
  | .ok (x,r1)=>ki f (acc++[x]) r1
def mC(l:Bs):Except Nat (List nu):=if 3000<l.length then .error 4 else ki (l.length+1) [] l
theorem qk(p:UInt8->Bool)(r:Bs):(r.dropWhile p).length<=r.length:=(jd p).length_le
theorem lM(r:Bs):(eV r).length<=r.length:=qk _ r
theorem oL(r:Bs):(iG r).length<=r.length:=qk _ r
theorem pN(p:UInt8->Bool)(r:Bs):(r.takeWhile p).length+(r.dropWhile p).length=r.length:=by
 rw[<-aM,List.takeWhile_append_dropWhile]
theorem ry(r:Bs):(h_ r).length+(iy r).length=r.length:=pN _ r
theorem Gc{r:Bs}(h:(h_ r).isEmpty=false):(iy r).length<r.length:=by
 have h1:=ry r;cases e:h_ r with
 |nil=>rw[e]at h;cases h
 |cons c t=>rw[e]at h1;simp at h1;omega
theorem ac8{r a z:Bs}(h:vV r=some (a,z)):a.length+z.length+1<=r.length:=Ia _ r a z (ay _) h
theorem QX{r a z:Bs}(h:A1 r=some (a,z)):a.length+z.length+2<=r.length:=by
 cases r with
 |nil=>cases h
 |cons c t =>
  have h':(if c==34 then vV t else none)=some (a,z):=h;by_cases hc:(c==34)=true
  ·rw[az hc]at h';have:=ac8 h';simp;omega
  ·rw[aq hc]at h';cases h'
theorem QY{r a z:Bs}(h:pL r=some (a,z)):a.length+z.length<=r.length:=by
 unfold pL at h;split at h
 ·have:=QX h;omega
 ·cases h;have:=ry r;omega
theorem Ng(r:Bs):(nH r).length<=(iy r).length:=by
 unfold nH;have h1:=lM ((eV (iy r)).drop 1);have h2:=lM (iy r);have h3:((eV (iy r)).drop 1).length<=(eV (iy r)).length:=aQ;omega
theorem BP{r:Bs}(h:lL r=true):(h_ r).isEmpty=false:=by
 unfold lL at h;simp only[cD,Bool.not_eq_true']at h;exact h.1
theorem De{r:Bs}(h:lL r=true):(nH r).length+2<=r.length:=by
 have hw:=Gc (BP h);unfold lL at h;simp only[cD]at h;have h2:=h.2;unfold nH;have h3:=lM (iy r);cases e:eV (iy r)with
 |nil=>rw[e]at h2;cases h2
 |cons c t =>
  rw[e]at h3;have h4:=lM ((c :: t).drop 1);simp at h3 h4 ⊢; omega
theorem t_{ps:List jy}{r:Bs}{p:jy}{z:Bs}(h:ld ps r=.ok (p,z)):p.1.length+p.2.length+z.length<r.length:=by
 unfold ld at h;by_cases hn:lL r=true
 ·rw[aq (by simp[hn])]at h;have h1:=De hn;have h0:=Ng r;have hw:=ry r;cases hv:pL (nH r)with
  |none=>rw[hv]at h;cases h
  |some q =>
   rw[hv]at h;simp only at h;split at h
   ·cases h
   ·split at h
    ·cases h
    ·cases h;have:=QY (a:=q.1) (z:=q.2) hv;unfold lL at hn;simp only[cD]at hn;have h2:=hn.2;have h5:(nH r).length+1<=(iy r).length:=by
      unfold nH;have h3:=lM (iy r);cases e:eV (iy r)with
      |nil=>rw[e]at h2;cases h2
      |cons c t =>
       rw[e]at h3;have h4:=lM ((c :: t).drop 1);simp at h3 h4 ⊢; omega
     simp only;omega
 ·rw[az (by simpa using hn)]at h;cases h
theorem uD:∀(f:Nat) (ps:List jy) (r:Bs),r.length<f->gU f ps r=gU (r.length+1) ps r
 |0,_,_,h=>absurd h (bS _)
 |f+1,ps,r,h=>by
  rw[gU,gU];cases hp:ld ps r with
  |error e=>rfl
  |ok q =>
   obtain⟨p,r1⟩:=q;have hl:=t_ hp;have hg:=oL r1;simp only;split
   ·split
    ·rw[uD f _ _ ab,uD r.length _ _ ab]
    ·rfl
   ·rfl
theorem Df:∀(f:Nat) (ps:List jy) (r:Bs) (q:List jy×Bs),gU f ps r=.ok q->q.2.length<=r.length
 |0,ps,r,q,h=>by rw[gU]at h;cases h;exact ay _
 |f+1,ps,r,q,h=>by
  rw[gU]at h;cases hp:ld ps r with
  |error e=>rw[hp]at h;cases h
  |ok p =>
   rw[hp]at h;obtain⟨p,r1⟩:=p;have hl:=t_ hp;have hg:=oL r1;simp only at h;split at h
   ·split at h
    ·have:=Df f _ _ q h;omega
    ·cases h;simp only;omega
   ·cases h
theorem Dg{r t z:Bs}(h:singleR r=some (t,z)):t.length+z.length<=r.length:=by
 unfold singleR at h;split at h
 ·cases h;have h1:=pN Fv r;have h2:=pN ll (r.dropWhile Fv);have h3:=lM (sP r);unfold sP at h3 ⊢;unfold mg nG;rw[aM];omega
 ·cases h
theorem CP{r:Bs}{x:nu}{z:Bs}(h:pn k r=.ok (x,z)):z.length<r.length:=by
 unfold pn at h;split at h
 ·cases h
 rename_i hw;have hw':(h_ r).isEmpty=false:=by simpa using hw
 have h1:=Gc hw';have h2:=lM (iy r);split at h
 ·cases h
 split at h
 ·cases h;omega
 split at h
 ·cases h
 split at h
 ·rename_i q hq;cases h;have:=Dg (t:=q.1) (z:=q.2) hq;omega
 ·split at h
  ·cases h
  ·rename_i q hq;cases h;have:=Df _ _ _ _ hq;omega
theorem ql:∀(f:Nat) (acc:List nu) (r:Bs),r.length<f->ki f acc r=ki (r.length+1) acc r
 |0,_,_,h=>absurd h (bS _)
 |f+1,acc,r,h=>by
  rw[ki,ki];split
  ·rfl
  ·cases ho:pn acc.length (iG r)with
   |error e=>rfl
   |ok q =>
    obtain⟨x,r1⟩:=q;have h1:=CP ho;have h2:=oL r;simp only;rw[ql f _ _ ab,ql r.length _ _ ab]
theorem sQ(r:Bs):iG (iG r)=iG r:=by
 refine v8 (fun c hc=>?_);have:=List.head?_dropWhile_not ow r;unfold iG at hc;rw[hc]at this;simpa using this
theorem Cq(r:Bs):eV (eV r)=eV r:=by
 refine v8 (fun c hc=>?_);have:=List.head?_dropWhile_not dJ r;unfold eV at hc;rw[hc]at this;simpa using this
theorem Ic(r:Bs):oa (eV r)=oa r:=by unfold oa;rw[Cq]
theorem uE:∀r:Bs,iG (eV r)=iG r
 |[]=>rfl
 |c :: t=>by
  cases h:dJ c
  ·have:eV (c :: t)=c :: t:=by unfold eV;rw[List.dropWhile_cons_of_neg (by simp[h])]
   rw[this]
  ·have e1:eV (c :: t)=eV t:=by unfold eV;rw[List.dropWhile_cons_of_pos h]
   have e2:iG (c :: t)=iG t:=by unfold iG;rw[List.dropWhile_cons_of_pos (by simp[ow,h])]
   rw[e1,e2,uE t]
theorem BQ(f:Nat)(acc:List nu){r r':Bs}(h:iG r=iG r'):ki (f+1) acc r=ki (f+1) acc r':=by
 rw[ki,ki,h]
def Kq(c:UInt8):Bool:=decide (48<=c.toNat/\c.toNat<=57)
theorem Kr{c:UInt8}:Kq c=true↔48<=c.toNat/\c.toNat<=57:=by unfold Kq;simp
def Fw:aj:=⟨#[48,49,50,51,52,53,54,55,56,57]⟩
theorem Nj:∀b∈Fw.data.toList,b.toNat<128:=dp
theorem Up:∀n:Fin 256,Fw.data.toList.contains n.val.toUInt8=Kq n.val.toUInt8:=dp
theorem QZ(c:UInt8):Fw.data.toList.contains c=Kq c:=by
 have h:=Up ⟨c.toNat,c.toNat_lt⟩;simpa using h
theorem Ks(l:aG):l.all (Fw.data.toList.contains ·)=l.all Kq:=by
 congr 1;funext c;exact QZ c
def zr(n:Int)(c:UInt8):Int:=min (n*10+((c.toNat:Int)-48)) 2147483648
def zt(l:aG):Int:=l.foldl zr 0
def oN(l:aG):Bool:=!l.isEmpty&&l.all Kq
theorem Q0{l:aG}{x:UInt8}(h:l[k]?=some x):zt (l.take (k+1))=zr (zt (l.take k)) x:=by
 rw[bZ,h];simp[zt]
theorem ym:∀(l:aG) (n:Int),l.all Kq=true->0<=n->n<=2147483648->0<=l.foldl zr n/\l.foldl zr n<=2147483648
 |[],n,_,h0,h1=>⟨h0,h1⟩
 |c :: l,n,h,h0,h1=>by
  rw[List.all_cons,cD]at h;have hc:=Kr.1 h.1;rw[List.foldl_cons];refine ym l _ h.2 ?_ ?_<;>(unfold zr;omega)
def sS(s:aj)(w:World)(e:Ending)(w':World):Prop :=
 e=.returned (.tuple (if oN s.data.toList then #[.int .i64 (zt s.data.toList),.nilIface]else #[.int .i64 0,.iface 105 (.int .i64 3)]))/\Fr aR w w'
theorem sS.ok(h:sS s w e w')(hd:oN s.data.toList=true):e=.returned (.tuple #[.int .i64 (zt s.data.toList),.nilIface])/\Fr aR w w':=by
 obtain⟨he,hf⟩:=h;rw[hd]at he;exact⟨he,hf⟩
theorem sS.no(h:sS s w e w')(hd:oN s.data.toList=false):e=.returned (.tuple #[.int .i64 0,.iface 105 (.int .i64 3)])/\Fr aR w w':=by
 obtain⟨he,hf⟩:=h;rw[hd]at he;exact⟨he,hf⟩
def adb(s:aj)(w:World)(n i:Value)(wr:World):Prop:=∃k:Nat,k<=s.size/\i=.int .i64 k/\n=.int .i64 (zt (s.data.toList.take k))/\Fr aR w wr
theorem Kt(s:aj)(w:World)(hs:s.size<17592186044416) :
  Calls prog 196 #[.string s] w (sS s w):=by
 by_cases h0:s.size=0
 ·have Ku:=gW.2 h0;have hd:=O (show oN s.data.toList=false by rw[Ku];rfl);have he:s.toList.isEmpty=true:=by rw[aO,Ku];rfl
  have he':s.toList=[]:=by rw[aO,Ku]
  clear Ku;go_enter func196,ntmps196;go_wp2;go_ret2;unfold sS;rw[hd.o];exact⟨rfl,ae _ _⟩
 ·have hne:s.data.toList≠ []:=fun h=>h0 (gW.1 h);have he:s.toList.isEmpty=false:=by rw[aO];simpa using hne
  have he':¬s.toList=[]:=by rw[aO];exact hne
  have TR:=O (sR s Fw w ab ag ag Nj);cases iB:s.data.toList.all Kq
  ·have hd:=O (show oN s.data.toList=false by unfold oN;rw[iB];simp);have PO:=O (show Lib.trimS s.data.toList Fw.data.toList≠ []from fun h=>by rw[xl,Ks,iB]at h;cases h);clear iB hne;go_enter func196,ntmps196;go_wp2_with fail
   refine TR.o.mono ?_;rintro e w1⟨rfl,df⟩;have t1:¬(⟨(Lib.trimS s.data.toList Fw.data.toList).toArray⟩:aj).toList=[]:=by rw[aO];simpa using PO.o
   have t2:(⟨(Lib.trimS s.data.toList Fw.data.toList).toArray⟩:aj).toList.isEmpty=false:=by rw[aO];simpa using PO.o
   generalize (⟨(Lib.trimS s.data.toList Fw.data.toList).toArray⟩:aj)=z at *
   go_wp2;go_ret2;unfold sS;rw[hd.o];exact⟨rfl,df⟩
  ·have hd:=O (show oN s.data.toList=true by unfold oN;rw[iB];simpa using hne);have PO:=O (show Lib.trimS s.data.toList Fw.data.toList=[]by rw[xl,Ks,iB]);have AY:=O iB;clear iB hne;go_enter func196,ntmps196;go_wp2_with fail
   refine TR.o.mono ?_;rintro e w1⟨rfl,df⟩;rw[PO.o];clear TR;go_wp2;go_loopw[4,16] (adb s w) (fun _ i _=>s.size-(intOf i).toNat)
   case atStart=>exact⟨0,aI _,rfl,rfl,df⟩
   case round =>
    obtain⟨k,hk,rfl,rfl,cK⟩:=hrel;have hr:=ym (s.data.toList.take k) 0 (by rw[gA];exact fun x hx=>gA.1 AY.o x (dX hx)) ab ab;change 0<=zt (s.data.toList.take k)/\zt (s.data.toList.take k)<=2147483648 at hr;obtain⟨r0,r1⟩:=hr;by_cases eX:k<s.size
    ·have dN:=byte_at s k eX;have hdg:=Kr.1 (gA.1 AY.o _ (bT dN));have JL:=O (Q0 dN);generalize hx:s[k]=x at dN hdg JL;obtain⟨d0,d1⟩:=hdg;clear dN;generalize zt (s.data.toList.take k)=n at *
     go_wp2;go_roundw
     case rel=>exact⟨k+1,ab,a_,by rw[JL.o];rfl,cK⟩
     case measure=>simp[intOf];omega
    ·have fc:=O (show zt (s.data.toList.take k)=zt s.data.toList by rw[aC bG]);go_wp2;go_ret2;unfold sS;rw[hd.o, <-fc.o];exact⟨rfl,cK⟩
def Gg(s:aj):Bool:=s.data.toList.all fun c=>!kj c
def rG:List aj:=[⟨#[97,112,112,108,105,99,97,116,105,111,110,47,120,45,119,119,119,45,102,111,114,109,45,117,114,108,101,110,99,111,100,101,100]⟩,⟨#[109,117,108,116,105,112,97,114,116,47,102,111,114,109,45,100,97,116,97]⟩,⟨#[116,101,120,116,47,112,108,97,105,110]⟩]
def sU(s:aj)(c:UInt8):aj:=if 0<=Lib.indexByte s.data.toList c then s.extract 0 (Lib.indexByte s.data.toList c).toNat else s
def Gh(s:aj):aj:=⟨(nw (Lib.trimS (sU s 59).data.toList [32,9])).toArray⟩
def l_(name value:aj):Bool :=
 if 128<value.size then false
 else if nw name.data.toList=[97,99,99,101,112,116]then Gg value
 else if nw name.data.toList=[97,99,99,101,112,116,45,108,97,110,103,117,97,103,101]then wj value
 else if nw name.data.toList=[99,111,110,116,101,110,116,45,108,97,110,103,117,97,103,101]then wj value
 else if nw name.data.toList=[99,111,110,116,101,110,116,45,116,121,112,101]then Gg value&&Lib.containsS rG (Gh value)
 else false
theorem uF(p:UInt8->Bool):∀l:aG,(l.dropWhile p).length<=l.length
 |[]=>ay _
 |a :: l=>by
  rw[List.dropWhile_cons];split
  ·exact Nat.le_succ_of_le (uF p l)
  ·exact ay _
theorem Kw(l cs:aG):(Lib.trimS l cs).length<=l.length:=by
 unfold Lib.trimS Lib.trimLeftS Lib.trimRightS;refine aD (uF _ _) ?_;rw[List.length_reverse];refine aD (uF _ _) ?_;rw[List.length_reverse];exact ay _
def ahj(s:aj)(w:World)(b i:Value)(wr:World):Prop:=∃k:Nat,k<=s.size/\i=.int .i64 k/\b=.bool ((s.data.toList.take k).all fun c=>!kj c)/\Fr aR w wr
theorem Q2(name value:aj)(w:World)(hn:name.size<100000)(hv:value.size<100000) :
  Calls prog 181 #[.agg #[.string name,.string value]] w fun e w'=>e=.returned (.bool (l_ name value))/\Fr aR w w':=by
 obtain⟨wb,j_⟩:∃wb,wb=w.alloc (.cells #[.string name,.string value] 171):=⟨_,rfl⟩;have ks:Fr aR w wb:=by rw[j_];exact(ae aR w).alloc _
 have mf:wb.heap[w.heap.size]?=some (.cells #[.string name,.string value] 171 (0,0)):=by rw[j_];exact aB _ _
 have HC:=O (show∀U,Fr aR wb U->U.cell? ⟨w.heap.size,0,none⟩=some (.string name)/\U.cell? ⟨w.heap.size,1,none⟩=some (.string value)from fun U hU=>by
  have j1:=hU.keep mf (fun h=>h);simp[World.cell?,j1])
 have qY:=O j_;have mr:=O ks;clear j_ ks mf;by_cases ahk:128<value.size
 ·have HP:=O (show l_ name value=false by unfold l_;rw[az ahk]);have i128:(128:Int)<(value.size:Int):=ab;go_enter func181,ntmps181;go_wp2;rw[<-qY.o];go_ret;exact⟨by rw[HP.o];rfl,mr.o⟩
 ·have HP:=O (show l_ name value=if nw name.data.toList=[97,99,99,101,112,116]then Gg value
 else if nw name.data.toList=[97,99,99,101,112,116,45,108,97,110,103,117,97,103,101]then wj value
 else if nw name.data.toList=[99,111,110,116,101,110,116,45,108,97,110,103,117,97,103,101]then wj value
 else if nw name.data.toList=[99,111,110,116,101,110,116,45,116,121,112,101]then Gg value&&Lib.containsS rG (Gh value)
 else false by unfold l_;rw[aq ahk])
  have i128:¬(128:Int)<(value.size:Int):=ab;go_enter func181,ntmps181;go_wp2;rw[<-qY.o];go_loopw[3,15] (ahj value wb) (fun _ i _=>value.size-(intOf i).toNat)
  case atStart=>exact⟨0,ab,rfl,rfl,ae _ _⟩
  case round =>
   obtain⟨k,hk,rfl,rfl,cK⟩:=hrel;obtain⟨c0,c1⟩:=HC.o wr cK;by_cases eX:k<value.size
   ·have py:(k:Int)<(value.size:Int):=ab;have qZ:=byte_at value k eX;have lH:=O (show((value.data.toList.take (k+1)).all fun c=>!kj c)=(((value.data.toList.take k).all fun c=>!kj c)&&!kj value[k])by rw[bZ,qZ,j9];simp);clear qZ;cases hb:(value.data.toList.take k).all fun c=>!kj c
    ·have Y0:=O (show((value.data.toList.take (k+1)).all fun c=>!kj c)=false by rw[lH.o,hb];rfl);clear hb;go_wp2;go_roundw
     case rel=>exact⟨k+1,ab,a_,by rw[Y0.o],cK⟩
     case measure=>simp[intOf];omega
    ·have Y0:=O (show((value.data.toList.take (k+1)).all fun c=>!kj c)=!kj value[k]by rw[lH.o,hb];rfl);clear hb;go_wp2_with fail
     refine(Nl value[k] _).mono ?_;rintro e u⟨rfl,rfl⟩;go_wp2;go_roundw
     case rel=>exact⟨k+1,ab,a_,by rw[Y0.o],cK⟩
     case measure=>simp[intOf];omega
   ·have py:¬(k:Int)<(value.size:Int):=ab;rw[show((value.data.toList.take k).all fun c=>!kj c)=Gg value from by rw[aC bG];rfl];generalize Gg value=sf at *
    go_wp2_with fail
    refine(ru name wr ab).mono ?_;rintro e u1⟨rfl,df⟩;have k_:=O (cK.trans df);clear df c0 c1;obtain⟨c0,c1⟩:=HC.o u1 k_.o;generalize nw name.data.toList=nl at *
    by_cases a1:nl=[97,99,99,101,112,116]
    ·subst a1;have HE:=O (show l_ name value=sf by rw[HP.o,az rfl]);go_wp2;go_ret;exact⟨by rw[HE.o];rfl,mr.o.trans k_.o⟩
    have HP1:=O (by have h:=HP.o;rw[aq a1]at h;exact h);have b1:(nl== [97,99,99,101,112,116])=false:=aN.2 a1;by_cases a2:nl=[97,99,99,101,112,116,45,108,97,110,103,117,97,103,101]
    ·subst a2;have HE:=O (show l_ name value=wj value by rw[HP1.o,az rfl]);clear b1 a1;go_wp2_with fail
     refine(zv value u1 hv).mono ?_;rintro e u2⟨rfl,dy⟩;go_wp2;go_ret;exact⟨by rw[HE.o];rfl,mr.o.trans (k_.o.trans dy)⟩
    have HP2:=O (by have h:=HP1.o;rw[aq a2]at h;exact h);have b2:(nl== [97,99,99,101,112,116,45,108,97,110,103,117,97,103,101])=false:=aN.2 a2;by_cases a3:nl=[99,111,110,116,101,110,116,45,108,97,110,103,117,97,103,101]
    ·subst a3;have HE:=O (show l_ name value=wj value by rw[HP2.o,az rfl]);clear b1 a1 b2 a2;go_wp2_with fail
     refine(zv value u1 hv).mono ?_;rintro e u2⟨rfl,dy⟩;go_wp2;go_ret;exact⟨by rw[HE.o];rfl,mr.o.trans (k_.o.trans dy)⟩
    have HP3:=O (by have h:=HP2.o;rw[aq a3]at h;exact h);have b3:(nl== [99,111,110,116,101,110,116,45,108,97,110,103,117,97,103,101])=false:=aN.2 a3;by_cases a4:nl=[99,111,110,116,101,110,116,45,116,121,112,101]
    ·subst a4;have HE:=O (show l_ name value=(sf&&Lib.containsS rG (Gh value))by rw[HP3.o,az rfl]);clear b1 a1 b2 a2 b3 a3;have Ij:=O (show Calls prog 127 #[.string value,.string ⟨#[59]⟩] u1 fun e w'=>(∃r f,e=.returned (.tuple #[.string (sU value 59),.string r,.bool f]))/\Fr aR u1 w' by
      by_cases hc:0<=Lib.indexByte value.data.toList 59
      ·obtain⟨i,hi⟩:∃i:Nat,Lib.indexByte value.data.toList 59=(i:Int):=⟨(Lib.indexByte value.data.toList 59).toNat,ab⟩;have hl:i<value.size:=by
        have h:=(Lib.indexByte_some hi).1;have:=(List.getElem?_eq_some_iff.1 h).1;simpa using this
       refine(Kv value 59 i u1 ab hi hl).mono ?_;rintro e w'⟨rfl,n,rfl⟩;refine⟨⟨value.extract (i+1) value.size,true,?_⟩,(ae aR u1).drewN n⟩;unfold sU;rw[az hc,hi];rfl
      ·refine(Gf value 59 u1 hc).mono ?_;rintro e w'⟨rfl,rfl⟩;refine⟨⟨⟨#[]⟩,false,?_⟩,ae _ _⟩;unfold sU;rw[aq hc])
     have hbz:(sU value 59).size<=value.size:=by
      unfold sU;split
      ·simp[gB];omega
      ·exact ay _
     have HKB:=O (show Gh value=⟨(nw (Lib.trimS (sU value 59).data.toList [32,9])).toArray⟩from rfl);generalize sU value 59=bv at *
     go_wp2_with fail
     refine Ij.o.mono ?_;rintro e u2⟨⟨r,f,rfl⟩,dy⟩;have fO:=O (k_.o.trans dy);clear Ij dy;go_wp2_with fail
     refine(sR bv ⟨#[32,9]⟩ u2 ab ag ag ag).mono ?_;rintro e u3⟨rfl,iv⟩;have ic:=O (fO.o.trans iv);clear iv;have Q3:=Kw bv.data.toList [32,9];have hbs:bv.data.toList.length=bv.size:=aQ;rw[show(⟨#[32,9]⟩:aj).data.toList=[32,9]from rfl];generalize Lib.trimS bv.data.toList [32,9]=tl at *
     have X8:(⟨tl.toArray⟩:aj).size<17592186044416:=by show tl.toArray.size<_;simp;omega
     go_wp2_with fail
     refine(ru ⟨tl.toArray⟩ u3 X8).mono ?_;rintro e u4⟨rfl,kK⟩;have jV:=O (ic.o.trans kK);rw[show(⟨(nw (⟨tl.toArray⟩:aj).data.toList).toArray⟩:aj)=Gh value from by rw[HKB.o]];clear kK Q3 X8 hbs;generalize Gh value=kv at *
     cases sf
     ·go_wp2;go_ret;exact⟨by rw[HE.o];rfl,mr.o.trans (bE jV.o (by repeat(first|exact ae _ _|apply bz)))⟩
     ·have HCO:=O (slices_Contains_string u4.heap.size 0 3 3 rG kv (u4.alloc (.cells (rG.map Value.string).toArray 9)) (aY rfl) (aY rfl) (fun j hj=>by
       have h:=aB u4 (.cells (rG.map Value.string).toArray 9);have e:(rG.map Value.string)[j]?=some (.string (rG.getD j ByteArray.empty)):=by rw[List.getElem?_map,List.getElem?_eq_getElem hj,List.getD_eq_getElem?_getD,List.getElem?_eq_getElem hj];rfl
       rw[bw];simp only[World.cell?,h];simpa using e))
      have tU:=O (show Fr aR wb (u4.alloc (.cells (rG.map Value.string).toArray 9))from jV.o.alloc _);go_wp2_with fail
      refine HCO.o.mono ?_;rintro e u5⟨rfl,rfl⟩;rw[show rG.take 3=rG from rfl];go_wp2;go_ret;exact⟨by rw[HE.o];rfl,mr.o.trans tU.o⟩
    have b4:(nl== [99,111,110,116,101,110,116,45,116,121,112,101])=false:=aN.2 a4;have HE:=O (show l_ name value=false by rw[HP3.o,aq a4]);go_wp2;go_ret;exact⟨by rw[HE.o];rfl,mr.o.trans k_.o⟩
theorem fZ(w:World)(t:TypeId)(ss:List aj)(hl:ss.length<=maxLen):fN (w.alloc (.cells (ss.map Value.string).toArray t)) (.slice (some ⟨w.heap.size,0,none⟩) ss.length ss.length) ss:=by
 refine Or.inr ⟨w.heap.size,0,ss.length,rfl,ay _,hl,aQ,fun j x hj=>?_⟩;rw[bw];simp only[World.cell?,aB];simp[hj]
def kP(ss:List aj):aG:=Lib.join (ss.map (·.data.toList)) [58]
def kE(NH:Bool)(ss:List aj):aj:=if NH then⟨(KZ (kP ss)).toArray⟩else⟨(KV (kP ss)).toArray⟩
theorem Zx(l:aG):(KV l).length=32:=by unfold KV oQ;rw[DE,og];rfl
theorem Zy(l:aG):(KZ l).length=64:=by unfold KZ oQ;rw[DE,og];rfl
theorem lN(NH:Bool)(ss:List aj):(kE NH ss).size<=64:=by
 unfold kE;cases NH
 ·show(KV _).toArray.size<=64;simp[Zx]
 ·show(KZ _).toArray.size<=64;simp[Zy]
def tM(fP:Int)(w:World):Prop:=∀(v:Value) (ss:List aj) (W:World),Fr aR w W->fN W v ss->ss.length<=100000->(kP ss).length<=100000 ->
  Calls prog 159 #[.int .i64 fP,v] W fun e w'=>e=.returned (.string (kE (decide (fP=3)) ss))/\Fr aR W w'
theorem tM.fr{fP:Int}(h:tM fP w)(hf:Fr aR w w'):tM fP w':=fun v ss W hW=>h v ss W (hf.trans hW)
theorem K_(v:Value)(ss:List aj)(w:World)(hv:fN w v ss)(hn:ss.length<=100000)(hlen:(kP ss).length<=100000) :
  Calls prog 207 #[v,.string ⟨#[58]⟩] w fun e w'=>e=.returned (.string ⟨(kP ss).toArray⟩)/\Fr aR w w':=by
 rcases hv with ⟨a,c,rfl,rfl,_⟩|⟨bk,o,c,rfl,h1,h2,h3,h4⟩
 ·exact(strings_Join_none _ _ _ _).mono (by rintro e w1 ⟨rfl,rfl⟩;exact⟨rfl,ae _ _⟩)
 ·exact(strings_Join bk o c ss ⟨#[58]⟩ w h4 h3 ab h1 (by unfold kP at hlen;show(Lib.join _ [58]).length<=_;omega)).mono (by rintro e w1 ⟨rfl,hb⟩;exact⟨rfl,fj hb⟩)
theorem Zz(fP:Int)(h3:fP≠3)(w:World)(ht:tI w):tM fP w:=by
 intro v ss W hW hv hn hlen;have hT:=O (ht.fr hW);clear ht;have HJ:=O (K_ v ss W hv hn hlen);clear hv;have hz:(⟨(kP ss).toArray⟩:aj).size<4398046511104:=by show(kP ss).toArray.size<_;simp;omega
 have HB:=O (show kE (decide (fP=3)) ss=⟨(KV (kP ss)).toArray⟩from by rw[bh h3];rfl);generalize kP ss=tx at *
 clear hW;go_enter func159,ntmps159;go_wp2_with fail
 refine HJ.o.mono ?_;rintro e u1⟨rfl,df⟩;go_wp2_with fail
 refine(Zu ⟨tx.toArray⟩ u1 hz (hT.o.fr df)).mono ?_;rintro e u2⟨rfl,dy⟩;go_wp2;go_ret;exact⟨(ar (fun b=>Ending.returned (.string b)) HB.o).symm,df.trans dy⟩
