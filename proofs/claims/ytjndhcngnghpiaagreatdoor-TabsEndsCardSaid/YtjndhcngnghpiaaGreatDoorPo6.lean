/- Lemmas for the law's walk. -/
import Derived.Test.YtjndhcngnghpiaaGreatDoorPo5
set_option maxRecDepth 100000
set_option maxHeartbeats 16000000
set_option linter.unusedSimpArgs false
namespace Go.Proofs.YtjndhcngnghpiaaGreatDoor
open Go.Proofs.Tryz
open Go.RowKit
variable {x cs:aX} {p:aX->Bool} {l:cU} {fuel k:Nat} {s:ai} {w w':World} {e:Ending}
abbrev vR:bS:= #[.bool false,.string ⟨#[]⟩,.int .i64 0,.bool false,.string ⟨#[]⟩,.int .i64 0,.string ⟨#[]⟩,.string ⟨#[]⟩,.string ⟨#[]⟩,.bool false,.string ⟨#[]⟩,.bool false,.slice none 0 0]
theorem TW:vR.size=13:=rfl
theorem GZ:∀v∈vR.toList,v.oneCell'=true:=dp
theorem Ak(h:x.length=13):(prog.info? 129).map (·.size)=some x.length:=by rw[h];kernel_rfl
def acd(w:World)(p:aX->Bool)(xs:cU)(i:Value)(wr:World):Prop :=
 ∃k:Nat,k<=xs.length/\i=.int .i64 k/\(xs.take k).any p=false/\Fr aW w wr
theorem zg(g:Nat)(cap:bS)(p:aX->Bool)(v:Value)(xs:cU)(w:World)(eg:∀args w,(callFunc g args).run prog w=.ok (.enter g args) w)(hp:gF aW w g cap p xs)(hv:eb 13 w v xs) :
  aC 200 #[v,.func (.func g) #[] cap] w fun e w'=>e=.returned (.int .i64 (lH p xs 0))/\Fr aW w w':=by
 obtain⟨av,cv,fT⟩:=hv.form;subst fT;have dX:=O hv.1;go_enter func200,ntmps200;go_wp2;go_loopw[8] (acd w p xs) (fun i _=>xs.length-(intOf i).toNat)
 case atStart=>exact⟨0,aS _,rfl,rfl,ae _ _⟩
 case round =>
  obtain⟨k,hk,rfl,hn,cN⟩:=hrel;have HN:=O hn;clear hn;by_cases fx:k<xs.length
  ·rcases(hv.iY cN).2 with ⟨_,_,_,e,_⟩|⟨bk,of,c,hf,h1,h2,h3,h4⟩
   ·rw[e]at fx;exact absurd fx (cq _)
   ·cases hf;unfold maxLen at h2;have dL:=O (List.getElem?_eq_getElem fx);have hcell:=h4 k _ dL.o;have gM:=O (bL fx);generalize xs[k]=x at dL hcell gM;have fy:=O (hp x gM.o wr cN);have lr:=(dX.o x gM.o).1;clear h4;cases qk:p x
    ·have pN:=O (any_take_succ dL.o HN.o qk);go_wp2_with (first|((with_reducible refine dv 15 ?_);refine a_ rfl 129 (.tmp 14) rfl bk (of+k*13) rfl x _ hcell underlying129 rfl (Ak lr) ?_)|fail)
     refine fy.o.mono ?_;rintro e w1⟨rfl,dn⟩;rw[qk];go_wp2;go_roundw
     case rel=>exact⟨k+1,ab,bf,pN.o,cN.trans dn⟩
     case measure=>simp[intOf];omega
    ·have eX:=O (oF (i:=0) dL.o qk HN.o);go_wp2_with (first|((with_reducible refine dv 15 ?_);refine a_ rfl 129 (.tmp 14) rfl bk (of+k*13) rfl x _ hcell underlying129 rfl (Ak lr) ?_)|fail)
     refine fy.o.mono ?_;rintro e w1⟨rfl,dn⟩;rw[qk];go_wp2;go_ret;rw[eX.o,bj];exact⟨rfl,cN.trans dn⟩
  ·have eX:=O (show lH p xs 0= -1 from j8 (by have h:=HN.o;rw[aD ab]at h;exact h));go_wp2;go_ret;rw[eX.o];exact⟨rfl,cN⟩
def ace(b:Nat)(w:World)(bk cap:Nat)(p:aX->Bool)(xs:cU)(i j:Value)(wr:World):Prop :=
 ∃(m n:Nat) (ys:cU),i=.int .i64 m/\j=.int .i64 n/\m<n/\n<=xs.length/\ys.length=xs.length/\OwnRows b 129 13 wr (.slice (some ⟨bk,0,none⟩) xs.length cap) ys /\
  ys.take m=(xs.take n).filter (fun x=>!p x)/\ys.drop n=xs.drop n/\Fr (one bk) w wr
theorem zh{p:aX->Bool}:∀ {l:cU} (i:Nat),l.any p=true->∃k x,l[k]?=some x/\p x=true/\(l.take k).any p=false/\lH p l i=((i+k:Nat):Int)
 |[],_,h=>by simp at h
 |a :: l,i,h=>by
  cases ha:p a
  ·rw[List.any_cons,ha,jw]at h;obtain⟨k,x,h1,h2,h3,h4⟩:=zh (i+1) h;refine⟨k+1,x,by simpa using h1,h2,by simp[ha,h3],?_⟩;rw[lH,ha];simp only[cG,eR];rw[h4];congr 1;omega
  ·exact⟨0,a,rfl,ha,rfl,by rw[lH,ha];simp⟩
theorem zi(h:l.any p=false):l.filter (fun x=>!p x)=l:=by
 rw[List.filter_eq_self];intro a ha;have:=eT.1 h a ha;simpa using this
theorem Ev(b:Nat)(g:Nat)(cap:bS)(p:aX->Bool)(v:Value)(xs:cU)(w:World)(eg:∀args w,(callFunc g args).run prog w=.ok (.enter g args) w)(hp:gF (own v) w g cap p xs)(hv:OwnRows b 129 13 w v xs) :
  aC 150 #[v,.func (.func g) #[] cap] w fun e w'=>∃a c,e=.returned (.slice a (xs.filter (fun x=>!p x)).length c)/\OwnRows b 129 13 w' (.slice a (xs.filter (fun x=>!p x)).length c) (xs.filter (fun x=>!p x))/\Fr (own v) w w'/\own (.slice a (xs.filter (fun x=>!p x)).length c)=own v:=by
 cases iX:xs.any p
 ·have rB:=O (j8 (i:=0) iX);rw[zi iX];obtain⟨av,cv,fT⟩:=hv.form;subst fT;go_enter func150,ntmps150;go_wp2_with fail
  refine(zg g cap p _ xs w eg hp.none hv.at).mono ?_;rintro e w1⟨rfl,dn⟩;rw[rB.o];go_wp2;go_ret;exact⟨_,_,rfl,hv.fr dn (fun _ _ h=>h),dn.mono (fun _ _ h=>absurd h id),rfl⟩
 ·obtain⟨k0,x0,GQ,Dc,uV,rB⟩:=zh 0 iX;rw[bj]at rB;have LY:=(List.getElem?_eq_some_iff.1 GQ).1;obtain⟨bk,cp,JN⟩:∃bk cp,v=.slice (some ⟨bk,0,none⟩) xs.length cp:=by
   rcases hv.2.2 with ⟨_,hn⟩|⟨bk,cp,cur,hv,_⟩
   ·omega
   ·exact⟨bk,cp,hv⟩
  subst JN;obtain⟨Bu,cur,ub,q1,q2,q3,q4,q5,q6⟩:=hv.open (g:=bk) rfl;cases ub;unfold maxLen at q4;have dX:=O hv.1;have Dd:=O (show xs.take k0=(xs.take (k0+1)).filter (fun x=>!p x)by
   rw[dT GQ,cE,zi uV];simp[Dc])
  have HP:=O hp;have XV:=O rB;clear iX uV GQ Dc rB q2 q5 q6 hp;go_enter func150,ntmps150;go_wp2_with fail
  refine(zg g cap p _ xs w eg HP.o.none hv.at).mono ?_;rintro e w1⟨rfl,dn⟩;rw[XV.o];have H':=hv.fr dn (fun _ _ h=>h);have Ij:((k0:Int)== -1)=false:=by rw[aK];omega
  go_wp2;go_loopw[5,6] (ace b w bk cp p xs) (fun _ j _=>xs.length-(intOf j).toNat)
  case atStart=>exact⟨k0,k0+1,xs,rfl,bf,ab,ab,rfl,H',Dd.o,rfl,dn.mono (fun _ _ h=>absurd h id)⟩
  case round =>
   obtain⟨m,n,ys,rfl,rfl,hmn,hn,hlen,cO,re,sj,cN⟩:=hrel;have HT:=O re;have HD:=O sj;have jA:=O hlen;clear re sj hlen;rw[<-jA.o]at cO;have rC:=cO.at;by_cases fx:n<xs.length
   ·rcases rC.2 with ⟨_,_,_,e,_⟩|⟨bk',of,c,hf,h1,h2,h3,h4⟩
    ·have hl:=jA.o;rw[e]at hl;simp at hl;omega
    ·cases hf;have dL:=O (List.getElem?_eq_getElem fx);have xU:ys[n]?=some xs[n]:=by
      have e:=aq (fun l:cU=>l[0]?) HD.o;simp only[List.getElem?_drop,Nat.add_zero]at e;rw[e,dL.o]
     have hcell:=h4 n _ xU;simp only[bj]at hcell;have gM:=O (bL fx);generalize xs[n]=x at dL hcell gM xU;have lr:=(dX.o x gM.o).1;have nz:=O (dX.o x gM.o).2;have iM:=fun W=>run_storeCells_new (P:=prog) W 129 #[.bool false,.string ⟨#[]⟩,.int .i64 0,.bool false,.string ⟨#[]⟩,.int .i64 0,.string ⟨#[]⟩,.string ⟨#[]⟩,.string ⟨#[]⟩,.bool false,.string ⟨#[]⟩,.bool false,.slice none 0 0] x (by rw[lr];rfl) nz.o
     have iv:Fr aW wr (wr.alloc (.cells x.toArray 129)):=(ae aW wr).alloc _;have fy:=O (HP.o x gM.o (wr.alloc (.cells x.toArray 129)) ((cN.alloc _).mono (fun k _ h=>by have e:k=bk:=h;rw[e];rfl)));have GW:=O (Ak lr);have ki:=cN.alloc (.cells x.toArray 129);have fu:=cO.fr iv (fun _ _ h=>h);have rj:(wr.alloc (.cells x.toArray 129)).heap[wr.heap.size]?=some (.cells x.toArray 129 (0,0)):=aB _ _
     have tu:=O rj;clear h4 xU rj iv;go_wp2_with (first|((with_reducible refine dv 25 ?_);refine a_ rfl 129 (.tmp 24) rfl bk (n*13) rfl x _ hcell underlying129 rfl GW.o ?_)|((with_reducible refine dv 27 ?_);refine aJ rfl 129 (.tmp 7) rfl wr.heap.size rfl _ x.toArray (0,0) _ tu.o underlying129 rfl (by rw[ba];exact GW.o) ?_)|fail)
     have Z9:wr.heap.size<(wr.alloc (.cells x.toArray 129)).heap.size:=aQ;clear iM hcell;generalize wr.alloc (.cells x.toArray 129)=W2 at *
     refine fy.o.mono ?_;rintro e w3⟨rfl,ik⟩;have qi:=ki.trans (ik.mono (fun _ _ h=>absurd h id));have fk:=fu.fr ik (fun _ _ h=>h);have sN:=O (ik.keep tu.o id);have Mv:=O jA.o;cases qk:p x
     ·have Wh:=O (fk.there (g:=bk) (cap:=cp) (by rw[jA.o]) (o:=m*13) (n:=x.toArray.size) (by
       have hmc:(m+1)*13<=cp*13:=bN _ ab;rw[ba,lr];omega))
      have eU:=fk.store (i:=m) (y:=x) (by rw[jA.o];omega) lr nz.o (g:=bk) rfl;rw[jA.o]at eU;have od:=qi.step (fB (ae (one bk) w3) (fun _=>rfl) x (m*13)) (fun _ _ h=>h)
      go_wp2_with (first|((with_reducible refine dv 32 ?_);refine aJ rfl 129 (.tmp 7) rfl wr.heap.size rfl _ x.toArray (0,0) _ sN.o underlying129 rfl (by rw[ba];exact GW.o) ?_)|((with_reducible refine cP 129 ?_);refine hZ rfl 129 (.tmp 33) (.tmp 32) rfl bk (m*13) x.toArray rfl rfl Wh.o (by rw[ba];exact GW.o) (bU nz.o) ?_)|fail)
      go_roundw
      case rel =>
       refine⟨m+1,n+1,ys.set m x,bf,bf,ab,ab,by rw[dW];exact Mv.o,eU,?_,?_,od⟩
       ·rw[dT (l:=ys.set m x) (List.getElem?_set_self (by rw[Mv.o];omega)),fV (ay m),dT dL.o,cE,HT.o];simp[qk]
       ·rw[fW ab];have e:=aq (List.drop 1) HD.o;simpa[ep]using e
      case measure=>simp[intOf];omega
     ·rw[jA.o]at fk;go_wp2_with fail
      go_roundw
      case rel =>
       refine⟨m,n+1,ys,rfl,bf,ab,ab,Mv.o,fk,?_,?_,qi⟩
       ·rw[dT dL.o,cE,HT.o];simp[qk]
       ·have e:=aq (List.drop 1) HD.o;simpa[ep]using e
      case measure=>simp[intOf];omega
   ·have rD:n=xs.length:=ab;subst rD;have eX:=O (show ys.take m=xs.filter (fun x=>!p x)by have h:=HT.o;rw[aD (ay _)]at h;exact h);have si:(ys.take m).length=m:=by rw[aL,jA.o];omega
    have za:=O (show(xs.filter (fun x=>!p x)).length=m by rw[<-eX.o];exact si);have hcut:=cO.cut (i:=m) (by rw[jA.o];omega) (g:=bk) (cap:=cp) (by rw[jA.o]);have hle:(xs.length-m)*13+m*13<=cp*13:=by rw[<-dC];exact bN _ ab
    have BC:(Builtin.zeroCells vR (xs.length-m)).toList.length=(xs.length-m)*13:=by simp[Builtin.zeroCells]
    have xc:=fun ty=>jn (P:=prog) wr 116 129 ty vR underlying116 (fun w=>af) ag GZ bk (m*13) (xs.length-m) (cp-m) ab (by
     have:=cO.there (g:=bk) (cap:=cp) (by rw[jA.o]) (o:=m*13) (n:=(xs.length-m)*13) ab;exact this)
    have xV:=hcut.behind (o:=m*13) (vs:=(Builtin.zeroCells vR (xs.length-m)).toList) (by rw[si];exact ay _) (g:=bk) (cap:=cp) (by rw[si]) (by rw[BC];omega);have od:=cN.step (fB (ae (one bk) wr) (fun _=>rfl) (Builtin.zeroCells vR (xs.length-m)).toList (m*13)) (fun _ _ h=>h);clear cO rC hcut BC si hle jA;go_wp2_with fail
    go_ret;rw[za.o, <-eX.o];exact⟨_,_,rfl,xV,od.mono (fun k _ h=>by have e:k=bk:=h;rw[e];rfl),rfl⟩
theorem acf:∃i0:TypeInfo,prog.info? 129=some i0/\i0.size=13:=by
 have h:(prog.info? 129).map (·.size)=some 13:=af;cases hq:prog.info? 129 with
 |none=>rw[hq]at h;cases h
 |some i=>rw[hq]at h;exact⟨i,rfl,by simpa using h⟩
theorem Fv(b:Nat)(bk cp i j:Nat)(xs:cU)(w:World)(hv:OwnRows b 129 13 w (.slice (some ⟨bk,0,none⟩) xs.length cp) xs)(Px:i<j)(hj:j<=xs.length) :
  aC 122 #[.slice (some ⟨bk,0,none⟩) xs.length cp,.int .i64 i,.int .i64 j] w fun e w'=>e=.returned (.slice (some ⟨bk,0,none⟩) (i+(xs.length-j)) cp)/\OwnRows b 129 13 w' (.slice (some ⟨bk,0,none⟩) (i+(xs.length-j)) cp) (xs.take i++xs.drop j)/\Fr (one bk) w w':=by
 obtain⟨i0,ri,kI⟩:=acf;obtain⟨Bu,cur,ub,q1,q2,q3,q4,q5,q6⟩:=hv.open (g:=bk) rfl;cases ub;unfold maxLen at q4;have dL:=hv.at;have dX:=hv.1;obtain⟨news,kr⟩:∃news,news=(xs.drop j).flatten:=⟨_,rfl⟩;have hdr:∀x∈xs.drop j,x.length=13/\∀u∈x,u.oneCell'=true:=fun x hx=>dX x (ey hx);have hlen:news.length=(xs.length-j)*13:=by rw[kr,gi (fun x hx=>(hdr x hx).1),bH]
 obtain⟨A,hA,Mw⟩:∃A:Addr,(if cp=j then some (⟨bk,0,none⟩:Addr)else some ⟨bk,j*13,none⟩)=some A/\Hid (∀t u,news[t]?=some u->w.drew.cell? (A.add t)=some u):=by
  by_cases h:cp=j
  ·refine⟨⟨bk,0,none⟩,by simp[h],fun t u hu=>?_⟩
   have h0:news.length=0:=by rw[hlen];have:xs.length-j=0:=by omega
                             rw[this,gY]
   rw[dF.1 h0]at hu;simp at hu
  ·refine⟨⟨bk,j*13,none⟩,by simp[h],fun t u hu=>?_⟩;have ht:t<(xs.length-j)*13:=by
    have:=(List.getElem?_eq_some_iff.1 hu).1;omega
   have lD:xs.flatten[j*13+t]?=some u:=by
    have e:xs.flatten=(xs.take j).flatten++(xs.drop j).flatten:=by rw[<-ec,fE]
    have hl:(xs.take j).flatten.length=j*13:=by rw[gi (fun x hx=>(dX x (ew hx)).1),aL,dJ hj]
    rw[e,List.getElem?_append_right ab,hl,show j*13+t-j*13=t from ab, <-kr];exact hu
   have hjt:j*13+t<xs.length*13:=by
    have:(xs.length-j)*13+j*13=xs.length*13:=by rw[<-dC];congr 1;omega
    omega
   rw[<-q6,List.getElem?_take_of_lt hjt]at lD;have B8:cur[j*13+t]?=some u:=by simpa using lD
   have ea:(Addr.add ⟨bk,j*13,none⟩ t)=⟨bk,j*13+t,none⟩:=by unfold Addr.add;split<;>simp_all
   rw[ea];show w.cell? _=some u;simp[World.cell?,q2,B8]
 have s1:=O hlen;have s2:=O (show∀u∈news,u.oneCell'=true by
  intro u hu;rw[kr]at hu;obtain⟨x,hx,Ft⟩:=fD.1 hu;exact(hdr x hx).2 u Ft)
 have s3:=O (show∀t,t<news.length->(w.drew.cell? ⟨bk,0+i*13+t,none⟩).isSome=true/\w.drew.frozen? ⟨bk,0+i*13+t,none⟩=false by
  intro t ht;rw[bj];have hle:i*13+(xs.length-j)*13<=cp*13:=by rw[<-dC];exact bN _ ab
  have:=hv.there (g:=bk) (cap:=cp) rfl (o:=i*13) (n:=(xs.length-j)*13) hle t ab;exact this)
 have TK:OwnRows b 129 13 w.drew (.slice (some ⟨bk,0,none⟩) xs.length cp) xs:=hv;have p9:=TK.CA (i:=i) (ys:=xs.drop j) ab hdr (g:=bk) (cap:=cp) rfl (by rw[bH];omega);rw[bH, <-kr]at p9;have xW:Fr (one bk) w (w.drew.setCells bk (i*13) news):=((ae (one bk) w).drew).setCells (fun _=>rfl) _ _;obtain⟨W1,Bz⟩:∃W1,W1=w.drew.setCells bk (0+i*13) news:=⟨_,rfl⟩;have HW:=O Bz;rw[bj]at Bz;rw[<-Bz]at p9 xW
 have rD:(xs.take i++xs.drop j).length=i+(xs.length-j):=by rw[aM,aL,bH];omega
 have hm:i+(xs.length-j)<xs.length:=ab;have BC:(Builtin.zeroCells vR (xs.length-(i+(xs.length-j)))).toList.length=(xs.length-(i+(xs.length-j)))*13:=by simp[Builtin.zeroCells]
 have hle:(i+(xs.length-j))*13+(xs.length-(i+(xs.length-j)))*13<=cp*13:=by rw[<-dC];exact bN _ ab
 have xc:=fun ty=>jn (P:=prog) W1 116 129 ty vR underlying116 (fun w=>af) ag GZ bk ((i+(xs.length-j))*13) (xs.length-(i+(xs.length-j))) (cp-(i+(xs.length-j))) ab (by
  have:=p9.there (g:=bk) (cap:=cp) (by rw[rD]) (o:=(i+(xs.length-j))*13) (n:=(xs.length-(i+(xs.length-j)))*13) hle;exact this)
 have xV:=p9.behind (o:=(i+(xs.length-j))*13) (vs:=(Builtin.zeroCells vR (xs.length-(i+(xs.length-j)))).toList) (by rw[rD];exact ay _) (g:=bk) (cap:=cp) (by rw[rD]) (by rw[BC];omega);have od:=xW.step (fB (ae (one bk) W1) (fun _=>rfl) (Builtin.zeroCells vR (xs.length-(i+(xs.length-j)))).toList ((i+(xs.length-j))*13)) (fun _ _ h=>h);have hne:((i:Int)==(j:Int))=false:=by rw[aK];omega
 have ab3:i<=cp:=ab;have ab4:j<=cp:=ab;have HA:=O hA;clear Bz p9 TK xW kr hlen hdr dX dL rD BC hle q2 q5 q6 hv;go_enter func122,ntmps122;go_wp2_with fail
 have hA:=HA.o;go_region_law (refine step_append_room rfl (.tmp 22) (.tmp 25) 116 rfl 129 i0 13 underlying116 ri kI bk 0 i cp (by simp[Act.eval,Act.put]) A (xs.length-j) (cp-j) news (by simp[Act.eval,Act.put]) s1.o Mw.out s2.o ab s3.o ?_;rw[<-HW.o])
 all_goals
  go_wp2_with fail
  go_ret;exact⟨rfl,xV,od⟩
abbrev Ew:bS:= #[.bool false,.string ⟨#[]⟩,.int .i64 0,.bool false,.string ⟨#[]⟩,.int .i64 0,.string ⟨#[]⟩,.string ⟨#[]⟩,.bool false,.string ⟨#[]⟩,.string ⟨#[]⟩,.int .i64 0]
theorem OO:∀v∈Ew.toList,v.oneCell'=true:=dp
theorem Ao(h:x.length=12):(prog.info? 137).map (·.size)=some x.length:=by rw[h];kernel_rfl
def acm(w:World)(p:aX->Bool)(xs:cU)(i:Value)(wr:World):Prop :=
 ∃k:Nat,k<=xs.length/\i=.int .i64 k/\(xs.take k).any p=false/\Fr aW w wr
theorem uh(g:Nat)(cap:bS)(p:aX->Bool)(v:Value)(xs:cU)(w:World)(eg:∀args w,(callFunc g args).run prog w=.ok (.enter g args) w)(hp:gF aW w g cap p xs)(hv:eb 12 w v xs) :
  aC 181 #[v,.func (.func g) #[] cap] w fun e w'=>e=.returned (.int .i64 (lH p xs 0))/\Fr aW w w':=by
 obtain⟨av,cv,fT⟩:=hv.form;subst fT;have dX:=O hv.1;go_enter func181,ntmps181;go_wp2;go_loopw[8] (acm w p xs) (fun i _=>xs.length-(intOf i).toNat)
 case atStart=>exact⟨0,aS _,rfl,rfl,ae _ _⟩
 case round =>
  obtain⟨k,hk,rfl,hn,cN⟩:=hrel;have HN:=O hn;clear hn;by_cases fx:k<xs.length
  ·rcases(hv.iY cN).2 with ⟨_,_,_,e,_⟩|⟨bk,of,c,hf,h1,h2,h3,h4⟩
   ·rw[e]at fx;exact absurd fx (cq _)
   ·cases hf;unfold maxLen at h2;have dL:=O (List.getElem?_eq_getElem fx);have hcell:=h4 k _ dL.o;have gM:=O (bL fx);generalize xs[k]=x at dL hcell gM;have fy:=O (hp x gM.o wr cN);have lr:=(dX.o x gM.o).1;clear h4;cases qk:p x
    ·have pN:=O (any_take_succ dL.o HN.o qk);go_wp2_with (first|((with_reducible refine dv 15 ?_);refine a_ rfl 137 (.tmp 14) rfl bk (of+k*12) rfl x _ hcell underlying137 rfl (Ao lr) ?_)|fail)
     refine fy.o.mono ?_;rintro e w1⟨rfl,dn⟩;rw[qk];go_wp2;go_roundw
     case rel=>exact⟨k+1,ab,bf,pN.o,cN.trans dn⟩
     case measure=>simp[intOf];omega
    ·have eX:=O (oF (i:=0) dL.o qk HN.o);go_wp2_with (first|((with_reducible refine dv 15 ?_);refine a_ rfl 137 (.tmp 14) rfl bk (of+k*12) rfl x _ hcell underlying137 rfl (Ao lr) ?_)|fail)
     refine fy.o.mono ?_;rintro e w1⟨rfl,dn⟩;rw[qk];go_wp2;go_ret;rw[eX.o,bj];exact⟨rfl,cN.trans dn⟩
  ·have eX:=O (show lH p xs 0= -1 from j8 (by have h:=HN.o;rw[aD ab]at h;exact h));go_wp2;go_ret;rw[eX.o];exact⟨rfl,cN⟩
theorem BF(g:Nat)(cap:bS)(p:aX->Bool)(v:Value)(xs:cU)(w:World)(eg:∀args w,(callFunc g args).run prog w=.ok (.enter g args) w)(hp:gF aW w g cap p xs)(hv:eb 12 w v xs) :
  aC 125 #[v,.func (.func g) #[] cap] w fun e w'=>e=.returned (.bool (xs.any p))/\Fr aW w w':=by
 have hb:=O (ru p xs 0);go_enter func125,ntmps125;go_wp2_with fail
 refine(uh g cap p v xs w eg hp hv).mono ?_;rintro e w1⟨rfl,dn⟩;go_wp2;go_ret;exact⟨ft hb.o,dn⟩
abbrev Wt:bS:= #[.bool false,.string ⟨#[]⟩,.int .i64 0,.int .i64 0]
theorem OZ:∀v∈Wt.toList,v.oneCell'=true:=dp
theorem Nc(h:x.length=4):(prog.info? 105).map (·.size)=some x.length:=by rw[h];kernel_rfl
def ac4(w:World)(p:aX->Bool)(xs:cU)(i:Value)(wr:World):Prop :=
 ∃k:Nat,k<=xs.length/\i=.int .i64 k/\(xs.take k).any p=false/\Fr aW w wr
theorem zv(g:Nat)(cap:bS)(p:aX->Bool)(v:Value)(xs:cU)(w:World)(eg:∀args w,(callFunc g args).run prog w=.ok (.enter g args) w)(hp:gF aW w g cap p xs)(hv:eb 4 w v xs) :
  aC 199 #[v,.func (.func g) #[] cap] w fun e w'=>e=.returned (.int .i64 (lH p xs 0))/\Fr aW w w':=by
 obtain⟨av,cv,fT⟩:=hv.form;subst fT;have dX:=O hv.1;go_enter func199,ntmps199;go_wp2;go_loopw[8] (ac4 w p xs) (fun i _=>xs.length-(intOf i).toNat)
 case atStart=>exact⟨0,aS _,rfl,rfl,ae _ _⟩
 case round =>
  obtain⟨k,hk,rfl,hn,cN⟩:=hrel;have HN:=O hn;clear hn;by_cases fx:k<xs.length
  ·rcases(hv.iY cN).2 with ⟨_,_,_,e,_⟩|⟨bk,of,c,hf,h1,h2,h3,h4⟩
   ·rw[e]at fx;exact absurd fx (cq _)
   ·cases hf;unfold maxLen at h2;have dL:=O (List.getElem?_eq_getElem fx);have hcell:=h4 k _ dL.o;have gM:=O (bL fx);generalize xs[k]=x at dL hcell gM;have fy:=O (hp x gM.o wr cN);have lr:=(dX.o x gM.o).1;clear h4;cases qk:p x
    ·have pN:=O (any_take_succ dL.o HN.o qk);go_wp2_with (first|((with_reducible refine dv 15 ?_);refine a_ rfl 105 (.tmp 14) rfl bk (of+k*4) rfl x _ hcell underlying105 rfl (Nc lr) ?_)|fail)
     refine fy.o.mono ?_;rintro e w1⟨rfl,dn⟩;rw[qk];go_wp2;go_roundw
     case rel=>exact⟨k+1,ab,bf,pN.o,cN.trans dn⟩
     case measure=>simp[intOf];omega
    ·have eX:=O (oF (i:=0) dL.o qk HN.o);go_wp2_with (first|((with_reducible refine dv 15 ?_);refine a_ rfl 105 (.tmp 14) rfl bk (of+k*4) rfl x _ hcell underlying105 rfl (Nc lr) ?_)|fail)
     refine fy.o.mono ?_;rintro e w1⟨rfl,dn⟩;rw[qk];go_wp2;go_ret;rw[eX.o,bj];exact⟨rfl,cN.trans dn⟩
  ·have eX:=O (show lH p xs 0= -1 from j8 (by have h:=HN.o;rw[aD ab]at h;exact h));go_wp2;go_ret;rw[eX.o];exact⟨rfl,cN⟩
def ac5(b:Nat)(w:World)(bk cap:Nat)(p:aX->Bool)(xs:cU)(i j:Value)(wr:World):Prop :=
 ∃(m n:Nat) (ys:cU),i=.int .i64 m/\j=.int .i64 n/\m<n/\n<=xs.length/\ys.length=xs.length/\OwnRows b 105 4 wr (.slice (some ⟨bk,0,none⟩) xs.length cap) ys /\
  ys.take m=(xs.take n).filter (fun x=>!p x)/\ys.drop n=xs.drop n/\Fr (one bk) w wr
theorem zw{p:aX->Bool}:∀ {l:cU} (i:Nat),l.any p=true->∃k x,l[k]?=some x/\p x=true/\(l.take k).any p=false/\lH p l i=((i+k:Nat):Int)
 |[],_,h=>by simp at h
 |a :: l,i,h=>by
  cases ha:p a
  ·rw[List.any_cons,ha,jw]at h;obtain⟨k,x,h1,h2,h3,h4⟩:=zw (i+1) h;refine⟨k+1,x,by simpa using h1,h2,by simp[ha,h3],?_⟩;rw[lH,ha];simp only[cG,eR];rw[h4];congr 1;omega
  ·exact⟨0,a,rfl,ha,rfl,by rw[lH,ha];simp⟩
theorem zx(h:l.any p=false):l.filter (fun x=>!p x)=l:=by
 rw[List.filter_eq_self];intro a ha;have:=eT.1 h a ha;simpa using this
theorem EB(b:Nat)(g:Nat)(cap:bS)(p:aX->Bool)(v:Value)(xs:cU)(w:World)(eg:∀args w,(callFunc g args).run prog w=.ok (.enter g args) w)(hp:gF (own v) w g cap p xs)(hv:OwnRows b 105 4 w v xs) :
  aC 147 #[v,.func (.func g) #[] cap] w fun e w'=>∃a c,e=.returned (.slice a (xs.filter (fun x=>!p x)).length c)/\OwnRows b 105 4 w' (.slice a (xs.filter (fun x=>!p x)).length c) (xs.filter (fun x=>!p x))/\Fr (own v) w w'/\own (.slice a (xs.filter (fun x=>!p x)).length c)=own v:=by
 cases iX:xs.any p
 ·have rB:=O (j8 (i:=0) iX);rw[zx iX];obtain⟨av,cv,fT⟩:=hv.form;subst fT;go_enter func147,ntmps147;go_wp2_with fail
  refine(zv g cap p _ xs w eg hp.none hv.at).mono ?_;rintro e w1⟨rfl,dn⟩;rw[rB.o];go_wp2;go_ret;exact⟨_,_,rfl,hv.fr dn (fun _ _ h=>h),dn.mono (fun _ _ h=>absurd h id),rfl⟩
 ·obtain⟨k0,x0,GQ,Dc,uV,rB⟩:=zw 0 iX;rw[bj]at rB;have LY:=(List.getElem?_eq_some_iff.1 GQ).1;obtain⟨bk,cp,JN⟩:∃bk cp,v=.slice (some ⟨bk,0,none⟩) xs.length cp:=by
   rcases hv.2.2 with ⟨_,hn⟩|⟨bk,cp,cur,hv,_⟩
   ·omega
   ·exact⟨bk,cp,hv⟩
  subst JN;obtain⟨Bu,cur,ub,q1,q2,q3,q4,q5,q6⟩:=hv.open (g:=bk) rfl;cases ub;unfold maxLen at q4;have dX:=O hv.1;have Dd:=O (show xs.take k0=(xs.take (k0+1)).filter (fun x=>!p x)by
   rw[dT GQ,cE,zx uV];simp[Dc])
  have HP:=O hp;have XV:=O rB;clear iX uV GQ Dc rB q2 q5 q6 hp;go_enter func147,ntmps147;go_wp2_with fail
  refine(zv g cap p _ xs w eg HP.o.none hv.at).mono ?_;rintro e w1⟨rfl,dn⟩;rw[XV.o];have H':=hv.fr dn (fun _ _ h=>h);have Ij:((k0:Int)== -1)=false:=by rw[aK];omega
  go_wp2;go_loopw[5,6] (ac5 b w bk cp p xs) (fun _ j _=>xs.length-(intOf j).toNat)
  case atStart=>exact⟨k0,k0+1,xs,rfl,bf,ab,ab,rfl,H',Dd.o,rfl,dn.mono (fun _ _ h=>absurd h id)⟩
  case round =>
   obtain⟨m,n,ys,rfl,rfl,hmn,hn,hlen,cO,re,sj,cN⟩:=hrel;have HT:=O re;have HD:=O sj;have jA:=O hlen;clear re sj hlen;rw[<-jA.o]at cO;have rC:=cO.at;by_cases fx:n<xs.length
   ·rcases rC.2 with ⟨_,_,_,e,_⟩|⟨bk',of,c,hf,h1,h2,h3,h4⟩
    ·have hl:=jA.o;rw[e]at hl;simp at hl;omega
    ·cases hf;have dL:=O (List.getElem?_eq_getElem fx);have xU:ys[n]?=some xs[n]:=by
      have e:=aq (fun l:cU=>l[0]?) HD.o;simp only[List.getElem?_drop,Nat.add_zero]at e;rw[e,dL.o]
     have hcell:=h4 n _ xU;simp only[bj]at hcell;have gM:=O (bL fx);generalize xs[n]=x at dL hcell gM xU;have lr:=(dX.o x gM.o).1;have nz:=O (dX.o x gM.o).2;have iM:=fun W=>run_storeCells_new (P:=prog) W 105 #[.bool false,.string ⟨#[]⟩,.int .i64 0,.int .i64 0] x (by rw[lr];rfl) nz.o;have iv:Fr aW wr (wr.alloc (.cells x.toArray 105)):=(ae aW wr).alloc _
     have fy:=O (HP.o x gM.o (wr.alloc (.cells x.toArray 105)) ((cN.alloc _).mono (fun k _ h=>by have e:k=bk:=h;rw[e];rfl)));have GW:=O (Nc lr);have ki:=cN.alloc (.cells x.toArray 105);have fu:=cO.fr iv (fun _ _ h=>h);have rj:(wr.alloc (.cells x.toArray 105)).heap[wr.heap.size]?=some (.cells x.toArray 105 (0,0)):=aB _ _;have tu:=O rj;clear h4 xU rj iv
     go_wp2_with (first|((with_reducible refine dv 25 ?_);refine a_ rfl 105 (.tmp 24) rfl bk (n*4) rfl x _ hcell underlying105 rfl GW.o ?_)|((with_reducible refine dv 27 ?_);refine aJ rfl 105 (.tmp 7) rfl wr.heap.size rfl _ x.toArray (0,0) _ tu.o underlying105 rfl (by rw[ba];exact GW.o) ?_)|fail)
     have Z9:wr.heap.size<(wr.alloc (.cells x.toArray 105)).heap.size:=aQ;clear iM hcell;generalize wr.alloc (.cells x.toArray 105)=W2 at *
     refine fy.o.mono ?_;rintro e w3⟨rfl,ik⟩;have qi:=ki.trans (ik.mono (fun _ _ h=>absurd h id));have fk:=fu.fr ik (fun _ _ h=>h);have sN:=O (ik.keep tu.o id);have Mv:=O jA.o;cases qk:p x
     ·have Wh:=O (fk.there (g:=bk) (cap:=cp) (by rw[jA.o]) (o:=m*4) (n:=x.toArray.size) (by
       have hmc:(m+1)*4<=cp*4:=bN _ ab;rw[ba,lr];omega))
      have eU:=fk.store (i:=m) (y:=x) (by rw[jA.o];omega) lr nz.o (g:=bk) rfl;rw[jA.o]at eU;have od:=qi.step (fB (ae (one bk) w3) (fun _=>rfl) x (m*4)) (fun _ _ h=>h)
      go_wp2_with (first|((with_reducible refine dv 32 ?_);refine aJ rfl 105 (.tmp 7) rfl wr.heap.size rfl _ x.toArray (0,0) _ sN.o underlying105 rfl (by rw[ba];exact GW.o) ?_)|((with_reducible refine cP 105 ?_);refine hZ rfl 105 (.tmp 33) (.tmp 32) rfl bk (m*4) x.toArray rfl rfl Wh.o (by rw[ba];exact GW.o) (bU nz.o) ?_)|fail)
      go_roundw
      case rel =>
       refine⟨m+1,n+1,ys.set m x,bf,bf,ab,ab,by rw[dW];exact Mv.o,eU,?_,?_,od⟩
       ·rw[dT (l:=ys.set m x) (List.getElem?_set_self (by rw[Mv.o];omega)),fV (ay m),dT dL.o,cE,HT.o];simp[qk]
       ·rw[fW ab];have e:=aq (List.drop 1) HD.o;simpa[ep]using e
      case measure=>simp[intOf];omega
     ·rw[jA.o]at fk;go_wp2_with fail
      go_roundw
      case rel =>
       refine⟨m,n+1,ys,rfl,bf,ab,ab,Mv.o,fk,?_,?_,qi⟩
       ·rw[dT dL.o,cE,HT.o];simp[qk]
       ·have e:=aq (List.drop 1) HD.o;simpa[ep]using e
      case measure=>simp[intOf];omega
   ·have rD:n=xs.length:=ab;subst rD;have eX:=O (show ys.take m=xs.filter (fun x=>!p x)by have h:=HT.o;rw[aD (ay _)]at h;exact h);have si:(ys.take m).length=m:=by rw[aL,jA.o];omega
    have za:=O (show(xs.filter (fun x=>!p x)).length=m by rw[<-eX.o];exact si);have hcut:=cO.cut (i:=m) (by rw[jA.o];omega) (g:=bk) (cap:=cp) (by rw[jA.o]);have hle:(xs.length-m)*4+m*4<=cp*4:=by rw[<-dC];exact bN _ ab
    have BC:(Builtin.zeroCells Wt (xs.length-m)).toList.length=(xs.length-m)*4:=by simp[Builtin.zeroCells]
    have xc:=fun ty=>jn (P:=prog) wr 92 105 ty Wt underlying92 (fun w=>af) ag OZ bk (m*4) (xs.length-m) (cp-m) ab (by
     have:=cO.there (g:=bk) (cap:=cp) (by rw[jA.o]) (o:=m*4) (n:=(xs.length-m)*4) ab;exact this)
    have xV:=hcut.behind (o:=m*4) (vs:=(Builtin.zeroCells Wt (xs.length-m)).toList) (by rw[si];exact ay _) (g:=bk) (cap:=cp) (by rw[si]) (by rw[BC];omega);have od:=cN.step (fB (ae (one bk) wr) (fun _=>rfl) (Builtin.zeroCells Wt (xs.length-m)).toList (m*4)) (fun _ _ h=>h);clear cO rC hcut BC si hle jA;go_wp2_with fail
    go_ret;rw[za.o, <-eX.o];exact⟨_,_,rfl,xV,od.mono (fun k _ h=>by have e:k=bk:=h;rw[e];rfl),rfl⟩
theorem ac6:∃i0:TypeInfo,prog.info? 105=some i0/\i0.size=4:=by
 have h:(prog.info? 105).map (·.size)=some 4:=af;cases hq:prog.info? 105 with
 |none=>rw[hq]at h;cases h
 |some i=>rw[hq]at h;exact⟨i,rfl,by simpa using h⟩
theorem QU(b:Nat)(bk cp i j:Nat)(xs:cU)(w:World)(hv:OwnRows b 105 4 w (.slice (some ⟨bk,0,none⟩) xs.length cp) xs)(Px:i<j)(hj:j<=xs.length) :
  aC 91 #[.slice (some ⟨bk,0,none⟩) xs.length cp,.int .i64 i,.int .i64 j] w fun e w'=>e=.returned (.slice (some ⟨bk,0,none⟩) (i+(xs.length-j)) cp)/\OwnRows b 105 4 w' (.slice (some ⟨bk,0,none⟩) (i+(xs.length-j)) cp) (xs.take i++xs.drop j)/\Fr (one bk) w w':=by
 obtain⟨i0,ri,kI⟩:=ac6;obtain⟨Bu,cur,ub,q1,q2,q3,q4,q5,q6⟩:=hv.open (g:=bk) rfl;cases ub;unfold maxLen at q4;have dL:=hv.at;have dX:=hv.1;obtain⟨news,kr⟩:∃news,news=(xs.drop j).flatten:=⟨_,rfl⟩;have hdr:∀x∈xs.drop j,x.length=4/\∀u∈x,u.oneCell'=true:=fun x hx=>dX x (ey hx);have hlen:news.length=(xs.length-j)*4:=by rw[kr,gi (fun x hx=>(hdr x hx).1),bH]
 obtain⟨A,hA,Mw⟩:∃A:Addr,(if cp=j then some (⟨bk,0,none⟩:Addr)else some ⟨bk,j*4,none⟩)=some A/\Hid (∀t u,news[t]?=some u->w.drew.cell? (A.add t)=some u):=by
  by_cases h:cp=j
  ·refine⟨⟨bk,0,none⟩,by simp[h],fun t u hu=>?_⟩
   have h0:news.length=0:=by rw[hlen];have:xs.length-j=0:=by omega
                             rw[this,gY]
   rw[dF.1 h0]at hu;simp at hu
  ·refine⟨⟨bk,j*4,none⟩,by simp[h],fun t u hu=>?_⟩;have ht:t<(xs.length-j)*4:=by
    have:=(List.getElem?_eq_some_iff.1 hu).1;omega
   have lD:xs.flatten[j*4+t]?=some u:=by
    have e:xs.flatten=(xs.take j).flatten++(xs.drop j).flatten:=by rw[<-ec,fE]
    have hl:(xs.take j).flatten.length=j*4:=by rw[gi (fun x hx=>(dX x (ew hx)).1),aL,dJ hj]
    rw[e,List.getElem?_append_right ab,hl,show j*4+t-j*4=t from ab, <-kr];exact hu
   have hjt:j*4+t<xs.length*4:=by
    have:(xs.length-j)*4+j*4=xs.length*4:=by rw[<-dC];congr 1;omega
    omega
   rw[<-q6,List.getElem?_take_of_lt hjt]at lD;have B8:cur[j*4+t]?=some u:=by simpa using lD
   have ea:(Addr.add ⟨bk,j*4,none⟩ t)=⟨bk,j*4+t,none⟩:=by unfold Addr.add;split<;>simp_all
   rw[ea];show w.cell? _=some u;simp[World.cell?,q2,B8]
 have s1:=O hlen;have s2:=O (show∀u∈news,u.oneCell'=true by
  intro u hu;rw[kr]at hu;obtain⟨x,hx,Ft⟩:=fD.1 hu;exact(hdr x hx).2 u Ft)
 have s3:=O (show∀t,t<news.length->(w.drew.cell? ⟨bk,0+i*4+t,none⟩).isSome=true/\w.drew.frozen? ⟨bk,0+i*4+t,none⟩=false by
  intro t ht;rw[bj];have hle:i*4+(xs.length-j)*4<=cp*4:=by rw[<-dC];exact bN _ ab
  have:=hv.there (g:=bk) (cap:=cp) rfl (o:=i*4) (n:=(xs.length-j)*4) hle t ab;exact this)
 have TK:OwnRows b 105 4 w.drew (.slice (some ⟨bk,0,none⟩) xs.length cp) xs:=hv;have p9:=TK.CA (i:=i) (ys:=xs.drop j) ab hdr (g:=bk) (cap:=cp) rfl (by rw[bH];omega);rw[bH, <-kr]at p9;have xW:Fr (one bk) w (w.drew.setCells bk (i*4) news):=((ae (one bk) w).drew).setCells (fun _=>rfl) _ _;obtain⟨W1,Bz⟩:∃W1,W1=w.drew.setCells bk (0+i*4) news:=⟨_,rfl⟩;have HW:=O Bz;rw[bj]at Bz;rw[<-Bz]at p9 xW
 have rD:(xs.take i++xs.drop j).length=i+(xs.length-j):=by rw[aM,aL,bH];omega
 have hm:i+(xs.length-j)<xs.length:=ab;have BC:(Builtin.zeroCells Wt (xs.length-(i+(xs.length-j)))).toList.length=(xs.length-(i+(xs.length-j)))*4:=by simp[Builtin.zeroCells]
 have hle:(i+(xs.length-j))*4+(xs.length-(i+(xs.length-j)))*4<=cp*4:=by rw[<-dC];exact bN _ ab
 have xc:=fun ty=>jn (P:=prog) W1 92 105 ty Wt underlying92 (fun w=>af) ag OZ bk ((i+(xs.length-j))*4) (xs.length-(i+(xs.length-j))) (cp-(i+(xs.length-j))) ab (by
  have:=p9.there (g:=bk) (cap:=cp) (by rw[rD]) (o:=(i+(xs.length-j))*4) (n:=(xs.length-(i+(xs.length-j)))*4) hle;exact this)
 have xV:=p9.behind (o:=(i+(xs.length-j))*4) (vs:=(Builtin.zeroCells Wt (xs.length-(i+(xs.length-j)))).toList) (by rw[rD];exact ay _) (g:=bk) (cap:=cp) (by rw[rD]) (by rw[BC];omega);have od:=xW.step (fB (ae (one bk) W1) (fun _=>rfl) (Builtin.zeroCells Wt (xs.length-(i+(xs.length-j)))).toList ((i+(xs.length-j))*4)) (fun _ _ h=>h);have hne:((i:Int)==(j:Int))=false:=by rw[aK];omega
 have ab3:i<=cp:=ab;have ab4:j<=cp:=ab;have HA:=O hA;clear Bz p9 TK xW kr hlen hdr dX dL rD BC hle q2 q5 q6 hv;go_enter func91,ntmps91;go_wp2_with fail
 have hA:=HA.o;go_region_law (refine step_append_room rfl (.tmp 22) (.tmp 25) 92 rfl 105 i0 4 underlying92 ri kI bk 0 i cp (by simp[Act.eval,Act.put]) A (xs.length-j) (cp-j) news (by simp[Act.eval,Act.put]) s1.o Mw.out s2.o ab s3.o ?_;rw[<-HW.o])
 all_goals
  go_wp2_with fail
  go_ret;exact⟨rfl,xV,od⟩
open Go.ChangeShapes Go.WideShapes Go.ChangeAt Go.RowKit Go.Deep
section
variable {H : Type} {enc : TypeId × Value → H} {P : Program} {W : World}
theorem lf.adM{α β:Type}{R:α->β->Prop}{f:Nat->α}{g:Nat->β}(n:Nat)(h:∀i,i<n->R (f i) (g i)):lf R ((List.range n).map f) ((List.range n).map g):=by
 induction n with
 |zero=>exact .nil
 |succ n ih =>
  rw[List.range_succ,bD,bD];exact(ih (fun i hi=>h i ab)).app (.cons (h n ab) .nil)
theorem D1{t e:TypeId}{k bytes:Nat}{β:Type} [Inhabited β]{Q:aX->β->Prop}{S:β->Prop}(ht:P.underlying t=some (.slice e))(hk:P.cellsOf e=k)(LY:0<k)(qD:P.bytesOf e=bytes)
  (el:∀ {fuel:Nat} {cs:aX} {x:DataW H×List MemPlace},DataW.trod enc P W 0 (fun _=>true) true fuel e cs=some x->∃b,Q cs b/\cs.length=k/\(∀u∈cs,u.oneCell'=true)/\(oO P e x.1->S b))
  {fuel:Nat}{cs:aX}{x:DataW H×List MemPlace}(h:DataW.trod enc P W 0 (fun _=>true) true fuel t cs=some x) :
  ∃(v:Value) (css:cU) (bs:List β),cs=[v]/\eb k W v css/\lf Q css bs/\(oO P t x.1->bs.length*bytes<=reachBytes/\∀b∈bs,S b):=by
 rcases open_slice ht h with ⟨rfl,rfl⟩|⟨a,len,cap,m,n,D,Pl,rfl,_,hl,hm,hme,rfl,hc⟩
 ·exact⟨_,[],[],rfl,eb.nil _ _,.nil,fun _=>⟨aQ,aQ⟩⟩
 simp only[dY]at hme;subst hme;rw[hk]at hc;have each:∀i,i<len->∃q:aX×β,W.cells? 0 (a.add (i*k)) k=some q.1/\Q q.1 q.2/\q.1.length=k/\(∀u∈q.1,u.oneCell'=true)/\(oO P e (D i)->S q.2):=fun i hi=>by
  obtain⟨cs',h1,h2⟩:=hc i ab;obtain⟨b,hq,hlen,dX,hs⟩:=el h2;exact⟨(cs',b),h1,hq,hlen,dX,hs⟩
 obtain⟨q,hq⟩:=choose_lt each;refine⟨_,(List.range len).map fun i=>(q i).1,(List.range len).map fun i=>(q i).2,rfl,⟨?_,?_⟩,lf.adM len (fun i hi=>(hq i hi).2.1),fun hL=>⟨?_,?_⟩⟩
 ·intro y hy;obtain⟨i,hi,rfl⟩:=cj.1 hy;have hi:=hq i (List.mem_range.1 hi);exact⟨hi.2.2.1,hi.2.2.2.1⟩
 ·by_cases h0:len=0
  ·subst h0;exact Or.inl ⟨_,_,rfl,rfl,fun e=>by cases e⟩
  ·have cell:∀i,i<len->∀j u,(q i).1[j]?=some u->W.cell? (a.add (i*k+j))=some u:=fun i hi j u hu=>by
    obtain⟨_,hlen,hcell⟩:=World.cells?_some (hq i hi).1;have:=hcell j (by have:=(List.getElem?_eq_some_iff.1 hu).1;have:=(hq i hi).2.2.1;omega);rw[add_add]at this;rw[this,hu]
   obtain⟨b,off,spot⟩:=a;have RM:=(hq 0 ab).2.2.1;have hc0:=cell 0 ab 0 _ (List.getElem?_eq_getElem ab);have aiK:spot=none:=by simpa[Addr.add]using World.cell?_spot hc0
   subst aiK;have KE:∀j,(Addr.add ⟨b,off,none⟩ j)=⟨b,off+j,none⟩:=by intro j;unfold Addr.add;split<;>simp_all
   have ZN:b<W.heap.size:=by
    have h0:=World.block_lt_of_cell? _ _ hc0;rw[KE]at h0;exact h0
   refine Or.inr ⟨b,off,m,aQ,by simpa using hl,hm,ZN,fun j y hj i u hi=>?_⟩;rw[List.getElem?_map]at hj;obtain⟨k',XO,rfl⟩:=Option.map_eq_some_iff.1 hj;obtain⟨hj1,rfl⟩:=List.getElem?_eq_some_iff.1 XO;simp at hj1;have:=cell j hj1 i u (by simpa using hi)
   rwa [KE, <-Nat.add_assoc]at this
 ·unfold oO at hL;simp only[DataW.weights,ht]at hL;have:=hL _ (cR ..);simp only[aj,List.length_range,qD]at this;have e1:(len+(m-len))*bytes=m*bytes:=by congr 1;omega
  rw[e1]at this;have h2:len*bytes<=m*bytes:=bN _ hl;simp only[aj,List.length_range];omega
 ·intro b hb;obtain⟨i,hi,rfl⟩:=cj.1 hb;have hi':=List.mem_range.1 hi;refine(hq i hi').2.2.2.2 (fun n hn=>?_);unfold oO at hL;simp only[DataW.weights,ht]at hL;exact hL n (bO _ (List.mem_append_left _ (xt (cj.2 ⟨i,hi,rfl⟩) _ hn)))
end
variable {H : Type} {enc : TypeId × Value → H} {W : World}
theorem zI:prog.cellsOf 142=2:=af
theorem Lg{x:DataW H×List MemPlace}(h:DataW.trod enc prog W 0 (fun _=>true) true fuel 142 cs=some x) :
  ∃b:ai×ai,cs=[.string b.1,.string b.2]/\cs.length=2/\(∀u∈cs,u.oneCell'=true)/\(oO prog 142 x.1->b.1.size<=reachBytes/\b.2.size<=reachBytes):=by
 obtain⟨hl,n,hf⟩:=nP underlying142 h;rw[zI]at hl;obtain⟨c0,c1,rfl⟩:=aiJ hl;obtain⟨y0,h0,l0⟩:=hf 0 9 0 _ rfl iC;obtain⟨y1,h1,l1⟩:=hf 1 9 1 _ rfl iC;simp only[List.drop,List.take]at h0 h1;obtain⟨u,eu,wu⟩:=fj underlying9 h0;obtain⟨q,eq,wq⟩:=fj underlying9 h1;simp only[fA,iy]at eu eq;subst eu eq;refine⟨(u,q),rfl,rfl,?_,fun hL=>⟨wu (l0 hL),wq (l1 hL)⟩⟩;intro v hv;simp only[bu,cg,dS]at hv
 rcases hv with rfl|rfl<;>rfl
theorem D2{α β:Type}{f:β->α}:∀ {l:List α} {m:List β},lf (fun a b=>a=f b) l m->l=m.map f
 |_,_,.nil=>rfl
 |_,_,.cons h t=>by rw[cz, <-h,D2 t]
instance:Inhabited (ai×ai):=⟨(.empty,.empty)⟩
theorem Hw{x:DataW H×List MemPlace}(h:DataW.trod enc prog W 0 (fun _=>true) true fuel 27 cs=some x) :
  ∃(v:Value) (ps:List (ai×ai)),cs=[v]/\eb 2 W v (ps.map fun p=>[.string p.1,.string p.2])/\(oO prog 27 x.1->ps.length*32<=reachBytes/\∀p∈ps,p.1.size<=reachBytes/\p.2.size<=reachBytes):=by
 obtain⟨v,css,bs,rfl,hr,hb,hs⟩:=D1 (Q:=fun cs (b:ai×ai)=>cs=[.string b.1,.string b.2]) (S:=fun b=>b.1.size<=reachBytes/\b.2.size<=reachBytes) underlying27 zI ag (by kernel_rfl:prog.bytesOf 142=32) Lg h;exact⟨v,bs,rfl,by rw[<-D2 hb];exact hr,hs⟩
abbrev zOp:bS:= #[.int .i64 0,.int .i64 0,.bool false,.string ⟨#[]⟩,.int .i64 0,.bool false,.string ⟨#[]⟩,.int .i64 0,.string ⟨#[]⟩,.string ⟨#[]⟩,.string ⟨#[]⟩,.slice none 0 0,.bool false,.string ⟨#[]⟩,.bool false,.string ⟨#[]⟩,.string ⟨#[]⟩,.string ⟨#[]⟩,.string ⟨#[]⟩,.int .i64 0,.bool false,.int .i64 0]
theorem VP(h:x.length=22):(prog.info? 33).map (·.size)=some x.length:=by rw[h];kernel_rfl
theorem VU(h:x.length=24):(prog.info? 50).map (·.size)=some x.length:=by rw[h];kernel_rfl
theorem VW(h:x.length=2):(prog.info? 142).map (·.size)=some x.length:=by rw[h];kernel_rfl
def adX(w:World)(p:aX->Bool)(xs:cU)(i:Value)(wr:World):Prop :=
 ∃k:Nat,k<=xs.length/\i=.int .i64 k/\(xs.take k).any p=false/\Fr aW w wr
theorem H8(g:Nat)(cap:bS)(p:aX->Bool)(v:Value)(xs:cU)(w:World)(eg:∀args w,(callFunc g args).run prog w=.ok (.enter g args) w)(hp:gF aW w g cap p xs)(hv:eb 2 w v xs) :
  aC 98 #[v,.func (.func g) #[] cap] w fun e w'=>e=.returned (.int .i64 (lH p xs 0))/\Fr aW w w':=by
 obtain⟨av,cv,fT⟩:=hv.form;subst fT;have dX:=O hv.1;go_enter func98,ntmps98;go_wp2;go_loopw[8] (adX w p xs) (fun i _=>xs.length-(intOf i).toNat)
 case atStart=>exact⟨0,aS _,rfl,rfl,ae _ _⟩
 case round =>
  obtain⟨k,hk,rfl,hn,cN⟩:=hrel;have HN:=O hn;clear hn;by_cases fx:k<xs.length
  ·rcases(hv.iY cN).2 with ⟨_,_,_,e,_⟩|⟨bk,of,c,hf,h1,h2,h3,h4⟩
   ·rw[e]at fx;exact absurd fx (cq _)
   ·cases hf;unfold maxLen at h2;have dL:=O (List.getElem?_eq_getElem fx);have hcell:=h4 k _ dL.o;have gM:=O (bL fx);generalize xs[k]=x at dL hcell gM;have fy:=O (hp x gM.o wr cN);have lr:=(dX.o x gM.o).1;clear h4;cases qk:p x
    ·have pN:=O (any_take_succ dL.o HN.o qk);go_wp2_with (first|((with_reducible refine dv 15 ?_);refine a_ rfl 142 (.tmp 14) rfl bk (of+k*2) rfl x _ hcell underlying142 rfl (VW lr) ?_)|fail)
     refine fy.o.mono ?_;rintro e w1⟨rfl,dn⟩;rw[qk];go_wp2;go_roundw
     case rel=>exact⟨k+1,ab,bf,pN.o,cN.trans dn⟩
     case measure=>simp[intOf];omega
    ·have eX:=O (oF (i:=0) dL.o qk HN.o);go_wp2_with (first|((with_reducible refine dv 15 ?_);refine a_ rfl 142 (.tmp 14) rfl bk (of+k*2) rfl x _ hcell underlying142 rfl (VW lr) ?_)|fail)
     refine fy.o.mono ?_;rintro e w1⟨rfl,dn⟩;rw[qk];go_wp2;go_ret;rw[eX.o,bj];exact⟨rfl,cN.trans dn⟩
  ·have eX:=O (show lH p xs 0= -1 from j8 (by have h:=HN.o;rw[aD ab]at h;exact h));go_wp2;go_ret;rw[eX.o];exact⟨rfl,cN⟩
theorem BO(g:Nat)(cap:bS)(p:aX->Bool)(v:Value)(xs:cU)(w:World)(eg:∀args w,(callFunc g args).run prog w=.ok (.enter g args) w)(hp:gF aW w g cap p xs)(hv:eb 2 w v xs) :
  aC 66 #[v,.func (.func g) #[] cap] w fun e w'=>e=.returned (.bool (xs.any p))/\Fr aW w w':=by
 have hb:=O (ru p xs 0);go_enter func66,ntmps66;go_wp2_with fail
 refine(H8 g cap p v xs w eg hp hv).mono ?_;rintro e w1⟨rfl,dn⟩;go_wp2;go_ret;exact⟨ft hb.o,dn⟩
abbrev Bs:=aH
abbrev jh:=Bs×Bs
structure mZ where
 scheme:Bs
 token:Bs
 params:List jh
def n9(c:UInt8):Bool:=dH c||c==44
def Sr:aH:=[97,98,99,100,101,102,103,104,105,106,107,108,109,110,111,112,113,114,115,116,117,118,119,120,121,122,65,66,67,68,69,70,71,72,73,74,75,76,77,78,79,80,81,82,83,84,85,86,87,88,89,90,48,49,50,51,52,53,54,55,56,57,45,46,95,126,43,47]
def Eg(c:UInt8):Bool:=Sr.contains c
def kQ(c:UInt8):Bool:=[61].contains c
def Ss:Bs->Bool
 |[]=>true
 |c :: _=>c==44
def eS(r:Bs):Bs:=r.dropWhile dH
def iq(r:Bs):Bs:=r.dropWhile n9
def nS(r:Bs):Bool:=Ss (eS r)
def gR(r:Bs):Bs:=r.takeWhile fM
def ic(r:Bs):Bs:=r.dropWhile fM
def LH(b:UInt8):Bs->Bool
 |[]=>false
 |c :: _=>c==b
def ln(r:Bs):Bool:=!(gR r).isEmpty&&LH 61 (eS (ic r))
def lQ(r:Bs):Bs:=r.takeWhile Eg
def nx(r:Bs):Bs:=(r.dropWhile Eg).takeWhile kQ
def rT(r:Bs):Bs:=(r.dropWhile Eg).dropWhile kQ
def singleR(r:Bs):Option (Bs×Bs):=if !(lQ r).isEmpty&&nS (rT r)then some (lQ r++nx r,eS (rT r))else none
def z_:Bs->Option (Bs×Bs)
 |[]=>none
 |c :: t=>if c==34 then ve t else none
def po(r:Bs):Option (Bs×Bs):=if(gR r).isEmpty then z_ r else some (gR r,ic r)
def ny(r:Bs):Bs:=eS ((eS (ic r)).drop 1)
def tQ(ps:List jh)(n:Bs):Bool:=ps.any fun q=>dG q.1 n
def kJ(ps:List jh)(r:Bs):Except Nat (jh×Bs) :=
 if !ln r then .error 3 else
 match po (ny r)with
 |none=>.error 3
 |some q=>if tQ ps (gR r)then .error 9 else if ps.length=16 then .error 4 else .ok ((gR r,q.1),q.2)
def gK:Nat->List jh->Bs->Except Nat (List jh×Bs)
 |0,ps,r=>.ok (ps,r)
 |f+1,ps,r =>
  match kJ ps r with
  | .error e=>.error e
  | .ok (p,r1)=>if nS r1 then(if ln (iq r1)then gK f (ps++[p]) (iq r1)else .ok (ps++[p],iq r1))else .error 3
def pq:Bs->Bool
 |[]=>false
 |c :: _=>dH c
def oV(k:Nat)(r:Bs):Except Nat (mZ×Bs) :=
 if(gR r).isEmpty then .error 3
 else if k=8 then .error 4
 else if nS (ic r)then .ok (⟨gR r,[],[]⟩,eS (ic r))
 else if !pq (ic r)then .error 3
 else match singleR (eS (ic r))with
  |some q=>.ok (⟨gR r,q.1,[]⟩,q.2)
  |none=>match gK ((eS (ic r)).length+1) [] (eS (ic r))with
   | .error e=>.error e
   | .ok q=>.ok (⟨gR r,[],q.1⟩,q.2)
def jQ:Nat->List mZ->Bs->Except Nat (List mZ)
 |0,acc,_=>.ok acc
 |f+1,acc,r =>
  if(iq r).isEmpty then .ok acc else
  match oV acc.length (iq r)with
  | .error e=>.error e
  | .ok (x,r1)=>jQ f (acc++[x]) r1
def mg(l:Bs):Except Nat (List mZ):=if 3000<l.length then .error 4 else jQ (l.length+1) [] l
theorem pO(p:UInt8->Bool)(r:Bs):(r.dropWhile p).length<=r.length:=(iK p).length_le
theorem lo(r:Bs):(eS r).length<=r.length:=pO _ r
theorem ou(r:Bs):(iq r).length<=r.length:=pO _ r
theorem px(p:UInt8->Bool)(r:Bs):(r.takeWhile p).length+(r.dropWhile p).length=r.length:=by
 rw[<-aM,List.takeWhile_append_dropWhile]
theorem qQ(r:Bs):(gR r).length+(ic r).length=r.length:=px _ r
theorem EL{r:Bs}(h:(gR r).isEmpty=false):(ic r).length<r.length:=by
 have h1:=qQ r;cases e:gR r with
 |nil=>rw[e]at h;cases h
 |cons c t=>rw[e]at h1;simp at h1;omega
theorem abc{r a z:Bs}(h:ve r=some (a,z)):a.length+z.length+1<=r.length:=Gj _ r a z (ay _) h
theorem Pn{r a z:Bs}(h:z_ r=some (a,z)):a.length+z.length+2<=r.length:=by
 cases r with
 |nil=>cases h
 |cons c t =>
  have h':(if c==34 then ve t else none)=some (a,z):=h;by_cases hc:(c==34)=true
  ·rw[aA hc]at h';have:=abc h';simp;omega
  ·rw[ar hc]at h';cases h'
theorem Po{r a z:Bs}(h:po r=some (a,z)):a.length+z.length<=r.length:=by
 unfold po at h;split at h
 ·have:=Pn h;omega
 ·cases h;have:=qQ r;omega
theorem LJ(r:Bs):(ny r).length<=(ic r).length:=by
 unfold ny;have h1:=lo ((eS (ic r)).drop 1);have h2:=lo (ic r);have h3:((eS (ic r)).drop 1).length<=(eS (ic r)).length:=aQ;omega
theorem AP{r:Bs}(h:ln r=true):(gR r).isEmpty=false:=by
 unfold ln at h;simp only[cy,Bool.not_eq_true']at h;exact h.1
theorem Cl{r:Bs}(h:ln r=true):(ny r).length+2<=r.length:=by
 have hw:=EL (AP h);unfold ln at h;simp only[cy]at h;have h2:=h.2;unfold ny;have h3:=lo (ic r);cases e:eS (ic r)with
 |nil=>rw[e]at h2;cases h2
 |cons c t =>
  rw[e]at h3;have h4:=lo ((c :: t).drop 1);simp at h3 h4 ⊢; omega
theorem td{ps:List jh}{r:Bs}{p:jh}{z:Bs}(h:kJ ps r=.ok (p,z)):p.1.length+p.2.length+z.length<r.length:=by
 unfold kJ at h;by_cases hn:ln r=true
 ·rw[ar (by simp[hn])]at h;have h1:=Cl hn;have h0:=LJ r;have hw:=qQ r;cases hv:po (ny r)with
  |none=>rw[hv]at h;cases h
  |some q =>
   rw[hv]at h;simp only at h;split at h
   ·cases h
   ·split at h
    ·cases h
    ·cases h;have:=Po (a:=q.1) (z:=q.2) hv;unfold ln at hn;simp only[cy]at hn;have h2:=hn.2;have h5:(ny r).length+1<=(ic r).length:=by
      unfold ny;have h3:=lo (ic r);cases e:eS (ic r)with
      |nil=>rw[e]at h2;cases h2
      |cons c t =>
       rw[e]at h3;have h4:=lo ((c :: t).drop 1);simp at h3 h4 ⊢; omega
     simp only;omega
 ·rw[aA (by simpa using hn)]at h;cases h
theorem tR:∀(f:Nat) (ps:List jh) (r:Bs),r.length<f->gK f ps r=gK (r.length+1) ps r
 |0,_,_,h=>absurd h (cq _)
 |f+1,ps,r,h=>by
  rw[gK,gK];cases hp:kJ ps r with
  |error e=>rfl
  |ok q =>
   obtain⟨p,r1⟩:=q;have hl:=td hp;have hg:=ou r1;simp only;split
   ·split
    ·rw[tR f _ _ ab,tR r.length _ _ ab]
    ·rfl
   ·rfl
theorem Cm:∀(f:Nat) (ps:List jh) (r:Bs) (q:List jh×Bs),gK f ps r=.ok q->q.2.length<=r.length
 |0,ps,r,q,h=>by rw[gK]at h;cases h;exact ay _
 |f+1,ps,r,q,h=>by
  rw[gK]at h;cases hp:kJ ps r with
  |error e=>rw[hp]at h;cases h
  |ok p =>
   rw[hp]at h;obtain⟨p,r1⟩:=p;have hl:=td hp;have hg:=ou r1;simp only at h;split at h
   ·split at h
    ·have:=Cm f _ _ q h;omega
    ·cases h;simp only;omega
   ·cases h
theorem Cn{r t z:Bs}(h:singleR r=some (t,z)):t.length+z.length<=r.length:=by
 unfold singleR at h;split at h
 ·cases h;have h1:=px Eg r;have h2:=px kQ (r.dropWhile Eg);have h3:=lo (rT r);unfold rT at h3 ⊢;unfold lQ nx;rw[aM];omega
 ·cases h
theorem BR{r:Bs}{x:mZ}{z:Bs}(h:oV k r=.ok (x,z)):z.length<r.length:=by
 unfold oV at h;split at h
 ·cases h
 rename_i hw;have hw':(gR r).isEmpty=false:=by simpa using hw
 have h1:=EL hw';have h2:=lo (ic r);split at h
 ·cases h
 split at h
 ·cases h;omega
 split at h
 ·cases h
 split at h
 ·rename_i q hq;cases h;have:=Cn (t:=q.1) (z:=q.2) hq;omega
 ·split at h
  ·cases h
  ·rename_i q hq;cases h;have:=Cm _ _ _ _ hq;omega
theorem pQ:∀(f:Nat) (acc:List mZ) (r:Bs),r.length<f->jQ f acc r=jQ (r.length+1) acc r
 |0,_,_,h=>absurd h (cq _)
 |f+1,acc,r,h=>by
  rw[jQ,jQ];split
  ·rfl
  ·cases ho:oV acc.length (iq r)with
   |error e=>rfl
   |ok q =>
    obtain⟨x,r1⟩:=q;have h1:=BR ho;have h2:=ou r;simp only;rw[pQ f _ _ ab,pQ r.length _ _ ab]
theorem rU(r:Bs):iq (iq r)=iq r:=by
 refine vp (fun c hc=>?_);have:=List.head?_dropWhile_not n9 r;unfold iq at hc;rw[hc]at this;simpa using this
theorem Bq(r:Bs):eS (eS r)=eS r:=by
 refine vp (fun c hc=>?_);have:=List.head?_dropWhile_not dH r;unfold eS at hc;rw[hc]at this;simpa using this
theorem Gl(r:Bs):nS (eS r)=nS r:=by unfold nS;rw[Bq]
theorem tS:∀r:Bs,iq (eS r)=iq r
 |[]=>rfl
 |c :: t=>by
  cases h:dH c
  ·have:eS (c :: t)=c :: t:=by unfold eS;rw[List.dropWhile_cons_of_neg (by simp[h])]
   rw[this]
  ·have e1:eS (c :: t)=eS t:=by unfold eS;rw[List.dropWhile_cons_of_pos h]
   have e2:iq (c :: t)=iq t:=by unfold iq;rw[List.dropWhile_cons_of_pos (by simp[n9,h])]
   rw[e1,e2,tS t]
theorem AQ(f:Nat)(acc:List mZ){r r':Bs}(h:iq r=iq r'):jQ (f+1) acc r=jQ (f+1) acc r':=by
 rw[jQ,jQ,h]
def I_(c:UInt8):Bool:=decide (48<=c.toNat/\c.toNat<=57)
theorem I'{c:UInt8}:I_ c=true↔48<=c.toNat/\c.toNat<=57:=by unfold I_;simp
def Eh:ai:=⟨#[48,49,50,51,52,53,54,55,56,57]⟩
theorem LN:∀b∈Eh.data.toList,b.toNat<128:=dp
theorem Sz:∀n:Fin 256,Eh.data.toList.contains n.val.toUInt8=I_ n.val.toUInt8:=dp
theorem Pp(c:UInt8):Eh.data.toList.contains c=I_ c:=by
 have h:=Sz ⟨c.toNat,c.toNat_lt⟩;simpa using h
theorem Ja(l:aH):l.all (Eh.data.toList.contains ·)=l.all I_:=by
 congr 1;funext c;exact Pp c
def yA(n:Int)(c:UInt8):Int:=min (n*10+((c.toNat:Int)-48)) 2147483648
def yB(l:aH):Int:=l.foldl yA 0
def ow(l:aH):Bool:=!l.isEmpty&&l.all I_
theorem Pq{l:aH}{x:UInt8}(h:l[k]?=some x):yB (l.take (k+1))=yA (yB (l.take k)) x:=by
 rw[ct,h];simp[yB]
theorem xD:∀(l:aH) (n:Int),l.all I_=true->0<=n->n<=2147483648->0<=l.foldl yA n/\l.foldl yA n<=2147483648
 |[],n,_,h0,h1=>⟨h0,h1⟩
 |c :: l,n,h,h0,h1=>by
  rw[List.all_cons,cy]at h;have hc:=I'.1 h.1;rw[List.foldl_cons];refine xD l _ h.2 ?_ ?_<;>(unfold yA;omega)
def rX(s:ai)(w:World)(e:Ending)(w':World):Prop :=
 e=.returned (.tuple (if ow s.data.toList then #[.int .i64 (yB s.data.toList),.nilIface]else #[.int .i64 0,.iface 82 (.int .i64 3)]))/\Fr aW w w'
theorem rX.ok(h:rX s w e w')(hd:ow s.data.toList=true):e=.returned (.tuple #[.int .i64 (yB s.data.toList),.nilIface])/\Fr aW w w':=by
 obtain⟨he,hf⟩:=h;rw[hd]at he;exact⟨he,hf⟩
theorem rX.no(h:rX s w e w')(hd:ow s.data.toList=false):e=.returned (.tuple #[.int .i64 0,.iface 82 (.int .i64 3)])/\Fr aW w w':=by
 obtain⟨he,hf⟩:=h;rw[hd]at he;exact⟨he,hf⟩
def abh(s:ai)(w:World)(n i:Value)(wr:World):Prop:=∃k:Nat,k<=s.size/\i=.int .i64 k/\n=.int .i64 (yB (s.data.toList.take k))/\Fr aW w wr
theorem Jb(s:ai)(w:World)(hs:s.size<17592186044416) :
  aC 197 #[.string s] w (rX s w):=by
 by_cases h0:s.size=0
 ·have Jc:=gN.2 h0;have hd:=O (show ow s.data.toList=false by rw[Jc];rfl);have he:s.toList.isEmpty=true:=by rw[aN,Jc];rfl
  have he':s.toList=[]:=by rw[aN,Jc]
  clear Jc;go_enter func197,ntmps197;go_wp2;go_ret2;unfold rX;rw[hd.o];exact⟨rfl,ae _ _⟩
 ·have hne:s.data.toList≠ []:=fun h=>h0 (gN.1 h);have he:s.toList.isEmpty=false:=by rw[aN];simpa using hne
  have he':¬s.toList=[]:=by rw[aN];exact hne
  have TR:=O (rW s Eh w ab ag ag LN);cases iE:s.data.toList.all I_
  ·have hd:=O (show ow s.data.toList=false by unfold ow;rw[iE];simp);have N8:=O (show Lib.trimS s.data.toList Eh.data.toList≠ []from fun h=>by rw[wm,Ja,iE]at h;cases h);clear iE hne;go_enter func197,ntmps197;go_wp2_with fail
   refine TR.o.mono ?_;rintro e w1⟨rfl,dn⟩;have t1:¬(⟨(Lib.trimS s.data.toList Eh.data.toList).toArray⟩:ai).toList=[]:=by rw[aN];simpa using N8.o
   have t2:(⟨(Lib.trimS s.data.toList Eh.data.toList).toArray⟩:ai).toList.isEmpty=false:=by rw[aN];simpa using N8.o
   generalize (⟨(Lib.trimS s.data.toList Eh.data.toList).toArray⟩:ai)=z at *
   go_wp2;go_ret2;unfold rX;rw[hd.o];exact⟨rfl,dn⟩
  ·have hd:=O (show ow s.data.toList=true by unfold ow;rw[iE];simpa using hne);have N8:=O (show Lib.trimS s.data.toList Eh.data.toList=[]by rw[wm,Ja,iE]);have IV:=O iE;clear iE hne;go_enter func197,ntmps197;go_wp2_with fail
   refine TR.o.mono ?_;rintro e w1⟨rfl,dn⟩;rw[N8.o];clear TR;go_wp2;go_loopw[4,16] (abh s w) (fun _ i _=>s.size-(intOf i).toNat)
   case atStart=>exact⟨0,aS _,rfl,rfl,dn⟩
   case round =>
    obtain⟨k,hk,rfl,rfl,cN⟩:=hrel;have hr:=xD (s.data.toList.take k) 0 (by rw[fZ];exact fun x hx=>fZ.1 IV.o x (ew hx)) ab ab;change 0<=yB (s.data.toList.take k)/\yB (s.data.toList.take k)<=2147483648 at hr;obtain⟨r0,r1⟩:=hr;by_cases fx:k<s.size
    ·have dL:=byte_at s k fx;have ZC:=I'.1 (fZ.1 IV.o _ (cA dL));have Ia:=O (Pq dL);generalize hx:s[k]=x at dL ZC Ia;obtain⟨d0,d1⟩:=ZC;clear dL;generalize yB (s.data.toList.take k)=n at *
     go_wp2;go_roundw
     case rel=>exact⟨k+1,ab,bf,by rw[Ia.o];rfl,cN⟩
     case measure=>simp[intOf];omega
    ·have eX:=O (show yB (s.data.toList.take k)=yB s.data.toList by rw[aD bF]);go_wp2;go_ret2;unfold rX;rw[hd.o, <-eX.o];exact⟨rfl,cN⟩
def EP(s:ai):Bool:=s.data.toList.all fun c=>!jR c
def q_:List ai:=[⟨#[97,112,112,108,105,99,97,116,105,111,110,47,120,45,119,119,119,45,102,111,114,109,45,117,114,108,101,110,99,111,100,101,100]⟩,⟨#[109,117,108,116,105,112,97,114,116,47,102,111,114,109,45,100,97,116,97]⟩,⟨#[116,101,120,116,47,112,108,97,105,110]⟩]
def rZ(s:ai)(c:UInt8):ai:=if 0<=Lib.indexByte s.data.toList c then s.extract 0 (Lib.indexByte s.data.toList c).toNat else s
def ER(s:ai):ai:=⟨(nd (Lib.trimS (rZ s 59).data.toList [32,9])).toArray⟩
def lM(name value:ai):Bool :=
 if 128<value.size then false
 else if nd name.data.toList=[97,99,99,101,112,116]then EP value
 else if nd name.data.toList=[97,99,99,101,112,116,45,108,97,110,103,117,97,103,101]then vu value
 else if nd name.data.toList=[99,111,110,116,101,110,116,45,108,97,110,103,117,97,103,101]then vu value
 else if nd name.data.toList=[99,111,110,116,101,110,116,45,116,121,112,101]then EP value&&Lib.containsS q_ (ER value)
 else false
theorem tT(p:UInt8->Bool):∀l:aH,(l.dropWhile p).length<=l.length
 |[]=>ay _
 |a :: l=>by
  rw[List.dropWhile_cons];split
  ·exact Nat.le_succ_of_le (tT p l)
  ·exact ay _
theorem Je(l cs:aH):(Lib.trimS l cs).length<=l.length:=by
 unfold Lib.trimS Lib.trimLeftS Lib.trimRightS;refine aE (tT _ _) ?_;rw[List.length_reverse];refine aE (tT _ _) ?_;rw[List.length_reverse];exact ay _
def ae_(s:ai)(w:World)(b i:Value)(wr:World):Prop:=∃k:Nat,k<=s.size/\i=.int .i64 k/\b=.bool ((s.data.toList.take k).all fun c=>!jR c)/\Fr aW w wr
theorem Pr(name value:ai)(w:World)(hn:name.size<100000)(hv:value.size<100000) :
  aC 182 #[.agg #[.string name,.string value]] w fun e w'=>e=.returned (.bool (lM name value))/\Fr aW w w':=by
 obtain⟨wb,jJ⟩:∃wb,wb=w.alloc (.cells #[.string name,.string value] 142):=⟨_,rfl⟩;have j6:Fr aW w wb:=by rw[jJ];exact(ae aW w).alloc _
 have lI:wb.heap[w.heap.size]?=some (.cells #[.string name,.string value] 142 (0,0)):=by rw[jJ];exact aB _ _
 have HC:=O (show∀U,Fr aW wb U->U.cell? ⟨w.heap.size,0,none⟩=some (.string name)/\U.cell? ⟨w.heap.size,1,none⟩=some (.string value)from fun U hU=>by
  have j1:=hU.keep lI id;simp[World.cell?,j1])
 have qC:=O jJ;have lZ:=O j6;clear jJ j6 lI;by_cases ae':128<value.size
 ·have HP:=O (show lM name value=false by unfold lM;rw[aA ae']);have i128:(128:Int)<(value.size:Int):=ab;go_enter func182,ntmps182;go_wp2;rw[<-qC.o];go_ret;exact⟨by rw[HP.o];rfl,lZ.o⟩
 ·have HP:=O (show lM name value=if nd name.data.toList=[97,99,99,101,112,116]then EP value
 else if nd name.data.toList=[97,99,99,101,112,116,45,108,97,110,103,117,97,103,101]then vu value
 else if nd name.data.toList=[99,111,110,116,101,110,116,45,108,97,110,103,117,97,103,101]then vu value
 else if nd name.data.toList=[99,111,110,116,101,110,116,45,116,121,112,101]then EP value&&Lib.containsS q_ (ER value)
 else false by unfold lM;rw[ar ae'])
  have i128:¬(128:Int)<(value.size:Int):=ab;go_enter func182,ntmps182;go_wp2;rw[<-qC.o];go_loopw[3,15] (ae_ value wb) (fun _ i _=>value.size-(intOf i).toNat)
  case atStart=>exact⟨0,ab,rfl,rfl,ae _ _⟩
  case round =>
   obtain⟨k,hk,rfl,rfl,cN⟩:=hrel;obtain⟨c0,c1⟩:=HC.o wr cN;by_cases fx:k<value.size
   ·have qp:(k:Int)<(value.size:Int):=ab;have qD:=byte_at value k fx;have lT:=O (show((value.data.toList.take (k+1)).all fun c=>!jR c)=(((value.data.toList.take k).all fun c=>!jR c)&&!jR value[k])by rw[ct,qD,jI];simp);clear qD;cases hb:(value.data.toList.take k).all fun c=>!jR c
    ·have Ry:=O (show((value.data.toList.take (k+1)).all fun c=>!jR c)=false by rw[lT.o,hb];rfl);clear hb;go_wp2;go_roundw
     case rel=>exact⟨k+1,ab,bf,by rw[Ry.o],cN⟩
     case measure=>simp[intOf];omega
    ·have Ry:=O (show((value.data.toList.take (k+1)).all fun c=>!jR c)=!jR value[k]by rw[lT.o,hb];rfl);clear hb;go_wp2_with fail
     refine(LP value[k] _).mono ?_;rintro e u⟨rfl,rfl⟩;go_wp2;go_roundw
     case rel=>exact⟨k+1,ab,bf,by rw[Ry.o],cN⟩
     case measure=>simp[intOf];omega
   ·have qp:¬(k:Int)<(value.size:Int):=ab;rw[show((value.data.toList.take k).all fun c=>!jR c)=EP value from by rw[aD bF];rfl];generalize EP value=sf at *
    go_wp2_with fail
    refine(qO name wr ab).mono ?_;rintro e u1⟨rfl,dn⟩;have lB:=O (cN.trans dn);clear dn c0 c1;obtain⟨c0,c1⟩:=HC.o u1 lB.o;generalize nd name.data.toList=nl at *
    by_cases a1:nl=[97,99,99,101,112,116]
    ·subst a1;have HE:=O (show lM name value=sf by rw[HP.o,aA rfl]);go_wp2;go_ret;exact⟨by rw[HE.o];rfl,lZ.o.trans lB.o⟩
    have HP1:=O (by have h:=HP.o;rw[ar a1]at h;exact h);have b1:(nl== [97,99,99,101,112,116])=false:=aK.2 a1;by_cases a2:nl=[97,99,99,101,112,116,45,108,97,110,103,117,97,103,101]
    ·subst a2;have HE:=O (show lM name value=vu value by rw[HP1.o,aA rfl]);clear b1 a1;go_wp2_with fail
     refine(yD value u1 hv).mono ?_;rintro e u2⟨rfl,dD⟩;go_wp2;go_ret;exact⟨by rw[HE.o];rfl,lZ.o.trans (lB.o.trans dD)⟩
    have HP2:=O (by have h:=HP1.o;rw[ar a2]at h;exact h);have b2:(nl== [97,99,99,101,112,116,45,108,97,110,103,117,97,103,101])=false:=aK.2 a2;by_cases a3:nl=[99,111,110,116,101,110,116,45,108,97,110,103,117,97,103,101]
    ·subst a3;have HE:=O (show lM name value=vu value by rw[HP2.o,aA rfl]);clear b1 a1 b2 a2;go_wp2_with fail
     refine(yD value u1 hv).mono ?_;rintro e u2⟨rfl,dD⟩;go_wp2;go_ret;exact⟨by rw[HE.o];rfl,lZ.o.trans (lB.o.trans dD)⟩
    have HP3:=O (by have h:=HP2.o;rw[ar a3]at h;exact h);have b3:(nl== [99,111,110,116,101,110,116,45,108,97,110,103,117,97,103,101])=false:=aK.2 a3;by_cases a4:nl=[99,111,110,116,101,110,116,45,116,121,112,101]
    ·subst a4;have HE:=O (show lM name value=(sf&&Lib.containsS q_ (ER value))by rw[HP3.o,aA rfl]);clear b1 a1 b2 a2 b3 a3;have Gr:=O (show aC 133 #[.string value,.string ⟨#[59]⟩] u1 fun e w'=>(∃r f,e=.returned (.tuple #[.string (rZ value 59),.string r,.bool f]))/\Fr aW u1 w' by
      by_cases hc:0<=Lib.indexByte value.data.toList 59
      ·obtain⟨i,hi⟩:∃i:Nat,Lib.indexByte value.data.toList 59=(i:Int):=⟨(Lib.indexByte value.data.toList 59).toNat,ab⟩;have hl:i<value.size:=by
        have h:=(Lib.indexByte_some hi).1;have:=(List.getElem?_eq_some_iff.1 h).1;simpa using this
       refine(Jd value 59 i u1 ab hi hl).mono ?_;rintro e w'⟨rfl,n,rfl⟩;refine⟨⟨value.extract (i+1) value.size,true,?_⟩,(ae aW u1).drewN n⟩;unfold rZ;rw[aA hc,hi];rfl
      ·refine(EO value 59 u1 hc).mono ?_;rintro e w'⟨rfl,rfl⟩;refine⟨⟨⟨#[]⟩,false,?_⟩,ae _ _⟩;unfold rZ;rw[ar hc])
     have hbz:(rZ value 59).size<=value.size:=by
      unfold rZ;split
      ·simp[f_];omega
      ·exact ay _
     have HKB:=O (show ER value=⟨(nd (Lib.trimS (rZ value 59).data.toList [32,9])).toArray⟩from rfl);generalize rZ value 59=bv at *
     go_wp2_with fail
     refine Gr.o.mono ?_;rintro e u2⟨⟨r,f,rfl⟩,dD⟩;have fS:=O (lB.o.trans dD);clear Gr dD;go_wp2_with fail
     refine(rW bv ⟨#[32,9]⟩ u2 ab ag ag ag).mono ?_;rintro e u3⟨rfl,ik⟩;have ij:=O (fS.o.trans ik);clear ik;have Ps:=Je bv.data.toList [32,9];have hbs:bv.data.toList.length=bv.size:=aQ;rw[show(⟨#[32,9]⟩:ai).data.toList=[32,9]from rfl];generalize Lib.trimS bv.data.toList [32,9]=tl at *
     have V6:(⟨tl.toArray⟩:ai).size<17592186044416:=by show tl.toArray.size<_;simp;omega
     go_wp2_with fail
     refine(qO ⟨tl.toArray⟩ u3 V6).mono ?_;rintro e u4⟨rfl,kz⟩;have jH:=O (ij.o.trans kz);rw[show(⟨(nd (⟨tl.toArray⟩:ai).data.toList).toArray⟩:ai)=ER value from by rw[HKB.o]];clear kz Ps V6 hbs;generalize ER value=kv at *
     cases sf
     ·go_wp2;go_ret;exact⟨by rw[HE.o];rfl,lZ.o.trans (bC jH.o (by repeat(first|exact ae _ _|apply bq)))⟩
     ·have HCO:=O (slices_Contains_string u4.heap.size 0 3 3 q_ kv (u4.alloc (.cells (q_.map Value.string).toArray 9)) (aZ rfl) (aZ rfl) (fun j hj=>by
       have h:=aB u4 (.cells (q_.map Value.string).toArray 9);have e:(q_.map Value.string)[j]?=some (.string (q_.getD j ByteArray.empty)):=by rw[List.getElem?_map,List.getElem?_eq_getElem hj,List.getD_eq_getElem?_getD,List.getElem?_eq_getElem hj];rfl
       rw[bj];simp only[World.cell?,h];simpa using e))
      have w_:=O (show Fr aW wb (u4.alloc (.cells (q_.map Value.string).toArray 9))from jH.o.alloc _);go_wp2_with fail
      refine HCO.o.mono ?_;rintro e u5⟨rfl,rfl⟩;rw[show q_.take 3=q_ from rfl];go_wp2;go_ret;exact⟨by rw[HE.o];rfl,lZ.o.trans w_.o⟩
    have b4:(nl== [99,111,110,116,101,110,116,45,116,121,112,101])=false:=aK.2 a4;have HE:=O (show lM name value=false by rw[HP3.o,ar a4]);go_wp2;go_ret;exact⟨by rw[HE.o];rfl,lZ.o.trans lB.o⟩
theorem fQ(w:World)(t:TypeId)(ss:List ai)(hl:ss.length<=maxLen):ib (w.alloc (.cells (ss.map Value.string).toArray t)) (.slice (some ⟨w.heap.size,0,none⟩) ss.length ss.length) ss:=by
 refine Or.inr ⟨w.heap.size,0,ss.length,rfl,ay _,hl,aQ,fun j x hj=>?_⟩;rw[bj];simp only[World.cell?,aB];simp[hj]
def ku(ss:List ai):aH:=Lib.join (ss.map (·.data.toList)) [58]
def kl(Mc:Bool)(ss:List ai):ai:=if Mc then⟨(JE (ku ss)).toArray⟩else⟨(JB (ku ss)).toArray⟩
theorem XG(l:aH):(JB l).length=32:=by unfold JB oA;rw[CI,nW];rfl
theorem XH(l:aH):(JE l).length=64:=by unfold JE oA;rw[CI,nW];rfl
theorem lp(Mc:Bool)(ss:List ai):(kl Mc ss).size<=64:=by
 unfold kl;cases Mc
 ·show(JB _).toArray.size<=64;simp[XG]
 ·show(JE _).toArray.size<=64;simp[XH]
def sO(fG:Int)(w:World):Prop:=∀(v:Value) (ss:List ai) (W:World),Fr aW w W->ib W v ss->ss.length<=100000->(ku ss).length<=100000 ->
  aC 160 #[.int .i64 fG,v] W fun e w'=>e=.returned (.string (kl (decide (fG=3)) ss))/\Fr aW W w'
theorem sO.fr{fG:Int}(h:sO fG w)(hf:Fr aW w w'):sO fG w':=fun v ss W hW=>h v ss W (hf.trans hW)
theorem JF(v:Value)(ss:List ai)(w:World)(hv:ib w v ss)(hn:ss.length<=100000)(hlen:(ku ss).length<=100000) :
  aC 206 #[v,.string ⟨#[58]⟩] w fun e w'=>e=.returned (.string ⟨(ku ss).toArray⟩)/\Fr aW w w':=by
 rcases hv with ⟨a,c,rfl,rfl,_⟩|⟨bk,o,c,rfl,h1,h2,h3,h4⟩
 ·exact(strings_Join_none _ _ _ _).mono (by rintro e w1 ⟨rfl,rfl⟩;exact⟨rfl,ae _ _⟩)
 ·exact(strings_Join bk o c ss ⟨#[58]⟩ w h4 h3 ab h1 (by unfold ku at hlen;show(Lib.join _ [58]).length<=_;omega)).mono (by rintro e w1 ⟨rfl,hb⟩;exact⟨rfl,fe hb⟩)
theorem XI(fG:Int)(h3:fG≠3)(w:World)(ht:tZ w):sO fG w:=by
 intro v ss W hW hv hn hlen;have hT:=O (ht.fr hW);clear ht;have HJ:=O (JF v ss W hv hn hlen);clear hv;have hz:(⟨(ku ss).toArray⟩:ai).size<4398046511104:=by show(ku ss).toArray.size<_;simp;omega
 have HB:=O (show kl (decide (fG=3)) ss=⟨(JB (ku ss)).toArray⟩from by rw[bB h3];rfl);generalize ku ss=tx at *
 clear hW;go_enter func160,ntmps160;go_wp2_with fail
 refine HJ.o.mono ?_;rintro e u1⟨rfl,dn⟩;go_wp2_with fail
 refine(XE ⟨tx.toArray⟩ u1 hz (hT.o.fr dn)).mono ?_;rintro e u2⟨rfl,dD⟩;go_wp2;go_ret;exact⟨(aq (fun b=>Ending.returned (.string b)) HB.o).symm,dn.trans dD⟩
