/- Lemmas for the law's walk. -/
import Derived.Test.YtjndhcngnghpiaaGreatDoorPp5
set_option maxRecDepth 100000
set_option maxHeartbeats 16000000
set_option linter.unusedSimpArgs false
namespace Go.Proofs.YtjndhcngnghpiaaGreatDoor
open Go.Proofs.Tryz
open Go.RowKit
variable {x cs:a_} {p:a_->Bool} {l:cX} {fuel k:Nat} {s:ai} {w w':World} {e:Ending}
abbrev vL:bW:= #[.bool false,.string ⟨#[]⟩,.int .i64 0,.bool false,.string ⟨#[]⟩,.int .i64 0,.string ⟨#[]⟩,.string ⟨#[]⟩,.string ⟨#[]⟩,.bool false,.string ⟨#[]⟩,.bool false,.slice none 0 0]
theorem Tt:vL.size=13:=rfl
theorem Gs:∀v∈vL.toList,v.oneCell'=true:=cZ
theorem zW(h:x.length=13):(prog.info? 129).map (·.size)=some x.length:=by rw[h];kernel_rfl
def abX(w:World)(p:a_->Bool)(xs:cX)(i:Value)(wr:World):Prop :=
 ∃k:Nat,k<=xs.length/\i=.int .i64 k/\(xs.take k).any p=false/\Fr aX w wr
theorem yW(g:Nat)(cap:bW)(p:a_->Bool)(v:Value)(xs:cX)(w:World)(eg:∀args w,(callFunc g args).run prog w=.ok (.enter g args) w)(hp:hD aX w g cap p xs)(hv:ez 13 w v xs) :
  aE 200 #[v,.func (.func g) #[] cap] w fun e w'=>e=.returned (.int .i64 (lW p xs 0))/\Fr aX w w':=by
 obtain⟨av,cv,gi⟩:=hv.form;subst gi;have ec:=O hv.1;go_enter func200,ntmps200;go_wp2;go_loopw[8] (abX w p xs) (fun i _=>xs.length-(intOf i).toNat)
 case atStart=>exact⟨0,aW _,rfl,rfl,ae _ _⟩
 case round =>
  obtain⟨k,hk,rfl,hn,cR⟩:=hrel;have HN:=O hn;clear hn;by_cases fE:k<xs.length
  ·rcases(hv.i_ cR).2 with ⟨_,_,_,e,_⟩|⟨bk,of,c,hf,h1,h2,h3,h4⟩
   ·rw[e]at fE;exact absurd fE (ct _)
   ·cases hf;unfold maxLen at h2;have dT:=O (List.getElem?_eq_getElem fE);have hcell:=h4 k _ dT.o;have jc:=O (bQ fE);generalize xs[k]=x at dT hcell jc;have fF:=O (hp x jc.o wr cR);have lI:=(ec.o x jc.o).1;clear h4;cases rK:p x
    ·have p9:=O (any_take_succ dT.o HN.o rK);go_wp2_with (first|((with_reducible refine dt 15 ?_);refine bu rfl 129 (.tmp 14) rfl bk (of+k*13) rfl x _ hcell underlying129 rfl (zW lI) ?_)|fail)
     refine fF.o.mono ?_;rintro e w1⟨rfl,dw⟩;rw[rK];go_wp2;go_roundw
     case rel=>exact⟨k+1,ab,bh,p9.o,cR.trans dw⟩
     case measure=>simp[intOf];omega
    ·have fl:=O (pR (i:=0) dT.o rK HN.o);go_wp2_with (first|((with_reducible refine dt 15 ?_);refine bu rfl 129 (.tmp 14) rfl bk (of+k*13) rfl x _ hcell underlying129 rfl (zW lI) ?_)|fail)
     refine fF.o.mono ?_;rintro e w1⟨rfl,dw⟩;rw[rK];go_wp2;go_ret;rw[fl.o,bw];exact⟨rfl,cR.trans dw⟩
  ·have fl:=O (show lW p xs 0= -1 from kz (by have h:=HN.o;rw[aG ab]at h;exact h));go_wp2;go_ret;rw[fl.o];exact⟨rfl,cR⟩
def abY(b:Nat)(w:World)(bk cap:Nat)(p:a_->Bool)(xs:cX)(i j:Value)(wr:World):Prop :=
 ∃(m n:Nat) (ys:cX),i=.int .i64 m/\j=.int .i64 n/\m<n/\n<=xs.length/\ys.length=xs.length/\OwnRows b 129 13 wr (.slice (some ⟨bk,0,none⟩) xs.length cap) ys /\
  ys.take m=(xs.take n).filter (fun x=>!p x)/\ys.drop n=xs.drop n/\Fr (one bk) w wr
theorem yX{p:a_->Bool}:∀ {l:cX} (i:Nat),l.any p=true->∃k x,l[k]?=some x/\p x=true/\(l.take k).any p=false/\lW p l i=((i+k:Nat):Int)
 |[],_,h=>by simp at h
 |a :: l,i,h=>by
  cases ha:p a
  ·rw[List.any_cons,ha,jC]at h;obtain⟨k,x,h1,h2,h3,h4⟩:=yX (i+1) h;refine⟨k+1,x,by simpa using h1,h2,by simp[ha,h3],?_⟩;rw[lW,ha];simp only[cJ,eT];rw[h4];congr 1;omega
  ·exact⟨0,a,rfl,ha,rfl,by rw[lW,ha];simp⟩
theorem yY(h:l.any p=false):l.filter (fun x=>!p x)=l:=by
 rw[List.filter_eq_self];intro a ha;have:=fA.1 h a ha;simpa using this
theorem D7(b:Nat)(g:Nat)(cap:bW)(p:a_->Bool)(v:Value)(xs:cX)(w:World)(eg:∀args w,(callFunc g args).run prog w=.ok (.enter g args) w)(hp:hD (own v) w g cap p xs)(hv:OwnRows b 129 13 w v xs) :
  aE 150 #[v,.func (.func g) #[] cap] w fun e w'=>∃a c,e=.returned (.slice a (xs.filter (fun x=>!p x)).length c)/\OwnRows b 129 13 w' (.slice a (xs.filter (fun x=>!p x)).length c) (xs.filter (fun x=>!p x))/\Fr (own v) w w'/\own (.slice a (xs.filter (fun x=>!p x)).length c)=own v:=by
 cases jd:xs.any p
 ·have ry:=O (kz (i:=0) jd);rw[yY jd];obtain⟨av,cv,gi⟩:=hv.form;subst gi;go_enter func150,ntmps150;go_wp2_with fail
  refine(yW g cap p _ xs w eg hp.none hv.at).mono ?_;rintro e w1⟨rfl,dw⟩;rw[ry.o];go_wp2;go_ret;exact⟨_,_,rfl,hv.fr dw (fun _ _ h=>h),dw.mono (fun _ _ h=>absurd h id),rfl⟩
 ·obtain⟨k0,x0,Gl,CP,uS,ry⟩:=yX 0 jd;rw[bw]at ry;have VN:=(List.getElem?_eq_some_iff.1 Gl).1;obtain⟨bk,cp,Jm⟩:∃bk cp,v=.slice (some ⟨bk,0,none⟩) xs.length cp:=by
   rcases hv.2.2 with ⟨_,hn⟩|⟨bk,cp,cur,hv,_⟩
   ·omega
   ·exact⟨bk,cp,hv⟩
  subst Jm;obtain⟨Bb,cur,ua,q1,q2,q3,q4,q5,q6⟩:=hv.open (g:=bk) rfl;cases ua;unfold maxLen at q4;have ec:=O hv.1;have CQ:=O (show xs.take k0=(xs.take (k0+1)).filter (fun x=>!p x)by
   rw[dU Gl,cC,yY uS];simp[CP])
  have HP:=O hp;have Xw:=O ry;clear jd uS Gl CP ry q2 q5 q6 hp;go_enter func150,ntmps150;go_wp2_with fail
  refine(yW g cap p _ xs w eg HP.o.none hv.at).mono ?_;rintro e w1⟨rfl,dw⟩;rw[Xw.o];have Hd:=hv.fr dw (fun _ _ h=>h);have Hm:((k0:Int)== -1)=false:=by rw[aL];omega
  go_wp2;go_loopw[5,6] (abY b w bk cp p xs) (fun _ j _=>xs.length-(intOf j).toNat)
  case atStart=>exact⟨k0,k0+1,xs,rfl,bh,ab,ab,rfl,Hd,CQ.o,rfl,dw.mono (fun _ _ h=>absurd h id)⟩
  case round =>
   obtain⟨m,n,ys,rfl,rfl,hmn,hn,hlen,cQ,q_,sg,cR⟩:=hrel;have HT:=O q_;have HD:=O sg;have jH:=O hlen;clear q_ sg hlen;rw[<-jH.o]at cQ;have rz:=cQ.at;by_cases fE:n<xs.length
   ·rcases rz.2 with ⟨_,_,_,e,_⟩|⟨bk',of,c,hf,h1,h2,h3,h4⟩
    ·have hl:=jH.o;rw[e]at hl;simp at hl;omega
    ·cases hf;have dT:=O (List.getElem?_eq_getElem fE);have xL:ys[n]?=some xs[n]:=by
      have e:=ar (fun l:cX=>l[0]?) HD.o;simp only[List.getElem?_drop,Nat.add_zero]at e;rw[e,dT.o]
     have hcell:=h4 n _ xL;simp only[bw]at hcell;have jc:=O (bQ fE);generalize xs[n]=x at dT hcell jc xL;have lI:=(ec.o x jc.o).1;have ov:=O (ec.o x jc.o).2;have iQ:=fun W=>run_storeCells_new (P:=prog) W 129 #[.bool false,.string ⟨#[]⟩,.int .i64 0,.bool false,.string ⟨#[]⟩,.int .i64 0,.string ⟨#[]⟩,.string ⟨#[]⟩,.string ⟨#[]⟩,.bool false,.string ⟨#[]⟩,.bool false,.slice none 0 0] x (by rw[lI];rfl) ov.o
     have ix:Fr aX wr (wr.alloc (.cells x.toArray 129)):=(ae aX wr).alloc _;have fF:=O (HP.o x jc.o (wr.alloc (.cells x.toArray 129)) ((cR.alloc _).mono (fun k _ h=>by have e:k=bk:=h;rw[e];rfl)));have Gp:=O (zW lI);have km:=cR.alloc (.cells x.toArray 129);have fy:=cQ.fr ix (fun _ _ h=>h);have rh:(wr.alloc (.cells x.toArray 129)).heap[wr.heap.size]?=some (.cells x.toArray 129 (0,0)):=aC _ _
     have td:=O rh;clear h4 xL rh ix;go_wp2_with (first|((with_reducible refine dt 25 ?_);refine bu rfl 129 (.tmp 24) rfl bk (n*13) rfl x _ hcell underlying129 rfl Gp.o ?_)|((with_reducible refine dt 27 ?_);refine aJ rfl 129 (.tmp 7) rfl wr.heap.size rfl _ x.toArray (0,0) _ td.o underlying129 rfl (by rw[bd];exact Gp.o) ?_)|fail)
     have ZO:wr.heap.size<(wr.alloc (.cells x.toArray 129)).heap.size:=aS;clear iQ hcell;generalize wr.alloc (.cells x.toArray 129)=W2 at *
     refine fF.o.mono ?_;rintro e w3⟨rfl,iG⟩;have qg:=km.trans (iG.mono (fun _ _ h=>absurd h id));have fo:=fy.fr iG (fun _ _ h=>h);have sJ:=O (iG.keep td.o id);have LX:=O jH.o;cases rK:p x
     ·have VX:=O (fo.there (g:=bk) (cap:=cp) (by rw[jH.o]) (o:=m*13) (n:=x.toArray.size) (by
       have hmc:(m+1)*13<=cp*13:=bN _ ab;rw[bd,lI];omega))
      have eV:=fo.store (i:=m) (y:=x) (by rw[jH.o];omega) lI ov.o (g:=bk) rfl;rw[jH.o]at eV;have n9:=qg.step (fC (ae (one bk) w3) (fun _=>rfl) x (m*13)) (fun _ _ h=>h)
      go_wp2_with (first|((with_reducible refine dt 32 ?_);refine aJ rfl 129 (.tmp 7) rfl wr.heap.size rfl _ x.toArray (0,0) _ sJ.o underlying129 rfl (by rw[bd];exact Gp.o) ?_)|((with_reducible refine cU 129 ?_);refine ju rfl 129 (.tmp 33) (.tmp 32) rfl bk (m*13) x.toArray rfl rfl VX.o (by rw[bd];exact Gp.o) (cE ov.o) ?_)|fail)
      go_roundw
      case rel =>
       refine⟨m+1,n+1,ys.set m x,bh,bh,ab,ab,by rw[dZ];exact LX.o,eV,?_,?_,n9⟩
       ·rw[dU (l:=ys.set m x) (List.getElem?_set_self (by rw[LX.o];omega)),fU (az m),dU dT.o,cC,HT.o];simp[rK]
       ·rw[fV ab];have e:=ar (List.drop 1) HD.o;simpa[ey]using e
      case measure=>simp[intOf];omega
     ·rw[jH.o]at fo;go_wp2_with fail
      go_roundw
      case rel =>
       refine⟨m,n+1,ys,rfl,bh,ab,ab,LX.o,fo,?_,?_,qg⟩
       ·rw[dU dT.o,cC,HT.o];simp[rK]
       ·have e:=ar (List.drop 1) HD.o;simpa[ey]using e
      case measure=>simp[intOf];omega
   ·have rA:n=xs.length:=ab;subst rA;have fl:=O (show ys.take m=xs.filter (fun x=>!p x)by have h:=HT.o;rw[aG (az _)]at h;exact h);have se:(ys.take m).length=m:=by rw[aQ,jH.o];omega
    have yR:=O (show(xs.filter (fun x=>!p x)).length=m by rw[<-fl.o];exact se);have hcut:=cQ.cut (i:=m) (by rw[jH.o];omega) (g:=bk) (cap:=cp) (by rw[jH.o]);have hle:(xs.length-m)*13+m*13<=cp*13:=by rw[<-dD];exact bN _ ab
    have Bi:(Builtin.zeroCells vL (xs.length-m)).toList.length=(xs.length-m)*13:=by simp[Builtin.zeroCells]
    have wU:=fun ty=>jt (P:=prog) wr 116 129 ty vL underlying116 (fun w=>af) ag Gs bk (m*13) (xs.length-m) (cp-m) ab (by
     have:=cQ.there (g:=bk) (cap:=cp) (by rw[jH.o]) (o:=m*13) (n:=(xs.length-m)*13) ab;exact this)
    have xM:=hcut.behind (o:=m*13) (vs:=(Builtin.zeroCells vL (xs.length-m)).toList) (by rw[se];exact az _) (g:=bk) (cap:=cp) (by rw[se]) (by rw[Bi];omega);have n9:=cR.step (fC (ae (one bk) wr) (fun _=>rfl) (Builtin.zeroCells vL (xs.length-m)).toList (m*13)) (fun _ _ h=>h);clear cQ rz hcut Bi se hle jH;go_wp2_with fail
    go_ret;rw[yR.o, <-fl.o];exact⟨_,_,rfl,xM,n9.mono (fun k _ h=>by have e:k=bk:=h;rw[e];rfl),rfl⟩
theorem abZ:∃i0:TypeInfo,prog.info? 129=some i0/\i0.size=13:=by
 have h:(prog.info? 129).map (·.size)=some 13:=af;cases hq:prog.info? 129 with
 |none=>rw[hq]at h;cases h
 |some i=>rw[hq]at h;exact⟨i,rfl,by simpa using h⟩
theorem E0(b:Nat)(bk cp i j:Nat)(xs:cX)(w:World)(hv:OwnRows b 129 13 w (.slice (some ⟨bk,0,none⟩) xs.length cp) xs)(OS:i<j)(hj:j<=xs.length) :
  aE 122 #[.slice (some ⟨bk,0,none⟩) xs.length cp,.int .i64 i,.int .i64 j] w fun e w'=>e=.returned (.slice (some ⟨bk,0,none⟩) (i+(xs.length-j)) cp)/\OwnRows b 129 13 w' (.slice (some ⟨bk,0,none⟩) (i+(xs.length-j)) cp) (xs.take i++xs.drop j)/\Fr (one bk) w w':=by
 obtain⟨i0,rL,kP⟩:=abZ;obtain⟨Bb,cur,ua,q1,q2,q3,q4,q5,q6⟩:=hv.open (g:=bk) rfl;cases ua;unfold maxLen at q4;have dT:=hv.at;have ec:=hv.1;obtain⟨news,kr⟩:∃news,news=(xs.drop j).flatten:=⟨_,rfl⟩;have hdr:∀x∈xs.drop j,x.length=13/\∀u∈x,u.oneCell'=true:=fun x hx=>ec x (eB hx);have hlen:news.length=(xs.length-j)*13:=by rw[kr,f_ (fun x hx=>(hdr x hx).1),bJ]
 obtain⟨A,hA,LY⟩:∃A:Addr,(if cp=j then some (⟨bk,0,none⟩:Addr)else some ⟨bk,j*13,none⟩)=some A/\Hid (∀t u,news[t]?=some u->w.drew.cell? (A.add t)=some u):=by
  by_cases h:cp=j
  ·refine⟨⟨bk,0,none⟩,by simp[h],fun t u hu=>?_⟩
   have h0:news.length=0:=by rw[hlen];have:xs.length-j=0:=by omega
                             rw[this,gX]
   rw[dG.1 h0]at hu;simp at hu
  ·refine⟨⟨bk,j*13,none⟩,by simp[h],fun t u hu=>?_⟩;have ht:t<(xs.length-j)*13:=by
    have:=(List.getElem?_eq_some_iff.1 hu).1;omega
   have nP:xs.flatten[j*13+t]?=some u:=by
    have e:xs.flatten=(xs.take j).flatten++(xs.drop j).flatten:=by rw[<-eh,fH]
    have hl:(xs.take j).flatten.length=j*13:=by rw[f_ (fun x hx=>(ec x (eL hx)).1),aQ,dJ hj]
    rw[e,List.getElem?_append_right ab,hl,show j*13+t-j*13=t from ab, <-kr];exact hu
   have hjt:j*13+t<xs.length*13:=by
    have:(xs.length-j)*13+j*13=xs.length*13:=by rw[<-dD];congr 1;omega
    omega
   rw[<-q6,List.getElem?_take_of_lt hjt]at nP;have BH:cur[j*13+t]?=some u:=by simpa using nP
   have ea:(Addr.add ⟨bk,j*13,none⟩ t)=⟨bk,j*13+t,none⟩:=by unfold Addr.add;split<;>simp_all
   rw[ea];show w.cell? _=some u;simp[World.cell?,q2,BH]
 have s1:=O hlen;have s2:=O (show∀u∈news,u.oneCell'=true by
  intro u hu;rw[kr]at hu;obtain⟨x,hx,EY⟩:=fG.1 hu;exact(hdr x hx).2 u EY)
 have s3:=O (show∀t,t<news.length->(w.drew.cell? ⟨bk,0+i*13+t,none⟩).isSome=true/\w.drew.frozen? ⟨bk,0+i*13+t,none⟩=false by
  intro t ht;rw[bw];have hle:i*13+(xs.length-j)*13<=cp*13:=by rw[<-dD];exact bN _ ab
  have:=hv.there (g:=bk) (cap:=cp) rfl (o:=i*13) (n:=(xs.length-j)*13) hle t ab;exact this)
 have Ti:OwnRows b 129 13 w.drew (.slice (some ⟨bk,0,none⟩) xs.length cp) xs:=hv;have pX:=Ti.Ce (i:=i) (ys:=xs.drop j) ab hdr (g:=bk) (cap:=cp) rfl (by rw[bJ];omega);rw[bJ, <-kr]at pX;have xN:Fr (one bk) w (w.drew.setCells bk (i*13) news):=((ae (one bk) w).drew).setCells (fun _=>rfl) _ _;obtain⟨W1,Bf⟩:∃W1,W1=w.drew.setCells bk (0+i*13) news:=⟨_,rfl⟩;have HW:=O Bf;rw[bw]at Bf;rw[<-Bf]at pX xN
 have rA:(xs.take i++xs.drop j).length=i+(xs.length-j):=by rw[aM,aQ,bJ];omega
 have hm:i+(xs.length-j)<xs.length:=ab;have Bi:(Builtin.zeroCells vL (xs.length-(i+(xs.length-j)))).toList.length=(xs.length-(i+(xs.length-j)))*13:=by simp[Builtin.zeroCells]
 have hle:(i+(xs.length-j))*13+(xs.length-(i+(xs.length-j)))*13<=cp*13:=by rw[<-dD];exact bN _ ab
 have wU:=fun ty=>jt (P:=prog) W1 116 129 ty vL underlying116 (fun w=>af) ag Gs bk ((i+(xs.length-j))*13) (xs.length-(i+(xs.length-j))) (cp-(i+(xs.length-j))) ab (by
  have:=pX.there (g:=bk) (cap:=cp) (by rw[rA]) (o:=(i+(xs.length-j))*13) (n:=(xs.length-(i+(xs.length-j)))*13) hle;exact this)
 have xM:=pX.behind (o:=(i+(xs.length-j))*13) (vs:=(Builtin.zeroCells vL (xs.length-(i+(xs.length-j)))).toList) (by rw[rA];exact az _) (g:=bk) (cap:=cp) (by rw[rA]) (by rw[Bi];omega);have n9:=xN.step (fC (ae (one bk) W1) (fun _=>rfl) (Builtin.zeroCells vL (xs.length-(i+(xs.length-j)))).toList ((i+(xs.length-j))*13)) (fun _ _ h=>h);have hne:((i:Int)==(j:Int))=false:=by rw[aL];omega
 have abM:i<=cp:=ab;have abN:j<=cp:=ab;have HA:=O hA;clear Bf pX Ti xN kr hlen hdr ec dT rA Bi hle q2 q5 q6 hv;go_enter func122,ntmps122;go_wp2_with fail
 have hA:=HA.o;go_region_law (refine step_append_room rfl (.tmp 22) (.tmp 25) 116 rfl 129 i0 13 underlying116 rL kP bk 0 i cp (by simp[Act.eval,Act.put]) A (xs.length-j) (cp-j) news (by simp[Act.eval,Act.put]) s1.o LY.out s2.o ab s3.o ?_;rw[<-HW.o])
 all_goals
  go_wp2_with fail
  go_ret;exact⟨rfl,xM,n9⟩
abbrev D8:bW:= #[.bool false,.string ⟨#[]⟩,.int .i64 0,.bool false,.string ⟨#[]⟩,.int .i64 0,.string ⟨#[]⟩,.string ⟨#[]⟩,.bool false,.string ⟨#[]⟩,.string ⟨#[]⟩,.int .i64 0]
theorem N9:∀v∈D8.toList,v.oneCell'=true:=cZ
theorem zZ(h:x.length=12):(prog.info? 137).map (·.size)=some x.length:=by rw[h];kernel_rfl
def ab5(w:World)(p:a_->Bool)(xs:cX)(i:Value)(wr:World):Prop :=
 ∃k:Nat,k<=xs.length/\i=.int .i64 k/\(xs.take k).any p=false/\Fr aX w wr
theorem ug(g:Nat)(cap:bW)(p:a_->Bool)(v:Value)(xs:cX)(w:World)(eg:∀args w,(callFunc g args).run prog w=.ok (.enter g args) w)(hp:hD aX w g cap p xs)(hv:ez 12 w v xs) :
  aE 181 #[v,.func (.func g) #[] cap] w fun e w'=>e=.returned (.int .i64 (lW p xs 0))/\Fr aX w w':=by
 obtain⟨av,cv,gi⟩:=hv.form;subst gi;have ec:=O hv.1;go_enter func181,ntmps181;go_wp2;go_loopw[8] (ab5 w p xs) (fun i _=>xs.length-(intOf i).toNat)
 case atStart=>exact⟨0,aW _,rfl,rfl,ae _ _⟩
 case round =>
  obtain⟨k,hk,rfl,hn,cR⟩:=hrel;have HN:=O hn;clear hn;by_cases fE:k<xs.length
  ·rcases(hv.i_ cR).2 with ⟨_,_,_,e,_⟩|⟨bk,of,c,hf,h1,h2,h3,h4⟩
   ·rw[e]at fE;exact absurd fE (ct _)
   ·cases hf;unfold maxLen at h2;have dT:=O (List.getElem?_eq_getElem fE);have hcell:=h4 k _ dT.o;have jc:=O (bQ fE);generalize xs[k]=x at dT hcell jc;have fF:=O (hp x jc.o wr cR);have lI:=(ec.o x jc.o).1;clear h4;cases rK:p x
    ·have p9:=O (any_take_succ dT.o HN.o rK);go_wp2_with (first|((with_reducible refine dt 15 ?_);refine bu rfl 137 (.tmp 14) rfl bk (of+k*12) rfl x _ hcell underlying137 rfl (zZ lI) ?_)|fail)
     refine fF.o.mono ?_;rintro e w1⟨rfl,dw⟩;rw[rK];go_wp2;go_roundw
     case rel=>exact⟨k+1,ab,bh,p9.o,cR.trans dw⟩
     case measure=>simp[intOf];omega
    ·have fl:=O (pR (i:=0) dT.o rK HN.o);go_wp2_with (first|((with_reducible refine dt 15 ?_);refine bu rfl 137 (.tmp 14) rfl bk (of+k*12) rfl x _ hcell underlying137 rfl (zZ lI) ?_)|fail)
     refine fF.o.mono ?_;rintro e w1⟨rfl,dw⟩;rw[rK];go_wp2;go_ret;rw[fl.o,bw];exact⟨rfl,cR.trans dw⟩
  ·have fl:=O (show lW p xs 0= -1 from kz (by have h:=HN.o;rw[aG ab]at h;exact h));go_wp2;go_ret;rw[fl.o];exact⟨rfl,cR⟩
theorem Bk(g:Nat)(cap:bW)(p:a_->Bool)(v:Value)(xs:cX)(w:World)(eg:∀args w,(callFunc g args).run prog w=.ok (.enter g args) w)(hp:hD aX w g cap p xs)(hv:ez 12 w v xs) :
  aE 125 #[v,.func (.func g) #[] cap] w fun e w'=>e=.returned (.bool (xs.any p))/\Fr aX w w':=by
 have hb:=O (tu p xs 0);go_enter func125,ntmps125;go_wp2_with fail
 refine(ug g cap p v xs w eg hp hv).mono ?_;rintro e w1⟨rfl,dw⟩;go_wp2;go_ret;exact⟨fS hb.o,dw⟩
abbrev V8:bW:= #[.bool false,.string ⟨#[]⟩,.int .i64 0,.int .i64 0]
theorem Oj:∀v∈V8.toList,v.oneCell'=true:=cZ
theorem MI(h:x.length=4):(prog.info? 105).map (·.size)=some x.length:=by rw[h];kernel_rfl
def acM(w:World)(p:a_->Bool)(xs:cX)(i:Value)(wr:World):Prop :=
 ∃k:Nat,k<=xs.length/\i=.int .i64 k/\(xs.take k).any p=false/\Fr aX w wr
theorem zi(g:Nat)(cap:bW)(p:a_->Bool)(v:Value)(xs:cX)(w:World)(eg:∀args w,(callFunc g args).run prog w=.ok (.enter g args) w)(hp:hD aX w g cap p xs)(hv:ez 4 w v xs) :
  aE 199 #[v,.func (.func g) #[] cap] w fun e w'=>e=.returned (.int .i64 (lW p xs 0))/\Fr aX w w':=by
 obtain⟨av,cv,gi⟩:=hv.form;subst gi;have ec:=O hv.1;go_enter func199,ntmps199;go_wp2;go_loopw[8] (acM w p xs) (fun i _=>xs.length-(intOf i).toNat)
 case atStart=>exact⟨0,aW _,rfl,rfl,ae _ _⟩
 case round =>
  obtain⟨k,hk,rfl,hn,cR⟩:=hrel;have HN:=O hn;clear hn;by_cases fE:k<xs.length
  ·rcases(hv.i_ cR).2 with ⟨_,_,_,e,_⟩|⟨bk,of,c,hf,h1,h2,h3,h4⟩
   ·rw[e]at fE;exact absurd fE (ct _)
   ·cases hf;unfold maxLen at h2;have dT:=O (List.getElem?_eq_getElem fE);have hcell:=h4 k _ dT.o;have jc:=O (bQ fE);generalize xs[k]=x at dT hcell jc;have fF:=O (hp x jc.o wr cR);have lI:=(ec.o x jc.o).1;clear h4;cases rK:p x
    ·have p9:=O (any_take_succ dT.o HN.o rK);go_wp2_with (first|((with_reducible refine dt 15 ?_);refine bu rfl 105 (.tmp 14) rfl bk (of+k*4) rfl x _ hcell underlying105 rfl (MI lI) ?_)|fail)
     refine fF.o.mono ?_;rintro e w1⟨rfl,dw⟩;rw[rK];go_wp2;go_roundw
     case rel=>exact⟨k+1,ab,bh,p9.o,cR.trans dw⟩
     case measure=>simp[intOf];omega
    ·have fl:=O (pR (i:=0) dT.o rK HN.o);go_wp2_with (first|((with_reducible refine dt 15 ?_);refine bu rfl 105 (.tmp 14) rfl bk (of+k*4) rfl x _ hcell underlying105 rfl (MI lI) ?_)|fail)
     refine fF.o.mono ?_;rintro e w1⟨rfl,dw⟩;rw[rK];go_wp2;go_ret;rw[fl.o,bw];exact⟨rfl,cR.trans dw⟩
  ·have fl:=O (show lW p xs 0= -1 from kz (by have h:=HN.o;rw[aG ab]at h;exact h));go_wp2;go_ret;rw[fl.o];exact⟨rfl,cR⟩
def acN(b:Nat)(w:World)(bk cap:Nat)(p:a_->Bool)(xs:cX)(i j:Value)(wr:World):Prop :=
 ∃(m n:Nat) (ys:cX),i=.int .i64 m/\j=.int .i64 n/\m<n/\n<=xs.length/\ys.length=xs.length/\OwnRows b 105 4 wr (.slice (some ⟨bk,0,none⟩) xs.length cap) ys /\
  ys.take m=(xs.take n).filter (fun x=>!p x)/\ys.drop n=xs.drop n/\Fr (one bk) w wr
theorem zj{p:a_->Bool}:∀ {l:cX} (i:Nat),l.any p=true->∃k x,l[k]?=some x/\p x=true/\(l.take k).any p=false/\lW p l i=((i+k:Nat):Int)
 |[],_,h=>by simp at h
 |a :: l,i,h=>by
  cases ha:p a
  ·rw[List.any_cons,ha,jC]at h;obtain⟨k,x,h1,h2,h3,h4⟩:=zj (i+1) h;refine⟨k+1,x,by simpa using h1,h2,by simp[ha,h3],?_⟩;rw[lW,ha];simp only[cJ,eT];rw[h4];congr 1;omega
  ·exact⟨0,a,rfl,ha,rfl,by rw[lW,ha];simp⟩
theorem zk(h:l.any p=false):l.filter (fun x=>!p x)=l:=by
 rw[List.filter_eq_self];intro a ha;have:=fA.1 h a ha;simpa using this
theorem Eb(b:Nat)(g:Nat)(cap:bW)(p:a_->Bool)(v:Value)(xs:cX)(w:World)(eg:∀args w,(callFunc g args).run prog w=.ok (.enter g args) w)(hp:hD (own v) w g cap p xs)(hv:OwnRows b 105 4 w v xs) :
  aE 147 #[v,.func (.func g) #[] cap] w fun e w'=>∃a c,e=.returned (.slice a (xs.filter (fun x=>!p x)).length c)/\OwnRows b 105 4 w' (.slice a (xs.filter (fun x=>!p x)).length c) (xs.filter (fun x=>!p x))/\Fr (own v) w w'/\own (.slice a (xs.filter (fun x=>!p x)).length c)=own v:=by
 cases jd:xs.any p
 ·have ry:=O (kz (i:=0) jd);rw[zk jd];obtain⟨av,cv,gi⟩:=hv.form;subst gi;go_enter func147,ntmps147;go_wp2_with fail
  refine(zi g cap p _ xs w eg hp.none hv.at).mono ?_;rintro e w1⟨rfl,dw⟩;rw[ry.o];go_wp2;go_ret;exact⟨_,_,rfl,hv.fr dw (fun _ _ h=>h),dw.mono (fun _ _ h=>absurd h id),rfl⟩
 ·obtain⟨k0,x0,Gl,CP,uS,ry⟩:=zj 0 jd;rw[bw]at ry;have VN:=(List.getElem?_eq_some_iff.1 Gl).1;obtain⟨bk,cp,Jm⟩:∃bk cp,v=.slice (some ⟨bk,0,none⟩) xs.length cp:=by
   rcases hv.2.2 with ⟨_,hn⟩|⟨bk,cp,cur,hv,_⟩
   ·omega
   ·exact⟨bk,cp,hv⟩
  subst Jm;obtain⟨Bb,cur,ua,q1,q2,q3,q4,q5,q6⟩:=hv.open (g:=bk) rfl;cases ua;unfold maxLen at q4;have ec:=O hv.1;have CQ:=O (show xs.take k0=(xs.take (k0+1)).filter (fun x=>!p x)by
   rw[dU Gl,cC,zk uS];simp[CP])
  have HP:=O hp;have Xw:=O ry;clear jd uS Gl CP ry q2 q5 q6 hp;go_enter func147,ntmps147;go_wp2_with fail
  refine(zi g cap p _ xs w eg HP.o.none hv.at).mono ?_;rintro e w1⟨rfl,dw⟩;rw[Xw.o];have Hd:=hv.fr dw (fun _ _ h=>h);have Hm:((k0:Int)== -1)=false:=by rw[aL];omega
  go_wp2;go_loopw[5,6] (acN b w bk cp p xs) (fun _ j _=>xs.length-(intOf j).toNat)
  case atStart=>exact⟨k0,k0+1,xs,rfl,bh,ab,ab,rfl,Hd,CQ.o,rfl,dw.mono (fun _ _ h=>absurd h id)⟩
  case round =>
   obtain⟨m,n,ys,rfl,rfl,hmn,hn,hlen,cQ,q_,sg,cR⟩:=hrel;have HT:=O q_;have HD:=O sg;have jH:=O hlen;clear q_ sg hlen;rw[<-jH.o]at cQ;have rz:=cQ.at;by_cases fE:n<xs.length
   ·rcases rz.2 with ⟨_,_,_,e,_⟩|⟨bk',of,c,hf,h1,h2,h3,h4⟩
    ·have hl:=jH.o;rw[e]at hl;simp at hl;omega
    ·cases hf;have dT:=O (List.getElem?_eq_getElem fE);have xL:ys[n]?=some xs[n]:=by
      have e:=ar (fun l:cX=>l[0]?) HD.o;simp only[List.getElem?_drop,Nat.add_zero]at e;rw[e,dT.o]
     have hcell:=h4 n _ xL;simp only[bw]at hcell;have jc:=O (bQ fE);generalize xs[n]=x at dT hcell jc xL;have lI:=(ec.o x jc.o).1;have ov:=O (ec.o x jc.o).2;have iQ:=fun W=>run_storeCells_new (P:=prog) W 105 #[.bool false,.string ⟨#[]⟩,.int .i64 0,.int .i64 0] x (by rw[lI];rfl) ov.o;have ix:Fr aX wr (wr.alloc (.cells x.toArray 105)):=(ae aX wr).alloc _
     have fF:=O (HP.o x jc.o (wr.alloc (.cells x.toArray 105)) ((cR.alloc _).mono (fun k _ h=>by have e:k=bk:=h;rw[e];rfl)));have Gp:=O (MI lI);have km:=cR.alloc (.cells x.toArray 105);have fy:=cQ.fr ix (fun _ _ h=>h);have rh:(wr.alloc (.cells x.toArray 105)).heap[wr.heap.size]?=some (.cells x.toArray 105 (0,0)):=aC _ _;have td:=O rh;clear h4 xL rh ix
     go_wp2_with (first|((with_reducible refine dt 25 ?_);refine bu rfl 105 (.tmp 24) rfl bk (n*4) rfl x _ hcell underlying105 rfl Gp.o ?_)|((with_reducible refine dt 27 ?_);refine aJ rfl 105 (.tmp 7) rfl wr.heap.size rfl _ x.toArray (0,0) _ td.o underlying105 rfl (by rw[bd];exact Gp.o) ?_)|fail)
     have ZO:wr.heap.size<(wr.alloc (.cells x.toArray 105)).heap.size:=aS;clear iQ hcell;generalize wr.alloc (.cells x.toArray 105)=W2 at *
     refine fF.o.mono ?_;rintro e w3⟨rfl,iG⟩;have qg:=km.trans (iG.mono (fun _ _ h=>absurd h id));have fo:=fy.fr iG (fun _ _ h=>h);have sJ:=O (iG.keep td.o id);have LX:=O jH.o;cases rK:p x
     ·have VX:=O (fo.there (g:=bk) (cap:=cp) (by rw[jH.o]) (o:=m*4) (n:=x.toArray.size) (by
       have hmc:(m+1)*4<=cp*4:=bN _ ab;rw[bd,lI];omega))
      have eV:=fo.store (i:=m) (y:=x) (by rw[jH.o];omega) lI ov.o (g:=bk) rfl;rw[jH.o]at eV;have n9:=qg.step (fC (ae (one bk) w3) (fun _=>rfl) x (m*4)) (fun _ _ h=>h)
      go_wp2_with (first|((with_reducible refine dt 32 ?_);refine aJ rfl 105 (.tmp 7) rfl wr.heap.size rfl _ x.toArray (0,0) _ sJ.o underlying105 rfl (by rw[bd];exact Gp.o) ?_)|((with_reducible refine cU 105 ?_);refine ju rfl 105 (.tmp 33) (.tmp 32) rfl bk (m*4) x.toArray rfl rfl VX.o (by rw[bd];exact Gp.o) (cE ov.o) ?_)|fail)
      go_roundw
      case rel =>
       refine⟨m+1,n+1,ys.set m x,bh,bh,ab,ab,by rw[dZ];exact LX.o,eV,?_,?_,n9⟩
       ·rw[dU (l:=ys.set m x) (List.getElem?_set_self (by rw[LX.o];omega)),fU (az m),dU dT.o,cC,HT.o];simp[rK]
       ·rw[fV ab];have e:=ar (List.drop 1) HD.o;simpa[ey]using e
      case measure=>simp[intOf];omega
     ·rw[jH.o]at fo;go_wp2_with fail
      go_roundw
      case rel =>
       refine⟨m,n+1,ys,rfl,bh,ab,ab,LX.o,fo,?_,?_,qg⟩
       ·rw[dU dT.o,cC,HT.o];simp[rK]
       ·have e:=ar (List.drop 1) HD.o;simpa[ey]using e
      case measure=>simp[intOf];omega
   ·have rA:n=xs.length:=ab;subst rA;have fl:=O (show ys.take m=xs.filter (fun x=>!p x)by have h:=HT.o;rw[aG (az _)]at h;exact h);have se:(ys.take m).length=m:=by rw[aQ,jH.o];omega
    have yR:=O (show(xs.filter (fun x=>!p x)).length=m by rw[<-fl.o];exact se);have hcut:=cQ.cut (i:=m) (by rw[jH.o];omega) (g:=bk) (cap:=cp) (by rw[jH.o]);have hle:(xs.length-m)*4+m*4<=cp*4:=by rw[<-dD];exact bN _ ab
    have Bi:(Builtin.zeroCells V8 (xs.length-m)).toList.length=(xs.length-m)*4:=by simp[Builtin.zeroCells]
    have wU:=fun ty=>jt (P:=prog) wr 92 105 ty V8 underlying92 (fun w=>af) ag Oj bk (m*4) (xs.length-m) (cp-m) ab (by
     have:=cQ.there (g:=bk) (cap:=cp) (by rw[jH.o]) (o:=m*4) (n:=(xs.length-m)*4) ab;exact this)
    have xM:=hcut.behind (o:=m*4) (vs:=(Builtin.zeroCells V8 (xs.length-m)).toList) (by rw[se];exact az _) (g:=bk) (cap:=cp) (by rw[se]) (by rw[Bi];omega);have n9:=cR.step (fC (ae (one bk) wr) (fun _=>rfl) (Builtin.zeroCells V8 (xs.length-m)).toList (m*4)) (fun _ _ h=>h);clear cQ rz hcut Bi se hle jH;go_wp2_with fail
    go_ret;rw[yR.o, <-fl.o];exact⟨_,_,rfl,xM,n9.mono (fun k _ h=>by have e:k=bk:=h;rw[e];rfl),rfl⟩
theorem acO:∃i0:TypeInfo,prog.info? 105=some i0/\i0.size=4:=by
 have h:(prog.info? 105).map (·.size)=some 4:=af;cases hq:prog.info? 105 with
 |none=>rw[hq]at h;cases h
 |some i=>rw[hq]at h;exact⟨i,rfl,by simpa using h⟩
theorem Qm(b:Nat)(bk cp i j:Nat)(xs:cX)(w:World)(hv:OwnRows b 105 4 w (.slice (some ⟨bk,0,none⟩) xs.length cp) xs)(OS:i<j)(hj:j<=xs.length) :
  aE 91 #[.slice (some ⟨bk,0,none⟩) xs.length cp,.int .i64 i,.int .i64 j] w fun e w'=>e=.returned (.slice (some ⟨bk,0,none⟩) (i+(xs.length-j)) cp)/\OwnRows b 105 4 w' (.slice (some ⟨bk,0,none⟩) (i+(xs.length-j)) cp) (xs.take i++xs.drop j)/\Fr (one bk) w w':=by
 obtain⟨i0,rL,kP⟩:=acO;obtain⟨Bb,cur,ua,q1,q2,q3,q4,q5,q6⟩:=hv.open (g:=bk) rfl;cases ua;unfold maxLen at q4;have dT:=hv.at;have ec:=hv.1;obtain⟨news,kr⟩:∃news,news=(xs.drop j).flatten:=⟨_,rfl⟩;have hdr:∀x∈xs.drop j,x.length=4/\∀u∈x,u.oneCell'=true:=fun x hx=>ec x (eB hx);have hlen:news.length=(xs.length-j)*4:=by rw[kr,f_ (fun x hx=>(hdr x hx).1),bJ]
 obtain⟨A,hA,LY⟩:∃A:Addr,(if cp=j then some (⟨bk,0,none⟩:Addr)else some ⟨bk,j*4,none⟩)=some A/\Hid (∀t u,news[t]?=some u->w.drew.cell? (A.add t)=some u):=by
  by_cases h:cp=j
  ·refine⟨⟨bk,0,none⟩,by simp[h],fun t u hu=>?_⟩
   have h0:news.length=0:=by rw[hlen];have:xs.length-j=0:=by omega
                             rw[this,gX]
   rw[dG.1 h0]at hu;simp at hu
  ·refine⟨⟨bk,j*4,none⟩,by simp[h],fun t u hu=>?_⟩;have ht:t<(xs.length-j)*4:=by
    have:=(List.getElem?_eq_some_iff.1 hu).1;omega
   have nP:xs.flatten[j*4+t]?=some u:=by
    have e:xs.flatten=(xs.take j).flatten++(xs.drop j).flatten:=by rw[<-eh,fH]
    have hl:(xs.take j).flatten.length=j*4:=by rw[f_ (fun x hx=>(ec x (eL hx)).1),aQ,dJ hj]
    rw[e,List.getElem?_append_right ab,hl,show j*4+t-j*4=t from ab, <-kr];exact hu
   have hjt:j*4+t<xs.length*4:=by
    have:(xs.length-j)*4+j*4=xs.length*4:=by rw[<-dD];congr 1;omega
    omega
   rw[<-q6,List.getElem?_take_of_lt hjt]at nP;have BH:cur[j*4+t]?=some u:=by simpa using nP
   have ea:(Addr.add ⟨bk,j*4,none⟩ t)=⟨bk,j*4+t,none⟩:=by unfold Addr.add;split<;>simp_all
   rw[ea];show w.cell? _=some u;simp[World.cell?,q2,BH]
 have s1:=O hlen;have s2:=O (show∀u∈news,u.oneCell'=true by
  intro u hu;rw[kr]at hu;obtain⟨x,hx,EY⟩:=fG.1 hu;exact(hdr x hx).2 u EY)
 have s3:=O (show∀t,t<news.length->(w.drew.cell? ⟨bk,0+i*4+t,none⟩).isSome=true/\w.drew.frozen? ⟨bk,0+i*4+t,none⟩=false by
  intro t ht;rw[bw];have hle:i*4+(xs.length-j)*4<=cp*4:=by rw[<-dD];exact bN _ ab
  have:=hv.there (g:=bk) (cap:=cp) rfl (o:=i*4) (n:=(xs.length-j)*4) hle t ab;exact this)
 have Ti:OwnRows b 105 4 w.drew (.slice (some ⟨bk,0,none⟩) xs.length cp) xs:=hv;have pX:=Ti.Ce (i:=i) (ys:=xs.drop j) ab hdr (g:=bk) (cap:=cp) rfl (by rw[bJ];omega);rw[bJ, <-kr]at pX;have xN:Fr (one bk) w (w.drew.setCells bk (i*4) news):=((ae (one bk) w).drew).setCells (fun _=>rfl) _ _;obtain⟨W1,Bf⟩:∃W1,W1=w.drew.setCells bk (0+i*4) news:=⟨_,rfl⟩;have HW:=O Bf;rw[bw]at Bf;rw[<-Bf]at pX xN
 have rA:(xs.take i++xs.drop j).length=i+(xs.length-j):=by rw[aM,aQ,bJ];omega
 have hm:i+(xs.length-j)<xs.length:=ab;have Bi:(Builtin.zeroCells V8 (xs.length-(i+(xs.length-j)))).toList.length=(xs.length-(i+(xs.length-j)))*4:=by simp[Builtin.zeroCells]
 have hle:(i+(xs.length-j))*4+(xs.length-(i+(xs.length-j)))*4<=cp*4:=by rw[<-dD];exact bN _ ab
 have wU:=fun ty=>jt (P:=prog) W1 92 105 ty V8 underlying92 (fun w=>af) ag Oj bk ((i+(xs.length-j))*4) (xs.length-(i+(xs.length-j))) (cp-(i+(xs.length-j))) ab (by
  have:=pX.there (g:=bk) (cap:=cp) (by rw[rA]) (o:=(i+(xs.length-j))*4) (n:=(xs.length-(i+(xs.length-j)))*4) hle;exact this)
 have xM:=pX.behind (o:=(i+(xs.length-j))*4) (vs:=(Builtin.zeroCells V8 (xs.length-(i+(xs.length-j)))).toList) (by rw[rA];exact az _) (g:=bk) (cap:=cp) (by rw[rA]) (by rw[Bi];omega);have n9:=xN.step (fC (ae (one bk) W1) (fun _=>rfl) (Builtin.zeroCells V8 (xs.length-(i+(xs.length-j)))).toList ((i+(xs.length-j))*4)) (fun _ _ h=>h);have hne:((i:Int)==(j:Int))=false:=by rw[aL];omega
 have abM:i<=cp:=ab;have abN:j<=cp:=ab;have HA:=O hA;clear Bf pX Ti xN kr hlen hdr ec dT rA Bi hle q2 q5 q6 hv;go_enter func91,ntmps91;go_wp2_with fail
 have hA:=HA.o;go_region_law (refine step_append_room rfl (.tmp 22) (.tmp 25) 92 rfl 105 i0 4 underlying92 rL kP bk 0 i cp (by simp[Act.eval,Act.put]) A (xs.length-j) (cp-j) news (by simp[Act.eval,Act.put]) s1.o LY.out s2.o ab s3.o ?_;rw[<-HW.o])
 all_goals
  go_wp2_with fail
  go_ret;exact⟨rfl,xM,n9⟩
open Go.ChangeShapes Go.WideShapes Go.ChangeAt Go.RowKit Go.Deep
section
variable {H : Type} {enc : TypeId × Value → H} {P : Program} {W : World}
theorem ld.adt{α β:Type}{R:α->β->Prop}{f:Nat->α}{g:Nat->β}(n:Nat)(h:∀i,i<n->R (f i) (g i)):ld R ((List.range n).map f) ((List.range n).map g):=by
 induction n with
 |zero=>exact .nil
 |succ n ih =>
  rw[List.range_succ,bI,bI];exact(ih (fun i hi=>h i ab)).app (.cons (h n ab) .nil)
theorem DC{t e:TypeId}{k bytes:Nat}{β:Type} [Inhabited β]{Q:a_->β->Prop}{S:β->Prop}(ht:P.underlying t=some (.slice e))(hk:P.cellsOf e=k)(VN:0<k)(qC:P.bytesOf e=bytes)
  (el:∀ {fuel:Nat} {cs:a_} {x:DataW H×List MemPlace},DataW.trod enc P W 0 (fun _=>true) true fuel e cs=some x->∃b,Q cs b/\cs.length=k/\(∀u∈cs,u.oneCell'=true)/\(oJ P e x.1->S b))
  {fuel:Nat}{cs:a_}{x:DataW H×List MemPlace}(h:DataW.trod enc P W 0 (fun _=>true) true fuel t cs=some x) :
  ∃(v:Value) (css:cX) (bs:List β),cs=[v]/\ez k W v css/\ld Q css bs/\(oJ P t x.1->bs.length*bytes<=reachBytes/\∀b∈bs,S b):=by
 rcases open_slice ht h with ⟨rfl,rfl⟩|⟨a,len,cap,m,n,D,Pl,rfl,_,hl,hm,hme,rfl,hc⟩
 ·exact⟨_,[],[],rfl,ez.nil _ _,.nil,fun _=>⟨aS,aS⟩⟩
 simp only[d_]at hme;subst hme;rw[hk]at hc;have each:∀i,i<len->∃q:a_×β,W.cells? 0 (a.add (i*k)) k=some q.1/\Q q.1 q.2/\q.1.length=k/\(∀u∈q.1,u.oneCell'=true)/\(oJ P e (D i)->S q.2):=fun i hi=>by
  obtain⟨cs',h1,h2⟩:=hc i ab;obtain⟨b,hq,hlen,ec,hs⟩:=el h2;exact⟨(cs',b),h1,hq,hlen,ec,hs⟩
 obtain⟨q,hq⟩:=choose_lt each;refine⟨_,(List.range len).map fun i=>(q i).1,(List.range len).map fun i=>(q i).2,rfl,⟨?_,?_⟩,ld.adt len (fun i hi=>(hq i hi).2.1),fun hL=>⟨?_,?_⟩⟩
 ·intro y hy;obtain⟨i,hi,rfl⟩:=cz.1 hy;have hi:=hq i (List.mem_range.1 hi);exact⟨hi.2.2.1,hi.2.2.2.1⟩
 ·by_cases h0:len=0
  ·subst h0;exact Or.inl ⟨_,_,rfl,rfl,fun e=>by cases e⟩
  ·have cell:∀i,i<len->∀j u,(q i).1[j]?=some u->W.cell? (a.add (i*k+j))=some u:=fun i hi j u hu=>by
    obtain⟨_,hlen,hcell⟩:=World.cells?_some (hq i hi).1;have:=hcell j (by have:=(List.getElem?_eq_some_iff.1 hu).1;have:=(hq i hi).2.2.1;omega);rw[add_add]at this;rw[this,hu]
   obtain⟨b,off,spot⟩:=a;have Ri:=(hq 0 ab).2.2.1;have Xr:=cell 0 ab 0 _ (List.getElem?_eq_getElem ab);have ain:spot=none:=by simpa[Addr.add]using World.cell?_spot Xr
   subst ain;have Kg:∀j,(Addr.add ⟨b,off,none⟩ j)=⟨b,off+j,none⟩:=by intro j;unfold Addr.add;split<;>simp_all
   have Zs:b<W.heap.size:=by
    have h0:=World.block_lt_of_cell? _ _ Xr;rw[Kg]at h0;exact h0
   refine Or.inr ⟨b,off,m,aS,by simpa using hl,hm,Zs,fun j y hj i u hi=>?_⟩;rw[List.getElem?_map]at hj;obtain⟨k',Xo,rfl⟩:=Option.map_eq_some_iff.1 hj;obtain⟨Z3,rfl⟩:=List.getElem?_eq_some_iff.1 Xo;simp at Z3;have:=cell j Z3 i u (by simpa using hi)
   rwa [Kg, <-Nat.add_assoc]at this
 ·unfold oJ at hL;simp only[DataW.weights,ht]at hL;have:=hL _ (cY ..);simp only[aj,List.length_range,qC]at this;have e1:(len+(m-len))*bytes=m*bytes:=by congr 1;omega
  rw[e1]at this;have h2:len*bytes<=m*bytes:=bN _ hl;simp only[aj,List.length_range];omega
 ·intro b hb;obtain⟨i,hi,rfl⟩:=cz.1 hb;have hi':=List.mem_range.1 hi;refine(hq i hi').2.2.2.2 (fun n hn=>?_);unfold oJ at hL;simp only[DataW.weights,ht]at hL;exact hL n (bV _ (List.mem_append_left _ (xj (cz.2 ⟨i,hi,rfl⟩) _ hn)))
end
variable {H : Type} {enc : TypeId × Value → H} {W : World}
theorem zw:prog.cellsOf 142=2:=af
theorem KH{x:DataW H×List MemPlace}(h:DataW.trod enc prog W 0 (fun _=>true) true fuel 142 cs=some x) :
  ∃b:ai×ai,cs=[.string b.1,.string b.2]/\cs.length=2/\(∀u∈cs,u.oneCell'=true)/\(oJ prog 142 x.1->b.1.size<=reachBytes/\b.2.size<=reachBytes):=by
 obtain⟨hl,n,hf⟩:=pz underlying142 h;rw[zw]at hl;obtain⟨c0,c1,rfl⟩:=aim hl;obtain⟨y0,h0,l0⟩:=hf 0 9 0 _ rfl iD;obtain⟨y1,h1,l1⟩:=hf 1 9 1 _ rfl iD;simp only[List.drop,List.take]at h0 h1;obtain⟨u,eu,wu⟩:=fk underlying9 h0;obtain⟨q,eq,wq⟩:=fk underlying9 h1;simp only[gK,jf]at eu eq;subst eu eq;refine⟨(u,q),rfl,rfl,?_,fun hL=>⟨wu (l0 hL),wq (l1 hL)⟩⟩;intro v hv;simp only[bE,bU,dL]at hv
 rcases hv with rfl|rfl<;>rfl
theorem DD{α β:Type}{f:β->α}:∀ {l:List α} {m:List β},ld (fun a b=>a=f b) l m->l=m.map f
 |_,_,.nil=>rfl
 |_,_,.cons h t=>by rw[cA, <-h,DD t]
instance:Inhabited (ai×ai):=⟨(.empty,.empty)⟩
theorem G9{x:DataW H×List MemPlace}(h:DataW.trod enc prog W 0 (fun _=>true) true fuel 27 cs=some x) :
  ∃(v:Value) (ps:List (ai×ai)),cs=[v]/\ez 2 W v (ps.map fun p=>[.string p.1,.string p.2])/\(oJ prog 27 x.1->ps.length*32<=reachBytes/\∀p∈ps,p.1.size<=reachBytes/\p.2.size<=reachBytes):=by
 obtain⟨v,css,bs,rfl,hr,hb,hs⟩:=DC (Q:=fun cs (b:ai×ai)=>cs=[.string b.1,.string b.2]) (S:=fun b=>b.1.size<=reachBytes/\b.2.size<=reachBytes) underlying27 zw ag (by kernel_rfl:prog.bytesOf 142=32) KH h;exact⟨v,bs,rfl,by rw[<-DD hb];exact hr,hs⟩
theorem Vp(h:x.length=22):(prog.info? 33).map (·.size)=some x.length:=by rw[h];kernel_rfl
theorem Vv(h:x.length=2):(prog.info? 142).map (·.size)=some x.length:=by rw[h];kernel_rfl
def adA(w:World)(p:a_->Bool)(xs:cX)(i:Value)(wr:World):Prop :=
 ∃k:Nat,k<=xs.length/\i=.int .i64 k/\(xs.take k).any p=false/\Fr aX w wr
theorem Hb(g:Nat)(cap:bW)(p:a_->Bool)(v:Value)(xs:cX)(w:World)(eg:∀args w,(callFunc g args).run prog w=.ok (.enter g args) w)(hp:hD aX w g cap p xs)(hv:ez 2 w v xs) :
  aE 98 #[v,.func (.func g) #[] cap] w fun e w'=>e=.returned (.int .i64 (lW p xs 0))/\Fr aX w w':=by
 obtain⟨av,cv,gi⟩:=hv.form;subst gi;have ec:=O hv.1;go_enter func98,ntmps98;go_wp2;go_loopw[8] (adA w p xs) (fun i _=>xs.length-(intOf i).toNat)
 case atStart=>exact⟨0,aW _,rfl,rfl,ae _ _⟩
 case round =>
  obtain⟨k,hk,rfl,hn,cR⟩:=hrel;have HN:=O hn;clear hn;by_cases fE:k<xs.length
  ·rcases(hv.i_ cR).2 with ⟨_,_,_,e,_⟩|⟨bk,of,c,hf,h1,h2,h3,h4⟩
   ·rw[e]at fE;exact absurd fE (ct _)
   ·cases hf;unfold maxLen at h2;have dT:=O (List.getElem?_eq_getElem fE);have hcell:=h4 k _ dT.o;have jc:=O (bQ fE);generalize xs[k]=x at dT hcell jc;have fF:=O (hp x jc.o wr cR);have lI:=(ec.o x jc.o).1;clear h4;cases rK:p x
    ·have p9:=O (any_take_succ dT.o HN.o rK);go_wp2_with (first|((with_reducible refine dt 15 ?_);refine bu rfl 142 (.tmp 14) rfl bk (of+k*2) rfl x _ hcell underlying142 rfl (Vv lI) ?_)|fail)
     refine fF.o.mono ?_;rintro e w1⟨rfl,dw⟩;rw[rK];go_wp2;go_roundw
     case rel=>exact⟨k+1,ab,bh,p9.o,cR.trans dw⟩
     case measure=>simp[intOf];omega
    ·have fl:=O (pR (i:=0) dT.o rK HN.o);go_wp2_with (first|((with_reducible refine dt 15 ?_);refine bu rfl 142 (.tmp 14) rfl bk (of+k*2) rfl x _ hcell underlying142 rfl (Vv lI) ?_)|fail)
     refine fF.o.mono ?_;rintro e w1⟨rfl,dw⟩;rw[rK];go_wp2;go_ret;rw[fl.o,bw];exact⟨rfl,cR.trans dw⟩
  ·have fl:=O (show lW p xs 0= -1 from kz (by have h:=HN.o;rw[aG ab]at h;exact h));go_wp2;go_ret;rw[fl.o];exact⟨rfl,cR⟩
theorem Bq(g:Nat)(cap:bW)(p:a_->Bool)(v:Value)(xs:cX)(w:World)(eg:∀args w,(callFunc g args).run prog w=.ok (.enter g args) w)(hp:hD aX w g cap p xs)(hv:ez 2 w v xs) :
  aE 66 #[v,.func (.func g) #[] cap] w fun e w'=>e=.returned (.bool (xs.any p))/\Fr aX w w':=by
 have hb:=O (tu p xs 0);go_enter func66,ntmps66;go_wp2_with fail
 refine(Hb g cap p v xs w eg hp hv).mono ?_;rintro e w1⟨rfl,dw⟩;go_wp2;go_ret;exact⟨fS hb.o,dw⟩
abbrev Bs:=aK
abbrev jn:=Bs×Bs
structure mW where
 scheme:Bs
 token:Bs
 params:List jn
def nW(c:UInt8):Bool:=dI c||c==44
def RS:aK:=[97,98,99,100,101,102,103,104,105,106,107,108,109,110,111,112,113,114,115,116,117,118,119,120,121,122,65,66,67,68,69,70,71,72,73,74,75,76,77,78,79,80,81,82,83,84,85,86,87,88,89,90,48,49,50,51,52,53,54,55,56,57,45,46,95,126,43,47]
def DT(c:UInt8):Bool:=RS.contains c
def kM(c:UInt8):Bool:=[61].contains c
def RT:Bs->Bool
 |[]=>true
 |c :: _=>c==44
def eU(r:Bs):Bs:=r.dropWhile dI
def ir(r:Bs):Bs:=r.dropWhile nW
def nK(r:Bs):Bool:=RT (eU r)
def gQ(r:Bs):Bs:=r.takeWhile fO
def ij(r:Bs):Bs:=r.dropWhile fO
def Ld(b:UInt8):Bs->Bool
 |[]=>false
 |c :: _=>c==b
def ll(r:Bs):Bool:=!(gQ r).isEmpty&&Ld 61 (eU (ij r))
def lM(r:Bs):Bs:=r.takeWhile DT
def nu(r:Bs):Bs:=(r.dropWhile DT).takeWhile kM
def rR(r:Bs):Bs:=(r.dropWhile DT).dropWhile kM
def singleR(r:Bs):Option (Bs×Bs):=if !(lM r).isEmpty&&nK (rR r)then some (lM r++nu r,eU (rR r))else none
def zK:Bs->Option (Bs×Bs)
 |[]=>none
 |c :: t=>if c==34 then uY t else none
def pj(r:Bs):Option (Bs×Bs):=if(gQ r).isEmpty then zK r else some (gQ r,ij r)
def nv(r:Bs):Bs:=eU ((eU (ij r)).drop 1)
def tP(ps:List jn)(n:Bs):Bool:=ps.any fun q=>dH q.1 n
def kG(ps:List jn)(r:Bs):Except Nat (jn×Bs) :=
 if !ll r then .error 3 else
 match pj (nv r)with
 |none=>.error 3
 |some q=>if tP ps (gQ r)then .error 9 else if ps.length=16 then .error 4 else .ok ((gQ r,q.1),q.2)
def gL:Nat->List jn->Bs->Except Nat (List jn×Bs)
 |0,ps,r=>.ok (ps,r)
 |f+1,ps,r =>
  match kG ps r with
  | .error e=>.error e
  | .ok (p,r1)=>if nK r1 then(if ll (ir r1)then gL f (ps++[p]) (ir r1)else .ok (ps++[p],ir r1))else .error 3
def pk:Bs->Bool
 |[]=>false
 |c :: _=>dI c
def oQ(k:Nat)(r:Bs):Except Nat (mW×Bs) :=
 if(gQ r).isEmpty then .error 3
 else if k=8 then .error 4
 else if nK (ij r)then .ok (⟨gQ r,[],[]⟩,eU (ij r))
 else if !pk (ij r)then .error 3
 else match singleR (eU (ij r))with
  |some q=>.ok (⟨gQ r,q.1,[]⟩,q.2)
  |none=>match gL ((eU (ij r)).length+1) [] (eU (ij r))with
   | .error e=>.error e
   | .ok q=>.ok (⟨gQ r,[],q.1⟩,q.2)
def jV:Nat->List mW->Bs->Except Nat (List mW)
 |0,acc,_=>.ok acc
 |f+1,acc,r =>
  if(ir r).isEmpty then .ok acc else
  match oQ acc.length (ir r)with
  | .error e=>.error e
  | .ok (x,r1)=>jV f (acc++[x]) r1
def ma(l:Bs):Except Nat (List mW):=if 3000<l.length then .error 4 else jV (l.length+1) [] l
theorem pK(p:UInt8->Bool)(r:Bs):(r.dropWhile p).length<=r.length:=(iM p).length_le
theorem ln(r:Bs):(eU r).length<=r.length:=pK _ r
theorem om(r:Bs):(ir r).length<=r.length:=pK _ r
theorem pn(p:UInt8->Bool)(r:Bs):(r.takeWhile p).length+(r.dropWhile p).length=r.length:=by
 rw[<-aM,List.takeWhile_append_dropWhile]
theorem qN(r:Bs):(gQ r).length+(ij r).length=r.length:=pn _ r
theorem Eo{r:Bs}(h:(gQ r).isEmpty=false):(ij r).length<r.length:=by
 have h1:=qN r;cases e:gQ r with
 |nil=>rw[e]at h;cases h
 |cons c t=>rw[e]at h1;simp at h1;omega
theorem aaR{r a z:Bs}(h:uY r=some (a,z)):a.length+z.length+1<=r.length:=FN _ r a z (az _) h
theorem OG{r a z:Bs}(h:zK r=some (a,z)):a.length+z.length+2<=r.length:=by
 cases r with
 |nil=>cases h
 |cons c t =>
  have h':(if c==34 then uY t else none)=some (a,z):=h;by_cases hc:(c==34)=true
  ·rw[aB hc]at h';have:=aaR h';simp;omega
  ·rw[ay hc]at h';cases h'
theorem OH{r a z:Bs}(h:pj r=some (a,z)):a.length+z.length<=r.length:=by
 unfold pj at h;split at h
 ·have:=OG h;omega
 ·cases h;have:=qN r;omega
theorem Lf(r:Bs):(nv r).length<=(ij r).length:=by
 unfold nv;have h1:=ln ((eU (ij r)).drop 1);have h2:=ln (ij r);have h3:((eU (ij r)).drop 1).length<=(eU (ij r)).length:=aS;omega
theorem Aw{r:Bs}(h:ll r=true):(gQ r).isEmpty=false:=by
 unfold ll at h;simp only[cF,Bool.not_eq_true']at h;exact h.1
theorem BU{r:Bs}(h:ll r=true):(nv r).length+2<=r.length:=by
 have hw:=Eo (Aw h);unfold ll at h;simp only[cF]at h;have h2:=h.2;unfold nv;have h3:=ln (ij r);cases e:eU (ij r)with
 |nil=>rw[e]at h2;cases h2
 |cons c t =>
  rw[e]at h3;have h4:=ln ((c :: t).drop 1);simp at h3 h4 ⊢; omega
theorem sW{ps:List jn}{r:Bs}{p:jn}{z:Bs}(h:kG ps r=.ok (p,z)):p.1.length+p.2.length+z.length<r.length:=by
 unfold kG at h;by_cases hn:ll r=true
 ·rw[ay (by simp[hn])]at h;have h1:=BU hn;have h0:=Lf r;have hw:=qN r;cases hv:pj (nv r)with
  |none=>rw[hv]at h;cases h
  |some q =>
   rw[hv]at h;simp only at h;split at h
   ·cases h
   ·split at h
    ·cases h
    ·cases h;have:=OH (a:=q.1) (z:=q.2) hv;unfold ll at hn;simp only[cF]at hn;have h2:=hn.2;have h5:(nv r).length+1<=(ij r).length:=by
      unfold nv;have h3:=ln (ij r);cases e:eU (ij r)with
      |nil=>rw[e]at h2;cases h2
      |cons c t =>
       rw[e]at h3;have h4:=ln ((c :: t).drop 1);simp at h3 h4 ⊢; omega
     simp only;omega
 ·rw[aB (by simpa using hn)]at h;cases h
theorem tQ:∀(f:Nat) (ps:List jn) (r:Bs),r.length<f->gL f ps r=gL (r.length+1) ps r
 |0,_,_,h=>absurd h (ct _)
 |f+1,ps,r,h=>by
  rw[gL,gL];cases hp:kG ps r with
  |error e=>rfl
  |ok q =>
   obtain⟨p,r1⟩:=q;have hl:=sW hp;have hg:=om r1;simp only;split
   ·split
    ·rw[tQ f _ _ ab,tQ r.length _ _ ab]
    ·rfl
   ·rfl
theorem BV:∀(f:Nat) (ps:List jn) (r:Bs) (q:List jn×Bs),gL f ps r=.ok q->q.2.length<=r.length
 |0,ps,r,q,h=>by rw[gL]at h;cases h;exact az _
 |f+1,ps,r,q,h=>by
  rw[gL]at h;cases hp:kG ps r with
  |error e=>rw[hp]at h;cases h
  |ok p =>
   rw[hp]at h;obtain⟨p,r1⟩:=p;have hl:=sW hp;have hg:=om r1;simp only at h;split at h
   ·split at h
    ·have:=BV f _ _ q h;omega
    ·cases h;simp only;omega
   ·cases h
theorem BW{r t z:Bs}(h:singleR r=some (t,z)):t.length+z.length<=r.length:=by
 unfold singleR at h;split at h
 ·cases h;have h1:=pn DT r;have h2:=pn kM (r.dropWhile DT);have h3:=ln (rR r);unfold rR at h3 ⊢;unfold lM nu;rw[aM];omega
 ·cases h
theorem Bu{r:Bs}{x:mW}{z:Bs}(h:oQ k r=.ok (x,z)):z.length<r.length:=by
 unfold oQ at h;split at h
 ·cases h
 rename_i hw;have hw':(gQ r).isEmpty=false:=by simpa using hw
 have h1:=Eo hw';have h2:=ln (ij r);split at h
 ·cases h
 split at h
 ·cases h;omega
 split at h
 ·cases h
 split at h
 ·rename_i q hq;cases h;have:=BW (t:=q.1) (z:=q.2) hq;omega
 ·split at h
  ·cases h
  ·rename_i q hq;cases h;have:=BV _ _ _ _ hq;omega
theorem pL:∀(f:Nat) (acc:List mW) (r:Bs),r.length<f->jV f acc r=jV (r.length+1) acc r
 |0,_,_,h=>absurd h (ct _)
 |f+1,acc,r,h=>by
  rw[jV,jV];split
  ·rfl
  ·cases ho:oQ acc.length (ir r)with
   |error e=>rfl
   |ok q =>
    obtain⟨x,r1⟩:=q;have h1:=Bu ho;have h2:=om r;simp only;rw[pL f _ _ ab,pL r.length _ _ ab]
theorem rS(r:Bs):ir (ir r)=ir r:=by
 refine ve (fun c hc=>?_);have:=List.head?_dropWhile_not nW r;unfold ir at hc;rw[hc]at this;simpa using this
theorem A_(r:Bs):eU (eU r)=eU r:=by
 refine ve (fun c hc=>?_);have:=List.head?_dropWhile_not dI r;unfold eU at hc;rw[hc]at this;simpa using this
theorem FP(r:Bs):nK (eU r)=nK r:=by unfold nK;rw[A_]
theorem tR:∀r:Bs,ir (eU r)=ir r
 |[]=>rfl
 |c :: t=>by
  cases h:dI c
  ·have:eU (c :: t)=c :: t:=by unfold eU;rw[List.dropWhile_cons_of_neg (by simp[h])]
   rw[this]
  ·have e1:eU (c :: t)=eU t:=by unfold eU;rw[List.dropWhile_cons_of_pos h]
   have e2:ir (c :: t)=ir t:=by unfold ir;rw[List.dropWhile_cons_of_pos (by simp[nW,h])]
   rw[e1,e2,tR t]
theorem Ax(f:Nat)(acc:List mW){r r':Bs}(h:ir r=ir r'):jV (f+1) acc r=jV (f+1) acc r':=by
 rw[jV,jV,h]
def Iy(c:UInt8):Bool:=decide (48<=c.toNat/\c.toNat<=57)
theorem Iz{c:UInt8}:Iy c=true↔48<=c.toNat/\c.toNat<=57:=by unfold Iy;simp
def DU:ai:=⟨#[48,49,50,51,52,53,54,55,56,57]⟩
theorem Li:∀b∈DU.data.toList,b.toNat<128:=cZ
theorem R0:∀n:Fin 256,DU.data.toList.contains n.val.toUInt8=Iy n.val.toUInt8:=cZ
theorem OI(c:UInt8):DU.data.toList.contains c=Iy c:=by
 have h:=R0 ⟨c.toNat,c.toNat_lt⟩;simpa using h
theorem IA(l:aK):l.all (DU.data.toList.contains ·)=l.all Iy:=by
 congr 1;funext c;exact OI c
def yp(n:Int)(c:UInt8):Int:=min (n*10+((c.toNat:Int)-48)) 2147483648
def yq(l:aK):Int:=l.foldl yp 0
def oq(l:aK):Bool:=!l.isEmpty&&l.all Iy
theorem OJ{l:aK}{x:UInt8}(h:l[k]?=some x):yq (l.take (k+1))=yp (yq (l.take k)) x:=by
 rw[cD,h];simp[yq]
theorem xt:∀(l:aK) (n:Int),l.all Iy=true->0<=n->n<=2147483648->0<=l.foldl yp n/\l.foldl yp n<=2147483648
 |[],n,_,h0,h1=>⟨h0,h1⟩
 |c :: l,n,h,h0,h1=>by
  rw[List.all_cons,cF]at h;have hc:=Iz.1 h.1;rw[List.foldl_cons];refine xt l _ h.2 ?_ ?_<;>(unfold yp;omega)
def rU(s:ai)(w:World)(e:Ending)(w':World):Prop :=
 e=.returned (.tuple (if oq s.data.toList then #[.int .i64 (yq s.data.toList),.nilIface]else #[.int .i64 0,.iface 82 (.int .i64 3)]))/\Fr aX w w'
theorem rU.ok(h:rU s w e w')(hd:oq s.data.toList=true):e=.returned (.tuple #[.int .i64 (yq s.data.toList),.nilIface])/\Fr aX w w':=by
 obtain⟨he,hf⟩:=h;rw[hd]at he;exact⟨he,hf⟩
theorem rU.no(h:rU s w e w')(hd:oq s.data.toList=false):e=.returned (.tuple #[.int .i64 0,.iface 82 (.int .i64 3)])/\Fr aX w w':=by
 obtain⟨he,hf⟩:=h;rw[hd]at he;exact⟨he,hf⟩
def aaW(s:ai)(w:World)(n i:Value)(wr:World):Prop:=∃k:Nat,k<=s.size/\i=.int .i64 k/\n=.int .i64 (yq (s.data.toList.take k))/\Fr aX w wr
theorem IB(s:ai)(w:World)(hs:s.size<17592186044416) :
  aE 197 #[.string s] w (rU s w):=by
 by_cases h0:s.size=0
 ·have IC:=gN.2 h0;have hd:=O (show oq s.data.toList=false by rw[IC];rfl);have he:s.toList.isEmpty=true:=by rw[aN,IC];rfl
  have he':s.toList=[]:=by rw[aN,IC]
  clear IC;go_enter func197,ntmps197;go_wp2;go_ret2;unfold rU;rw[hd.o];exact⟨rfl,ae _ _⟩
 ·have hne:s.data.toList≠ []:=fun h=>h0 (gN.1 h);have he:s.toList.isEmpty=false:=by rw[aN];simpa using hne
  have he':¬s.toList=[]:=by rw[aN];exact hne
  have TR:=O (rT s DU w ab ag ag Li);cases iH:s.data.toList.all Iy
  ·have hd:=O (show oq s.data.toList=false by unfold oq;rw[iH];simp);have Nx:=O (show Lib.trimS s.data.toList DU.data.toList≠ []from fun h=>by rw[v8,IA,iH]at h;cases h);clear iH hne;go_enter func197,ntmps197;go_wp2_with fail
   refine TR.o.mono ?_;rintro e w1⟨rfl,dw⟩;have t1:¬(⟨(Lib.trimS s.data.toList DU.data.toList).toArray⟩:ai).toList=[]:=by rw[aN];simpa using Nx.o
   have t2:(⟨(Lib.trimS s.data.toList DU.data.toList).toArray⟩:ai).toList.isEmpty=false:=by rw[aN];simpa using Nx.o
   generalize (⟨(Lib.trimS s.data.toList DU.data.toList).toArray⟩:ai)=z at *
   go_wp2;go_ret2;unfold rU;rw[hd.o];exact⟨rfl,dw⟩
  ·have hd:=O (show oq s.data.toList=true by unfold oq;rw[iH];simpa using hne);have Nx:=O (show Lib.trimS s.data.toList DU.data.toList=[]by rw[v8,IA,iH]);have Ik:=O iH;clear iH hne;go_enter func197,ntmps197;go_wp2_with fail
   refine TR.o.mono ?_;rintro e w1⟨rfl,dw⟩;rw[Nx.o];clear TR;go_wp2;go_loopw[4,16] (aaW s w) (fun _ i _=>s.size-(intOf i).toNat)
   case atStart=>exact⟨0,aW _,rfl,rfl,dw⟩
   case round =>
    obtain⟨k,hk,rfl,rfl,cR⟩:=hrel;have hr:=xt (s.data.toList.take k) 0 (by rw[fY];exact fun x hx=>fY.1 Ik.o x (eL hx)) ab ab;change 0<=yq (s.data.toList.take k)/\yq (s.data.toList.take k)<=2147483648 at hr;obtain⟨r0,r1⟩:=hr;by_cases fE:k<s.size
    ·have dT:=byte_at s k fE;have Zi:=Iz.1 (fY.1 Ik.o _ (cL dT));have He:=O (OJ dT);generalize hx:s[k]=x at dT Zi He;obtain⟨d0,d1⟩:=Zi;clear dT;generalize yq (s.data.toList.take k)=n at *
     go_wp2;go_roundw
     case rel=>exact⟨k+1,ab,bh,by rw[He.o];rfl,cR⟩
     case measure=>simp[intOf];omega
    ·have fl:=O (show yq (s.data.toList.take k)=yq s.data.toList by rw[aG bH]);go_wp2;go_ret2;unfold rU;rw[hd.o, <-fl.o];exact⟨rfl,cR⟩
def Et(s:ai):Bool:=s.data.toList.all fun c=>!jW c
def qY:List ai:=[⟨#[97,112,112,108,105,99,97,116,105,111,110,47,120,45,119,119,119,45,102,111,114,109,45,117,114,108,101,110,99,111,100,101,100]⟩,⟨#[109,117,108,116,105,112,97,114,116,47,102,111,114,109,45,100,97,116,97]⟩,⟨#[116,101,120,116,47,112,108,97,105,110]⟩]
def rX(s:ai)(c:UInt8):ai:=if 0<=Lib.indexByte s.data.toList c then s.extract 0 (Lib.indexByte s.data.toList c).toNat else s
def Eu(s:ai):ai:=⟨(mX (Lib.trimS (rX s 59).data.toList [32,9])).toArray⟩
def lK(name value:ai):Bool :=
 if 128<value.size then false
 else if mX name.data.toList=[97,99,99,101,112,116]then Et value
 else if mX name.data.toList=[97,99,99,101,112,116,45,108,97,110,103,117,97,103,101]then vo value
 else if mX name.data.toList=[99,111,110,116,101,110,116,45,108,97,110,103,117,97,103,101]then vo value
 else if mX name.data.toList=[99,111,110,116,101,110,116,45,116,121,112,101]then Et value&&Lib.containsS qY (Eu value)
 else false
theorem tS(p:UInt8->Bool):∀l:aK,(l.dropWhile p).length<=l.length
 |[]=>az _
 |a :: l=>by
  rw[List.dropWhile_cons];split
  ·exact Nat.le_succ_of_le (tS p l)
  ·exact az _
theorem IE(l cs:aK):(Lib.trimS l cs).length<=l.length:=by
 unfold Lib.trimS Lib.trimLeftS Lib.trimRightS;refine aH (tS _ _) ?_;rw[List.length_reverse];refine aH (tS _ _) ?_;rw[List.length_reverse];exact az _
def aeN(s:ai)(w:World)(b i:Value)(wr:World):Prop:=∃k:Nat,k<=s.size/\i=.int .i64 k/\b=.bool ((s.data.toList.take k).all fun c=>!jW c)/\Fr aX w wr
theorem OK(name value:ai)(w:World)(hn:name.size<100000)(hv:value.size<100000) :
  aE 182 #[.agg #[.string name,.string value]] w fun e w'=>e=.returned (.bool (lK name value))/\Fr aX w w':=by
 obtain⟨wb,jP⟩:∃wb,wb=w.alloc (.cells #[.string name,.string value] 142):=⟨_,rfl⟩;have kf:Fr aX w wb:=by rw[jP];exact(ae aX w).alloc _
 have l_:wb.heap[w.heap.size]?=some (.cells #[.string name,.string value] 142 (0,0)):=by rw[jP];exact aC _ _
 have HC:=O (show∀U,Fr aX wb U->U.cell? ⟨w.heap.size,0,none⟩=some (.string name)/\U.cell? ⟨w.heap.size,1,none⟩=some (.string value)from fun U hU=>by
  have j1:=hU.keep l_ id;simp[World.cell?,j1])
 have qB:=O jP;have lV:=O kf;clear jP kf l_;by_cases aeO:128<value.size
 ·have HP:=O (show lK name value=false by unfold lK;rw[aB aeO]);have i128:(128:Int)<(value.size:Int):=ab;go_enter func182,ntmps182;go_wp2;rw[<-qB.o];go_ret;exact⟨by rw[HP.o];rfl,lV.o⟩
 ·have HP:=O (show lK name value=if mX name.data.toList=[97,99,99,101,112,116]then Et value
 else if mX name.data.toList=[97,99,99,101,112,116,45,108,97,110,103,117,97,103,101]then vo value
 else if mX name.data.toList=[99,111,110,116,101,110,116,45,108,97,110,103,117,97,103,101]then vo value
 else if mX name.data.toList=[99,111,110,116,101,110,116,45,116,121,112,101]then Et value&&Lib.containsS qY (Eu value)
 else false by unfold lK;rw[ay aeO])
  have i128:¬(128:Int)<(value.size:Int):=ab;go_enter func182,ntmps182;go_wp2;rw[<-qB.o];go_loopw[3,15] (aeN value wb) (fun _ i _=>value.size-(intOf i).toNat)
  case atStart=>exact⟨0,ab,rfl,rfl,ae _ _⟩
  case round =>
   obtain⟨k,hk,rfl,rfl,cR⟩:=hrel;obtain⟨c0,c1⟩:=HC.o wr cR;by_cases fE:k<value.size
   ·have qm:(k:Int)<(value.size:Int):=ab;have qC:=byte_at value k fE;have mC:=O (show((value.data.toList.take (k+1)).all fun c=>!jW c)=(((value.data.toList.take k).all fun c=>!jW c)&&!jW value[k])by rw[cD,qC,jO];simp);clear qC;cases hb:(value.data.toList.take k).all fun c=>!jW c
    ·have Q4:=O (show((value.data.toList.take (k+1)).all fun c=>!jW c)=false by rw[mC.o,hb];rfl);clear hb;go_wp2;go_roundw
     case rel=>exact⟨k+1,ab,bh,by rw[Q4.o],cR⟩
     case measure=>simp[intOf];omega
    ·have Q4:=O (show((value.data.toList.take (k+1)).all fun c=>!jW c)=!jW value[k]by rw[mC.o,hb];rfl);clear hb;go_wp2_with fail
     refine(Lk value[k] _).mono ?_;rintro e u⟨rfl,rfl⟩;go_wp2;go_roundw
     case rel=>exact⟨k+1,ab,bh,by rw[Q4.o],cR⟩
     case measure=>simp[intOf];omega
   ·have qm:¬(k:Int)<(value.size:Int):=ab;rw[show((value.data.toList.take k).all fun c=>!jW c)=Et value from by rw[aG bH];rfl];generalize Et value=sf at *
    go_wp2_with fail
    refine(qM name wr ab).mono ?_;rintro e u1⟨rfl,dw⟩;have lA:=O (cR.trans dw);clear dw c0 c1;obtain⟨c0,c1⟩:=HC.o u1 lA.o;generalize mX name.data.toList=nl at *
    by_cases a1:nl=[97,99,99,101,112,116]
    ·subst a1;have HE:=O (show lK name value=sf by rw[HP.o,aB rfl]);go_wp2;go_ret;exact⟨by rw[HE.o];rfl,lV.o.trans lA.o⟩
    have HP1:=O (by have h:=HP.o;rw[ay a1]at h;exact h);have b1:(nl== [97,99,99,101,112,116])=false:=aL.2 a1;by_cases a2:nl=[97,99,99,101,112,116,45,108,97,110,103,117,97,103,101]
    ·subst a2;have HE:=O (show lK name value=vo value by rw[HP1.o,aB rfl]);clear b1 a1;go_wp2_with fail
     refine(yt value u1 hv).mono ?_;rintro e u2⟨rfl,dF⟩;go_wp2;go_ret;exact⟨by rw[HE.o];rfl,lV.o.trans (lA.o.trans dF)⟩
    have HP2:=O (by have h:=HP1.o;rw[ay a2]at h;exact h);have b2:(nl== [97,99,99,101,112,116,45,108,97,110,103,117,97,103,101])=false:=aL.2 a2;by_cases a3:nl=[99,111,110,116,101,110,116,45,108,97,110,103,117,97,103,101]
    ·subst a3;have HE:=O (show lK name value=vo value by rw[HP2.o,aB rfl]);clear b1 a1 b2 a2;go_wp2_with fail
     refine(yt value u1 hv).mono ?_;rintro e u2⟨rfl,dF⟩;go_wp2;go_ret;exact⟨by rw[HE.o];rfl,lV.o.trans (lA.o.trans dF)⟩
    have HP3:=O (by have h:=HP2.o;rw[ay a3]at h;exact h);have b3:(nl== [99,111,110,116,101,110,116,45,108,97,110,103,117,97,103,101])=false:=aL.2 a3;by_cases a4:nl=[99,111,110,116,101,110,116,45,116,121,112,101]
    ·subst a4;have HE:=O (show lK name value=(sf&&Lib.containsS qY (Eu value))by rw[HP3.o,aB rfl]);clear b1 a1 b2 a2 b3 a3;have FV:=O (show aE 133 #[.string value,.string ⟨#[59]⟩] u1 fun e w'=>(∃r f,e=.returned (.tuple #[.string (rX value 59),.string r,.bool f]))/\Fr aX u1 w' by
      by_cases hc:0<=Lib.indexByte value.data.toList 59
      ·obtain⟨i,hi⟩:∃i:Nat,Lib.indexByte value.data.toList 59=(i:Int):=⟨(Lib.indexByte value.data.toList 59).toNat,ab⟩;have hl:i<value.size:=by
        have h:=(Lib.indexByte_some hi).1;have:=(List.getElem?_eq_some_iff.1 h).1;simpa using this
       refine(ID value 59 i u1 ab hi hl).mono ?_;rintro e w'⟨rfl,n,rfl⟩;refine⟨⟨value.extract (i+1) value.size,true,?_⟩,(ae aX u1).drewN n⟩;unfold rX;rw[aB hc,hi];rfl
      ·refine(Es value 59 u1 hc).mono ?_;rintro e w'⟨rfl,rfl⟩;refine⟨⟨⟨#[]⟩,false,?_⟩,ae _ _⟩;unfold rX;rw[ay hc])
     have hbz:(rX value 59).size<=value.size:=by
      unfold rX;split
      ·simp[fZ];omega
      ·exact az _
     have HKB:=O (show Eu value=⟨(mX (Lib.trimS (rX value 59).data.toList [32,9])).toArray⟩from rfl);generalize rX value 59=bv at *
     go_wp2_with fail
     refine FV.o.mono ?_;rintro e u2⟨⟨r,f,rfl⟩,dF⟩;have fR:=O (lA.o.trans dF);clear FV dF;go_wp2_with fail
     refine(rT bv ⟨#[32,9]⟩ u2 ab ag ag ag).mono ?_;rintro e u3⟨rfl,iG⟩;have il:=O (fR.o.trans iG);clear iG;have OL:=IE bv.data.toList [32,9];have hbs:bv.data.toList.length=bv.size:=aS;rw[show(⟨#[32,9]⟩:ai).data.toList=[32,9]from rfl];generalize Lib.trimS bv.data.toList [32,9]=tl at *
     have VM:(⟨tl.toArray⟩:ai).size<17592186044416:=by show tl.toArray.size<_;simp;omega
     go_wp2_with fail
     refine(qM ⟨tl.toArray⟩ u3 VM).mono ?_;rintro e u4⟨rfl,kH⟩;have jN:=O (il.o.trans kH);rw[show(⟨(mX (⟨tl.toArray⟩:ai).data.toList).toArray⟩:ai)=Eu value from by rw[HKB.o]];clear kH OL VM hbs;generalize Eu value=kv at *
     cases sf
     ·go_wp2;go_ret;exact⟨by rw[HE.o];rfl,lV.o.trans (bF jN.o (by repeat(first|exact ae _ _|apply bq)))⟩
     ·have HCO:=O (slices_Contains_string u4.heap.size 0 3 3 qY kv (u4.alloc (.cells (qY.map Value.string).toArray 9)) (aZ rfl) (aZ rfl) (fun j hj=>by
       have h:=aC u4 (.cells (qY.map Value.string).toArray 9);have e:(qY.map Value.string)[j]?=some (.string (qY.getD j ByteArray.empty)):=by rw[List.getElem?_map,List.getElem?_eq_getElem hj,List.getD_eq_getElem?_getD,List.getElem?_eq_getElem hj];rfl
       rw[bw];simp only[World.cell?,h];simpa using e))
      have wR:=O (show Fr aX wb (u4.alloc (.cells (qY.map Value.string).toArray 9))from jN.o.alloc _);go_wp2_with fail
      refine HCO.o.mono ?_;rintro e u5⟨rfl,rfl⟩;rw[show qY.take 3=qY from rfl];go_wp2;go_ret;exact⟨by rw[HE.o];rfl,lV.o.trans wR.o⟩
    have b4:(nl== [99,111,110,116,101,110,116,45,116,121,112,101])=false:=aL.2 a4;have HE:=O (show lK name value=false by rw[HP3.o,ay a4]);go_wp2;go_ret;exact⟨by rw[HE.o];rfl,lV.o.trans lA.o⟩
theorem fQ(w:World)(t:TypeId)(ss:List ai)(hl:ss.length<=maxLen):ig (w.alloc (.cells (ss.map Value.string).toArray t)) (.slice (some ⟨w.heap.size,0,none⟩) ss.length ss.length) ss:=by
 refine Or.inr ⟨w.heap.size,0,ss.length,rfl,az _,hl,aS,fun j x hj=>?_⟩;rw[bw];simp only[World.cell?,aC];simp[hj]
def ku(ss:List ai):aK:=Lib.join (ss.map (·.data.toList)) [58]
def ko(LB:Bool)(ss:List ai):ai:=if LB then⟨(Jd (ku ss)).toArray⟩else⟨(Ja (ku ss)).toArray⟩
theorem Xg(l:aK):(Ja l).length=32:=by unfold Ja ox;rw[Cl,nN];rfl
theorem Xh(l:aK):(Jd l).length=64:=by unfold Jd ox;rw[Cl,nN];rfl
theorem lo(LB:Bool)(ss:List ai):(ko LB ss).size<=64:=by
 unfold ko;cases LB
 ·show(Ja _).toArray.size<=64;simp[Xg]
 ·show(Jd _).toArray.size<=64;simp[Xh]
def sK(fI:Int)(w:World):Prop:=∀(v:Value) (ss:List ai) (W:World),Fr aX w W->ig W v ss->ss.length<=100000->(ku ss).length<=100000 ->
  aE 160 #[.int .i64 fI,v] W fun e w'=>e=.returned (.string (ko (decide (fI=3)) ss))/\Fr aX W w'
theorem sK.fr{fI:Int}(h:sK fI w)(hf:Fr aX w w'):sK fI w':=fun v ss W hW=>h v ss W (hf.trans hW)
theorem Je(v:Value)(ss:List ai)(w:World)(hv:ig w v ss)(hn:ss.length<=100000)(hlen:(ku ss).length<=100000) :
  aE 206 #[v,.string ⟨#[58]⟩] w fun e w'=>e=.returned (.string ⟨(ku ss).toArray⟩)/\Fr aX w w':=by
 rcases hv with ⟨a,c,rfl,rfl,_⟩|⟨bk,o,c,rfl,h1,h2,h3,h4⟩
 ·exact(strings_Join_none _ _ _ _).mono (by rintro e w1 ⟨rfl,rfl⟩;exact⟨rfl,ae _ _⟩)
 ·exact(strings_Join bk o c ss ⟨#[58]⟩ w h4 h3 ab h1 (by unfold ku at hlen;show(Lib.join _ [58]).length<=_;omega)).mono (by rintro e w1 ⟨rfl,hb⟩;exact⟨rfl,fe hb⟩)
theorem Xi(fI:Int)(h3:fI≠3)(w:World)(ht:tY w):sK fI w:=by
 intro v ss W hW hv hn hlen;have hT:=O (ht.fr hW);clear ht;have HJ:=O (Je v ss W hv hn hlen);clear hv;have hz:(⟨(ku ss).toArray⟩:ai).size<4398046511104:=by show(ku ss).toArray.size<_;simp;omega
 have HB:=O (show ko (decide (fI=3)) ss=⟨(Ja (ku ss)).toArray⟩from by rw[bf h3];rfl);generalize ku ss=tx at *
 clear hW;go_enter func160,ntmps160;go_wp2_with fail
 refine HJ.o.mono ?_;rintro e u1⟨rfl,dw⟩;go_wp2_with fail
 refine(Xd ⟨tx.toArray⟩ u1 hz (hT.o.fr dw)).mono ?_;rintro e u2⟨rfl,dF⟩;go_wp2;go_ret;exact⟨(ar (fun b=>Ending.returned (.string b)) HB.o).symm,dw.trans dF⟩
