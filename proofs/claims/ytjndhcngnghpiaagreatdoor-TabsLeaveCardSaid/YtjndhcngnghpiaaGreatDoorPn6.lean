/- Lemmas for the law's walk. -/
import Derived.Test.YtjndhcngnghpiaaGreatDoorPn4
set_option maxRecDepth 100000
set_option maxHeartbeats 16000000
set_option linter.unusedSimpArgs false
namespace Go.Proofs.YtjndhcngnghpiaaGreatDoor
open Go.Proofs.Tryz
open Go.RowKit
variable {x cs:aX} {fuel k g:Nat} {s:aj} {w w' W:World} {e:Ending} {laid:List (String×DataW Unit)}
abbrev XN:bS:= #[.bool false,.string ⟨#[]⟩,.int .i64 0,.int .i64 0]
theorem P5:∀v∈XN.toList,v.oneCell'=true:=dt
theorem N5(h:x.length=4):(prog.info? 105).map (·.size)=some x.length:=by rw[h];kernel_rfl
def aer(w:World)(p:aX->Bool)(xs:cY)(i:Value)(wr:World):Prop :=
 ∃k:Nat,k<=xs.length/\i=.int .i64 k/\(xs.take k).any p=false/\Fr aS w wr
theorem zN(g:Nat)(cap:bS)(p:aX->Bool)(v:Value)(xs:cY)(w:World)(eg:∀args w,(callFunc g args).run prog w=.ok (.enter g args) w)(hp:gL aS w g cap p xs)(hv:dV 4 w v xs) :
  aB 199 #[v,.func (.func g) #[] cap] w fun e w'=>e=.returned (.int .i64 (lQ p xs 0))/\Fr aS w w':=by
 obtain⟨av,cv,fH⟩:=hv.form;subst fH;have dX:=O hv.1;go_enter func199,ntmps199;go_wp2;go_loopw[8] (aer w p xs) (fun i _=>xs.length-(intOf i).toNat)
 case atStart=>exact⟨0,aQ _,rfl,rfl,ae _ _⟩
 case round =>
  obtain⟨k,hk,rfl,hn,cL⟩:=hrel;have HN:=O hn;clear hn;by_cases fk:k<xs.length
  ·rcases(hv.fG cL).2 with ⟨_,_,_,e,_⟩|⟨bk,of,c,hf,h1,h2,h3,h4⟩
   ·rw[e]at fk;exact absurd fk (cq _)
   ·cases hf;unfold maxLen at h2;have dP:=O (List.getElem?_eq_getElem fk);have hcell:=h4 k _ dP.o;have iw:=O (bM fk);generalize xs[k]=x at dP hcell iw;have fB:=O (hp x iw.o wr cL);have lp:=(dX.o x iw.o).1;clear h4;cases qy:p x
    ·have pV:=O (any_take_succ dP.o HN.o qy);go_wp2_with (first|((with_reducible refine dk 15 ?_);refine a_ rfl 105 (.tmp 14) rfl bk (of+k*4) rfl x _ hcell underlying105 rfl (N5 lp) ?_)|fail)
     refine fB.o.mono ?_;rintro e w1⟨rfl,dn⟩;rw[qy];go_wp2;go_roundw
     case rel=>exact⟨k+1,ab,bg,pV.o,cL.trans dn⟩
     case measure=>simp[intOf];omega
    ·have fe:=O (oK (i:=0) dP.o qy HN.o);go_wp2_with (first|((with_reducible refine dk 15 ?_);refine a_ rfl 105 (.tmp 14) rfl bk (of+k*4) rfl x _ hcell underlying105 rfl (N5 lp) ?_)|fail)
     refine fB.o.mono ?_;rintro e w1⟨rfl,dn⟩;rw[qy];go_wp2;go_ret;rw[fe.o,bw];exact⟨rfl,cL.trans dn⟩
  ·have fe:=O (show lQ p xs 0= -1 from kh (by have h:=HN.o;rw[aD ab]at h;exact h));go_wp2;go_ret;rw[fe.o];exact⟨rfl,cL⟩
def aes(b:Nat)(w:World)(bk cap:Nat)(p:aX->Bool)(xs:cY)(i j:Value)(wr:World):Prop :=
 ∃(m n:Nat) (ys:cY),i=.int .i64 m/\j=.int .i64 n/\m<n/\n<=xs.length/\ys.length=xs.length/\OwnRows b 105 4 wr (.slice (some ⟨bk,0,none⟩) xs.length cap) ys /\
  ys.take m=(xs.take n).filter (fun x=>!p x)/\ys.drop n=xs.drop n/\Fr (one bk) w wr
theorem zO{p:aX->Bool}:∀ {l:cY} (i:Nat),l.any p=true->∃k x,l[k]?=some x/\p x=true/\(l.take k).any p=false/\lQ p l i=((i+k:Nat):Int)
 |[],_,h=>by simp at h
 |a :: l,i,h=>by
  cases ha:p a
  ·rw[List.any_cons,ha,jE]at h;obtain⟨k,x,h1,h2,h3,h4⟩:=zO (i+1) h;refine⟨k+1,x,by simpa using h1,h2,by simp[ha,h3],?_⟩;rw[lQ,ha];simp only[cJ,eV];rw[h4];congr 1;omega
  ·exact⟨0,a,rfl,ha,rfl,by rw[lQ,ha];simp⟩
theorem zP{p:aX->Bool}{l:cY}(h:l.any p=false):l.filter (fun x=>!p x)=l:=by
 rw[List.filter_eq_self];intro a ha;have:=eX.1 h a ha;simpa using this
theorem E'(b:Nat)(g:Nat)(cap:bS)(p:aX->Bool)(v:Value)(xs:cY)(w:World)(eg:∀args w,(callFunc g args).run prog w=.ok (.enter g args) w)(hp:gL (own v) w g cap p xs)(hv:OwnRows b 105 4 w v xs) :
  aB 147 #[v,.func (.func g) #[] cap] w fun e w'=>∃a c,e=.returned (.slice a (xs.filter (fun x=>!p x)).length c)/\OwnRows b 105 4 w' (.slice a (xs.filter (fun x=>!p x)).length c) (xs.filter (fun x=>!p x))/\Fr (own v) w w'/\own (.slice a (xs.filter (fun x=>!p x)).length c)=own v:=by
 cases ja:xs.any p
 ·have rH:=O (kh (i:=0) ja);rw[zP ja];obtain⟨av,cv,fH⟩:=hv.form;subst fH;go_enter func147,ntmps147;go_wp2_with fail
  refine(zN g cap p _ xs w eg hp.none hv.at).mono ?_;rintro e w1⟨rfl,dn⟩;rw[rH.o];go_wp2;go_ret;exact⟨_,_,rfl,hv.fr dn (fun _ _ h=>h),dn.mono (fun _ _ h=>absurd h id),rfl⟩
 ·obtain⟨k0,x0,Ht,DC,uY,rH⟩:=zO 0 ja;rw[bw]at rH;have QD:=(List.getElem?_eq_some_iff.1 Ht).1;obtain⟨bk,cp,Kv⟩:∃bk cp,v=.slice (some ⟨bk,0,none⟩) xs.length cp:=by
   rcases hv.2.2 with ⟨_,hn⟩|⟨bk,cp,cur,hv,_⟩
   ·omega
   ·exact⟨bk,cp,hv⟩
  subst Kv;obtain⟨BV,cur,rW,q1,q2,q3,q4,q5,q6⟩:=hv.open (g:=bk) rfl;cases rW;unfold maxLen at q4;have dX:=O hv.1;have DD:=O (show xs.take k0=(xs.take (k0+1)).filter (fun x=>!p x)by
   rw[dW Ht,cG,zP uY];simp[DC])
  have HP:=O hp;have Y5:=O rH;clear ja uY Ht DC rH q2 q5 q6 hp;go_enter func147,ntmps147;go_wp2_with fail
  refine(zN g cap p _ xs w eg HP.o.none hv.at).mono ?_;rintro e w1⟨rfl,dn⟩;rw[Y5.o];have EE:=hv.fr dn (fun _ _ h=>h);have Jg:((k0:Int)== -1)=false:=by rw[aL];omega
  go_wp2;go_loopw[5,6] (aes b w bk cp p xs) (fun _ j _=>xs.length-(intOf j).toNat)
  case atStart=>exact⟨k0,k0+1,xs,rfl,bg,ab,ab,rfl,EE,DD.o,rfl,dn.mono (fun _ _ h=>absurd h id)⟩
  case round =>
   obtain⟨m,n,ys,rfl,rfl,hmn,hn,hlen,cQ,rp,sH,cL⟩:=hrel;have HT:=O rp;have HD:=O sH;have jI:=O hlen;clear rp sH hlen;rw[<-jI.o]at cQ;have rI:=cQ.at;by_cases fk:n<xs.length
   ·rcases rI.2 with ⟨_,_,_,e,_⟩|⟨Jf,of,c,hf,h1,h2,h3,h4⟩
    ·have hl:=jI.o;rw[e]at hl;simp at hl;omega
    ·cases hf;have dP:=O (List.getElem?_eq_getElem fk);have yb:ys[n]?=some xs[n]:=by
      have e:=aq (fun l:cY=>l[0]?) HD.o;simp only[List.getElem?_drop,Nat.add_zero]at e;rw[e,dP.o]
     have hcell:=h4 n _ yb;simp only[bw]at hcell;have iw:=O (bM fk);generalize xs[n]=x at dP hcell iw yb;have lp:=(dX.o x iw.o).1;have mI:=O (dX.o x iw.o).2;have jq:=fun W=>run_storeCells_new (P:=prog) W 105 #[.bool false,.string ⟨#[]⟩,.int .i64 0,.int .i64 0] x (by rw[lp];rfl) mI.o;have gO:Fr aS wr (wr.alloc (.cells x.toArray 105)):=(ae aS wr).alloc _
     have fB:=O (HP.o x iw.o (wr.alloc (.cells x.toArray 105)) ((cL.alloc _).mono (fun k _ h=>by have e:k=bk:=h;rw[e];rfl)));have Hy:=O (N5 lp);have je:=cL.alloc (.cells x.toArray 105);have fA:=cQ.fr gO (fun _ _ h=>h);have p_:(wr.alloc (.cells x.toArray 105)).heap[wr.heap.size]?=some (.cells x.toArray 105 (0,0)):=aC _ _;have tG:=O p_;clear h4 yb p_ gO
     go_wp2_with (first|((with_reducible refine dk 25 ?_);refine a_ rfl 105 (.tmp 24) rfl bk (n*4) rfl x _ hcell underlying105 rfl Hy.o ?_)|((with_reducible refine dk 27 ?_);refine aI rfl 105 (.tmp 7) rfl wr.heap.size rfl _ x.toArray (0,0) _ tG.o underlying105 rfl (by rw[aZ];exact Hy.o) ?_)|fail)
     have hlw:wr.heap.size<(wr.alloc (.cells x.toArray 105)).heap.size:=aR;clear jq hcell;generalize wr.alloc (.cells x.toArray 105)=W2 at *
     refine fB.o.mono ?_;rintro e w3⟨rfl,il⟩;have qw:=je.trans (il.mono (fun _ _ h=>absurd h id));have fq:=fA.fr il (fun _ _ h=>h);have sV:=O (il.keep tG.o id);have Nq:=O jI.o;cases qy:p x
     ·have Xy:=O (fq.there (g:=bk) (cap:=cp) (by rw[jI.o]) (o:=m*4) (n:=x.toArray.size) (by
       have hmc:(m+1)*4<=cp*4:=bO _ ab;rw[aZ,lp];omega))
      have eZ:=fq.store (i:=m) (y:=x) (by rw[jI.o];omega) lp mI.o (g:=bk) rfl;rw[jI.o]at eZ;have oo:=qw.step (fE (ae (one bk) w3) (fun _=>rfl) x (m*4)) (fun _ _ h=>h)
      go_wp2_with (first|((with_reducible refine dk 32 ?_);refine aI rfl 105 (.tmp 7) rfl wr.heap.size rfl _ x.toArray (0,0) _ sV.o underlying105 rfl (by rw[aZ];exact Hy.o) ?_)|((with_reducible refine cV 105 ?_);refine ig rfl 105 (.tmp 33) (.tmp 32) rfl bk (m*4) x.toArray rfl rfl Xy.o (by rw[aZ];exact Hy.o) (bW mI.o) ?_)|fail)
      go_roundw
      case rel =>
       refine⟨m+1,n+1,ys.set m x,bg,bg,ab,ab,by rw[d_];exact Nq.o,eZ,?_,?_,oo⟩
       ·rw[dW (l:=ys.set m x) (List.getElem?_set_self (by rw[Nq.o];omega)),gi (ay m),dW dP.o,cG,HT.o];simp[qy]
       ·rw[gj ab];have e:=aq (List.drop 1) HD.o;simpa[ew]using e
      case measure=>simp[intOf];omega
     ·rw[jI.o]at fq;go_wp2_with fail
      go_roundw
      case rel =>
       refine⟨m,n+1,ys,rfl,bg,ab,ab,Nq.o,fq,?_,?_,qw⟩
       ·rw[dW dP.o,cG,HT.o];simp[qy]
       ·have e:=aq (List.drop 1) HD.o;simpa[ew]using e
      case measure=>simp[intOf];omega
   ·have rJ:n=xs.length:=ab;subst rJ;have fe:=O (show ys.take m=xs.filter (fun x=>!p x)by have h:=HT.o;rw[aD (ay _)]at h;exact h);have sG:(ys.take m).length=m:=by rw[aM,jI.o];omega
    have zt:=O (show(xs.filter (fun x=>!p x)).length=m by rw[<-fe.o];exact sG);have hcut:=cQ.cut (i:=m) (by rw[jI.o];omega) (g:=bk) (cap:=cp) (by rw[jI.o]);have hle:(xs.length-m)*4+m*4<=cp*4:=by rw[<-dE];exact bO _ ab
    have B7:(Builtin.zeroCells XN (xs.length-m)).toList.length=(xs.length-m)*4:=by simp[Builtin.zeroCells]
    have xh:=fun ty=>jv (P:=prog) wr 92 105 ty XN underlying92 (fun w=>af) ag P5 bk (m*4) (xs.length-m) (cp-m) ab (by
     have:=cQ.there (g:=bk) (cap:=cp) (by rw[jI.o]) (o:=m*4) (n:=(xs.length-m)*4) ab;exact this)
    have yc:=hcut.behind (o:=m*4) (vs:=(Builtin.zeroCells XN (xs.length-m)).toList) (by rw[sG];exact ay _) (g:=bk) (cap:=cp) (by rw[sG]) (by rw[B7];omega);have oo:=cL.step (fE (ae (one bk) wr) (fun _=>rfl) (Builtin.zeroCells XN (xs.length-m)).toList (m*4)) (fun _ _ h=>h);clear cQ rI hcut B7 sG hle jI;go_wp2_with fail
    go_ret;rw[zt.o, <-fe.o];exact⟨_,_,rfl,yc,oo.mono (fun k _ h=>by have e:k=bk:=h;rw[e];rfl),rfl⟩
theorem aet:∃i0:TypeInfo,prog.info? 105=some i0/\i0.size=4:=by
 have h:(prog.info? 105).map (·.size)=some 4:=af;cases hq:prog.info? 105 with
 |none=>rw[hq]at h;cases h
 |some i=>rw[hq]at h;exact⟨i,rfl,by simpa using h⟩
theorem RV(b:Nat)(bk cp i j:Nat)(xs:cY)(w:World)(hv:OwnRows b 105 4 w (.slice (some ⟨bk,0,none⟩) xs.length cp) xs)(Qz:i<j)(hj:j<=xs.length) :
  aB 91 #[.slice (some ⟨bk,0,none⟩) xs.length cp,.int .i64 i,.int .i64 j] w fun e w'=>e=.returned (.slice (some ⟨bk,0,none⟩) (i+(xs.length-j)) cp)/\OwnRows b 105 4 w' (.slice (some ⟨bk,0,none⟩) (i+(xs.length-j)) cp) (xs.take i++xs.drop j)/\Fr (one bk) w w':=by
 obtain⟨i0,qp,kQ⟩:=aet;obtain⟨BV,cur,rW,q1,q2,q3,q4,q5,q6⟩:=hv.open (g:=bk) rfl;cases rW;unfold maxLen at q4;have dP:=hv.at;have dX:=hv.1;obtain⟨news,ky⟩:∃news,news=(xs.drop j).flatten:=⟨_,rfl⟩;have hdr:∀x∈xs.drop j,x.length=4/\∀u∈x,u.oneCell'=true:=fun x hx=>dX x (ez hx);have hlen:news.length=(xs.length-j)*4:=by rw[ky,gz (fun x hx=>(hdr x hx).1),bJ]
 obtain⟨A,hA,Nr⟩:∃A:Addr,(if cp=j then some (⟨bk,0,none⟩:Addr)else some ⟨bk,j*4,none⟩)=some A/\Hid (∀t u,news[t]?=some u->w.drew.cell? (A.add t)=some u):=by
  by_cases h:cp=j
  ·refine⟨⟨bk,0,none⟩,by simp[h],fun t u hu=>?_⟩
   have h0:news.length=0:=by rw[hlen];have:xs.length-j=0:=by omega
                             rw[this,ia]
   rw[dG.1 h0]at hu;simp at hu
  ·refine⟨⟨bk,j*4,none⟩,by simp[h],fun t u hu=>?_⟩;have ht:t<(xs.length-j)*4:=by
    have:=(List.getElem?_eq_some_iff.1 hu).1;omega
   have nj:xs.flatten[j*4+t]?=some u:=by
    have e:xs.flatten=(xs.take j).flatten++(xs.drop j).flatten:=by rw[<-ed,fL]
    have hl:(xs.take j).flatten.length=j*4:=by rw[gz (fun x hx=>(dX x (ey hx)).1),aM,dL hj]
    rw[e,List.getElem?_append_right ab,hl,show j*4+t-j*4=t from ab, <-ky];exact hu
   have hjt:j*4+t<xs.length*4:=by
    have:(xs.length-j)*4+j*4=xs.length*4:=by rw[<-dE];congr 1;omega
    omega
   rw[<-q6,List.getElem?_take_of_lt hjt]at nj;have zu:cur[j*4+t]?=some u:=by simpa using nj
   have ea:(Addr.add ⟨bk,j*4,none⟩ t)=⟨bk,j*4+t,none⟩:=by unfold Addr.add;split<;>simp_all
   rw[ea];show w.cell? _=some u;simp[World.cell?,q2,zu]
 have s1:=O hlen;have s2:=O (show∀u∈news,u.oneCell'=true by
  intro u hu;rw[ky]at hu;obtain⟨x,hx,FY⟩:=fK.1 hu;exact(hdr x hx).2 u FY)
 have s3:=O (show∀t,t<news.length->(w.drew.cell? ⟨bk,0+i*4+t,none⟩).isSome=true/\w.drew.frozen? ⟨bk,0+i*4+t,none⟩=false by
  intro t ht;rw[bw];have hle:i*4+(xs.length-j)*4<=cp*4:=by rw[<-dE];exact bO _ ab
  have:=hv.there (g:=bk) (cap:=cp) rfl (o:=i*4) (n:=(xs.length-j)*4) hle t ab;exact this)
 have UR:OwnRows b 105 4 w.drew (.slice (some ⟨bk,0,none⟩) xs.length cp) xs:=hv;have ql:=UR.CY (i:=i) (ys:=xs.drop j) ab hdr (g:=bk) (cap:=cp) rfl (by rw[bJ];omega);rw[bJ, <-ky]at ql;have yd:Fr (one bk) w (w.drew.setCells bk (i*4) news):=((ae (one bk) w).drew).setCells (fun _=>rfl) _ _;obtain⟨W1,B4⟩:∃W1,W1=w.drew.setCells bk (0+i*4) news:=⟨_,rfl⟩;have HW:=O B4;rw[bw]at B4;rw[<-B4]at ql yd
 have rJ:(xs.take i++xs.drop j).length=i+(xs.length-j):=by rw[aN,aM,bJ];omega
 have hm:i+(xs.length-j)<xs.length:=ab;have B7:(Builtin.zeroCells XN (xs.length-(i+(xs.length-j)))).toList.length=(xs.length-(i+(xs.length-j)))*4:=by simp[Builtin.zeroCells]
 have hle:(i+(xs.length-j))*4+(xs.length-(i+(xs.length-j)))*4<=cp*4:=by rw[<-dE];exact bO _ ab
 have xh:=fun ty=>jv (P:=prog) W1 92 105 ty XN underlying92 (fun w=>af) ag P5 bk ((i+(xs.length-j))*4) (xs.length-(i+(xs.length-j))) (cp-(i+(xs.length-j))) ab (by
  have:=ql.there (g:=bk) (cap:=cp) (by rw[rJ]) (o:=(i+(xs.length-j))*4) (n:=(xs.length-(i+(xs.length-j)))*4) hle;exact this)
 have yc:=ql.behind (o:=(i+(xs.length-j))*4) (vs:=(Builtin.zeroCells XN (xs.length-(i+(xs.length-j)))).toList) (by rw[rJ];exact ay _) (g:=bk) (cap:=cp) (by rw[rJ]) (by rw[B7];omega);have oo:=yd.step (fE (ae (one bk) W1) (fun _=>rfl) (Builtin.zeroCells XN (xs.length-(i+(xs.length-j)))).toList ((i+(xs.length-j))*4)) (fun _ _ h=>h);have hne:((i:Int)==(j:Int))=false:=by rw[aL];omega
 have ado:i<=cp:=ab;have adp:j<=cp:=ab;have HA:=O hA;clear B4 ql UR yd ky hlen hdr dX dP rJ B7 hle q2 q5 q6 hv;go_enter func91,ntmps91;go_wp2_with fail
 have hA:=HA.o;go_region_law (refine step_append_room rfl (.tmp 22) (.tmp 25) 92 rfl 105 i0 4 underlying92 qp kQ bk 0 i cp (by simp[Act.eval,Act.put]) A (xs.length-j) (cp-j) news (by simp[Act.eval,Act.put]) s1.o Nr.out s2.o ab s3.o ?_;rw[<-HW.o])
 all_goals
  go_wp2_with fail
  go_ret;exact⟨rfl,yc,oo⟩
open Go.ChangeShapes Go.WideShapes Go.ChangeAt Go.RowKit Go.Deep
section
variable {H : Type} {enc : TypeId × Value → H} {P : Program} {W : World}
theorem kT.ae8{α β:Type}{R:α->β->Prop}{f:Nat->α}{g:Nat->β}(n:Nat)(h:∀i,i<n->R (f i) (g i)):kT R ((List.range n).map f) ((List.range n).map g):=by
 induction n with
 |zero=>exact .nil
 |succ n ih =>
  rw[List.range_succ,bG,bG];exact(ih (fun i hi=>h i ab)).app (.cons (h n ab) .nil)
theorem Ej{t e:TypeId}{k bytes:Nat}{β:Type} [Inhabited β]{Q:aX->β->Prop}{S:β->Prop}(ht:P.underlying t=some (.slice e))(hk:P.cellsOf e=k)(QD:0<k)(qM:P.bytesOf e=bytes)
  (el:∀ {fuel:Nat} {cs:aX} {x:DataW H×List MemPlace},DataW.trod enc P W 0 (fun _=>true) true fuel e cs=some x->∃b,Q cs b/\cs.length=k/\(∀u∈cs,u.oneCell'=true)/\(oV P e x.1->S b))
  {fuel:Nat}{cs:aX}{x:DataW H×List MemPlace}(h:DataW.trod enc P W 0 (fun _=>true) true fuel t cs=some x) :
  ∃(v:Value) (css:cY) (bs:List β),cs=[v]/\dV k W v css/\kT Q css bs/\(oV P t x.1->bs.length*bytes<=reachBytes/\∀b∈bs,S b):=by
 rcases open_slice ht h with ⟨rfl,rfl⟩|⟨a,len,cap,m,n,D,Pl,rfl,_,hl,hm,hme,rfl,hc⟩
 ·exact⟨_,[],[],rfl,dV.nil _ _,.nil,fun _=>⟨aR,aR⟩⟩
 simp only[eb]at hme;subst hme;rw[hk]at hc;have each:∀i,i<len->∃q:aX×β,W.cells? 0 (a.add (i*k)) k=some q.1/\Q q.1 q.2/\q.1.length=k/\(∀u∈q.1,u.oneCell'=true)/\(oV P e (D i)->S q.2):=fun i hi=>by
  obtain⟨cs',h1,h2⟩:=hc i ab;obtain⟨b,hq,hlen,dX,hs⟩:=el h2;exact⟨(cs',b),h1,hq,hlen,dX,hs⟩
 obtain⟨q,hq⟩:=choose_lt each;refine⟨_,(List.range len).map fun i=>(q i).1,(List.range len).map fun i=>(q i).2,rfl,⟨?_,?_⟩,kT.ae8 len (fun i hi=>(hq i hi).2.1),fun hL=>⟨?_,?_⟩⟩
 ·intro y hy;obtain⟨i,hi,rfl⟩:=bZ.1 hy;have hi:=hq i (List.mem_range.1 hi);exact⟨hi.2.2.1,hi.2.2.2.1⟩
 ·by_cases h0:len=0
  ·subst h0;exact Or.inl ⟨_,_,rfl,rfl,fun e=>by cases e⟩
  ·have cell:∀i,i<len->∀j u,(q i).1[j]?=some u->W.cell? (a.add (i*k+j))=some u:=fun i hi j u hu=>by
    obtain⟨_,hlen,hcell⟩:=World.cells?_some (hq i hi).1;have:=hcell j (by have:=(List.getElem?_eq_some_iff.1 hu).1;have:=(hq i hi).2.2.1;omega);rw[add_add]at this;rw[this,hu]
   obtain⟨b,off,spot⟩:=a;have S':=(hq 0 ab).2.2.1;have hc0:=cell 0 ab 0 _ (List.getElem?_eq_getElem ab);have aj8:spot=none:=by simpa[Addr.add]using World.cell?_spot hc0
   subst aj8;have Ly:∀j,(Addr.add ⟨b,off,none⟩ j)=⟨b,off+j,none⟩:=by intro j;unfold Addr.add;split<;>simp_all
   have hbl:b<W.heap.size:=by
    have h0:=World.block_lt_of_cell? _ _ hc0;rw[Ly]at h0;exact h0
   refine Or.inr ⟨b,off,m,aR,by simpa using hl,hm,hbl,fun j y hj i u hi=>?_⟩;rw[List.getElem?_map]at hj;obtain⟨k',YY,rfl⟩:=Option.map_eq_some_iff.1 hj;obtain⟨hj1,rfl⟩:=List.getElem?_eq_some_iff.1 YY;simp at hj1;have:=cell j hj1 i u (by simpa using hi)
   rwa [Ly, <-Nat.add_assoc]at this
 ·unfold oV at hL;simp only[DataW.weights,ht]at hL;have:=hL _ (cX ..);simp only[ai,List.length_range,qM]at this;have e1:(len+(m-len))*bytes=m*bytes:=by congr 1;omega
  rw[e1]at this;have h2:len*bytes<=m*bytes:=bO _ hl;simp only[ai,List.length_range];omega
 ·intro b hb;obtain⟨i,hi,rfl⟩:=bZ.1 hb;have hi':=List.mem_range.1 hi;refine(hq i hi').2.2.2.2 (fun n hn=>?_);unfold oV at hL;simp only[DataW.weights,ht]at hL;exact hL n (bP _ (List.mem_append_left _ (xB (bZ.2 ⟨i,hi,rfl⟩) _ hn)))
end
variable {H : Type} {enc : TypeId × Value → H} {W : World}
theorem Aa:prog.cellsOf 142=2:=af
theorem L7{x:DataW H×List MemPlace}(h:DataW.trod enc prog W 0 (fun _=>true) true fuel 142 cs=some x) :
  ∃b:aj×aj,cs=[.string b.1,.string b.2]/\cs.length=2/\(∀u∈cs,u.oneCell'=true)/\(oV prog 142 x.1->b.1.size<=reachBytes/\b.2.size<=reachBytes):=by
 obtain⟨hl,n,hf⟩:=nS underlying142 h;rw[Aa]at hl;obtain⟨c0,c1,rfl⟩:=aj7 hl;obtain⟨y0,h0,l0⟩:=hf 0 9 0 _ rfl iJ;obtain⟨y1,h1,l1⟩:=hf 1 9 1 _ rfl iJ;simp only[List.drop,List.take]at h0 h1;obtain⟨u,eu,wu⟩:=fo underlying9 h0;obtain⟨q,eq,wq⟩:=fo underlying9 h1;simp only[fD,iE]at eu eq;subst eu eq;refine⟨(u,q),rfl,rfl,?_,fun hL=>⟨wu (l0 hL),wq (l1 hL)⟩⟩;intro v hv;simp only[bB,cz,dU]at hv
 rcases hv with rfl|rfl<;>rfl
theorem Ek{α β:Type}{f:β->α}:∀ {l:List α} {m:List β},kT (fun a b=>a=f b) l m->l=m.map f
 |_,_,.nil=>rfl
 |_,_,.cons h t=>by rw[cD, <-h,Ek t]
instance:Inhabited (aj×aj):=⟨(.empty,.empty)⟩
theorem IQ{x:DataW H×List MemPlace}(h:DataW.trod enc prog W 0 (fun _=>true) true fuel 27 cs=some x) :
  ∃(v:Value) (ps:List (aj×aj)),cs=[v]/\dV 2 W v (ps.map fun p=>[.string p.1,.string p.2])/\(oV prog 27 x.1->ps.length*32<=reachBytes/\∀p∈ps,p.1.size<=reachBytes/\p.2.size<=reachBytes):=by
 obtain⟨v,css,bs,rfl,hr,hb,hs⟩:=Ej (Q:=fun cs (b:aj×aj)=>cs=[.string b.1,.string b.2]) (S:=fun b=>b.1.size<=reachBytes/\b.2.size<=reachBytes) underlying27 Aa ag (by kernel_rfl:prog.bytesOf 142=32) L7 h;exact⟨v,bs,rfl,by rw[<-Ek hb];exact hr,hs⟩
abbrev zOp:bS:= #[.int .i64 0,.int .i64 0,.bool false,.string ⟨#[]⟩,.int .i64 0,.bool false,.string ⟨#[]⟩,.int .i64 0,.string ⟨#[]⟩,.string ⟨#[]⟩,.string ⟨#[]⟩,.slice none 0 0,.bool false,.string ⟨#[]⟩,.bool false,.string ⟨#[]⟩,.string ⟨#[]⟩,.string ⟨#[]⟩,.string ⟨#[]⟩,.int .i64 0,.bool false,.int .i64 0]
theorem WR(h:x.length=22):(prog.info? 33).map (·.size)=some x.length:=by rw[h];kernel_rfl
theorem WV(h:x.length=24):(prog.info? 50).map (·.size)=some x.length:=by rw[h];kernel_rfl
theorem WX(h:x.length=2):(prog.info? 142).map (·.size)=some x.length:=by rw[h];kernel_rfl
def afi(w:World)(p:aX->Bool)(xs:cY)(i:Value)(wr:World):Prop :=
 ∃k:Nat,k<=xs.length/\i=.int .i64 k/\(xs.take k).any p=false/\Fr aS w wr
theorem IX(g:Nat)(cap:bS)(p:aX->Bool)(v:Value)(xs:cY)(w:World)(eg:∀args w,(callFunc g args).run prog w=.ok (.enter g args) w)(hp:gL aS w g cap p xs)(hv:dV 2 w v xs) :
  aB 98 #[v,.func (.func g) #[] cap] w fun e w'=>e=.returned (.int .i64 (lQ p xs 0))/\Fr aS w w':=by
 obtain⟨av,cv,fH⟩:=hv.form;subst fH;have dX:=O hv.1;go_enter func98,ntmps98;go_wp2;go_loopw[8] (afi w p xs) (fun i _=>xs.length-(intOf i).toNat)
 case atStart=>exact⟨0,aQ _,rfl,rfl,ae _ _⟩
 case round =>
  obtain⟨k,hk,rfl,hn,cL⟩:=hrel;have HN:=O hn;clear hn;by_cases fk:k<xs.length
  ·rcases(hv.fG cL).2 with ⟨_,_,_,e,_⟩|⟨bk,of,c,hf,h1,h2,h3,h4⟩
   ·rw[e]at fk;exact absurd fk (cq _)
   ·cases hf;unfold maxLen at h2;have dP:=O (List.getElem?_eq_getElem fk);have hcell:=h4 k _ dP.o;have iw:=O (bM fk);generalize xs[k]=x at dP hcell iw;have fB:=O (hp x iw.o wr cL);have lp:=(dX.o x iw.o).1;clear h4;cases qy:p x
    ·have pV:=O (any_take_succ dP.o HN.o qy);go_wp2_with (first|((with_reducible refine dk 15 ?_);refine a_ rfl 142 (.tmp 14) rfl bk (of+k*2) rfl x _ hcell underlying142 rfl (WX lp) ?_)|fail)
     refine fB.o.mono ?_;rintro e w1⟨rfl,dn⟩;rw[qy];go_wp2;go_roundw
     case rel=>exact⟨k+1,ab,bg,pV.o,cL.trans dn⟩
     case measure=>simp[intOf];omega
    ·have fe:=O (oK (i:=0) dP.o qy HN.o);go_wp2_with (first|((with_reducible refine dk 15 ?_);refine a_ rfl 142 (.tmp 14) rfl bk (of+k*2) rfl x _ hcell underlying142 rfl (WX lp) ?_)|fail)
     refine fB.o.mono ?_;rintro e w1⟨rfl,dn⟩;rw[qy];go_wp2;go_ret;rw[fe.o,bw];exact⟨rfl,cL.trans dn⟩
  ·have fe:=O (show lQ p xs 0= -1 from kh (by have h:=HN.o;rw[aD ab]at h;exact h));go_wp2;go_ret;rw[fe.o];exact⟨rfl,cL⟩
theorem Cd(g:Nat)(cap:bS)(p:aX->Bool)(v:Value)(xs:cY)(w:World)(eg:∀args w,(callFunc g args).run prog w=.ok (.enter g args) w)(hp:gL aS w g cap p xs)(hv:dV 2 w v xs) :
  aB 66 #[v,.func (.func g) #[] cap] w fun e w'=>e=.returned (.bool (xs.any p))/\Fr aS w w':=by
 have hb:=O (rD p xs 0);go_enter func66,ntmps66;go_wp2_with fail
 refine(IX g cap p v xs w eg hp hv).mono ?_;rintro e w1⟨rfl,dn⟩;go_wp2;go_ret;exact⟨fy hb.o,dn⟩
abbrev Bs:=aH
abbrev jn:=Bs×Bs
structure ni where
 scheme:Bs
 token:Bs
 params:List jn
def oa(c:UInt8):Bool:=dK c||c==44
def TH:aH:=[97,98,99,100,101,102,103,104,105,106,107,108,109,110,111,112,113,114,115,116,117,118,119,120,121,122,65,66,67,68,69,70,71,72,73,74,75,76,77,78,79,80,81,82,83,84,85,86,87,88,89,90,48,49,50,51,52,53,54,55,56,57,45,46,95,126,43,47]
def EG(c:UInt8):Bool:=TH.contains c
def kV(c:UInt8):Bool:=[61].contains c
def TI:Bs->Bool
 |[]=>true
 |c :: _=>c==44
def eW(r:Bs):Bs:=r.dropWhile dK
def iz(r:Bs):Bs:=r.dropWhile oa
def nV(r:Bs):Bool:=TI (eW r)
def gX(r:Bs):Bs:=r.takeWhile fV
def ir(r:Bs):Bs:=r.dropWhile fV
def MH(b:UInt8):Bs->Bool
 |[]=>false
 |c :: _=>c==b
def lB(r:Bs):Bool:=!(gX r).isEmpty&&MH 61 (eW (ir r))
def lX(r:Bs):Bs:=r.takeWhile EG
def nA(r:Bs):Bs:=(r.dropWhile EG).takeWhile kV
def sg(r:Bs):Bs:=(r.dropWhile EG).dropWhile kV
def singleR(r:Bs):Option (Bs×Bs):=if !(lX r).isEmpty&&nV (sg r)then some (lX r++nA r,eW (sg r))else none
def Av:Bs->Option (Bs×Bs)
 |[]=>none
 |c :: t=>if c==34 then vg t else none
def pB(r:Bs):Option (Bs×Bs):=if(gX r).isEmpty then Av r else some (gX r,ir r)
def nC(r:Bs):Bs:=eW ((eW (ir r)).drop 1)
def t_(ps:List jn)(n:Bs):Bool:=ps.any fun q=>dH q.1 n
def kR(ps:List jn)(r:Bs):Except Nat (jn×Bs) :=
 if !lB r then .error 3 else
 match pB (nC r)with
 |none=>.error 3
 |some q=>if t_ ps (gX r)then .error 9 else if ps.length=16 then .error 4 else .ok ((gX r,q.1),q.2)
def gQ:Nat->List jn->Bs->Except Nat (List jn×Bs)
 |0,ps,r=>.ok (ps,r)
 |f+1,ps,r =>
  match kR ps r with
  | .error e=>.error e
  | .ok (p,r1)=>if nV r1 then(if lB (iz r1)then gQ f (ps++[p]) (iz r1)else .ok (ps++[p],iz r1))else .error 3
def pC:Bs->Bool
 |[]=>false
 |c :: _=>dK c
def o7(k:Nat)(r:Bs):Except Nat (ni×Bs) :=
 if(gX r).isEmpty then .error 3
 else if k=8 then .error 4
 else if nV (ir r)then .ok (⟨gX r,[],[]⟩,eW (ir r))
 else if !pC (ir r)then .error 3
 else match singleR (eW (ir r))with
  |some q=>.ok (⟨gX r,q.1,[]⟩,q.2)
  |none=>match gQ ((eW (ir r)).length+1) [] (eW (ir r))with
   | .error e=>.error e
   | .ok q=>.ok (⟨gX r,[],q.1⟩,q.2)
def jW:Nat->List ni->Bs->Except Nat (List ni)
 |0,acc,_=>.ok acc
 |f+1,acc,r =>
  if(iz r).isEmpty then .ok acc else
  match o7 acc.length (iz r)with
  | .error e=>.error e
  | .ok (x,r1)=>jW f (acc++[x]) r1
def mq(l:Bs):Except Nat (List ni):=if 3000<l.length then .error 4 else jW (l.length+1) [] l
theorem pX(p:UInt8->Bool)(r:Bs):(r.dropWhile p).length<=r.length:=(iR p).length_le
theorem lC(r:Bs):(eW r).length<=r.length:=pX _ r
theorem oA(r:Bs):(iz r).length<=r.length:=pX _ r
theorem pD(p:UInt8->Bool)(r:Bs):(r.takeWhile p).length+(r.dropWhile p).length=r.length:=by
 rw[<-aN,List.takeWhile_append_dropWhile]
theorem qY(r:Bs):(gX r).length+(ir r).length=r.length:=pD _ r
theorem Fo{r:Bs}(h:(gX r).isEmpty=false):(ir r).length<r.length:=by
 have h1:=qY r;cases e:gX r with
 |nil=>rw[e]at h;cases h
 |cons c t=>rw[e]at h1;simp at h1;omega
theorem acy{r a z:Bs}(h:vg r=some (a,z)):a.length+z.length+1<=r.length:=GX _ r a z (ay _) h
theorem Qq{r a z:Bs}(h:Av r=some (a,z)):a.length+z.length+2<=r.length:=by
 cases r with
 |nil=>cases h
 |cons c t =>
  have h':(if c==34 then vg t else none)=some (a,z):=h;by_cases hc:(c==34)=true
  ·rw[aA hc]at h';have:=acy h';simp;omega
  ·rw[ar hc]at h';cases h'
theorem Qr{r a z:Bs}(h:pB r=some (a,z)):a.length+z.length<=r.length:=by
 unfold pB at h;split at h
 ·have:=Qq h;omega
 ·cases h;have:=qY r;omega
theorem MI(r:Bs):(nC r).length<=(ir r).length:=by
 unfold nC;have h1:=lC ((eW (ir r)).drop 1);have h2:=lC (ir r);have h3:((eW (ir r)).drop 1).length<=(eW (ir r)).length:=aR;omega
theorem Bl{r:Bs}(h:lB r=true):(gX r).isEmpty=false:=by
 unfold lB at h;simp only[cF,Bool.not_eq_true']at h;exact h.1
theorem CG{r:Bs}(h:lB r=true):(nC r).length+2<=r.length:=by
 have hw:=Fo (Bl h);unfold lB at h;simp only[cF]at h;have h2:=h.2;unfold nC;have h3:=lC (ir r);cases e:eW (ir r)with
 |nil=>rw[e]at h2;cases h2
 |cons c t =>
  rw[e]at h3;have h4:=lC ((c :: t).drop 1);simp at h3 h4 ⊢; omega
theorem tD{ps:List jn}{r:Bs}{p:jn}{z:Bs}(h:kR ps r=.ok (p,z)):p.1.length+p.2.length+z.length<r.length:=by
 unfold kR at h;by_cases hn:lB r=true
 ·rw[ar (by simp[hn])]at h;have h1:=CG hn;have h0:=MI r;have hw:=qY r;cases hv:pB (nC r)with
  |none=>rw[hv]at h;cases h
  |some q =>
   rw[hv]at h;simp only at h;split at h
   ·cases h
   ·split at h
    ·cases h
    ·cases h;have:=Qr (a:=q.1) (z:=q.2) hv;unfold lB at hn;simp only[cF]at hn;have h2:=hn.2;have h5:(nC r).length+1<=(ir r).length:=by
      unfold nC;have h3:=lC (ir r);cases e:eW (ir r)with
      |nil=>rw[e]at h2;cases h2
      |cons c t =>
       rw[e]at h3;have h4:=lC ((c :: t).drop 1);simp at h3 h4 ⊢; omega
     simp only;omega
 ·rw[aA (by simpa using hn)]at h;cases h
theorem ua:∀(f:Nat) (ps:List jn) (r:Bs),r.length<f->gQ f ps r=gQ (r.length+1) ps r
 |0,_,_,h=>absurd h (cq _)
 |f+1,ps,r,h=>by
  rw[gQ,gQ];cases hp:kR ps r with
  |error e=>rfl
  |ok q =>
   obtain⟨p,r1⟩:=q;have hl:=tD hp;have hg:=oA r1;simp only;split
   ·split
    ·rw[ua f _ _ ab,ua r.length _ _ ab]
    ·rfl
   ·rfl
theorem CH:∀(f:Nat) (ps:List jn) (r:Bs) (q:List jn×Bs),gQ f ps r=.ok q->q.2.length<=r.length
 |0,ps,r,q,h=>by rw[gQ]at h;cases h;exact ay _
 |f+1,ps,r,q,h=>by
  rw[gQ]at h;cases hp:kR ps r with
  |error e=>rw[hp]at h;cases h
  |ok p =>
   rw[hp]at h;obtain⟨p,r1⟩:=p;have hl:=tD hp;have hg:=oA r1;simp only at h;split at h
   ·split at h
    ·have:=CH f _ _ q h;omega
    ·cases h;simp only;omega
   ·cases h
theorem CI{r t z:Bs}(h:singleR r=some (t,z)):t.length+z.length<=r.length:=by
 unfold singleR at h;split at h
 ·cases h;have h1:=pD EG r;have h2:=pD kV (r.dropWhile EG);have h3:=lC (sg r);unfold sg at h3 ⊢;unfold lX nA;rw[aN];omega
 ·cases h
theorem Cg{r:Bs}{x:ni}{z:Bs}(h:o7 k r=.ok (x,z)):z.length<r.length:=by
 unfold o7 at h;split at h
 ·cases h
 rename_i hw;have hw':(gX r).isEmpty=false:=by simpa using hw
 have h1:=Fo hw';have h2:=lC (ir r);split at h
 ·cases h
 split at h
 ·cases h;omega
 split at h
 ·cases h
 split at h
 ·rename_i q hq;cases h;have:=CI (t:=q.1) (z:=q.2) hq;omega
 ·split at h
  ·cases h
  ·rename_i q hq;cases h;have:=CH _ _ _ _ hq;omega
theorem pY:∀(f:Nat) (acc:List ni) (r:Bs),r.length<f->jW f acc r=jW (r.length+1) acc r
 |0,_,_,h=>absurd h (cq _)
 |f+1,acc,r,h=>by
  rw[jW,jW];split
  ·rfl
  ·cases ho:o7 acc.length (iz r)with
   |error e=>rfl
   |ok q =>
    obtain⟨x,r1⟩:=q;have h1:=Cg ho;have h2:=oA r;simp only;rw[pY f _ _ ab,pY r.length _ _ ab]
theorem si(r:Bs):iz (iz r)=iz r:=by
 refine vq (fun c hc=>?_);have:=List.head?_dropWhile_not oa r;unfold iz at hc;rw[hc]at this;simpa using this
theorem BR(r:Bs):eW (eW r)=eW r:=by
 refine vq (fun c hc=>?_);have:=List.head?_dropWhile_not dK r;unfold eW at hc;rw[hc]at this;simpa using this
theorem GZ(r:Bs):nV (eW r)=nV r:=by unfold nV;rw[BR]
theorem ub:∀r:Bs,iz (eW r)=iz r
 |[]=>rfl
 |c :: t=>by
  cases h:dK c
  ·have:eW (c :: t)=c :: t:=by unfold eW;rw[List.dropWhile_cons_of_neg (by simp[h])]
   rw[this]
  ·have e1:eW (c :: t)=eW t:=by unfold eW;rw[List.dropWhile_cons_of_pos h]
   have e2:iz (c :: t)=iz t:=by unfold iz;rw[List.dropWhile_cons_of_pos (by simp[oa,h])]
   rw[e1,e2,ub t]
theorem Bm(f:Nat)(acc:List ni){r r':Bs}(h:iz r=iz r'):jW (f+1) acc r=jW (f+1) acc r':=by
 rw[jW,jW,h]
def JT(c:UInt8):Bool:=decide (48<=c.toNat/\c.toNat<=57)
theorem JU{c:UInt8}:JT c=true↔48<=c.toNat/\c.toNat<=57:=by unfold JT;simp
def EH:aj:=⟨#[48,49,50,51,52,53,54,55,56,57]⟩
theorem ML:∀b∈EH.data.toList,b.toNat<128:=dt
theorem TP:∀n:Fin 256,EH.data.toList.contains n.val.toUInt8=JT n.val.toUInt8:=dt
theorem Qs(c:UInt8):EH.data.toList.contains c=JT c:=by
 have h:=TP ⟨c.toNat,c.toNat_lt⟩;simpa using h
theorem JV(l:aH):l.all (EH.data.toList.contains ·)=l.all JT:=by
 congr 1;funext c;exact Qs c
def yQ(n:Int)(c:UInt8):Int:=min (n*10+((c.toNat:Int)-48)) 2147483648
def yR(l:aH):Int:=l.foldl yQ 0
def oC(l:aH):Bool:=!l.isEmpty&&l.all JT
theorem Qt{l:aH}{x:UInt8}(h:l[k]?=some x):yR (l.take (k+1))=yQ (yR (l.take k)) x:=by
 rw[cC,h];simp[yR]
theorem xK:∀(l:aH) (n:Int),l.all JT=true->0<=n->n<=2147483648->0<=l.foldl yQ n/\l.foldl yQ n<=2147483648
 |[],n,_,h0,h1=>⟨h0,h1⟩
 |c :: l,n,h,h0,h1=>by
  rw[List.all_cons,cF]at h;have hc:=JU.1 h.1;rw[List.foldl_cons];refine xK l _ h.2 ?_ ?_<;>(unfold yQ;omega)
def sk(s:aj)(w:World)(e:Ending)(w':World):Prop :=
 e=.returned (.tuple (if oC s.data.toList then #[.int .i64 (yR s.data.toList),.nilIface]else #[.int .i64 0,.iface 82 (.int .i64 3)]))/\Fr aS w w'
theorem sk.ok(h:sk s w e w')(hd:oC s.data.toList=true):e=.returned (.tuple #[.int .i64 (yR s.data.toList),.nilIface])/\Fr aS w w':=by
 obtain⟨he,hf⟩:=h;rw[hd]at he;exact⟨he,hf⟩
theorem sk.no(h:sk s w e w')(hd:oC s.data.toList=false):e=.returned (.tuple #[.int .i64 0,.iface 82 (.int .i64 3)])/\Fr aS w w':=by
 obtain⟨he,hf⟩:=h;rw[hd]at he;exact⟨he,hf⟩
def acD(s:aj)(w:World)(n i:Value)(wr:World):Prop:=∃k:Nat,k<=s.size/\i=.int .i64 k/\n=.int .i64 (yR (s.data.toList.take k))/\Fr aS w wr
theorem JW(s:aj)(w:World)(hs:s.size<17592186044416) :
  aB 197 #[.string s] w (sk s w):=by
 by_cases h0:s.size=0
 ·have JX:=gS.2 h0;have hd:=O (show oC s.data.toList=false by rw[JX];rfl);have he:s.toList.isEmpty=true:=by rw[aO,JX];rfl
  have he':s.toList=[]:=by rw[aO,JX]
  clear JX;go_enter func197,ntmps197;go_wp2;go_ret2;unfold sk;rw[hd.o];exact⟨rfl,ae _ _⟩
 ·have hne:s.data.toList≠ []:=fun h=>h0 (gS.1 h);have he:s.toList.isEmpty=false:=by rw[aO];simpa using hne
  have he':¬s.toList=[]:=by rw[aO];exact hne
  have TR:=O (sj s EH w ab ag ag ML);cases iL:s.data.toList.all JT
  ·have hd:=O (show oC s.data.toList=false by unfold oC;rw[iL];simp);have O':=O (show Lib.trimS s.data.toList EH.data.toList≠ []from fun h=>by rw[wE,JV,iL]at h;cases h);clear iL hne;go_enter func197,ntmps197;go_wp2_with fail
   refine TR.o.mono ?_;rintro e w1⟨rfl,dn⟩;have t1:¬(⟨(Lib.trimS s.data.toList EH.data.toList).toArray⟩:aj).toList=[]:=by rw[aO];simpa using O'.o
   have t2:(⟨(Lib.trimS s.data.toList EH.data.toList).toArray⟩:aj).toList.isEmpty=false:=by rw[aO];simpa using O'.o
   generalize (⟨(Lib.trimS s.data.toList EH.data.toList).toArray⟩:aj)=z at *
   go_wp2;go_ret2;unfold sk;rw[hd.o];exact⟨rfl,dn⟩
  ·have hd:=O (show oC s.data.toList=true by unfold oC;rw[iL];simpa using hne);have O':=O (show Lib.trimS s.data.toList EH.data.toList=[]by rw[wE,JV,iL]);have JL:=O iL;clear iL hne;go_enter func197,ntmps197;go_wp2_with fail
   refine TR.o.mono ?_;rintro e w1⟨rfl,dn⟩;rw[O'.o];clear TR;go_wp2;go_loopw[4,16] (acD s w) (fun _ i _=>s.size-(intOf i).toNat)
   case atStart=>exact⟨0,aQ _,rfl,rfl,dn⟩
   case round =>
    obtain⟨k,hk,rfl,rfl,cL⟩:=hrel;have hr:=xK (s.data.toList.take k) 0 (by rw[gu];exact fun x hx=>gu.1 JL.o x (ey hx)) ab ab;change 0<=yR (s.data.toList.take k)/\yR (s.data.toList.take k)<=2147483648 at hr;obtain⟨r0,r1⟩:=hr;by_cases fk:k<s.size
    ·have dP:=byte_at s k fk;have hdg:=JU.1 (gu.1 JL.o _ (cj dP));have I9:=O (Qt dP);generalize hx:s[k]=x at dP hdg I9;obtain⟨d0,d1⟩:=hdg;clear dP;generalize yR (s.data.toList.take k)=n at *
     go_wp2;go_roundw
     case rel=>exact⟨k+1,ab,bg,by rw[I9.o];rfl,cL⟩
     case measure=>simp[intOf];omega
    ·have fe:=O (show yR (s.data.toList.take k)=yR s.data.toList by rw[aD bH]);go_wp2;go_ret2;unfold sk;rw[hd.o, <-fe.o];exact⟨rfl,cL⟩
def Ft(s:aj):Bool:=s.data.toList.all fun c=>!jX c
def rk:List aj:=[⟨#[97,112,112,108,105,99,97,116,105,111,110,47,120,45,119,119,119,45,102,111,114,109,45,117,114,108,101,110,99,111,100,101,100]⟩,⟨#[109,117,108,116,105,112,97,114,116,47,102,111,114,109,45,100,97,116,97]⟩,⟨#[116,101,120,116,47,112,108,97,105,110]⟩]
def sr(s:aj)(c:UInt8):aj:=if 0<=Lib.indexByte s.data.toList c then s.extract 0 (Lib.indexByte s.data.toList c).toNat else s
def Fu(s:aj):aj:=⟨(nk (Lib.trimS (sr s 59).data.toList [32,9])).toArray⟩
def lU(name value:aj):Bool :=
 if 128<value.size then false
 else if nk name.data.toList=[97,99,99,101,112,116]then Ft value
 else if nk name.data.toList=[97,99,99,101,112,116,45,108,97,110,103,117,97,103,101]then vw value
 else if nk name.data.toList=[99,111,110,116,101,110,116,45,108,97,110,103,117,97,103,101]then vw value
 else if nk name.data.toList=[99,111,110,116,101,110,116,45,116,121,112,101]then Ft value&&Lib.containsS rk (Fu value)
 else false
theorem ud(p:UInt8->Bool):∀l:aH,(l.dropWhile p).length<=l.length
 |[]=>ay _
 |a :: l=>by
  rw[List.dropWhile_cons];split
  ·exact Nat.le_succ_of_le (ud p l)
  ·exact ay _
theorem JZ(l cs:aH):(Lib.trimS l cs).length<=l.length:=by
 unfold Lib.trimS Lib.trimLeftS Lib.trimRightS;refine aF (ud _ _) ?_;rw[List.length_reverse];refine aF (ud _ _) ?_;rw[List.length_reverse];exact ay _
def agA(s:aj)(w:World)(b i:Value)(wr:World):Prop:=∃k:Nat,k<=s.size/\i=.int .i64 k/\b=.bool ((s.data.toList.take k).all fun c=>!jX c)/\Fr aS w wr
theorem Qu(name value:aj)(w:World)(hn:name.size<100000)(hv:value.size<100000) :
  aB 182 #[.agg #[.string name,.string value]] w fun e w'=>e=.returned (.bool (lU name value))/\Fr aS w w':=by
 obtain⟨wb,jQ⟩:∃wb,wb=w.alloc (.cells #[.string name,.string value] 142):=⟨_,rfl⟩;have kf:Fr aS w wb:=by rw[jQ];exact(ae aS w).alloc _
 have lW:wb.heap[w.heap.size]?=some (.cells #[.string name,.string value] 142 (0,0)):=by rw[jQ];exact aC _ _
 have HC:=O (show∀U,Fr aS wb U->U.cell? ⟨w.heap.size,0,none⟩=some (.string name)/\U.cell? ⟨w.heap.size,1,none⟩=some (.string value)from fun U hU=>by
  have j1:=hU.keep lW id;simp[World.cell?,j1])
 have qL:=O jQ;have mh:=O kf;clear jQ kf lW;by_cases agB:128<value.size
 ·have HP:=O (show lU name value=false by unfold lU;rw[aA agB]);have i128:(128:Int)<(value.size:Int):=ab;go_enter func182,ntmps182;go_wp2;rw[<-qL.o];go_ret;exact⟨by rw[HP.o];rfl,mh.o⟩
 ·have HP:=O (show lU name value=if nk name.data.toList=[97,99,99,101,112,116]then Ft value
 else if nk name.data.toList=[97,99,99,101,112,116,45,108,97,110,103,117,97,103,101]then vw value
 else if nk name.data.toList=[99,111,110,116,101,110,116,45,108,97,110,103,117,97,103,101]then vw value
 else if nk name.data.toList=[99,111,110,116,101,110,116,45,116,121,112,101]then Ft value&&Lib.containsS rk (Fu value)
 else false by unfold lU;rw[ar agB])
  have i128:¬(128:Int)<(value.size:Int):=ab;go_enter func182,ntmps182;go_wp2;rw[<-qL.o];go_loopw[3,15] (agA value wb) (fun _ i _=>value.size-(intOf i).toNat)
  case atStart=>exact⟨0,ab,rfl,rfl,ae _ _⟩
  case round =>
   obtain⟨k,hk,rfl,rfl,cL⟩:=hrel;obtain⟨c0,c1⟩:=HC.o wr cL;by_cases fk:k<value.size
   ·have o_:(k:Int)<(value.size:Int):=ab;have qM:=byte_at value k fk;have l_:=O (show((value.data.toList.take (k+1)).all fun c=>!jX c)=(((value.data.toList.take k).all fun c=>!jX c)&&!jX value[k])by rw[cC,qM,jP];simp);clear qM;cases hb:(value.data.toList.take k).all fun c=>!jX c
    ·have SL:=O (show((value.data.toList.take (k+1)).all fun c=>!jX c)=false by rw[l_.o,hb];rfl);clear hb;go_wp2;go_roundw
     case rel=>exact⟨k+1,ab,bg,by rw[SL.o],cL⟩
     case measure=>simp[intOf];omega
    ·have SL:=O (show((value.data.toList.take (k+1)).all fun c=>!jX c)=!jX value[k]by rw[l_.o,hb];rfl);clear hb;go_wp2_with fail
     refine(MN value[k] _).mono ?_;rintro e u⟨rfl,rfl⟩;go_wp2;go_roundw
     case rel=>exact⟨k+1,ab,bg,by rw[SL.o],cL⟩
     case measure=>simp[intOf];omega
   ·have o_:¬(k:Int)<(value.size:Int):=ab;rw[show((value.data.toList.take k).all fun c=>!jX c)=Ft value from by rw[aD bH];rfl];generalize Ft value=sf at *
    go_wp2_with fail
    refine(qX name wr ab).mono ?_;rintro e u1⟨rfl,dn⟩;have lq:=O (cL.trans dn);clear dn c0 c1;obtain⟨c0,c1⟩:=HC.o u1 lq.o;generalize nk name.data.toList=nl at *
    by_cases a1:nl=[97,99,99,101,112,116]
    ·subst a1;have HE:=O (show lU name value=sf by rw[HP.o,aA rfl]);go_wp2;go_ret;exact⟨by rw[HE.o];rfl,mh.o.trans lq.o⟩
    have HP1:=O (by have h:=HP.o;rw[ar a1]at h;exact h);have b1:(nl== [97,99,99,101,112,116])=false:=aL.2 a1;by_cases a2:nl=[97,99,99,101,112,116,45,108,97,110,103,117,97,103,101]
    ·subst a2;have HE:=O (show lU name value=vw value by rw[HP1.o,aA rfl]);clear b1 a1;go_wp2_with fail
     refine(yT value u1 hv).mono ?_;rintro e u2⟨rfl,dz⟩;go_wp2;go_ret;exact⟨by rw[HE.o];rfl,mh.o.trans (lq.o.trans dz)⟩
    have HP2:=O (by have h:=HP1.o;rw[ar a2]at h;exact h);have b2:(nl== [97,99,99,101,112,116,45,108,97,110,103,117,97,103,101])=false:=aL.2 a2;by_cases a3:nl=[99,111,110,116,101,110,116,45,108,97,110,103,117,97,103,101]
    ·subst a3;have HE:=O (show lU name value=vw value by rw[HP2.o,aA rfl]);clear b1 a1 b2 a2;go_wp2_with fail
     refine(yT value u1 hv).mono ?_;rintro e u2⟨rfl,dz⟩;go_wp2;go_ret;exact⟨by rw[HE.o];rfl,mh.o.trans (lq.o.trans dz)⟩
    have HP3:=O (by have h:=HP2.o;rw[ar a3]at h;exact h);have b3:(nl== [99,111,110,116,101,110,116,45,108,97,110,103,117,97,103,101])=false:=aL.2 a3;by_cases a4:nl=[99,111,110,116,101,110,116,45,116,121,112,101]
    ·subst a4;have HE:=O (show lU name value=(sf&&Lib.containsS rk (Fu value))by rw[HP3.o,aA rfl]);clear b1 a1 b2 a2 b3 a3;have G7:=O (show aB 133 #[.string value,.string ⟨#[59]⟩] u1 fun e w'=>(∃r f,e=.returned (.tuple #[.string (sr value 59),.string r,.bool f]))/\Fr aS u1 w' by
      by_cases hc:0<=Lib.indexByte value.data.toList 59
      ·obtain⟨i,hi⟩:∃i:Nat,Lib.indexByte value.data.toList 59=(i:Int):=⟨(Lib.indexByte value.data.toList 59).toNat,ab⟩;have hl:i<value.size:=by
        have h:=(Lib.indexByte_some hi).1;have:=(List.getElem?_eq_some_iff.1 h).1;simpa using this
       refine(JY value 59 i u1 ab hi hl).mono ?_;rintro e w'⟨rfl,n,rfl⟩;refine⟨⟨value.extract (i+1) value.size,true,?_⟩,(ae aS u1).drewN n⟩;unfold sr;rw[aA hc,hi];rfl
      ·refine(Fs value 59 u1 hc).mono ?_;rintro e w'⟨rfl,rfl⟩;refine⟨⟨⟨#[]⟩,false,?_⟩,ae _ _⟩;unfold sr;rw[ar hc])
     have hbz:(sr value 59).size<=value.size:=by
      unfold sr;split
      ·simp[gy];omega
      ·exact ay _
     have HKB:=O (show Fu value=⟨(nk (Lib.trimS (sr value 59).data.toList [32,9])).toArray⟩from rfl);generalize sr value 59=bv at *
     go_wp2_with fail
     refine G7.o.mono ?_;rintro e u2⟨⟨r,f,rfl⟩,dz⟩;have fY:=O (lq.o.trans dz);clear G7 dz;go_wp2_with fail
     refine(sj bv ⟨#[32,9]⟩ u2 ab ag ag ag).mono ?_;rintro e u3⟨rfl,il⟩;have iq:=O (fY.o.trans il);clear il;have Qv:=JZ bv.data.toList [32,9];have hbs:bv.data.toList.length=bv.size:=aR;rw[show(⟨#[32,9]⟩:aj).data.toList=[32,9]from rfl];generalize Lib.trimS bv.data.toList [32,9]=tl at *
     have Xn:(⟨tl.toArray⟩:aj).size<17592186044416:=by show tl.toArray.size<_;simp;omega
     go_wp2_with fail
     refine(qX ⟨tl.toArray⟩ u3 Xn).mono ?_;rintro e u4⟨rfl,kD⟩;have jO:=O (iq.o.trans kD);rw[show(⟨(nk (⟨tl.toArray⟩:aj).data.toList).toArray⟩:aj)=Fu value from by rw[HKB.o]];clear kD Qv Xn hbs;generalize Fu value=kv at *
     cases sf
     ·go_wp2;go_ret;exact⟨by rw[HE.o];rfl,mh.o.trans (bF jO.o (by repeat(first|exact ae _ _|apply bz)))⟩
     ·have HCO:=O (slices_Contains_string u4.heap.size 0 3 3 rk kv (u4.alloc (.cells (rk.map Value.string).toArray 9)) (bd rfl) (bd rfl) (fun j hj=>by
       have h:=aC u4 (.cells (rk.map Value.string).toArray 9);have e:(rk.map Value.string)[j]?=some (.string (rk.getD j ByteArray.empty)):=by rw[List.getElem?_map,List.getElem?_eq_getElem hj,List.getD_eq_getElem?_getD,List.getElem?_eq_getElem hj];rfl
       rw[bw];simp only[World.cell?,h];simpa using e))
      have xe:=O (show Fr aS wb (u4.alloc (.cells (rk.map Value.string).toArray 9))from jO.o.alloc _);go_wp2_with fail
      refine HCO.o.mono ?_;rintro e u5⟨rfl,rfl⟩;rw[show rk.take 3=rk from rfl];go_wp2;go_ret;exact⟨by rw[HE.o];rfl,mh.o.trans xe.o⟩
    have b4:(nl== [99,111,110,116,101,110,116,45,116,121,112,101])=false:=aL.2 a4;have HE:=O (show lU name value=false by rw[HP3.o,ar a4]);go_wp2;go_ret;exact⟨by rw[HE.o];rfl,mh.o.trans lq.o⟩
theorem fX(w:World)(t:TypeId)(ss:List aj)(hl:ss.length<=maxLen):fM (w.alloc (.cells (ss.map Value.string).toArray t)) (.slice (some ⟨w.heap.size,0,none⟩) ss.length ss.length) ss:=by
 refine Or.inr ⟨w.heap.size,0,ss.length,rfl,ay _,hl,aR,fun j x hj=>?_⟩;rw[bw];simp only[World.cell?,aC];simp[hj]
def kB(ss:List aj):aH:=Lib.join (ss.map (·.data.toList)) [58]
def kq(M6:Bool)(ss:List aj):aj:=if M6 then⟨(Kl (kB ss)).toArray⟩else⟨(Ki (kB ss)).toArray⟩
theorem YR(l:aH):(Ki l).length=32:=by unfold Ki oG;rw[C8,nY];rfl
theorem YS(l:aH):(Kl l).length=64:=by unfold Kl oG;rw[C8,nY];rfl
theorem lD(M6:Bool)(ss:List aj):(kq M6 ss).size<=64:=by
 unfold kq;cases M6
 ·show(Ki _).toArray.size<=64;simp[YR]
 ·show(Kl _).toArray.size<=64;simp[YS]
def sW(fO:Int)(w:World):Prop:=∀(v:Value) (ss:List aj) (W:World),Fr aS w W->fM W v ss->ss.length<=100000->(kB ss).length<=100000 ->
  aB 160 #[.int .i64 fO,v] W fun e w'=>e=.returned (.string (kq (decide (fO=3)) ss))/\Fr aS W w'
theorem sW.fr{fO:Int}(h:sW fO w)(hf:Fr aS w w'):sW fO w':=fun v ss W hW=>h v ss W (hf.trans hW)
theorem Km(v:Value)(ss:List aj)(w:World)(hv:fM w v ss)(hn:ss.length<=100000)(hlen:(kB ss).length<=100000) :
  aB 206 #[v,.string ⟨#[58]⟩] w fun e w'=>e=.returned (.string ⟨(kB ss).toArray⟩)/\Fr aS w w':=by
 rcases hv with ⟨a,c,rfl,rfl,_⟩|⟨bk,o,c,rfl,h1,h2,h3,h4⟩
 ·exact(strings_Join_none _ _ _ _).mono (by rintro e w1 ⟨rfl,rfl⟩;exact⟨rfl,ae _ _⟩)
 ·exact(strings_Join bk o c ss ⟨#[58]⟩ w h4 h3 ab h1 (by unfold kB at hlen;show(Lib.join _ [58]).length<=_;omega)).mono (by rintro e w1 ⟨rfl,hb⟩;exact⟨rfl,fj hb⟩)
theorem YT(fO:Int)(h3:fO≠3)(w:World)(ht:uj w):sW fO w:=by
 intro v ss W hW hv hn hlen;have hT:=O (ht.fr hW);clear ht;have HJ:=O (Km v ss W hv hn hlen);clear hv;have hz:(⟨(kB ss).toArray⟩:aj).size<4398046511104:=by show(kB ss).toArray.size<_;simp;omega
 have HB:=O (show kq (decide (fO=3)) ss=⟨(Ki (kB ss)).toArray⟩from by rw[bD h3];rfl);generalize kB ss=tx at *
 clear hW;go_enter func160,ntmps160;go_wp2_with fail
 refine HJ.o.mono ?_;rintro e u1⟨rfl,dn⟩;go_wp2_with fail
 refine(YO ⟨tx.toArray⟩ u1 hz (hT.o.fr dn)).mono ?_;rintro e u2⟨rfl,dz⟩;go_wp2;go_ret;exact⟨(aq (fun b=>Ending.returned (.string b)) HB.o).symm,dn.trans dz⟩
theorem PB{P:Program}{W:World}{x:String×DataW Unit}:∀ {laid:List (String×DataW Unit)},laidMet P laid W->x∈laid->∃r,laidMet P (x :: r) W
 |y :: l,h,hm=>by
  rcases bB.1 hm with rfl|hm
  ·exact⟨l,h⟩
  ·exact PB (laidMet.tail h) hm
theorem rz{P:Program}{W:World}{laid:List (String×DataW Unit)}{name:String}{k:IntKind}{zs:List Int}{g:Nat}{t e:TypeId}{n:Nat}
  (h:laidMet P laid W)(hm:(name,Lib.tabData k zs)∈laid)
  (hg:P.globalNamed name=some g)(SX:(P.globals[g]?).map (·.type)=some t)(ht:P.underlying t=some (.array n e))(he:P.underlying e=some (.int k))(hce:P.cellsOf e=1)(hct:P.cellsOf t=n):Lib.TabIs P W name k zs:=by
 obtain⟨r,hr⟩:=PB h hm;exact Lib.tabIs_of_head hg SX ht he hce hct hr
theorem YU{i:Nat}{v:Value}(h:w.cell? ⟨g,i,none⟩=some v):g<w.heap.size:=by
 cases hb:w.heap[g]? with
 |none=>simp[World.cell?,hb]at h
 |some o=>exact bj hb
theorem vL{P:Program}{name:String}{k:IntKind}{zs:List Int}(hT:Lib.TabIs P W name k zs)(hg:P.globalNamed name=some g)(hz:0<zs.length):oI W g k zs:=by
 have hc:∀(i:Nat) z,zs[i]?=some z->W.cell? ⟨g,i,none⟩=some (.int k z):=fun i z hi=>by
  obtain⟨hl,he⟩:=List.getElem?_eq_some_iff.1 hi;rw[hT.cell hg i hl,List.getD_eq_getElem?_getD,hi];rfl
 exact⟨YU (hc 0 _ (List.getElem?_eq_getElem hz)),hc⟩
theorem Kn(h:laidMet prog laid W)(hm:("gatepost/api.Sines",Lib.tabData .u32 Df)∈laid/\("gatepost/sum.turns",Lib.tabData .i64 (oH.map Int.ofNat))∈laid):uj W :=
 ⟨vL (rz h hm.1 (g:=3) af af underlying295 underlying292 af af) af ag,
  vL (rz h hm.2 (g:=4) af af underlying301 underlying3 af af) af ag⟩
theorem Ko(h:laidMet prog laid W)(hm:("gatepost/api.Roots",Lib.tabData .u32 Dj)∈laid/\("gatepost/api.Begin",Lib.tabData .u32 Un)∈laid):uk W :=
 ⟨vL (rz h hm.1 (g:=2) af af underlying295 underlying292 af af) af ag,
  vL (rz h hm.2 (g:=1) af af underlying293 underlying292 af af) af ag⟩
def QY(c:UInt8):Bool:=c<32||c==127
def lr(s:aj):Bool:=s.data.toList.all fun c=>!QY c
def Dp(user pass:aj):aj:=⟨([66,97,115,105,99,32]++uX (user.data.toList++[58]++pass.data.toList)).toArray⟩
def mN(user pass:aj)(e:Ending):Prop :=
 if 0<=Lib.indexByte user.data.toList 58 then e=.returned (.tuple #[.string ⟨#[]⟩,.iface 82 (.int .i64 1)])
 else if lr user&&lr pass then e=.returned (.tuple #[.string (Dp user pass),.nilIface])
 else e=.returned (.tuple #[.string ⟨#[]⟩,.iface 82 (.int .i64 3)])
def ahe(user pass:aj)(w:World)(i:Value)(wr:World):Prop:=∃k:Nat,k<=2/\i=.int .i64 k/\(0<k->lr user=true)/\(1<k->lr pass=true)/\Fr aS w wr
def am8(s:aj)(w:World)(i:Value)(wr:World):Prop:=∃k:Nat,k<=s.size/\i=.int .i64 k/\(s.data.toList.take k).all (fun c=>!QY c)=true/\Fr aS w wr
theorem Hq{a b x:aj}(h:[a,b][k]?=some x):k=0/\x=a\/k=1/\x=b:=by
 match k,h with
 |0,h=>exact .inl ⟨rfl,by simpa using h.symm⟩
 |1,h=>exact .inr ⟨rfl,by simpa using h.symm⟩
 |k+2,h=>simp at h
theorem FP(user pass:aj)(w:World)(hu:user.size<=100000)(hp:pass.size<=100000) :
  aB 71 #[.agg #[.string user,.string pass]] w fun e w'=>mN user pass e/\Fr aS w w':=by
 have kf:Fr aS w (w.alloc (.cells #[.string user,.string pass] 31)):=(ae aS w).alloc _;have pR:=aC w (.cells #[.string user,.string pass] 31);by_cases hc:0<=Lib.indexByte user.data.toList 58
 ·have HP:=O (show∀e,mN user pass e↔e=.returned (.tuple #[.string ⟨#[]⟩,.iface 82 (.int .i64 1)])from fun e=>by unfold mN;rw[aA hc]);have hd:decide (0<=Lib.indexByte user.data.toList 58)=true:=bL hc;go_enter func71,ntmps71;go_wp2_with fail
  refine(strings_Contains_one user 58 _).mono ?_;rintro e u1⟨rfl,rfl⟩;rw[hd];go_wp2;go_ret2;exact⟨(HP.o _).2 rfl,kf⟩
 ·have hd:decide (0<=Lib.indexByte user.data.toList 58)=false:=bD hc;have BX:=O (show(lr user&&lr pass)=false->mN user pass (.returned (.tuple #[.string ⟨#[]⟩,.iface 82 (.int .i64 3)]))from fun h=>by unfold mN;rw[ar hc,ar (by simp[h])]);have M_:=O (show(lr user&&lr pass)=true->mN user pass (.returned (.tuple #[.string (Dp user pass),.nilIface]))from fun h=>by unfold mN;rw[ar hc,aA h]);have mh:=O kf
  have HCA:=O (show∀U,Fr aS (w.alloc (.cells #[.string user,.string pass] 31)) U->U.cell? ⟨w.heap.size,0,none⟩=some (.string user)/\U.cell? ⟨w.heap.size,1,none⟩=some (.string pass)from fun U hU=>by
   have rS:=hU.keep pR id;simp[World.cell?,rS])
  have BZ:Fr aS w ((w.alloc (.cells #[.string user,.string pass] 31)).alloc (.cells #[.string user,.string pass] 9)):=kf.alloc _;have xh:∀U,Fr aS ((w.alloc (.cells #[.string user,.string pass] 31)).alloc (.cells #[.string user,.string pass] 9)) U ->
    U.cell? ⟨w.heap.size,0,none⟩=some (.string user)/\U.cell? ⟨w.heap.size,1,none⟩=some (.string pass)/\∀(k:Nat) x,[user,pass][k]?=some x->U.cell? ⟨w.heap.size+1,k,none⟩=some (.string x):=fun U hU=>by
   have lW:=hU.keep (((ae aS _).alloc _).keep pR id) id;have rS:=hU.keep (aC (w.alloc (.cells #[.string user,.string pass] 31)) (.cells #[.string user,.string pass] 9)) id;rw[bN]at rS;refine⟨by simp[World.cell?,lW],by simp[World.cell?,lW],fun k x hx=>?_⟩;rcases Hq hx with ⟨rfl,rfl⟩|⟨rfl,rfl⟩<;>simp[World.cell?,rS]
  have EO:=O xh;have rC:=O BZ;clear kf pR xh BZ;go_enter func71,ntmps71;go_wp2_with fail
  refine(strings_Contains_one user 58 _).mono ?_;rintro e u1⟨rfl,rfl⟩;rw[hd];go_wp2;obtain⟨wl,Ew⟩:∃wl,wl=(w.alloc (.cells #[.string user,.string pass] 31)).alloc (.cells #[.string user,.string pass] 9):=⟨_,rfl⟩;rw[<-Ew]at EO rC ⊢;clear Ew;go_loopw[17] (ahe user pass wl) (fun i _=>2-(intOf i).toNat)
  case atStart=>exact⟨0,ab,rfl,ab,ab,ae _ _⟩
  case round =>
   obtain⟨k,hk,rfl,oW,dn,cL⟩:=hrel;generalize wr=wo at *
   by_cases rS:k<2
   ·have am9:(k:Int)<2:=ab;obtain⟨s,hs⟩:∃s,[user,pass][k]?=some s:=⟨_,List.getElem?_eq_getElem (by simpa using rS)⟩;have hcell:=(EO.o wo cL).2.2 k s hs;have yx:s.size<=100000:=by rcases Hq hs with ⟨_,rfl⟩|⟨_,rfl⟩<;>assumption
    have Mt:=O (show lr s=true->(0<k+1->lr user=true)/\(1<k+1->lr pass=true)from fun h=>by
     rcases Hq hs with ⟨rfl,rfl⟩|⟨rfl,rfl⟩
     ·exact⟨fun _=>h,fun h=>ab⟩
     ·exact⟨fun _=>oW ab,fun _=>h⟩)
    have HNO:=O (show lr s=false->(lr user&&lr pass)=false from fun h=>by
     rcases Hq hs with ⟨rfl,rfl⟩|⟨rfl,rfl⟩<;>simp[h])
    clear hs oW dn;go_wp2;go_loopw[23] (am8 s wl) (fun i _=>s.size-(intOf i).toNat)
    case atStart=>exact⟨0,ab,rfl,rfl,cL⟩
    case round =>
     obtain⟨j,hj,rfl,iL,je⟩:=hrel;by_cases hj2:j<s.size
     ·have am_:(j:Int)<(s.size:Int):=ab;have qM:=byte_at s j hj2;by_cases hb:QY s[j]=true
      ·have HFI:=O (show lr s=false by
        unfold lr;rw[iZ];exact⟨s[j],cj qM,by simp[hb]⟩)
       have hor:s[j].toNat<32\/s[j].toNat=127:=by
        unfold QY at hb;simp only[Bool.or_eq_true,dF,dT]at hb;rcases hb with h|h
        ·exact .inl (UInt8.lt_iff_toNat_lt.1 h)
        ·exact .inr (by rw[h];rfl)
       by_cases h32:s[j].toNat<32
       ·have ahg:(s[j].toNat:Int)<32:=ab;go_wp2;go_ret2;exact⟨BX.o (HNO.o HFI.o),rC.o.trans je⟩
       ·have ahg:¬(s[j].toNat:Int)<32:=ab;have aud:s[j].toNat=127:=ab;have ahi:(s[j].toNat:Int)=127:=ab;go_wp2;go_ret2;exact⟨BX.o (HNO.o HFI.o),rC.o.trans je⟩
      ·have hor:¬s[j].toNat<32/\¬s[j].toNat=127:=by
        unfold QY at hb;simp only[Bool.or_eq_true,dF,dT,not_or]at hb;exact⟨fun h=>hb.1 (UInt8.lt_iff_toNat_lt.2 h),fun h=>hb.2 (iK.1 h)⟩
       obtain⟨o1,o2⟩:=hor;have ahg:¬(s[j].toNat:Int)<32:=ab;have ahi:¬(s[j].toNat:Int)=127:=ab;have Ax:=O (show(s.data.toList.take (j+1)).all (fun c=>!QY c)=true by
        rw[cC,qM,jP,iL];simp[hb])
       clear qM iL;go_wp2;go_roundw
       case rel=>exact⟨j+1,ab,bg,Ax.o,je⟩
       case measure=>simp[intOf];omega
     ·have am_:¬(j:Int)<(s.size:Int):=ab;have HFI:=O (show lr s=true by
       unfold lr;rw[aD bH]at iL;exact iL)
      clear iL;go_wp2;go_roundw
      case rel=>exact⟨k+1,ab,bg,(Mt.o HFI.o).1,(Mt.o HFI.o).2,je⟩
      case measure=>simp[intOf];omega
   ·have am9:¬(k:Int)<2:=ab;have Cn:(lr user&&lr pass)=true:=by rw[oW ab,dn ab];rfl
    have HPO:=O (M_.o Cn);obtain⟨c0,c1,_⟩:=EO.o wo cL;have pW:¬9223372036854775807<user.size+1:=ab;have ko:¬9223372036854775807<user.size+1+pass.size:=ab;clear oW dn Cn;have ana:=O (fun W=>M9 (user++⟨#[58]⟩++pass) W (by simp[iW];show user.size+1+pass.size<_;omega));have wW:=O (show(uX (user++⟨#[58]⟩++pass).data.toList).length<=400000 from by rw[PI];simp[gK];omega)
    have HEQ:=O (show(⟨#[66,97,115,105,99,32]⟩++⟨(uX (user++⟨#[58]⟩++pass).data.toList).toArray⟩:aj)=Dp user pass from by
     apply Go.WideShapes.bytes_inj;unfold Dp;simp[gK])
    go_wp2_with fail
    refine(ana.o _).mono ?_;rintro e w7⟨rfl,og⟩;generalize uX (user++⟨#[58]⟩++pass).data.toList=bl at *
    have sV:¬9223372036854775807<6+bl.length:=by have:=wW.o;omega
    go_wp2;go_ret2;rw[<-HEQ.o]at HPO;exact⟨HPO.o,(rC.o.trans cL).trans og⟩
