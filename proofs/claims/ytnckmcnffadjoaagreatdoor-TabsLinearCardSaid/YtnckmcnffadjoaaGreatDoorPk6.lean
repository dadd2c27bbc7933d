/- Lemmas for the law's walk. -/
import Derived.Test.YtnckmcnffadjoaaGreatDoorPk5
set_option maxRecDepth 100000
set_option maxHeartbeats 16000000
set_option linter.unusedSimpArgs false
namespace Go.Proofs.YtnckmcnffadjoaaGreatDoor
open Go.Proofs.Tryz
open Go.RowKit
variable {x cs:aZ} {p:aZ->Bool} {l:dh} {fuel k:Nat} {s:aj} {w w':World} {e:Ending}
abbrev wY:bT:= #[.bool false,.string ⟨#[]⟩,.int .i64 0,.bool false,.string ⟨#[]⟩,.int .i64 0,.string ⟨#[]⟩,.string ⟨#[]⟩,.string ⟨#[]⟩,.bool false,.string ⟨#[]⟩,.bool false,.slice none 0 0]
theorem VJ:wY.size=13:=rfl
theorem Jd:∀v∈wY.toList,v.oneCell'=true:=dw
theorem Br(h:x.length=13):(prog.info? 133).map (·.size)=some x.length:=by rw[h];kernel_rfl
def aes(w:World)(p:aZ->Bool)(xs:dh)(i:Value)(wr:World):Prop :=
 ∃k:Nat,k<=xs.length/\i=.int .i64 k/\(xs.take k).any p=false/\Fr aS w wr
theorem Ag(g:Nat)(cap:bT)(p:aZ->Bool)(v:Value)(xs:dh)(w:World)(eg:∀args w,(callFunc g args).run prog w=.ok (.enter g args) w)(hp:gT aS w g cap p xs)(hv:dZ 13 w v xs) :
  aB 199 #[v,.func (.func g) #[] cap] w fun e w'=>e=.returned (.int .i64 (mh p xs 0))/\Fr aS w w':=by
 obtain⟨av,cv,fO⟩:=hv.form;subst fO;have ef:=O hv.1;go_enter func199,ntmps199;go_wp2;go_loopw[8] (aes w p xs) (fun i _=>xs.length-(intOf i).toNat)
 case atStart=>exact⟨0,aL _,rfl,rfl,ae _ _⟩
 case round =>
  obtain⟨k,hk,rfl,hn,cP⟩:=hrel;have HN:=O hn;clear hn;by_cases fe:k<xs.length
  ·rcases(hv.fN cP).2 with ⟨_,_,_,e,_⟩|⟨bk,of,c,hf,h1,h2,h3,h4⟩
   ·rw[e]at fe;exact absurd fe (bV _)
   ·cases hf;unfold maxLen at h2;have dS:=O (List.getElem?_eq_getElem fe);have hcell:=h4 k _ dS.o;have iJ:=O (bO fe);generalize xs[k]=x at dS hcell iJ;have fH:=O (hp x iJ.o wr cP);have lM:=(ef.o x iJ.o).1;clear h4;cases qU:p x
    ·have qt:=O (any_take_succ dS.o HN.o qU);go_wp2_with (first|((with_reducible refine dr 15 ?_);refine aY rfl 133 (.tmp 14) rfl bk (of+k*13) rfl x _ hcell underlying133 rfl (Br lM) ?_)|fail)
     refine fH.o.mono ?_;rintro e w1⟨rfl,dk⟩;rw[qU];go_wp2;go_roundw
     case rel=>exact⟨k+1,ab,bg,qt.o,cP.trans dk⟩
     case measure=>simp[intOf];omega
    ·have fl:=O (o9 (i:=0) dS.o qU HN.o);go_wp2_with (first|((with_reducible refine dr 15 ?_);refine aY rfl 133 (.tmp 14) rfl bk (of+k*13) rfl x _ hcell underlying133 rfl (Br lM) ?_)|fail)
     refine fH.o.mono ?_;rintro e w1⟨rfl,dk⟩;rw[qU];go_wp2;go_ret;rw[fl.o,bz];exact⟨rfl,cP.trans dk⟩
  ·have fl:=O (show mh p xs 0= -1 from kE (by have h:=HN.o;rw[aD ab]at h;exact h));go_wp2;go_ret;rw[fl.o];exact⟨rfl,cP⟩
def aet(b:Nat)(w:World)(bk cap:Nat)(p:aZ->Bool)(xs:dh)(i j:Value)(wr:World):Prop :=
 ∃(m n:Nat) (ys:dh),i=.int .i64 m/\j=.int .i64 n/\m<n/\n<=xs.length/\ys.length=xs.length/\OwnRows b 133 13 wr (.slice (some ⟨bk,0,none⟩) xs.length cap) ys /\
  ys.take m=(xs.take n).filter (fun x=>!p x)/\ys.drop n=xs.drop n/\Fr (one bk) w wr
theorem Ah{p:aZ->Bool}:∀ {l:dh} (i:Nat),l.any p=true->∃k x,l[k]?=some x/\p x=true/\(l.take k).any p=false/\mh p l i=((i+k:Nat):Int)
 |[],_,h=>by simp at h
 |a :: l,i,h=>by
  cases ha:p a
  ·rw[List.any_cons,ha,jU]at h;obtain⟨k,x,h1,h2,h3,h4⟩:=Ah (i+1) h;refine⟨k+1,x,by simpa using h1,h2,by simp[ha,h3],?_⟩;rw[mh,ha];simp only[cL,fa];rw[h4];congr 1;omega
  ·exact⟨0,a,rfl,ha,rfl,by rw[mh,ha];simp⟩
theorem Ai(h:l.any p=false):l.filter (fun x=>!p x)=l:=by
 rw[List.filter_eq_self];intro a ha;have:=fc.1 h a ha;simpa using this
theorem FU(b:Nat)(g:Nat)(cap:bT)(p:aZ->Bool)(v:Value)(xs:dh)(w:World)(eg:∀args w,(callFunc g args).run prog w=.ok (.enter g args) w)(hp:gT (own v) w g cap p xs)(hv:OwnRows b 133 13 w v xs) :
  aB 144 #[v,.func (.func g) #[] cap] w fun e w'=>∃a c,e=.returned (.slice a (xs.filter (fun x=>!p x)).length c)/\OwnRows b 133 13 w' (.slice a (xs.filter (fun x=>!p x)).length c) (xs.filter (fun x=>!p x))/\Fr (own v) w w'/\own (.slice a (xs.filter (fun x=>!p x)).length c)=own v:=by
 cases jv:xs.any p
 ·have r_:=O (kE (i:=0) jv);rw[Ai jv];obtain⟨av,cv,fO⟩:=hv.form;subst fO;go_enter func144,ntmps144;go_wp2_with fail
  refine(Ag g cap p _ xs w eg hp.none hv.at).mono ?_;rintro e w1⟨rfl,dk⟩;rw[r_.o];go_wp2;go_ret;exact⟨_,_,rfl,hv.fr dk (fun _ _ h=>h),dk.mono (fun _ _ h=>absurd h id),rfl⟩
 ·obtain⟨k0,x0,I7,Ej,vT,r_⟩:=Ah 0 jv;rw[bz]at r_;have JZ:=(List.getElem?_eq_some_iff.1 I7).1;obtain⟨bk,cp,Lw⟩:∃bk cp,v=.slice (some ⟨bk,0,none⟩) xs.length cp:=by
   rcases hv.2.2 with ⟨_,hn⟩|⟨bk,cp,cur,hv,_⟩
   ·omega
   ·exact⟨bk,cp,hv⟩
  subst Lw;obtain⟨CD,cur,sL,q1,q2,q3,q4,q5,q6⟩:=hv.open (g:=bk) rfl;cases sL;unfold maxLen at q4;have ef:=O hv.1;have Ek:=O (show xs.take k0=(xs.take (k0+1)).filter (fun x=>!p x)by
   rw[d_ I7,cG,Ai vT];simp[Ej])
  have HP:=O hp;have Z0:=O r_;clear jv vT I7 Ej r_ q2 q5 q6 hp;go_enter func144,ntmps144;go_wp2_with fail
  refine(Ag g cap p _ xs w eg HP.o.none hv.at).mono ?_;rintro e w1⟨rfl,dk⟩;rw[Z0.o];have FC:=hv.fr dk (fun _ _ h=>h);have J5:((k0:Int)== -1)=false:=by rw[aO];omega
  go_wp2;go_loopw[5,6] (aet b w bk cp p xs) (fun _ j _=>xs.length-(intOf j).toNat)
  case atStart=>exact⟨k0,k0+1,xs,rfl,bg,ab,ab,rfl,FC,Ek.o,rfl,dk.mono (fun _ _ h=>absurd h id)⟩
  case round =>
   obtain⟨m,n,ys,rfl,rfl,hmn,hn,hlen,cW,rO,tz,cP⟩:=hrel;have HT:=O rO;have HD:=O tz;have j8:=O hlen;clear rO tz hlen;rw[<-j8.o]at cW;have sa:=cW.at;by_cases fe:n<xs.length
   ·rcases sa.2 with ⟨_,_,_,e,_⟩|⟨I8,of,c,hf,h1,h2,h3,h4⟩
    ·have hl:=j8.o;rw[e]at hl;simp at hl;omega
    ·cases hf;have dS:=O (List.getElem?_eq_getElem fe);have yO:ys[n]?=some xs[n]:=by
      have e:=ar (fun l:dh=>l[0]?) HD.o;simp only[List.getElem?_drop,Nat.add_zero]at e;rw[e,dS.o]
     have hcell:=h4 n _ yO;simp only[bz]at hcell;have iJ:=O (bO fe);generalize xs[n]=x at dS hcell iJ yO;have lM:=(ef.o x iJ.o).1;have mU:=O (ef.o x iJ.o).2;have jx:=fun W=>run_storeCells_new (P:=prog) W 133 #[.bool false,.string ⟨#[]⟩,.int .i64 0,.bool false,.string ⟨#[]⟩,.int .i64 0,.string ⟨#[]⟩,.string ⟨#[]⟩,.string ⟨#[]⟩,.bool false,.string ⟨#[]⟩,.bool false,.slice none 0 0] x (by rw[lM];rfl) mU.o
     have gX:Fr aS wr (wr.alloc (.cells x.toArray 133)):=(ae aS wr).alloc _;have fH:=O (HP.o x iJ.o (wr.alloc (.cells x.toArray 133)) ((cP.alloc _).mono (fun k _ h=>by have e:k=bk:=h;rw[e];rfl)));have Ja:=O (Br lM);have jz:=cP.alloc (.cells x.toArray 133);have fG:=cW.fr gX (fun _ _ h=>h);have qB:(wr.alloc (.cells x.toArray 133)).heap[wr.heap.size]?=some (.cells x.toArray 133 (0,0)):=aC _ _
     have ui:=O qB;clear h4 yO qB gX;go_wp2_with (first|((with_reducible refine dr 25 ?_);refine aY rfl 133 (.tmp 24) rfl bk (n*13) rfl x _ hcell underlying133 rfl Ja.o ?_)|((with_reducible refine dr 27 ?_);refine aI rfl 133 (.tmp 7) rfl wr.heap.size rfl _ x.toArray (0,0) _ ui.o underlying133 rfl (by rw[aX];exact Ja.o) ?_)|fail)
     have hlw:wr.heap.size<(wr.alloc (.cells x.toArray 133)).heap.size:=aR;clear jx hcell;generalize wr.alloc (.cells x.toArray 133)=W2 at *
     refine fH.o.mono ?_;rintro e w3⟨rfl,iz⟩;have qR:=jz.trans (iz.mono (fun _ _ h=>absurd h id));have fC:=fG.fr iz (fun _ _ h=>h);have tO:=O (iz.keep ui.o id);have Oc:=O j8.o;cases qU:p x
     ·have Yt:=O (fC.there (g:=bk) (cap:=cp) (by rw[j8.o]) (o:=m*13) (n:=x.toArray.size) (by
       have hmc:(m+1)*13<=cp*13:=bR _ ab;rw[aX,lM];omega))
      have fg:=fC.store (i:=m) (y:=x) (by rw[j8.o];omega) lM mU.o (g:=bk) rfl;rw[j8.o]at fg;have oI:=qR.step (fL (ae (one bk) w3) (fun _=>rfl) x (m*13)) (fun _ _ h=>h)
      go_wp2_with (first|((with_reducible refine dr 32 ?_);refine aI rfl 133 (.tmp 7) rfl wr.heap.size rfl _ x.toArray (0,0) _ tO.o underlying133 rfl (by rw[aX];exact Ja.o) ?_)|((with_reducible refine cZ 133 ?_);refine iw rfl 133 (.tmp 33) (.tmp 32) rfl bk (m*13) x.toArray rfl rfl Yt.o (by rw[aX];exact Ja.o) (b_ mU.o) ?_)|fail)
      go_roundw
      case rel =>
       refine⟨m+1,n+1,ys.set m x,bg,bg,ab,ab,by rw[en];exact Oc.o,fg,?_,?_,oI⟩
       ·rw[d_ (l:=ys.set m x) (List.getElem?_set_self (by rw[Oc.o];omega)),gA (ay m),d_ dS.o,cG,HT.o];simp[qU]
       ·rw[gB ab];have e:=ar (List.drop 1) HD.o;simpa[eD]using e
      case measure=>simp[intOf];omega
     ·rw[j8.o]at fC;go_wp2_with fail
      go_roundw
      case rel =>
       refine⟨m,n+1,ys,rfl,bg,ab,ab,Oc.o,fC,?_,?_,qR⟩
       ·rw[d_ dS.o,cG,HT.o];simp[qU]
       ·have e:=ar (List.drop 1) HD.o;simpa[eD]using e
      case measure=>simp[intOf];omega
   ·have se:n=xs.length:=ab;subst se;have fl:=O (show ys.take m=xs.filter (fun x=>!p x)by have h:=HT.o;rw[aD (ay _)]at h;exact h);have tu:(ys.take m).length=m:=by rw[aJ,j8.o];omega
    have Aa:=O (show(xs.filter (fun x=>!p x)).length=m by rw[<-fl.o];exact tu);have hcut:=cW.cut (i:=m) (by rw[j8.o];omega) (g:=bk) (cap:=cp) (by rw[j8.o]);have hle:(xs.length-m)*13+m*13<=cp*13:=by rw[<-dI];exact bR _ ab
    have CJ:(Builtin.zeroCells wY (xs.length-m)).toList.length=(xs.length-m)*13:=by simp[Builtin.zeroCells]
    have xY:=fun ty=>jM (P:=prog) wr 87 133 ty wY underlying87 (fun w=>af) ag Jd bk (m*13) (xs.length-m) (cp-m) ab (by
     have:=cW.there (g:=bk) (cap:=cp) (by rw[j8.o]) (o:=m*13) (n:=(xs.length-m)*13) ab;exact this)
    have yP:=hcut.behind (o:=m*13) (vs:=(Builtin.zeroCells wY (xs.length-m)).toList) (by rw[tu];exact ay _) (g:=bk) (cap:=cp) (by rw[tu]) (by rw[CJ];omega);have oI:=cP.step (fL (ae (one bk) wr) (fun _=>rfl) (Builtin.zeroCells wY (xs.length-m)).toList (m*13)) (fun _ _ h=>h);clear cW sa hcut CJ tu hle j8;go_wp2_with fail
    go_ret;rw[Aa.o, <-fl.o];exact⟨_,_,rfl,yP,oI.mono (fun k _ h=>by have e:k=bk:=h;rw[e];rfl),rfl⟩
theorem aeu:∃i0:TypeInfo,prog.info? 133=some i0/\i0.size=13:=by
 have h:(prog.info? 133).map (·.size)=some 13:=af;cases hq:prog.info? 133 with
 |none=>rw[hq]at h;cases h
 |some i=>rw[hq]at h;exact⟨i,rfl,by simpa using h⟩
theorem GZ(b:Nat)(bk cp i j:Nat)(xs:dh)(w:World)(hv:OwnRows b 133 13 w (.slice (some ⟨bk,0,none⟩) xs.length cp) xs)(Rl:i<j)(hj:j<=xs.length) :
  aB 116 #[.slice (some ⟨bk,0,none⟩) xs.length cp,.int .i64 i,.int .i64 j] w fun e w'=>e=.returned (.slice (some ⟨bk,0,none⟩) (i+(xs.length-j)) cp)/\OwnRows b 133 13 w' (.slice (some ⟨bk,0,none⟩) (i+(xs.length-j)) cp) (xs.take i++xs.drop j)/\Fr (one bk) w w':=by
 obtain⟨i0,qN,ll⟩:=aeu;obtain⟨CD,cur,sL,q1,q2,q3,q4,q5,q6⟩:=hv.open (g:=bk) rfl;cases sL;unfold maxLen at q4;have dS:=hv.at;have ef:=hv.1;obtain⟨news,kT⟩:∃news,news=(xs.drop j).flatten:=⟨_,rfl⟩;have hdr:∀x∈xs.drop j,x.length=13/\∀u∈x,u.oneCell'=true:=fun x hx=>ef x (eE hx);have hlen:news.length=(xs.length-j)*13:=by rw[kT,gJ (fun x hx=>(hdr x hx).1),bM]
 obtain⟨A,hA,Od⟩:∃A:Addr,(if cp=j then some (⟨bk,0,none⟩:Addr)else some ⟨bk,j*13,none⟩)=some A/\Hid (∀t u,news[t]?=some u->w.drew.cell? (A.add t)=some u):=by
  by_cases h:cp=j
  ·refine⟨⟨bk,0,none⟩,by simp[h],fun t u hu=>?_⟩
   have h0:news.length=0:=by rw[hlen];have:xs.length-j=0:=by omega
                             rw[this,ir]
   rw[dK.1 h0]at hu;simp at hu
  ·refine⟨⟨bk,j*13,none⟩,by simp[h],fun t u hu=>?_⟩;have ht:t<(xs.length-j)*13:=by
    have:=(List.getElem?_eq_some_iff.1 hu).1;omega
   have nC:xs.flatten[j*13+t]?=some u:=by
    have e:xs.flatten=(xs.take j).flatten++(xs.drop j).flatten:=by rw[<-ey,fS]
    have hl:(xs.take j).flatten.length=j*13:=by rw[gJ (fun x hx=>(ef x (ed hx)).1),aJ,dP hj]
    rw[e,List.getElem?_append_right ab,hl,show j*13+t-j*13=t from ab, <-kT];exact hu
   have hjt:j*13+t<xs.length*13:=by
    have:(xs.length-j)*13+j*13=xs.length*13:=by rw[<-dI];congr 1;omega
    omega
   rw[<-q6,List.getElem?_take_of_lt hjt]at nC;have Ab:cur[j*13+t]?=some u:=by simpa using nC
   have ea:(Addr.add ⟨bk,j*13,none⟩ t)=⟨bk,j*13+t,none⟩:=by unfold Addr.add;split<;>simp_all
   rw[ea];show w.cell? _=some u;simp[World.cell?,q2,Ab]
 have s1:=O hlen;have s2:=O (show∀u∈news,u.oneCell'=true by
  intro u hu;rw[kT]at hu;obtain⟨x,hx,GX⟩:=fR.1 hu;exact(hdr x hx).2 u GX)
 have s3:=O (show∀t,t<news.length->(w.drew.cell? ⟨bk,0+i*13+t,none⟩).isSome=true/\w.drew.frozen? ⟨bk,0+i*13+t,none⟩=false by
  intro t ht;rw[bz];have hle:i*13+(xs.length-j)*13<=cp*13:=by rw[<-dI];exact bR _ ab
  have:=hv.there (g:=bk) (cap:=cp) rfl (o:=i*13) (n:=(xs.length-j)*13) hle t ab;exact this)
 have VA:OwnRows b 133 13 w.drew (.slice (some ⟨bk,0,none⟩) xs.length cp) xs:=hv;have qI:=VA.DD (i:=i) (ys:=xs.drop j) ab hdr (g:=bk) (cap:=cp) rfl (by rw[bM];omega);rw[bM, <-kT]at qI;have yQ:Fr (one bk) w (w.drew.setCells bk (i*13) news):=((ae (one bk) w).drew).setCells (fun _=>rfl) _ _;obtain⟨W1,CH⟩:∃W1,W1=w.drew.setCells bk (0+i*13) news:=⟨_,rfl⟩;have HW:=O CH;rw[bz]at CH;rw[<-CH]at qI yQ
 have se:(xs.take i++xs.drop j).length=i+(xs.length-j):=by rw[aK,aJ,bM];omega
 have hm:i+(xs.length-j)<xs.length:=ab;have CJ:(Builtin.zeroCells wY (xs.length-(i+(xs.length-j)))).toList.length=(xs.length-(i+(xs.length-j)))*13:=by simp[Builtin.zeroCells]
 have hle:(i+(xs.length-j))*13+(xs.length-(i+(xs.length-j)))*13<=cp*13:=by rw[<-dI];exact bR _ ab
 have xY:=fun ty=>jM (P:=prog) W1 87 133 ty wY underlying87 (fun w=>af) ag Jd bk ((i+(xs.length-j))*13) (xs.length-(i+(xs.length-j))) (cp-(i+(xs.length-j))) ab (by
  have:=qI.there (g:=bk) (cap:=cp) (by rw[se]) (o:=(i+(xs.length-j))*13) (n:=(xs.length-(i+(xs.length-j)))*13) hle;exact this)
 have yP:=qI.behind (o:=(i+(xs.length-j))*13) (vs:=(Builtin.zeroCells wY (xs.length-(i+(xs.length-j)))).toList) (by rw[se];exact ay _) (g:=bk) (cap:=cp) (by rw[se]) (by rw[CJ];omega);have oI:=yQ.step (fL (ae (one bk) W1) (fun _=>rfl) (Builtin.zeroCells wY (xs.length-(i+(xs.length-j)))).toList ((i+(xs.length-j))*13)) (fun _ _ h=>h);have hne:((i:Int)==(j:Int))=false:=by rw[aO];omega
 have aeg:i<=cp:=ab;have aeh:j<=cp:=ab;have HA:=O hA;clear CH qI VA yQ kT hlen hdr ef dS se CJ hle q2 q5 q6 hv;go_enter func116,ntmps116;go_wp2_with fail
 have hA:=HA.o;go_region_law (refine step_append_room rfl (.tmp 22) (.tmp 25) 87 rfl 133 i0 13 underlying87 qN ll bk 0 i cp (by simp[Act.eval,Act.put]) A (xs.length-j) (cp-j) news (by simp[Act.eval,Act.put]) s1.o Od.out s2.o ab s3.o ?_;rw[<-HW.o])
 all_goals
  go_wp2_with fail
  go_ret;exact⟨rfl,yP,oI⟩
abbrev FV:bT:= #[.bool false,.string ⟨#[]⟩,.int .i64 0,.bool false,.string ⟨#[]⟩,.int .i64 0,.string ⟨#[]⟩,.string ⟨#[]⟩,.bool false,.string ⟨#[]⟩,.string ⟨#[]⟩,.int .i64 0]
theorem QF:∀v∈FV.toList,v.oneCell'=true:=dw
theorem Bv(h:x.length=12):(prog.info? 155).map (·.size)=some x.length:=by rw[h];kernel_rfl
def aeB(w:World)(p:aZ->Bool)(xs:dh)(i:Value)(wr:World):Prop :=
 ∃k:Nat,k<=xs.length/\i=.int .i64 k/\(xs.take k).any p=false/\Fr aS w wr
theorem uV(g:Nat)(cap:bT)(p:aZ->Bool)(v:Value)(xs:dh)(w:World)(eg:∀args w,(callFunc g args).run prog w=.ok (.enter g args) w)(hp:gT aS w g cap p xs)(hv:dZ 12 w v xs) :
  aB 180 #[v,.func (.func g) #[] cap] w fun e w'=>e=.returned (.int .i64 (mh p xs 0))/\Fr aS w w':=by
 obtain⟨av,cv,fO⟩:=hv.form;subst fO;have ef:=O hv.1;go_enter func180,ntmps180;go_wp2;go_loopw[8] (aeB w p xs) (fun i _=>xs.length-(intOf i).toNat)
 case atStart=>exact⟨0,aL _,rfl,rfl,ae _ _⟩
 case round =>
  obtain⟨k,hk,rfl,hn,cP⟩:=hrel;have HN:=O hn;clear hn;by_cases fe:k<xs.length
  ·rcases(hv.fN cP).2 with ⟨_,_,_,e,_⟩|⟨bk,of,c,hf,h1,h2,h3,h4⟩
   ·rw[e]at fe;exact absurd fe (bV _)
   ·cases hf;unfold maxLen at h2;have dS:=O (List.getElem?_eq_getElem fe);have hcell:=h4 k _ dS.o;have iJ:=O (bO fe);generalize xs[k]=x at dS hcell iJ;have fH:=O (hp x iJ.o wr cP);have lM:=(ef.o x iJ.o).1;clear h4;cases qU:p x
    ·have qt:=O (any_take_succ dS.o HN.o qU);go_wp2_with (first|((with_reducible refine dr 15 ?_);refine aY rfl 155 (.tmp 14) rfl bk (of+k*12) rfl x _ hcell underlying155 rfl (Bv lM) ?_)|fail)
     refine fH.o.mono ?_;rintro e w1⟨rfl,dk⟩;rw[qU];go_wp2;go_roundw
     case rel=>exact⟨k+1,ab,bg,qt.o,cP.trans dk⟩
     case measure=>simp[intOf];omega
    ·have fl:=O (o9 (i:=0) dS.o qU HN.o);go_wp2_with (first|((with_reducible refine dr 15 ?_);refine aY rfl 155 (.tmp 14) rfl bk (of+k*12) rfl x _ hcell underlying155 rfl (Bv lM) ?_)|fail)
     refine fH.o.mono ?_;rintro e w1⟨rfl,dk⟩;rw[qU];go_wp2;go_ret;rw[fl.o,bz];exact⟨rfl,cP.trans dk⟩
  ·have fl:=O (show mh p xs 0= -1 from kE (by have h:=HN.o;rw[aD ab]at h;exact h));go_wp2;go_ret;rw[fl.o];exact⟨rfl,cP⟩
theorem CK(g:Nat)(cap:bT)(p:aZ->Bool)(v:Value)(xs:dh)(w:World)(eg:∀args w,(callFunc g args).run prog w=.ok (.enter g args) w)(hp:gT aS w g cap p xs)(hv:dZ 12 w v xs) :
  aB 119 #[v,.func (.func g) #[] cap] w fun e w'=>e=.returned (.bool (xs.any p))/\Fr aS w w':=by
 have hb:=O (rW p xs 0);go_enter func119,ntmps119;go_wp2_with fail
 refine(uV g cap p v xs w eg hp hv).mono ?_;rintro e w1⟨rfl,dk⟩;go_wp2;go_ret;exact⟨fF hb.o,dk⟩
abbrev YI:bT:= #[.bool false,.string ⟨#[]⟩,.int .i64 0,.int .i64 0]
theorem QQ:∀v∈YI.toList,v.oneCell'=true:=dw
theorem OW(h:x.length=4):(prog.info? 97).map (·.size)=some x.length:=by rw[h];kernel_rfl
def afh(w:World)(p:aZ->Bool)(xs:dh)(i:Value)(wr:World):Prop :=
 ∃k:Nat,k<=xs.length/\i=.int .i64 k/\(xs.take k).any p=false/\Fr aS w wr
theorem Ay(g:Nat)(cap:bT)(p:aZ->Bool)(v:Value)(xs:dh)(w:World)(eg:∀args w,(callFunc g args).run prog w=.ok (.enter g args) w)(hp:gT aS w g cap p xs)(hv:dZ 4 w v xs) :
  aB 198 #[v,.func (.func g) #[] cap] w fun e w'=>e=.returned (.int .i64 (mh p xs 0))/\Fr aS w w':=by
 obtain⟨av,cv,fO⟩:=hv.form;subst fO;have ef:=O hv.1;go_enter func198,ntmps198;go_wp2;go_loopw[8] (afh w p xs) (fun i _=>xs.length-(intOf i).toNat)
 case atStart=>exact⟨0,aL _,rfl,rfl,ae _ _⟩
 case round =>
  obtain⟨k,hk,rfl,hn,cP⟩:=hrel;have HN:=O hn;clear hn;by_cases fe:k<xs.length
  ·rcases(hv.fN cP).2 with ⟨_,_,_,e,_⟩|⟨bk,of,c,hf,h1,h2,h3,h4⟩
   ·rw[e]at fe;exact absurd fe (bV _)
   ·cases hf;unfold maxLen at h2;have dS:=O (List.getElem?_eq_getElem fe);have hcell:=h4 k _ dS.o;have iJ:=O (bO fe);generalize xs[k]=x at dS hcell iJ;have fH:=O (hp x iJ.o wr cP);have lM:=(ef.o x iJ.o).1;clear h4;cases qU:p x
    ·have qt:=O (any_take_succ dS.o HN.o qU);go_wp2_with (first|((with_reducible refine dr 15 ?_);refine aY rfl 97 (.tmp 14) rfl bk (of+k*4) rfl x _ hcell underlying97 rfl (OW lM) ?_)|fail)
     refine fH.o.mono ?_;rintro e w1⟨rfl,dk⟩;rw[qU];go_wp2;go_roundw
     case rel=>exact⟨k+1,ab,bg,qt.o,cP.trans dk⟩
     case measure=>simp[intOf];omega
    ·have fl:=O (o9 (i:=0) dS.o qU HN.o);go_wp2_with (first|((with_reducible refine dr 15 ?_);refine aY rfl 97 (.tmp 14) rfl bk (of+k*4) rfl x _ hcell underlying97 rfl (OW lM) ?_)|fail)
     refine fH.o.mono ?_;rintro e w1⟨rfl,dk⟩;rw[qU];go_wp2;go_ret;rw[fl.o,bz];exact⟨rfl,cP.trans dk⟩
  ·have fl:=O (show mh p xs 0= -1 from kE (by have h:=HN.o;rw[aD ab]at h;exact h));go_wp2;go_ret;rw[fl.o];exact⟨rfl,cP⟩
def afi(b:Nat)(w:World)(bk cap:Nat)(p:aZ->Bool)(xs:dh)(i j:Value)(wr:World):Prop :=
 ∃(m n:Nat) (ys:dh),i=.int .i64 m/\j=.int .i64 n/\m<n/\n<=xs.length/\ys.length=xs.length/\OwnRows b 97 4 wr (.slice (some ⟨bk,0,none⟩) xs.length cap) ys /\
  ys.take m=(xs.take n).filter (fun x=>!p x)/\ys.drop n=xs.drop n/\Fr (one bk) w wr
theorem Az{p:aZ->Bool}:∀ {l:dh} (i:Nat),l.any p=true->∃k x,l[k]?=some x/\p x=true/\(l.take k).any p=false/\mh p l i=((i+k:Nat):Int)
 |[],_,h=>by simp at h
 |a :: l,i,h=>by
  cases ha:p a
  ·rw[List.any_cons,ha,jU]at h;obtain⟨k,x,h1,h2,h3,h4⟩:=Az (i+1) h;refine⟨k+1,x,by simpa using h1,h2,by simp[ha,h3],?_⟩;rw[mh,ha];simp only[cL,fa];rw[h4];congr 1;omega
  ·exact⟨0,a,rfl,ha,rfl,by rw[mh,ha];simp⟩
theorem AA(h:l.any p=false):l.filter (fun x=>!p x)=l:=by
 rw[List.filter_eq_self];intro a ha;have:=fc.1 h a ha;simpa using this
theorem F2(b:Nat)(g:Nat)(cap:bT)(p:aZ->Bool)(v:Value)(xs:dh)(w:World)(eg:∀args w,(callFunc g args).run prog w=.ok (.enter g args) w)(hp:gT (own v) w g cap p xs)(hv:OwnRows b 97 4 w v xs) :
  aB 141 #[v,.func (.func g) #[] cap] w fun e w'=>∃a c,e=.returned (.slice a (xs.filter (fun x=>!p x)).length c)/\OwnRows b 97 4 w' (.slice a (xs.filter (fun x=>!p x)).length c) (xs.filter (fun x=>!p x))/\Fr (own v) w w'/\own (.slice a (xs.filter (fun x=>!p x)).length c)=own v:=by
 cases jv:xs.any p
 ·have r_:=O (kE (i:=0) jv);rw[AA jv];obtain⟨av,cv,fO⟩:=hv.form;subst fO;go_enter func141,ntmps141;go_wp2_with fail
  refine(Ay g cap p _ xs w eg hp.none hv.at).mono ?_;rintro e w1⟨rfl,dk⟩;rw[r_.o];go_wp2;go_ret;exact⟨_,_,rfl,hv.fr dk (fun _ _ h=>h),dk.mono (fun _ _ h=>absurd h id),rfl⟩
 ·obtain⟨k0,x0,I7,Ej,vT,r_⟩:=Az 0 jv;rw[bz]at r_;have JZ:=(List.getElem?_eq_some_iff.1 I7).1;obtain⟨bk,cp,Lw⟩:∃bk cp,v=.slice (some ⟨bk,0,none⟩) xs.length cp:=by
   rcases hv.2.2 with ⟨_,hn⟩|⟨bk,cp,cur,hv,_⟩
   ·omega
   ·exact⟨bk,cp,hv⟩
  subst Lw;obtain⟨CD,cur,sL,q1,q2,q3,q4,q5,q6⟩:=hv.open (g:=bk) rfl;cases sL;unfold maxLen at q4;have ef:=O hv.1;have Ek:=O (show xs.take k0=(xs.take (k0+1)).filter (fun x=>!p x)by
   rw[d_ I7,cG,AA vT];simp[Ej])
  have HP:=O hp;have Z0:=O r_;clear jv vT I7 Ej r_ q2 q5 q6 hp;go_enter func141,ntmps141;go_wp2_with fail
  refine(Ay g cap p _ xs w eg HP.o.none hv.at).mono ?_;rintro e w1⟨rfl,dk⟩;rw[Z0.o];have FC:=hv.fr dk (fun _ _ h=>h);have J5:((k0:Int)== -1)=false:=by rw[aO];omega
  go_wp2;go_loopw[5,6] (afi b w bk cp p xs) (fun _ j _=>xs.length-(intOf j).toNat)
  case atStart=>exact⟨k0,k0+1,xs,rfl,bg,ab,ab,rfl,FC,Ek.o,rfl,dk.mono (fun _ _ h=>absurd h id)⟩
  case round =>
   obtain⟨m,n,ys,rfl,rfl,hmn,hn,hlen,cW,rO,tz,cP⟩:=hrel;have HT:=O rO;have HD:=O tz;have j8:=O hlen;clear rO tz hlen;rw[<-j8.o]at cW;have sa:=cW.at;by_cases fe:n<xs.length
   ·rcases sa.2 with ⟨_,_,_,e,_⟩|⟨I8,of,c,hf,h1,h2,h3,h4⟩
    ·have hl:=j8.o;rw[e]at hl;simp at hl;omega
    ·cases hf;have dS:=O (List.getElem?_eq_getElem fe);have yO:ys[n]?=some xs[n]:=by
      have e:=ar (fun l:dh=>l[0]?) HD.o;simp only[List.getElem?_drop,Nat.add_zero]at e;rw[e,dS.o]
     have hcell:=h4 n _ yO;simp only[bz]at hcell;have iJ:=O (bO fe);generalize xs[n]=x at dS hcell iJ yO;have lM:=(ef.o x iJ.o).1;have mU:=O (ef.o x iJ.o).2;have jx:=fun W=>run_storeCells_new (P:=prog) W 97 #[.bool false,.string ⟨#[]⟩,.int .i64 0,.int .i64 0] x (by rw[lM];rfl) mU.o;have gX:Fr aS wr (wr.alloc (.cells x.toArray 97)):=(ae aS wr).alloc _
     have fH:=O (HP.o x iJ.o (wr.alloc (.cells x.toArray 97)) ((cP.alloc _).mono (fun k _ h=>by have e:k=bk:=h;rw[e];rfl)));have Ja:=O (OW lM);have jz:=cP.alloc (.cells x.toArray 97);have fG:=cW.fr gX (fun _ _ h=>h);have qB:(wr.alloc (.cells x.toArray 97)).heap[wr.heap.size]?=some (.cells x.toArray 97 (0,0)):=aC _ _;have ui:=O qB;clear h4 yO qB gX
     go_wp2_with (first|((with_reducible refine dr 25 ?_);refine aY rfl 97 (.tmp 24) rfl bk (n*4) rfl x _ hcell underlying97 rfl Ja.o ?_)|((with_reducible refine dr 27 ?_);refine aI rfl 97 (.tmp 7) rfl wr.heap.size rfl _ x.toArray (0,0) _ ui.o underlying97 rfl (by rw[aX];exact Ja.o) ?_)|fail)
     have hlw:wr.heap.size<(wr.alloc (.cells x.toArray 97)).heap.size:=aR;clear jx hcell;generalize wr.alloc (.cells x.toArray 97)=W2 at *
     refine fH.o.mono ?_;rintro e w3⟨rfl,iz⟩;have qR:=jz.trans (iz.mono (fun _ _ h=>absurd h id));have fC:=fG.fr iz (fun _ _ h=>h);have tO:=O (iz.keep ui.o id);have Oc:=O j8.o;cases qU:p x
     ·have Yt:=O (fC.there (g:=bk) (cap:=cp) (by rw[j8.o]) (o:=m*4) (n:=x.toArray.size) (by
       have hmc:(m+1)*4<=cp*4:=bR _ ab;rw[aX,lM];omega))
      have fg:=fC.store (i:=m) (y:=x) (by rw[j8.o];omega) lM mU.o (g:=bk) rfl;rw[j8.o]at fg;have oI:=qR.step (fL (ae (one bk) w3) (fun _=>rfl) x (m*4)) (fun _ _ h=>h)
      go_wp2_with (first|((with_reducible refine dr 32 ?_);refine aI rfl 97 (.tmp 7) rfl wr.heap.size rfl _ x.toArray (0,0) _ tO.o underlying97 rfl (by rw[aX];exact Ja.o) ?_)|((with_reducible refine cZ 97 ?_);refine iw rfl 97 (.tmp 33) (.tmp 32) rfl bk (m*4) x.toArray rfl rfl Yt.o (by rw[aX];exact Ja.o) (b_ mU.o) ?_)|fail)
      go_roundw
      case rel =>
       refine⟨m+1,n+1,ys.set m x,bg,bg,ab,ab,by rw[en];exact Oc.o,fg,?_,?_,oI⟩
       ·rw[d_ (l:=ys.set m x) (List.getElem?_set_self (by rw[Oc.o];omega)),gA (ay m),d_ dS.o,cG,HT.o];simp[qU]
       ·rw[gB ab];have e:=ar (List.drop 1) HD.o;simpa[eD]using e
      case measure=>simp[intOf];omega
     ·rw[j8.o]at fC;go_wp2_with fail
      go_roundw
      case rel =>
       refine⟨m,n+1,ys,rfl,bg,ab,ab,Oc.o,fC,?_,?_,qR⟩
       ·rw[d_ dS.o,cG,HT.o];simp[qU]
       ·have e:=ar (List.drop 1) HD.o;simpa[eD]using e
      case measure=>simp[intOf];omega
   ·have se:n=xs.length:=ab;subst se;have fl:=O (show ys.take m=xs.filter (fun x=>!p x)by have h:=HT.o;rw[aD (ay _)]at h;exact h);have tu:(ys.take m).length=m:=by rw[aJ,j8.o];omega
    have Aa:=O (show(xs.filter (fun x=>!p x)).length=m by rw[<-fl.o];exact tu);have hcut:=cW.cut (i:=m) (by rw[j8.o];omega) (g:=bk) (cap:=cp) (by rw[j8.o]);have hle:(xs.length-m)*4+m*4<=cp*4:=by rw[<-dI];exact bR _ ab
    have CJ:(Builtin.zeroCells YI (xs.length-m)).toList.length=(xs.length-m)*4:=by simp[Builtin.zeroCells]
    have xY:=fun ty=>jM (P:=prog) wr 81 97 ty YI underlying81 (fun w=>af) ag QQ bk (m*4) (xs.length-m) (cp-m) ab (by
     have:=cW.there (g:=bk) (cap:=cp) (by rw[j8.o]) (o:=m*4) (n:=(xs.length-m)*4) ab;exact this)
    have yP:=hcut.behind (o:=m*4) (vs:=(Builtin.zeroCells YI (xs.length-m)).toList) (by rw[tu];exact ay _) (g:=bk) (cap:=cp) (by rw[tu]) (by rw[CJ];omega);have oI:=cP.step (fL (ae (one bk) wr) (fun _=>rfl) (Builtin.zeroCells YI (xs.length-m)).toList (m*4)) (fun _ _ h=>h);clear cW sa hcut CJ tu hle j8;go_wp2_with fail
    go_ret;rw[Aa.o, <-fl.o];exact⟨_,_,rfl,yP,oI.mono (fun k _ h=>by have e:k=bk:=h;rw[e];rfl),rfl⟩
theorem afj:∃i0:TypeInfo,prog.info? 97=some i0/\i0.size=4:=by
 have h:(prog.info? 97).map (·.size)=some 4:=af;cases hq:prog.info? 97 with
 |none=>rw[hq]at h;cases h
 |some i=>rw[hq]at h;exact⟨i,rfl,by simpa using h⟩
theorem SN(b:Nat)(bk cp i j:Nat)(xs:dh)(w:World)(hv:OwnRows b 97 4 w (.slice (some ⟨bk,0,none⟩) xs.length cp) xs)(Rl:i<j)(hj:j<=xs.length) :
  aB 69 #[.slice (some ⟨bk,0,none⟩) xs.length cp,.int .i64 i,.int .i64 j] w fun e w'=>e=.returned (.slice (some ⟨bk,0,none⟩) (i+(xs.length-j)) cp)/\OwnRows b 97 4 w' (.slice (some ⟨bk,0,none⟩) (i+(xs.length-j)) cp) (xs.take i++xs.drop j)/\Fr (one bk) w w':=by
 obtain⟨i0,qN,ll⟩:=afj;obtain⟨CD,cur,sL,q1,q2,q3,q4,q5,q6⟩:=hv.open (g:=bk) rfl;cases sL;unfold maxLen at q4;have dS:=hv.at;have ef:=hv.1;obtain⟨news,kT⟩:∃news,news=(xs.drop j).flatten:=⟨_,rfl⟩;have hdr:∀x∈xs.drop j,x.length=4/\∀u∈x,u.oneCell'=true:=fun x hx=>ef x (eE hx);have hlen:news.length=(xs.length-j)*4:=by rw[kT,gJ (fun x hx=>(hdr x hx).1),bM]
 obtain⟨A,hA,Od⟩:∃A:Addr,(if cp=j then some (⟨bk,0,none⟩:Addr)else some ⟨bk,j*4,none⟩)=some A/\Hid (∀t u,news[t]?=some u->w.drew.cell? (A.add t)=some u):=by
  by_cases h:cp=j
  ·refine⟨⟨bk,0,none⟩,by simp[h],fun t u hu=>?_⟩
   have h0:news.length=0:=by rw[hlen];have:xs.length-j=0:=by omega
                             rw[this,ir]
   rw[dK.1 h0]at hu;simp at hu
  ·refine⟨⟨bk,j*4,none⟩,by simp[h],fun t u hu=>?_⟩;have ht:t<(xs.length-j)*4:=by
    have:=(List.getElem?_eq_some_iff.1 hu).1;omega
   have nC:xs.flatten[j*4+t]?=some u:=by
    have e:xs.flatten=(xs.take j).flatten++(xs.drop j).flatten:=by rw[<-ey,fS]
    have hl:(xs.take j).flatten.length=j*4:=by rw[gJ (fun x hx=>(ef x (ed hx)).1),aJ,dP hj]
    rw[e,List.getElem?_append_right ab,hl,show j*4+t-j*4=t from ab, <-kT];exact hu
   have hjt:j*4+t<xs.length*4:=by
    have:(xs.length-j)*4+j*4=xs.length*4:=by rw[<-dI];congr 1;omega
    omega
   rw[<-q6,List.getElem?_take_of_lt hjt]at nC;have Ab:cur[j*4+t]?=some u:=by simpa using nC
   have ea:(Addr.add ⟨bk,j*4,none⟩ t)=⟨bk,j*4+t,none⟩:=by unfold Addr.add;split<;>simp_all
   rw[ea];show w.cell? _=some u;simp[World.cell?,q2,Ab]
 have s1:=O hlen;have s2:=O (show∀u∈news,u.oneCell'=true by
  intro u hu;rw[kT]at hu;obtain⟨x,hx,GX⟩:=fR.1 hu;exact(hdr x hx).2 u GX)
 have s3:=O (show∀t,t<news.length->(w.drew.cell? ⟨bk,0+i*4+t,none⟩).isSome=true/\w.drew.frozen? ⟨bk,0+i*4+t,none⟩=false by
  intro t ht;rw[bz];have hle:i*4+(xs.length-j)*4<=cp*4:=by rw[<-dI];exact bR _ ab
  have:=hv.there (g:=bk) (cap:=cp) rfl (o:=i*4) (n:=(xs.length-j)*4) hle t ab;exact this)
 have VA:OwnRows b 97 4 w.drew (.slice (some ⟨bk,0,none⟩) xs.length cp) xs:=hv;have qI:=VA.DD (i:=i) (ys:=xs.drop j) ab hdr (g:=bk) (cap:=cp) rfl (by rw[bM];omega);rw[bM, <-kT]at qI;have yQ:Fr (one bk) w (w.drew.setCells bk (i*4) news):=((ae (one bk) w).drew).setCells (fun _=>rfl) _ _;obtain⟨W1,CH⟩:∃W1,W1=w.drew.setCells bk (0+i*4) news:=⟨_,rfl⟩;have HW:=O CH;rw[bz]at CH;rw[<-CH]at qI yQ
 have se:(xs.take i++xs.drop j).length=i+(xs.length-j):=by rw[aK,aJ,bM];omega
 have hm:i+(xs.length-j)<xs.length:=ab;have CJ:(Builtin.zeroCells YI (xs.length-(i+(xs.length-j)))).toList.length=(xs.length-(i+(xs.length-j)))*4:=by simp[Builtin.zeroCells]
 have hle:(i+(xs.length-j))*4+(xs.length-(i+(xs.length-j)))*4<=cp*4:=by rw[<-dI];exact bR _ ab
 have xY:=fun ty=>jM (P:=prog) W1 81 97 ty YI underlying81 (fun w=>af) ag QQ bk ((i+(xs.length-j))*4) (xs.length-(i+(xs.length-j))) (cp-(i+(xs.length-j))) ab (by
  have:=qI.there (g:=bk) (cap:=cp) (by rw[se]) (o:=(i+(xs.length-j))*4) (n:=(xs.length-(i+(xs.length-j)))*4) hle;exact this)
 have yP:=qI.behind (o:=(i+(xs.length-j))*4) (vs:=(Builtin.zeroCells YI (xs.length-(i+(xs.length-j)))).toList) (by rw[se];exact ay _) (g:=bk) (cap:=cp) (by rw[se]) (by rw[CJ];omega);have oI:=yQ.step (fL (ae (one bk) W1) (fun _=>rfl) (Builtin.zeroCells YI (xs.length-(i+(xs.length-j)))).toList ((i+(xs.length-j))*4)) (fun _ _ h=>h);have hne:((i:Int)==(j:Int))=false:=by rw[aO];omega
 have aeg:i<=cp:=ab;have aeh:j<=cp:=ab;have HA:=O hA;clear CH qI VA yQ kT hlen hdr ef dS se CJ hle q2 q5 q6 hv;go_enter func69,ntmps69;go_wp2_with fail
 have hA:=HA.o;go_region_law (refine step_append_room rfl (.tmp 22) (.tmp 25) 81 rfl 97 i0 4 underlying81 qN ll bk 0 i cp (by simp[Act.eval,Act.put]) A (xs.length-j) (cp-j) news (by simp[Act.eval,Act.put]) s1.o Od.out s2.o ab s3.o ?_;rw[<-HW.o])
 all_goals
  go_wp2_with fail
  go_ret;exact⟨rfl,yP,oI⟩
open Go.ChangeShapes Go.WideShapes Go.ChangeAt Go.RowKit Go.Deep
section
variable {H : Type} {enc : TypeId × Value → H} {P : Program} {W : World}
theorem lq.af7{α β:Type}{R:α->β->Prop}{f:Nat->α}{g:Nat->β}(n:Nat)(h:∀i,i<n->R (f i) (g i)):lq R ((List.range n).map f) ((List.range n).map g):=by
 induction n with
 |zero=>exact .nil
 |succ n ih =>
  rw[List.range_succ,bI,bI];exact(ih (fun i hi=>h i ab)).app (.cons (h n ab) .nil)
theorem Fb{t e:TypeId}{k bytes:Nat}{β:Type} [Inhabited β]{Q:aZ->β->Prop}{S:β->Prop}(ht:P.underlying t=some (.slice e))(hk:P.cellsOf e=k)(JZ:0<k)(rj:P.bytesOf e=bytes)
  (el:∀ {fuel:Nat} {cs:aZ} {x:DataW H×List MemPlace},DataW.trod enc P W 0 (fun _=>true) true fuel e cs=some x->∃b,Q cs b/\cs.length=k/\(∀u∈cs,u.oneCell'=true)/\(pI P e x.1->S b))
  {fuel:Nat}{cs:aZ}{x:DataW H×List MemPlace}(h:DataW.trod enc P W 0 (fun _=>true) true fuel t cs=some x) :
  ∃(v:Value) (css:dh) (bs:List β),cs=[v]/\dZ k W v css/\lq Q css bs/\(pI P t x.1->bs.length*bytes<=reachBytes/\∀b∈bs,S b):=by
 rcases open_slice ht h with ⟨rfl,rfl⟩|⟨a,len,cap,m,n,D,Pl,rfl,_,hl,hm,hme,rfl,hc⟩
 ·exact⟨_,[],[],rfl,dZ.nil _ _,.nil,fun _=>⟨aR,aR⟩⟩
 simp only[eo]at hme;subst hme;rw[hk]at hc;have each:∀i,i<len->∃q:aZ×β,W.cells? 0 (a.add (i*k)) k=some q.1/\Q q.1 q.2/\q.1.length=k/\(∀u∈q.1,u.oneCell'=true)/\(pI P e (D i)->S q.2):=fun i hi=>by
  obtain⟨cs',h1,h2⟩:=hc i ab;obtain⟨b,hq,hlen,ef,hs⟩:=el h2;exact⟨(cs',b),h1,hq,hlen,ef,hs⟩
 obtain⟨q,hq⟩:=choose_lt each;refine⟨_,(List.range len).map fun i=>(q i).1,(List.range len).map fun i=>(q i).2,rfl,⟨?_,?_⟩,lq.af7 len (fun i hi=>(hq i hi).2.1),fun hL=>⟨?_,?_⟩⟩
 ·intro y hy;obtain⟨i,hi,rfl⟩:=bZ.1 hy;have hi:=hq i (List.mem_range.1 hi);exact⟨hi.2.2.1,hi.2.2.2.1⟩
 ·by_cases h0:len=0
  ·subst h0;exact Or.inl ⟨_,_,rfl,rfl,fun e=>by cases e⟩
  ·have cell:∀i,i<len->∀j u,(q i).1[j]?=some u->W.cell? (a.add (i*k+j))=some u:=fun i hi j u hu=>by
    obtain⟨_,hlen,hcell⟩:=World.cells?_some (hq i hi).1;have:=hcell j (by have:=(List.getElem?_eq_some_iff.1 hu).1;have:=(hq i hi).2.2.1;omega);rw[add_add]at this;rw[this,hu]
   obtain⟨b,off,spot⟩:=a;have TV:=(hq 0 ab).2.2.1;have hc0:=cell 0 ab 0 _ (List.getElem?_eq_getElem ab);have ala:spot=none:=by simpa[Addr.add]using World.cell?_spot hc0
   subst ala;have Mu:∀j,(Addr.add ⟨b,off,none⟩ j)=⟨b,off+j,none⟩:=by intro j;unfold Addr.add;split<;>simp_all
   have hbl:b<W.heap.size:=by
    have h0:=World.block_lt_of_cell? _ _ hc0;rw[Mu]at h0;exact h0
   refine Or.inr ⟨b,off,m,aR,by simpa using hl,hm,hbl,fun j y hj i u hi=>?_⟩;rw[List.getElem?_map]at hj;obtain⟨k',IX,rfl⟩:=Option.map_eq_some_iff.1 hj;obtain⟨hj1,rfl⟩:=List.getElem?_eq_some_iff.1 IX;simp at hj1;have:=cell j hj1 i u (by simpa using hi)
   rwa [Mu, <-Nat.add_assoc]at this
 ·unfold pI at hL;simp only[DataW.weights,ht]at hL;have:=hL _ (cM ..);simp only[ai,List.length_range,rj]at this;have e1:(len+(m-len))*bytes=m*bytes:=by congr 1;omega
  rw[e1]at this;have h2:len*bytes<=m*bytes:=bR _ hl;simp only[ai,List.length_range];omega
 ·intro b hb;obtain⟨i,hi,rfl⟩:=bZ.1 hb;have hi':=List.mem_range.1 hi;refine(hq i hi').2.2.2.2 (fun n hn=>?_);unfold pI at hL;simp only[DataW.weights,ht]at hL;exact hL n (bN _ (List.mem_append_left _ (ym (bZ.2 ⟨i,hi,rfl⟩) _ hn)))
end
variable {H : Type} {enc : TypeId × Value → H} {W : World}
theorem AP:prog.cellsOf 171=2:=af
theorem MZ{x:DataW H×List MemPlace}(h:DataW.trod enc prog W 0 (fun _=>true) true fuel 171 cs=some x) :
  ∃b:aj×aj,cs=[.string b.1,.string b.2]/\cs.length=2/\(∀u∈cs,u.oneCell'=true)/\(pI prog 171 x.1->b.1.size<=reachBytes/\b.2.size<=reachBytes):=by
 obtain⟨hl,n,hf⟩:=om underlying171 h;rw[AP]at hl;obtain⟨c0,c1,rfl⟩:=ak' hl;obtain⟨y0,h0,l0⟩:=hf 0 9 0 _ rfl jc;obtain⟨y1,h1,l1⟩:=hf 1 9 1 _ rfl jc;simp only[List.drop,List.take]at h0 h1;obtain⟨u,eu,wu⟩:=fA underlying9 h0;obtain⟨q,eq,wq⟩:=fA underlying9 h1;simp only[fK,iW]at eu eq;subst eu eq;refine⟨(u,q),rfl,rfl,?_,fun hL=>⟨wu (l0 hL),wq (l1 hL)⟩⟩;intro v hv;simp only[bC,cA,dY]at hv
 rcases hv with rfl|rfl<;>rfl
theorem Fc{α β:Type}{f:β->α}:∀ {l:List α} {m:List β},lq (fun a b=>a=f b) l m->l=m.map f
 |_,_,.nil=>rfl
 |_,_,.cons h t=>by rw[cF, <-h,Fc t]
instance:Inhabited (aj×aj):=⟨(.empty,.empty)⟩
theorem JK{x:DataW H×List MemPlace}(h:DataW.trod enc prog W 0 (fun _=>true) true fuel 35 cs=some x) :
  ∃(v:Value) (ps:List (aj×aj)),cs=[v]/\dZ 2 W v (ps.map fun p=>[.string p.1,.string p.2])/\(pI prog 35 x.1->ps.length*32<=reachBytes/\∀p∈ps,p.1.size<=reachBytes/\p.2.size<=reachBytes):=by
 obtain⟨v,css,bs,rfl,hr,hb,hs⟩:=Fb (Q:=fun cs (b:aj×aj)=>cs=[.string b.1,.string b.2]) (S:=fun b=>b.1.size<=reachBytes/\b.2.size<=reachBytes) underlying35 AP ag (by kernel_rfl:prog.bytesOf 171=32) MZ h;exact⟨v,bs,rfl,by rw[<-Fc hb];exact hr,hs⟩
abbrev zOp:bT:= #[.int .i64 0,.int .i64 0,.bool false,.string ⟨#[]⟩,.int .i64 0,.bool false,.string ⟨#[]⟩,.int .i64 0,.string ⟨#[]⟩,.string ⟨#[]⟩,.string ⟨#[]⟩,.slice none 0 0,.bool false,.string ⟨#[]⟩,.bool false,.string ⟨#[]⟩,.string ⟨#[]⟩,.string ⟨#[]⟩,.string ⟨#[]⟩,.int .i64 0,.bool false,.int .i64 0]
theorem XU(h:x.length=22):(prog.info? 41).map (·.size)=some x.length:=by rw[h];kernel_rfl
theorem XX(h:x.length=24):(prog.info? 66).map (·.size)=some x.length:=by rw[h];kernel_rfl
theorem XZ(h:x.length=2):(prog.info? 171).map (·.size)=some x.length:=by rw[h];kernel_rfl
def agi(w:World)(p:aZ->Bool)(xs:dh)(i:Value)(wr:World):Prop :=
 ∃k:Nat,k<=xs.length/\i=.int .i64 k/\(xs.take k).any p=false/\Fr aS w wr
theorem JQ(g:Nat)(cap:bT)(p:aZ->Bool)(v:Value)(xs:dh)(w:World)(eg:∀args w,(callFunc g args).run prog w=.ok (.enter g args) w)(hp:gT aS w g cap p xs)(hv:dZ 2 w v xs) :
  aB 201 #[v,.func (.func g) #[] cap] w fun e w'=>e=.returned (.int .i64 (mh p xs 0))/\Fr aS w w':=by
 obtain⟨av,cv,fO⟩:=hv.form;subst fO;have ef:=O hv.1;go_enter func201,ntmps201;go_wp2;go_loopw[8] (agi w p xs) (fun i _=>xs.length-(intOf i).toNat)
 case atStart=>exact⟨0,aL _,rfl,rfl,ae _ _⟩
 case round =>
  obtain⟨k,hk,rfl,hn,cP⟩:=hrel;have HN:=O hn;clear hn;by_cases fe:k<xs.length
  ·rcases(hv.fN cP).2 with ⟨_,_,_,e,_⟩|⟨bk,of,c,hf,h1,h2,h3,h4⟩
   ·rw[e]at fe;exact absurd fe (bV _)
   ·cases hf;unfold maxLen at h2;have dS:=O (List.getElem?_eq_getElem fe);have hcell:=h4 k _ dS.o;have iJ:=O (bO fe);generalize xs[k]=x at dS hcell iJ;have fH:=O (hp x iJ.o wr cP);have lM:=(ef.o x iJ.o).1;clear h4;cases qU:p x
    ·have qt:=O (any_take_succ dS.o HN.o qU);go_wp2_with (first|((with_reducible refine dr 15 ?_);refine aY rfl 171 (.tmp 14) rfl bk (of+k*2) rfl x _ hcell underlying171 rfl (XZ lM) ?_)|fail)
     refine fH.o.mono ?_;rintro e w1⟨rfl,dk⟩;rw[qU];go_wp2;go_roundw
     case rel=>exact⟨k+1,ab,bg,qt.o,cP.trans dk⟩
     case measure=>simp[intOf];omega
    ·have fl:=O (o9 (i:=0) dS.o qU HN.o);go_wp2_with (first|((with_reducible refine dr 15 ?_);refine aY rfl 171 (.tmp 14) rfl bk (of+k*2) rfl x _ hcell underlying171 rfl (XZ lM) ?_)|fail)
     refine fH.o.mono ?_;rintro e w1⟨rfl,dk⟩;rw[qU];go_wp2;go_ret;rw[fl.o,bz];exact⟨rfl,cP.trans dk⟩
  ·have fl:=O (show mh p xs 0= -1 from kE (by have h:=HN.o;rw[aD ab]at h;exact h));go_wp2;go_ret;rw[fl.o];exact⟨rfl,cP⟩
theorem CS(g:Nat)(cap:bT)(p:aZ->Bool)(v:Value)(xs:dh)(w:World)(eg:∀args w,(callFunc g args).run prog w=.ok (.enter g args) w)(hp:gT aS w g cap p xs)(hv:dZ 2 w v xs) :
  aB 150 #[v,.func (.func g) #[] cap] w fun e w'=>e=.returned (.bool (xs.any p))/\Fr aS w w':=by
 have hb:=O (rW p xs 0);go_enter func150,ntmps150;go_wp2_with fail
 refine(JQ g cap p v xs w eg hp hv).mono ?_;rintro e w1⟨rfl,dk⟩;go_wp2;go_ret;exact⟨fF hb.o,dk⟩
abbrev Bs:=aH
abbrev jF:=Bs×Bs
structure nA where
 scheme:Bs
 token:Bs
 params:List jF
def oD(c:UInt8):Bool:=dN c||c==44
def Uv:aH:=[97,98,99,100,101,102,103,104,105,106,107,108,109,110,111,112,113,114,115,116,117,118,119,120,121,122,65,66,67,68,69,70,71,72,73,74,75,76,77,78,79,80,81,82,83,84,85,86,87,88,89,90,48,49,50,51,52,53,54,55,56,57,45,46,95,126,43,47]
def FE(c:UInt8):Bool:=Uv.contains c
def lz(c:UInt8):Bool:=[61].contains c
def Uw:Bs->Bool
 |[]=>true
 |c :: _=>c==44
def fb(r:Bs):Bs:=r.dropWhile dN
def iP(r:Bs):Bs:=r.dropWhile oD
def oq(r:Bs):Bool:=Uw (fb r)
def ic(r:Bs):Bs:=r.takeWhile gq
def iD(r:Bs):Bs:=r.dropWhile gq
def Nx(b:UInt8):Bs->Bool
 |[]=>false
 |c :: _=>c==b
def lT(r:Bs):Bool:=!(ic r).isEmpty&&Nx 61 (fb (iD r))
def mr(r:Bs):Bs:=r.takeWhile FE
def nM(r:Bs):Bs:=(r.dropWhile FE).takeWhile lz
def sT(r:Bs):Bs:=(r.dropWhile FE).dropWhile lz
def singleR(r:Bs):Option (Bs×Bs):=if !(mr r).isEmpty&&oq (sT r)then some (mr r++nM r,fb (sT r))else none
def Be:Bs->Option (Bs×Bs)
 |[]=>none
 |c :: t=>if c==34 then v8 t else none
def pT(r:Bs):Option (Bs×Bs):=if(ic r).isEmpty then Be r else some (ic r,iD r)
def nN(r:Bs):Bs:=fb ((fb (iD r)).drop 1)
def uH(ps:List jF)(n:Bs):Bool:=ps.any fun q=>dL q.1 n
def lo(ps:List jF)(r:Bs):Except Nat (jF×Bs) :=
 if !lT r then .error 3 else
 match pT (nN r)with
 |none=>.error 3
 |some q=>if uH ps (ic r)then .error 9 else if ps.length=16 then .error 4 else .ok ((ic r,q.1),q.2)
def gZ:Nat->List jF->Bs->Except Nat (List jF×Bs)
 |0,ps,r=>.ok (ps,r)
 |f+1,ps,r =>
  match lo ps r with
  | .error e=>.error e
  | .ok (p,r1)=>if oq r1 then(if lT (iP r1)then gZ f (ps++[p]) (iP r1)else .ok (ps++[p],iP r1))else .error 3
def pU:Bs->Bool
 |[]=>false
 |c :: _=>dN c
def pA(k:Nat)(r:Bs):Except Nat (nA×Bs) :=
 if(ic r).isEmpty then .error 3
 else if k=8 then .error 4
 else if oq (iD r)then .ok (⟨ic r,[],[]⟩,fb (iD r))
 else if !pU (iD r)then .error 3
 else match singleR (fb (iD r))with
  |some q=>.ok (⟨ic r,q.1,[]⟩,q.2)
  |none=>match gZ ((fb (iD r)).length+1) [] (fb (iD r))with
   | .error e=>.error e
   | .ok q=>.ok (⟨ic r,[],q.1⟩,q.2)
def kq:Nat->List nA->Bs->Except Nat (List nA)
 |0,acc,_=>.ok acc
 |f+1,acc,r =>
  if(iP r).isEmpty then .ok acc else
  match pA acc.length (iP r)with
  | .error e=>.error e
  | .ok (x,r1)=>kq f (acc++[x]) r1
def mJ(l:Bs):Except Nat (List nA):=if 3000<l.length then .error 4 else kq (l.length+1) [] l
theorem qx(p:UInt8->Bool)(r:Bs):(r.dropWhile p).length<=r.length:=(jl p).length_le
theorem lU(r:Bs):(fb r).length<=r.length:=qx _ r
theorem oU(r:Bs):(iP r).length<=r.length:=qx _ r
theorem pV(p:UInt8->Bool)(r:Bs):(r.takeWhile p).length+(r.dropWhile p).length=r.length:=by
 rw[<-aK,List.takeWhile_append_dropWhile]
theorem rE(r:Bs):(ic r).length+(iD r).length=r.length:=pV _ r
theorem Gk{r:Bs}(h:(ic r).isEmpty=false):(iD r).length<r.length:=by
 have h1:=rE r;cases e:ic r with
 |nil=>rw[e]at h;cases h
 |cons c t=>rw[e]at h1;simp at h1;omega
theorem ado{r a z:Bs}(h:v8 r=some (a,z)):a.length+z.length+1<=r.length:=Im _ r a z (ay _) h
theorem Ra{r a z:Bs}(h:Be r=some (a,z)):a.length+z.length+2<=r.length:=by
 cases r with
 |nil=>cases h
 |cons c t =>
  have h':(if c==34 then v8 t else none)=some (a,z):=h;by_cases hc:(c==34)=true
  ·rw[az hc]at h';have:=ado h';simp;omega
  ·rw[aq hc]at h';cases h'
theorem Rb{r a z:Bs}(h:pT r=some (a,z)):a.length+z.length<=r.length:=by
 unfold pT at h;split at h
 ·have:=Ra h;omega
 ·cases h;have:=rE r;omega
theorem Ny(r:Bs):(nN r).length<=(iD r).length:=by
 unfold nN;have h1:=lU ((fb (iD r)).drop 1);have h2:=lU (iD r);have h3:((fb (iD r)).drop 1).length<=(fb (iD r)).length:=aR;omega
theorem BZ{r:Bs}(h:lT r=true):(ic r).isEmpty=false:=by
 unfold lT at h;simp only[cy,Bool.not_eq_true']at h;exact h.1
theorem Dl{r:Bs}(h:lT r=true):(nN r).length+2<=r.length:=by
 have hw:=Gk (BZ h);unfold lT at h;simp only[cy]at h;have h2:=h.2;unfold nN;have h3:=lU (iD r);cases e:fb (iD r)with
 |nil=>rw[e]at h2;cases h2
 |cons c t =>
  rw[e]at h3;have h4:=lU ((c :: t).drop 1);simp at h3 h4 ⊢; omega
theorem uf{ps:List jF}{r:Bs}{p:jF}{z:Bs}(h:lo ps r=.ok (p,z)):p.1.length+p.2.length+z.length<r.length:=by
 unfold lo at h;by_cases hn:lT r=true
 ·rw[aq (by simp[hn])]at h;have h1:=Dl hn;have h0:=Ny r;have hw:=rE r;cases hv:pT (nN r)with
  |none=>rw[hv]at h;cases h
  |some q =>
   rw[hv]at h;simp only at h;split at h
   ·cases h
   ·split at h
    ·cases h
    ·cases h;have:=Rb (a:=q.1) (z:=q.2) hv;unfold lT at hn;simp only[cy]at hn;have h2:=hn.2;have h5:(nN r).length+1<=(iD r).length:=by
      unfold nN;have h3:=lU (iD r);cases e:fb (iD r)with
      |nil=>rw[e]at h2;cases h2
      |cons c t =>
       rw[e]at h3;have h4:=lU ((c :: t).drop 1);simp at h3 h4 ⊢; omega
     simp only;omega
 ·rw[az (by simpa using hn)]at h;cases h
theorem uI:∀(f:Nat) (ps:List jF) (r:Bs),r.length<f->gZ f ps r=gZ (r.length+1) ps r
 |0,_,_,h=>absurd h (bV _)
 |f+1,ps,r,h=>by
  rw[gZ,gZ];cases hp:lo ps r with
  |error e=>rfl
  |ok q =>
   obtain⟨p,r1⟩:=q;have hl:=uf hp;have hg:=oU r1;simp only;split
   ·split
    ·rw[uI f _ _ ab,uI r.length _ _ ab]
    ·rfl
   ·rfl
theorem Dm:∀(f:Nat) (ps:List jF) (r:Bs) (q:List jF×Bs),gZ f ps r=.ok q->q.2.length<=r.length
 |0,ps,r,q,h=>by rw[gZ]at h;cases h;exact ay _
 |f+1,ps,r,q,h=>by
  rw[gZ]at h;cases hp:lo ps r with
  |error e=>rw[hp]at h;cases h
  |ok p =>
   rw[hp]at h;obtain⟨p,r1⟩:=p;have hl:=uf hp;have hg:=oU r1;simp only at h;split at h
   ·split at h
    ·have:=Dm f _ _ q h;omega
    ·cases h;simp only;omega
   ·cases h
theorem Dn{r t z:Bs}(h:singleR r=some (t,z)):t.length+z.length<=r.length:=by
 unfold singleR at h;split at h
 ·cases h;have h1:=pV FE r;have h2:=pV lz (r.dropWhile FE);have h3:=lU (sT r);unfold sT at h3 ⊢;unfold mr nM;rw[aK];omega
 ·cases h
theorem CW{r:Bs}{x:nA}{z:Bs}(h:pA k r=.ok (x,z)):z.length<r.length:=by
 unfold pA at h;split at h
 ·cases h
 rename_i hw;have hw':(ic r).isEmpty=false:=by simpa using hw
 have h1:=Gk hw';have h2:=lU (iD r);split at h
 ·cases h
 split at h
 ·cases h;omega
 split at h
 ·cases h
 split at h
 ·rename_i q hq;cases h;have:=Dn (t:=q.1) (z:=q.2) hq;omega
 ·split at h
  ·cases h
  ·rename_i q hq;cases h;have:=Dm _ _ _ _ hq;omega
theorem qy:∀(f:Nat) (acc:List nA) (r:Bs),r.length<f->kq f acc r=kq (r.length+1) acc r
 |0,_,_,h=>absurd h (bV _)
 |f+1,acc,r,h=>by
  rw[kq,kq];split
  ·rfl
  ·cases ho:pA acc.length (iP r)with
   |error e=>rfl
   |ok q =>
    obtain⟨x,r1⟩:=q;have h1:=CW ho;have h2:=oU r;simp only;rw[qy f _ _ ab,qy r.length _ _ ab]
theorem sU(r:Bs):iP (iP r)=iP r:=by
 refine wm (fun c hc=>?_);have:=List.head?_dropWhile_not oD r;unfold iP at hc;rw[hc]at this;simpa using this
theorem Cz(r:Bs):fb (fb r)=fb r:=by
 refine wm (fun c hc=>?_);have:=List.head?_dropWhile_not dN r;unfold fb at hc;rw[hc]at this;simpa using this
theorem Iq(r:Bs):oq (fb r)=oq r:=by unfold oq;rw[Cz]
theorem uJ:∀r:Bs,iP (fb r)=iP r
 |[]=>rfl
 |c :: t=>by
  cases h:dN c
  ·have:fb (c :: t)=c :: t:=by unfold fb;rw[List.dropWhile_cons_of_neg (by simp[h])]
   rw[this]
  ·have e1:fb (c :: t)=fb t:=by unfold fb;rw[List.dropWhile_cons_of_pos h]
   have e2:iP (c :: t)=iP t:=by unfold iP;rw[List.dropWhile_cons_of_pos (by simp[oD,h])]
   rw[e1,e2,uJ t]
theorem B4(f:Nat)(acc:List nA){r r':Bs}(h:iP r=iP r'):kq (f+1) acc r=kq (f+1) acc r':=by
 rw[kq,kq,h]
def KF(c:UInt8):Bool:=decide (48<=c.toNat/\c.toNat<=57)
theorem KG{c:UInt8}:KF c=true↔48<=c.toNat/\c.toNat<=57:=by unfold KF;simp
def FF:aj:=⟨#[48,49,50,51,52,53,54,55,56,57]⟩
theorem NB:∀b∈FF.data.toList,b.toNat<128:=dw
theorem UC:∀n:Fin 256,FF.data.toList.contains n.val.toUInt8=KF n.val.toUInt8:=dw
theorem Rc(c:UInt8):FF.data.toList.contains c=KF c:=by
 have h:=UC ⟨c.toNat,c.toNat_lt⟩;simpa using h
theorem KH(l:aH):l.all (FF.data.toList.contains ·)=l.all KF:=by
 congr 1;funext c;exact Rc c
def zA(n:Int)(c:UInt8):Int:=min (n*10+((c.toNat:Int)-48)) 2147483648
def zB(l:aH):Int:=l.foldl zA 0
def oW(l:aH):Bool:=!l.isEmpty&&l.all KF
theorem Re{l:aH}{x:UInt8}(h:l[k]?=some x):zB (l.take (k+1))=zA (zB (l.take k)) x:=by
 rw[cj,h];simp[zB]
theorem yw:∀(l:aH) (n:Int),l.all KF=true->0<=n->n<=2147483648->0<=l.foldl zA n/\l.foldl zA n<=2147483648
 |[],n,_,h0,h1=>⟨h0,h1⟩
 |c :: l,n,h,h0,h1=>by
  rw[List.all_cons,cy]at h;have hc:=KG.1 h.1;rw[List.foldl_cons];refine yw l _ h.2 ?_ ?_<;>(unfold zA;omega)
def sW(s:aj)(w:World)(e:Ending)(w':World):Prop :=
 e=.returned (.tuple (if oW s.data.toList then #[.int .i64 (zB s.data.toList),.nilIface]else #[.int .i64 0,.iface 105 (.int .i64 3)]))/\Fr aS w w'
theorem sW.ok(h:sW s w e w')(hd:oW s.data.toList=true):e=.returned (.tuple #[.int .i64 (zB s.data.toList),.nilIface])/\Fr aS w w':=by
 obtain⟨he,hf⟩:=h;rw[hd]at he;exact⟨he,hf⟩
theorem sW.no(h:sW s w e w')(hd:oW s.data.toList=false):e=.returned (.tuple #[.int .i64 0,.iface 105 (.int .i64 3)])/\Fr aS w w':=by
 obtain⟨he,hf⟩:=h;rw[hd]at he;exact⟨he,hf⟩
def adt(s:aj)(w:World)(n i:Value)(wr:World):Prop:=∃k:Nat,k<=s.size/\i=.int .i64 k/\n=.int .i64 (zB (s.data.toList.take k))/\Fr aS w wr
theorem KI(s:aj)(w:World)(hs:s.size<17592186044416) :
  aB 196 #[.string s] w (sW s w):=by
 by_cases h0:s.size=0
 ·have KJ:=hZ.2 h0;have hd:=O (show oW s.data.toList=false by rw[KJ];rfl);have he:s.toList.isEmpty=true:=by rw[aP,KJ];rfl
  have he':s.toList=[]:=by rw[aP,KJ]
  clear KJ;go_enter func196,ntmps196;go_wp2;go_ret2;unfold sW;rw[hd.o];exact⟨rfl,ae _ _⟩
 ·have hne:s.data.toList≠ []:=fun h=>h0 (hZ.1 h);have he:s.toList.isEmpty=false:=by rw[aP];simpa using hne
  have he':¬s.toList=[]:=by rw[aP];exact hne
  have TR:=O (sV s FF w ab ag ag NB);cases iI:s.data.toList.all KF
  ·have hd:=O (show oW s.data.toList=false by unfold oW;rw[iI];simp);have P5:=O (show Lib.trimS s.data.toList FF.data.toList≠ []from fun h=>by rw[xt,KH,iI]at h;cases h);clear iI hne;go_enter func196,ntmps196;go_wp2_with fail
   refine TR.o.mono ?_;rintro e w1⟨rfl,dk⟩;have t1:¬(⟨(Lib.trimS s.data.toList FF.data.toList).toArray⟩:aj).toList=[]:=by rw[aP];simpa using P5.o
   have t2:(⟨(Lib.trimS s.data.toList FF.data.toList).toArray⟩:aj).toList.isEmpty=false:=by rw[aP];simpa using P5.o
   generalize (⟨(Lib.trimS s.data.toList FF.data.toList).toArray⟩:aj)=z at *
   go_wp2;go_ret2;unfold sW;rw[hd.o];exact⟨rfl,dk⟩
  ·have hd:=O (show oW s.data.toList=true by unfold oW;rw[iI];simpa using hne);have P5:=O (show Lib.trimS s.data.toList FF.data.toList=[]by rw[xt,KH,iI]);have yq:=O iI;clear iI hne;go_enter func196,ntmps196;go_wp2_with fail
   refine TR.o.mono ?_;rintro e w1⟨rfl,dk⟩;rw[P5.o];clear TR;go_wp2;go_loopw[4,16] (adt s w) (fun _ i _=>s.size-(intOf i).toNat)
   case atStart=>exact⟨0,aL _,rfl,rfl,dk⟩
   case round =>
    obtain⟨k,hk,rfl,rfl,cP⟩:=hrel;have hr:=yw (s.data.toList.take k) 0 (by rw[gH];exact fun x hx=>gH.1 yq.o x (ed hx)) ab ab;change 0<=zB (s.data.toList.take k)/\zB (s.data.toList.take k)<=2147483648 at hr;obtain⟨r0,r1⟩:=hr;by_cases fe:k<s.size
    ·have dS:=byte_at s k fe;have hdg:=KG.1 (gH.1 yq.o _ (bQ dS));have JX:=O (Re dS);generalize hx:s[k]=x at dS hdg JX;obtain⟨d0,d1⟩:=hdg;clear dS;generalize zB (s.data.toList.take k)=n at *
     go_wp2;go_roundw
     case rel=>exact⟨k+1,ab,bg,by rw[JX.o];rfl,cP⟩
     case measure=>simp[intOf];omega
    ·have fl:=O (show zB (s.data.toList.take k)=zB s.data.toList by rw[aD bH]);go_wp2;go_ret2;unfold sW;rw[hd.o, <-fl.o];exact⟨rfl,cP⟩
def Gp(s:aj):Bool:=s.data.toList.all fun c=>!kr c
def rM:List aj:=[⟨#[97,112,112,108,105,99,97,116,105,111,110,47,120,45,119,119,119,45,102,111,114,109,45,117,114,108,101,110,99,111,100,101,100]⟩,⟨#[109,117,108,116,105,112,97,114,116,47,102,111,114,109,45,100,97,116,97]⟩,⟨#[116,101,120,116,47,112,108,97,105,110]⟩]
def sY(s:aj)(c:UInt8):aj:=if 0<=Lib.indexByte s.data.toList c then s.extract 0 (Lib.indexByte s.data.toList c).toNat else s
def Gq(s:aj):aj:=⟨(nD (Lib.trimS (sY s 59).data.toList [32,9])).toArray⟩
def mo(name value:aj):Bool :=
 if 128<value.size then false
 else if nD name.data.toList=[97,99,99,101,112,116]then Gp value
 else if nD name.data.toList=[97,99,99,101,112,116,45,108,97,110,103,117,97,103,101]then wD value
 else if nD name.data.toList=[99,111,110,116,101,110,116,45,108,97,110,103,117,97,103,101]then wD value
 else if nD name.data.toList=[99,111,110,116,101,110,116,45,116,121,112,101]then Gp value&&Lib.containsS rM (Gq value)
 else false
theorem uK(p:UInt8->Bool):∀l:aH,(l.dropWhile p).length<=l.length
 |[]=>ay _
 |a :: l=>by
  rw[List.dropWhile_cons];split
  ·exact Nat.le_succ_of_le (uK p l)
  ·exact ay _
theorem KL(l cs:aH):(Lib.trimS l cs).length<=l.length:=by
 unfold Lib.trimS Lib.trimLeftS Lib.trimRightS;refine aE (uK _ _) ?_;rw[List.length_reverse];refine aE (uK _ _) ?_;rw[List.length_reverse];exact ay _
def ahE(s:aj)(w:World)(b i:Value)(wr:World):Prop:=∃k:Nat,k<=s.size/\i=.int .i64 k/\b=.bool ((s.data.toList.take k).all fun c=>!kr c)/\Fr aS w wr
theorem Rf(name value:aj)(w:World)(hn:name.size<100000)(hv:value.size<100000) :
  aB 181 #[.agg #[.string name,.string value]] w fun e w'=>e=.returned (.bool (mo name value))/\Fr aS w w':=by
 obtain⟨wb,kj⟩:∃wb,wb=w.alloc (.cells #[.string name,.string value] 171):=⟨_,rfl⟩;have kC:Fr aS w wb:=by rw[kj];exact(ae aS w).alloc _
 have lZ:wb.heap[w.heap.size]?=some (.cells #[.string name,.string value] 171 (0,0)):=by rw[kj];exact aC _ _
 have HC:=O (show∀U,Fr aS wb U->U.cell? ⟨w.heap.size,0,none⟩=some (.string name)/\U.cell? ⟨w.heap.size,1,none⟩=some (.string value)from fun U hU=>by
  have j1:=hU.keep lZ id;simp[World.cell?,j1])
 have ri:=O kj;have mF:=O kC;clear kj kC lZ;by_cases ahF:128<value.size
 ·have HP:=O (show mo name value=false by unfold mo;rw[az ahF]);have i128:(128:Int)<(value.size:Int):=ab;go_enter func181,ntmps181;go_wp2;rw[<-ri.o];go_ret;exact⟨by rw[HP.o];rfl,mF.o⟩
 ·have HP:=O (show mo name value=if nD name.data.toList=[97,99,99,101,112,116]then Gp value
 else if nD name.data.toList=[97,99,99,101,112,116,45,108,97,110,103,117,97,103,101]then wD value
 else if nD name.data.toList=[99,111,110,116,101,110,116,45,108,97,110,103,117,97,103,101]then wD value
 else if nD name.data.toList=[99,111,110,116,101,110,116,45,116,121,112,101]then Gp value&&Lib.containsS rM (Gq value)
 else false by unfold mo;rw[aq ahF])
  have i128:¬(128:Int)<(value.size:Int):=ab;go_enter func181,ntmps181;go_wp2;rw[<-ri.o];go_loopw[3,15] (ahE value wb) (fun _ i _=>value.size-(intOf i).toNat)
  case atStart=>exact⟨0,ab,rfl,rfl,ae _ _⟩
  case round =>
   obtain⟨k,hk,rfl,rfl,cP⟩:=hrel;obtain⟨c0,c1⟩:=HC.o wr cP;by_cases fe:k<value.size
   ·have pE:(k:Int)<(value.size:Int):=ab;have rj:=byte_at value k fe;have lO:=O (show((value.data.toList.take (k+1)).all fun c=>!kr c)=(((value.data.toList.take k).all fun c=>!kr c)&&!kr value[k])by rw[cj,rj,ki];simp);clear rj;cases hb:(value.data.toList.take k).all fun c=>!kr c
    ·have Zb:=O (show((value.data.toList.take (k+1)).all fun c=>!kr c)=false by rw[lO.o,hb];rfl);clear hb;go_wp2;go_roundw
     case rel=>exact⟨k+1,ab,bg,by rw[Zb.o],cP⟩
     case measure=>simp[intOf];omega
    ·have Zb:=O (show((value.data.toList.take (k+1)).all fun c=>!kr c)=!kr value[k]by rw[lO.o,hb];rfl);clear hb;go_wp2_with fail
     refine(ND value[k] _).mono ?_;rintro e u⟨rfl,rfl⟩;go_wp2;go_roundw
     case rel=>exact⟨k+1,ab,bg,by rw[Zb.o],cP⟩
     case measure=>simp[intOf];omega
   ·have pE:¬(k:Int)<(value.size:Int):=ab;rw[show((value.data.toList.take k).all fun c=>!kr c)=Gp value from by rw[aD bH];rfl];generalize Gp value=sf at *
    go_wp2_with fail
    refine(rD name wr ab).mono ?_;rintro e u1⟨rfl,dk⟩;have ln:=O (cP.trans dk);clear dk c0 c1;obtain⟨c0,c1⟩:=HC.o u1 ln.o;generalize nD name.data.toList=nl at *
    by_cases a1:nl=[97,99,99,101,112,116]
    ·subst a1;have HE:=O (show mo name value=sf by rw[HP.o,az rfl]);go_wp2;go_ret;exact⟨by rw[HE.o];rfl,mF.o.trans ln.o⟩
    have HP1:=O (by have h:=HP.o;rw[aq a1]at h;exact h);have b1:(nl== [97,99,99,101,112,116])=false:=aO.2 a1;by_cases a2:nl=[97,99,99,101,112,116,45,108,97,110,103,117,97,103,101]
    ·subst a2;have HE:=O (show mo name value=wD value by rw[HP1.o,az rfl]);clear b1 a1;go_wp2_with fail
     refine(zD value u1 hv).mono ?_;rintro e u2⟨rfl,dE⟩;go_wp2;go_ret;exact⟨by rw[HE.o];rfl,mF.o.trans (ln.o.trans dE)⟩
    have HP2:=O (by have h:=HP1.o;rw[aq a2]at h;exact h);have b2:(nl== [97,99,99,101,112,116,45,108,97,110,103,117,97,103,101])=false:=aO.2 a2;by_cases a3:nl=[99,111,110,116,101,110,116,45,108,97,110,103,117,97,103,101]
    ·subst a3;have HE:=O (show mo name value=wD value by rw[HP2.o,az rfl]);clear b1 a1 b2 a2;go_wp2_with fail
     refine(zD value u1 hv).mono ?_;rintro e u2⟨rfl,dE⟩;go_wp2;go_ret;exact⟨by rw[HE.o];rfl,mF.o.trans (ln.o.trans dE)⟩
    have HP3:=O (by have h:=HP2.o;rw[aq a3]at h;exact h);have b3:(nl== [99,111,110,116,101,110,116,45,108,97,110,103,117,97,103,101])=false:=aO.2 a3;by_cases a4:nl=[99,111,110,116,101,110,116,45,116,121,112,101]
    ·subst a4;have HE:=O (show mo name value=(sf&&Lib.containsS rM (Gq value))by rw[HP3.o,az rfl]);clear b1 a1 b2 a2 b3 a3;have Iy:=O (show aB 127 #[.string value,.string ⟨#[59]⟩] u1 fun e w'=>(∃r f,e=.returned (.tuple #[.string (sY value 59),.string r,.bool f]))/\Fr aS u1 w' by
      by_cases hc:0<=Lib.indexByte value.data.toList 59
      ·obtain⟨i,hi⟩:∃i:Nat,Lib.indexByte value.data.toList 59=(i:Int):=⟨(Lib.indexByte value.data.toList 59).toNat,ab⟩;have hl:i<value.size:=by
        have h:=(Lib.indexByte_some hi).1;have:=(List.getElem?_eq_some_iff.1 h).1;simpa using this
       refine(KK value 59 i u1 ab hi hl).mono ?_;rintro e w'⟨rfl,n,rfl⟩;refine⟨⟨value.extract (i+1) value.size,true,?_⟩,(ae aS u1).drewN n⟩;unfold sY;rw[az hc,hi];rfl
      ·refine(Gn value 59 u1 hc).mono ?_;rintro e w'⟨rfl,rfl⟩;refine⟨⟨⟨#[]⟩,false,?_⟩,ae _ _⟩;unfold sY;rw[aq hc])
     have hbz:(sY value 59).size<=value.size:=by
      unfold sY;split
      ·simp[gI];omega
      ·exact ay _
     have HKB:=O (show Gq value=⟨(nD (Lib.trimS (sY value 59).data.toList [32,9])).toArray⟩from rfl);generalize sY value 59=bv at *
     go_wp2_with fail
     refine Iy.o.mono ?_;rintro e u2⟨⟨r,f,rfl⟩,dE⟩;have fU:=O (ln.o.trans dE);clear Iy dE;go_wp2_with fail
     refine(sV bv ⟨#[32,9]⟩ u2 ab ag ag ag).mono ?_;rintro e u3⟨rfl,iz⟩;have il:=O (fU.o.trans iz);clear iz;have Rh:=KL bv.data.toList [32,9];have hbs:bv.data.toList.length=bv.size:=aR;rw[show(⟨#[32,9]⟩:aj).data.toList=[32,9]from rfl];generalize Lib.trimS bv.data.toList [32,9]=tl at *
     have Yj:(⟨tl.toArray⟩:aj).size<17592186044416:=by show tl.toArray.size<_;simp;omega
     go_wp2_with fail
     refine(rD ⟨tl.toArray⟩ u3 Yj).mono ?_;rintro e u4⟨rfl,kS⟩;have j6:=O (il.o.trans kS);rw[show(⟨(nD (⟨tl.toArray⟩:aj).data.toList).toArray⟩:aj)=Gq value from by rw[HKB.o]];clear kS Rh Yj hbs;generalize Gq value=kv at *
     cases sf
     ·go_wp2;go_ret;exact⟨by rw[HE.o];rfl,mF.o.trans (bF j6.o (by repeat(first|exact ae _ _|apply bB)))⟩
     ·have HCO:=O (slices_Contains_string u4.heap.size 0 3 3 rM kv (u4.alloc (.cells (rM.map Value.string).toArray 9)) (bd rfl) (bd rfl) (fun j hj=>by
       have h:=aC u4 (.cells (rM.map Value.string).toArray 9);have e:(rM.map Value.string)[j]?=some (.string (rM.getD j ByteArray.empty)):=by rw[List.getElem?_map,List.getElem?_eq_getElem hj,List.getD_eq_getElem?_getD,List.getElem?_eq_getElem hj];rfl
       rw[bz];simp only[World.cell?,h];simpa using e))
      have v_:=O (show Fr aS wb (u4.alloc (.cells (rM.map Value.string).toArray 9))from j6.o.alloc _);go_wp2_with fail
      refine HCO.o.mono ?_;rintro e u5⟨rfl,rfl⟩;rw[show rM.take 3=rM from rfl];go_wp2;go_ret;exact⟨by rw[HE.o];rfl,mF.o.trans v_.o⟩
    have b4:(nl== [99,111,110,116,101,110,116,45,116,121,112,101])=false:=aO.2 a4;have HE:=O (show mo name value=false by rw[HP3.o,aq a4]);go_wp2;go_ret;exact⟨by rw[HE.o];rfl,mF.o.trans ln.o⟩
theorem gu(w:World)(t:TypeId)(ss:List aj)(hl:ss.length<=maxLen):fT (w.alloc (.cells (ss.map Value.string).toArray t)) (.slice (some ⟨w.heap.size,0,none⟩) ss.length ss.length) ss:=by
 refine Or.inr ⟨w.heap.size,0,ss.length,rfl,ay _,hl,aR,fun j x hj=>?_⟩;rw[bz];simp only[World.cell?,aC];simp[hj]
def kX(ss:List aj):aH:=Lib.join (ss.map (·.data.toList)) [58]
def kL(NW:Bool)(ss:List aj):aj:=if NW then⟨(Ln (kX ss)).toArray⟩else⟨(Lj (kX ss)).toArray⟩
theorem ZK(l:aH):(Lj l).length=32:=by unfold Lj oZ;rw[DL,ov];rfl
theorem ZL(l:aH):(Ln l).length=64:=by unfold Ln oZ;rw[DL,ov];rfl
theorem lV(NW:Bool)(ss:List aj):(kL NW ss).size<=64:=by
 unfold kL;cases NW
 ·show(Lj _).toArray.size<=64;simp[ZK]
 ·show(Ln _).toArray.size<=64;simp[ZL]
def tQ(fV:Int)(w:World):Prop:=∀(v:Value) (ss:List aj) (W:World),Fr aS w W->fT W v ss->ss.length<=100000->(kX ss).length<=100000 ->
  aB 159 #[.int .i64 fV,v] W fun e w'=>e=.returned (.string (kL (decide (fV=3)) ss))/\Fr aS W w'
theorem tQ.fr{fV:Int}(h:tQ fV w)(hf:Fr aS w w'):tQ fV w':=fun v ss W hW=>h v ss W (hf.trans hW)
theorem Lp(v:Value)(ss:List aj)(w:World)(hv:fT w v ss)(hn:ss.length<=100000)(hlen:(kX ss).length<=100000) :
  aB 207 #[v,.string ⟨#[58]⟩] w fun e w'=>e=.returned (.string ⟨(kX ss).toArray⟩)/\Fr aS w w':=by
 rcases hv with ⟨a,c,rfl,rfl,_⟩|⟨bk,o,c,rfl,h1,h2,h3,h4⟩
 ·exact(strings_Join_none _ _ _ _).mono (by rintro e w1 ⟨rfl,rfl⟩;exact⟨rfl,ae _ _⟩)
 ·exact(strings_Join bk o c ss ⟨#[58]⟩ w h4 h3 ab h1 (by unfold kX at hlen;show(Lib.join _ [58]).length<=_;omega)).mono (by rintro e w1 ⟨rfl,hb⟩;exact⟨rfl,fx hb⟩)
theorem ZM(fV:Int)(h3:fV≠3)(w:World)(ht:tM w):tQ fV w:=by
 intro v ss W hW hv hn hlen;have hT:=O (ht.fr hW);clear ht;have HJ:=O (Lp v ss W hv hn hlen);clear hv;have hz:(⟨(kX ss).toArray⟩:aj).size<4398046511104:=by show(kX ss).toArray.size<_;simp;omega
 have HB:=O (show kL (decide (fV=3)) ss=⟨(Lj (kX ss)).toArray⟩from by rw[bj h3];rfl);generalize kX ss=tx at *
 clear hW;go_enter func159,ntmps159;go_wp2_with fail
 refine HJ.o.mono ?_;rintro e u1⟨rfl,dk⟩;go_wp2_with fail
 refine(ZH ⟨tx.toArray⟩ u1 hz (hT.o.fr dk)).mono ?_;rintro e u2⟨rfl,dE⟩;go_wp2;go_ret;exact⟨(ar (fun b=>Ending.returned (.string b)) HB.o).symm,dk.trans dE⟩
