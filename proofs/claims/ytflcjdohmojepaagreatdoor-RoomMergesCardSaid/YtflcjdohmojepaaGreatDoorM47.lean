/- Part 48 of the proof of roomMerges_card, set without needless blanks. No condition. -/
import Derived.Test.YtflcjdohmojepaaGreatDoorM46
set_option linter.all false
set_option maxRecDepth 100000
set_option maxHeartbeats 16000000
section
namespace Go.Proofs.YtflcjdohmojepaaGreatDoor
open Go Go.Dm Go.Proofs.Tryz
theorem zG9(bad:List Cf)(d:List UInt8):(bad.map Cf.p).any (λx=>x==d)=bad.any λc=>c.p==d:=by rw[List.any_map];rfl
theorem zCs{b o t:List It}(hb:OkT b)(ho:OkT o)(ht:OkT t):
  aA prog 12 [.c (.p (.sl 5 (aS b))),.c (.p (.sl 5 (aS o))),.c (.p (.sl 5 (aS t)))] [] λr h=>r=.tup [.c (.p (.sl 5 (aS (bK b o t).1))),.c (.p (.sl 2 (dY (bK b o t).2)))]/\h=[]:=by
 refine aV ?_;have e1:=hb.len;have e2:=ho.len;have e3:=ht.len;have hp:=zGv (ts:=[b,o,t]) (by simp) (by intro s hs;simp at hs;rcases hs with rfl|rfl|rfl<;>assumption);simp only[List.map_cons,List.map_nil,List.foldl_cons,List.foldl_nil,zCh] at hp;have hpl:=rI b o t;have hd1:=CR hb ho;rw[wO hb ho] at hd1;have hd2:=CR hb ht;rw[wO hb ht] at hd2;have l1:=kG b o;have l2:=kG b t;have bnd:∀{s u:List It},OkT s->OkT u->∀x∈bT s u,x.p.length<=1000000000/\x.o.d.length<=1000000000/\x.n.d.length<=1000000000:=λhs hu x hx=>by
  obtain⟨h1,h2⟩:=fI hx;exact⟨(AU hs.s hu.s x hx).1,by rw[h1];exact Nat.le_trans (hs.getd _) (by decide),by rw[h2];exact Nat.le_trans (hu.getd _) (by decide)⟩
 have p1:=HD (l:=bT b o) (by omega) (AV b o) (λx hx=>zB hb ho hx) (bnd hb ho);have p2:=HD (l:=bT b t) (by omega) (AV b t) (λx hx=>zB hb ht hx) (bnd hb ht);have m1:=kE (bT b o);have m2:=kE (bT b t);have hAl:(dD (bT b o)).length<=240:=by omega
 have hBl:(dD (bT b t)).length<=240:=by omega
 have hml:(bK b o t)=if (ZV b o t).length==0 then (EG b o t,[]) else ([],ZV b o t):=rfl
 have hbe:ZV b o t=eB (iY b o t (eH b o t)++(fC (dD (bT b o)) (dD (bT b t))++fB (EG b o t) (iY b o t (eH b o t)))):=by
  rw[WA];refine xX ((wW _).trans ?_) (qI _);unfold zP2;exact List.Perm.append_left _ List.perm_append_comm
 have hol0:=zAD b o t (eH b o t);have hbl0:=zAC b o t (eH b o t);have hrl:=CZ (dD (bT b o)) (dD (bT b t));have hor:=CG (EG b o t) (iY b o t (eH b o t));have hopl:=RY hb.s ho.s ht.s;rw[hml,hbe];clear hml hbe bnd l1 l2 m1 m2;unfold EG at *;generalize eH b o t=ps at *;generalize bT b o=D1 at *;generalize bT b t=D2 at *;generalize dD D1=A at *;generalize dD D2=B at *;refine zOO aF func12 rfl rfl λX0 hX=>?_;simp only[f12,go_sem];refine bE aF aN ?_
 repeat' (simp only[*,go_sem,Nat.reduceLT,Nat.reduceAdd,])
 refine bE aF aN ?_
 repeat' (simp only[*,go_sem,Nat.reduceLT,])
 refine bE aF aN ?_
 repeat' (simp only[*,go_sem,Nat.reduceLT,])
 refine bE aF aN ?_
 repeat' (first|simp only[*,go_sem,Nat.reduceLT,Nat.reduceLeDiff,Nat.reduceEqDiff,↓reduceIte,]|((with_reducible refine xE (hp) ?_ ?_ ?_);exact rfl;exactλ_=>rfl)|((with_reducible apply aA.frz);exact rfl;exact rfl)|((with_reducible refine And.intro ?_ ?_);decide))
 refine bE aF aN ?_
 repeat' (simp only[*,go_sem,Nat.reduceLT,])
 refine oN aF aN (α:=Unit) (λ_=>⟨186,[(0,.c (.p (.sl 5 (aS b)))),(1,.c (.p (.sl 5 (aS o)))),(2,.c (.p (.sl 5 (aS t)))),(8,.c (.p (.sl 5 (aS (rU b o t ps))))),(9,.c (.own 1 0 (iY b o t ps).length)),(11,.c (.p (.sl 1 (Go.Dm.encS ((iY b o t ps).map Cf.p)))))],
   [.arr 1 [[.sl 5 (aS b)],[.sl 5 (aS o)],[.sl 5 (aS t)]] true,.arr 2 (dY (iY b o t ps)) false]⟩) (λ_=>True) ?_ ?_
 .repeat' (simp only[*,go_sem,Nat.reduceLT,])
  refine dQ aF aN 9 2 rfl ?_;refine dQ aF aN 8 5 rfl ?_;refine dQ aF aN 11 1 rfl ?_;refine pS (α:=Nat × List It × List Cf) (λx=>⟨186,[(0,.c (.p (.sl 5 (aS b)))),(1,.c (.p (.sl 5 (aS o)))),(2,.c (.p (.sl 5 (aS t)))),(10,.c (.p (.sl 1 (Go.Dm.encS ps)))),(12,.c (.p (.i .i64 x.1))),(9,.c (.own 1 0 x.2.2.length)),(8,.c (.own 2 0 x.2.1.length)),(11,.c (.own 3 0 x.2.2.length))],
    [.arr 1 [[.sl 5 (aS b)],[.sl 5 (aS o)],[.sl 5 (aS t)]] true,.arr 2 (dY x.2.2) false,.arr 5 (aS x.2.1) false,.arr 1 (Go.Dm.encS (x.2.2.map Cf.p)) false]⟩)
   (λx=>x.1<=ps.length/\x.2.1.length<=x.1/\x.2.2.length<=x.1/\x.2.1++rU b o t (ps.drop x.1)=rU b o t ps/\x.2.2++iY b o t (ps.drop x.1)=iY b o t ps) (λx=>ps.length-x.1) (0,[],[]) ⟨Nat.zero_le _,Nat.le_refl _,Nat.le_refl _,rfl,rfl⟩ (.inl (aB (by first|rfl|(rw[hX];rfl)) rfl rfl (by simp[aQ,aX,aI,aL,aJ,gI,nT]))) ?_
  clear hp hd1 hd2 p1 p2 hor hrl hopl;rintro⟨k,out,bad⟩ ⟨hk,hol,hbl,hJ,hK⟩;simp only at hk hol hbl hJ hK;have hsl:(bad.map Cf.p).length=bad.length:=List.length_map _;by_cases hlt:k<ps.length
  .have hx:ps[k]?=some ps[k]:=List.getElem?_eq_getElem hlt;have hd:=drop_at hx;have hg:=Go.Dm.encS_at hx;have h1:decide ((k:Int)<(ps.length:Int))=true:=decide_eq_true (by omega);have hli:(k:Int)<(ps.length:Int):=by omega
   have hk0:(0:Int)<=k:=by omega
   have w1:IntKind.i64.wrap ((k:Int)+1)=k+1:=wrap_i64 (by omega) (by omega);generalize ps[k]=p at hx hg hd;have g1:=mQ (t:=b) (p:=p) (by omega);have g2:=mQ (t:=o) (p:=p) (by omega);have g3:=mQ (t:=t) (p:=p) (by omega);rw[hd] at hJ hK;have eJ:rU b o t (p::ps.drop (k+1))=mgI b o t p++rU b o t (ps.drop (k+1)):=rfl;have eK:iY b o t (p::ps.drop (k+1))=mgC b o t p++iY b o t (ps.drop (k+1)):=rfl;rw[eJ] at hJ;rw[eK] at hK;unfold mgI at hJ;unfold mgC at hK;unfold mgN at hJ hK;have hnc:=zM8 (k:=((aM b p).getD nd0).k) (m:=((aM b p).getD nd0).m) (t:=((aM b p).getD nd0).t) (d:=((aM b p).getD nd0).d) (k1:=((aM o p).getD nd0).k) (m1:=((aM o p).getD nd0).m) (t1:=((aM o p).getD nd0).t) (d1:=((aM o p).getD nd0).d) (k2:=((aM t p).getD nd0).k) (m2:=((aM t p).getD nd0).m) (t2:=((aM t p).getD nd0).t) (d2:=((aM t p).getD nd0).d) (aM b p).isSome (aM o p).isSome (aM t p).isSome;simp only[GN] at hnc;have hlaw:=zGg (hb.gett p) (ho.gett p) (ht.gett p) (aM b p).isSome (aM o p).isSome (aM t p).isSome;generalize (aM b p).getD nd0=x at g1 hnc hJ hK hlaw;generalize (aM b p).isSome=u at g1 hnc hJ hK hlaw;generalize (aM o p).getD nd0=y at g2 hnc hJ hK hlaw;generalize (aM o p).isSome=v at g2 hnc hJ hK hlaw;generalize (aM t p).getD nd0=z at g3 hnc hJ hK hlaw;generalize (aM t p).isSome=w at g3 hnc hJ hK hlaw;generalize wH x y z u v w=N' at hnc hlaw;generalize jS x y z u v w=N at hlaw hJ hK;obtain⟨n,ok,kk⟩:=N;obtain⟨n',ok',kk'⟩:=N';simp only at hnc hJ hK hlaw;obtain⟨rfl,rfl,hnn⟩:=hlaw;clear hx hd eJ eK;have n1:(kk' != 0) = !(kk'==0):=rfl;cases hq:(kk'==0)
   .rw[n1,hq,if_pos (by decide)] at hJ hK;rw[hq] at n1;rw[List.nil_append] at hJ;have hJ2:k+1<=ps.length/\out.length<=k+1/\(bad++[(⟨p,kk'⟩:Cf)]).length<=k+1/\out++rU b o t (ps.drop (k+1))=rU b o t ps/\(bad++[(⟨p,kk'⟩:Cf)])++iY b o t (ps.drop (k+1))=iY b o t ps:=⟨by omega,by omega,by simp;omega,hJ,by simpa using hK⟩
    have hmp:(bad++[(⟨p,kk'⟩:Cf)]).map Cf.p=bad.map Cf.p++[p]:=by simp
    clear hJ hK hq hnn;generalize bad.map Cf.p=sk at hsl hmp;refine bE aF aN ?_
    repeat' (simp only[*,go_sem,Nat.reduceLT,Nat.reduceEqDiff,↓reduceIte,])
    refine iB ?_;refine fE aF aN ?_
    repeat' (first|simp only[*,go_sem,Nat.reduceLT,Nat.reduceLeDiff,Nat.reduceEqDiff,↓reduceIte,Nat.reduceAdd,Nat.reduceMul,Nat.reduceBEq,Bool.not_false]|((with_reducible refine xE (g1) ?_ ?_ ?_);exact rfl;exactλ_=>rfl)|((with_reducible refine xE (g2) ?_ ?_ ?_);exact rfl;exactλ_=>rfl)|((with_reducible refine xE (g3) ?_ ?_ ?_);exact rfl;exactλ_=>rfl)|((with_reducible refine xE (hnc) ?_ ?_ ?_);exact rfl;exactλ_=>rfl)|((with_reducible refine And.intro ?_ ?_);((first|omega|decide))))
    refine zNG 1 9 (by first|rfl|(rw[hX];rfl)) rfl ?_;refine fE aF aN ?_
    repeat' (simp only[*,go_sem,Nat.reduceLT,Nat.reduceEqDiff,↓reduceIte,])
    exact dN (k+1,out,bad++[⟨p,kk'⟩]) 3 11 hJ2 (by simp only;omega) (by first|rfl|(rw[hX];rfl)) rfl (aB (by first|rfl|(rw[hX];rfl)) (by simp only[hmp];rfl) rfl (by simp[aQ,aX,aI,aL,aJ,EI,CY,EH,]))
   .rw [n1,hq,if_neg (by decide)] at hJ hK;rw[hq] at n1;rw[List.nil_append] at hK;cases ok'
    .rw[if_neg (by decide),List.nil_append] at hJ;have hJ2:k+1<=ps.length/\out.length<=k+1/\bad.length<=k+1/\out++rU b o t (ps.drop (k+1))=rU b o t ps/\bad++iY b o t (ps.drop (k+1))=iY b o t ps:=⟨by omega,by omega,by omega,hJ,hK⟩
     clear hJ hK hq hnn;refine bE aF aN ?_
     repeat' (simp only[*,go_sem,Nat.reduceLT,Nat.reduceEqDiff,↓reduceIte,])
     refine iB ?_;refine fE aF aN ?_
     repeat' (first|simp only[*,go_sem,Nat.reduceLT,Nat.reduceLeDiff,Nat.reduceEqDiff,↓reduceIte,Nat.reduceAdd,Bool.not_true]|((with_reducible refine xE (g1) ?_ ?_ ?_);exact rfl;exactλ_=>rfl)|((with_reducible refine xE (g2) ?_ ?_ ?_);exact rfl;exactλ_=>rfl)|((with_reducible refine xE (g3) ?_ ?_ ?_);exact rfl;exactλ_=>rfl)|((with_reducible refine xE (hnc) ?_ ?_ ?_);exact rfl;exactλ_=>rfl))
     refine fE aF aN ?_
     repeat' (simp only[*,go_sem,Nat.reduceLT,Nat.reduceEqDiff,↓reduceIte,])
     exact dE (k+1,out,bad) hJ2 (by simp only;omega) (aB (by first|rfl|(rw[hX];rfl)) rfl rfl (by simp[aQ,aX,aI,aL,aJ,]))
    .rw[if_pos rfl] at hJ;rw[<- hnn rfl] at hJ;have hJ2:k+1<=ps.length/\(out++[(⟨p,n'⟩:It)]).length<=k+1/\bad.length<=k+1/\(out++[(⟨p,n'⟩:It)])++rU b o t (ps.drop (k+1))=rU b o t ps/\bad++iY b o t (ps.drop (k+1))=iY b o t ps:=⟨by omega,by simp;omega,by omega,by simpa using hJ,hK⟩
     clear hJ hK hq hnn;refine bE aF aN ?_
     repeat' (simp only[*,go_sem,Nat.reduceLT,Nat.reduceEqDiff,↓reduceIte,])
     refine iB ?_;refine fE aF aN ?_
     repeat' (first|simp only[*,go_sem,Nat.reduceLT,Nat.reduceLeDiff,Nat.reduceEqDiff,↓reduceIte,Nat.reduceAdd,Bool.not_true]|((with_reducible refine xE (g1) ?_ ?_ ?_);exact rfl;exactλ_=>rfl)|((with_reducible refine xE (g2) ?_ ?_ ?_);exact rfl;exactλ_=>rfl)|((with_reducible refine xE (g3) ?_ ?_ ?_);exact rfl;exactλ_=>rfl)|((with_reducible refine xE (hnc) ?_ ?_ ?_);exact rfl;exactλ_=>rfl)|((refine aG (id:=16) aF aN [7,8] [1,2,3,4,5,6,7,0,8,9] (by decide +kernel) ?_);(repeat' (first|(refine aT ?_)|((refine cK ?_ ?_ rfl rfl rfl ?_ ?_);(rotate_left 2);(focus ((repeat' (first|simp only[*,go_sem,Nat.reduceLT,Nat.reduceLeDiff,Nat.reduceEqDiff,↓reduceIte,Nat.reduceAdd,Nat.reduceMul,Nat.reduceBEq,]|((with_reducible refine And.intro ?_ ?_);((first|omega|decide)))));((refine And.intro ?_ ?_<;>exact rfl))));(simp only[aC]))|((refine cJ ?_ rfl rfl rfl ?_ ?_);(rotate_left 1);(focus ((repeat' (first|exact bA|refine aW ?_ ?_));(all_goals ((repeat' (simp only[*,go_sem,Nat.reduceLT,Nat.reduceLeDiff,Nat.reduceEqDiff,↓reduceIte,Nat.reduceAdd,]));(try (exact rfl))))));(simp only[aC]))))))
     refine fE aF aN ?_
     repeat' (simp only[*,go_sem,Nat.reduceLT,Nat.reduceEqDiff,↓reduceIte,])
     exact dN (k+1,out++[⟨p,n'⟩],bad) 2 9 hJ2 (by simp only;omega) (by first|rfl|(rw[hX];rfl)) rfl (aB (by first|rfl|(rw[hX];rfl)) rfl rfl (by simp[aQ,aX,aI,aL,aJ,EI,CY,EH,]))
  .have h1:decide ((k:Int)<(ps.length:Int))=false:=decide_eq_false (by omega);rw[List.drop_of_length_le (by omega)] at hJ hK;have eJ:out=rU b o t ps:=by rw[<- hJ];simp[rU]
   have eK:bad=iY b o t ps:=by rw[<- hK];simp[iY]
   clear hJ hK;rw[<- eJ,<- eK];clear eJ eK;refine bE aF aN ?_
   repeat' (simp only[*,go_sem,Nat.reduceLT,Nat.reduceEqDiff,↓reduceIte,])
   exact zAQ () 8 2 0 out.length 11 3 0 bad.length trivial rfl (zS rfl (by rw[cN])) rfl (zS rfl (by rw[Go.Dm.encS_len,hsl])) (aB (by first|rfl|(rw[hX];rfl)) rfl rfl (by simp[aQ,aX,aI,aL,aJ,]))
 rintro - -;have hoq:∀x∈rU b o t ps,x.p.length<=4611686018427387904:=λx hx=>Nat.le_trans (hopl x hx) (by decide);clear hp hopl;generalize hO:rU b o t ps=out at *;generalize hC:iY b o t ps=bad at *;clear hO hC;refine bE aF aN ?_
 repeat' (first|simp only[*,go_sem,Nat.reduceLT,Nat.reduceEqDiff,↓reduceIte,]|((with_reducible refine xE (hd1) ?_ ?_ ?_);exact rfl;exactλ_=>rfl)|((with_reducible refine xE (p1) ?_ ?_ ?_);exact rfl;exactλ_=>rfl))
 refine bE aF aN ?_
 repeat' (first|simp only[*,go_sem,Nat.reduceLT,Nat.reduceEqDiff,↓reduceIte,]|((with_reducible refine xE (hd2) ?_ ?_ ?_);exact rfl;exactλ_=>rfl)|((with_reducible refine xE (p2) ?_ ?_ ?_);exact rfl;exactλ_=>rfl))
 clear hd1 hd2 p1 p2;obtain⟨bd1,hb1⟩:∃bd1:List Cf,bd1=bad++fC A B:=⟨_,rfl⟩;have hB1:=PLift.up hb1;have hbl1:bd1.length<=1000:=by rw[hb1,List.length_append];omega
 clear hb1;refine oN aF aN (α:=Unit) (λ_=>⟨186,[(8,.c (.p (.sl 5 (aS out)))),(9,.c (.own 1 0 bd1.length)),(11,.c (.p (.sl 1 (Go.Dm.encS (bad.map Cf.p)))))],
   [.arr 1 [[.sl 5 (aS b)],[.sl 5 (aS o)],[.sl 5 (aS t)]] true,.arr 2 (dY bd1) false]⟩) (λ_=>True) ?_ ?_
 .repeat' (simp only[*,go_sem,Nat.reduceLT,])
  refine aP aF aN (α:=Nat × List Cf) (λx=>⟨186,[(8,.c (.p (.sl 5 (aS out)))),(11,.c (.p (.sl 1 (Go.Dm.encS (bad.map Cf.p))))),(22,.c (.p (.sl 2 (oS A)))),(23,.c (.p (.sl 2 (oS B)))),(24,.c (.p (.i .i64 x.1))),(9,.c (.own 1 0 x.2.length))],
    [.arr 1 [[.sl 5 (aS b)],[.sl 5 (aS o)],[.sl 5 (aS t)]] true,.arr 2 (dY x.2) false]⟩)
   (λx=>x.1<=A.length/\x.2.length<=bad.length+x.1/\x.2++(A.drop x.1).flatMap (zCx B)=bd1) (λx=>A.length-x.1) (0,bad) ⟨Nat.zero_le _,by simp,hB1.down.symm⟩ (.inl (aB (by first|rfl|(rw[hX];rfl)) rfl rfl (by simp[aQ,aX,aI,aL,aJ,]))) ?_
  rintro⟨i,bd⟩ ⟨hi,hol,hJ⟩;simp only at hi hol hJ;by_cases hlt:i<A.length
  .have hx:A[i]?=some A[i]:=List.getElem?_eq_getElem hlt;have hg:=BD hx;have hd:=drop_at hx;have h1:decide ((i:Int)<(A.length:Int))=true:=decide_eq_true (by omega);have hli:(i:Int)<(A.length:Int):=by omega
   have hi0:(0:Int)<=i:=by omega
   have w1:IntKind.i64.wrap ((i:Int)+1)=i+1:=wrap_i64 (by omega) (by omega);generalize A[i]=x at hx hg hd;have hto:=zNg (l:=B) (p:=x.a) (by omega);rw[hd,List.flatMap_cons,zCx] at hJ;clear hx hd;have hob:bd.length<=1000000:=by omega
   cases htx:toF B x.a with
   | none =>
    rw[htx] at hto hJ;simp only[Option.getD_none,Option.isSome_none,List.nil_append] at hto hJ;have hJ2:i+1<=A.length/\bd.length<=bad.length+(i+1)/\bd++(A.drop (i+1)).flatMap (zCx B)=bd1:=⟨by omega,by omega,hJ⟩
    clear hJ htx
    repeat' (first|simp only[*,go_sem,Nat.reduceLT,Nat.reduceEqDiff,↓reduceIte,]|((with_reducible refine mH (hto) ?_ ?_ ?_);exact rfl;exact rfl))
    exact dE (i+1,bd) hJ2 (by simp only;omega) (aB (by first|rfl|(rw[hX];rfl)) rfl rfl (by simp[aQ,aX,aI,aL,aJ,]))
   | some q =>
    rw[htx] at hto hJ;simp only[Option.getD_some,Option.isSome_some] at hto hJ;have n1:(q != x.b) = !(q==x.b):=rfl;rw[n1] at hJ;clear htx;cases hq:(q==x.b)
    .rw[hq,if_pos (by decide)] at hJ;rw[hq] at n1;have hJ2:i+1<=A.length/\(bd++[(⟨x.a,6⟩:Cf)]).length<=bad.length+(i+1)/\(bd++[(⟨x.a,6⟩:Cf)])++(A.drop (i+1)).flatMap (zCx B)=bd1:=⟨by omega,by simp;omega,by simpa using hJ⟩
     clear hJ
     repeat' (first|simp only[*,go_sem,Nat.reduceLT,Nat.reduceLeDiff,Nat.reduceEqDiff,↓reduceIte,Nat.reduceAdd,Nat.reduceMul,Nat.reduceBEq,Bool.not_false]|((with_reducible refine mH (hto) ?_ ?_ ?_);exact rfl;exact rfl)|((with_reducible refine And.intro ?_ ?_);((first|omega|decide))))
     exact dN (i+1,bd++[⟨x.a,6⟩]) 1 3 hJ2 (by simp only;omega) (by first|rfl|(rw[hX];rfl)) rfl (aB (by first|rfl|(rw[hX];rfl)) rfl rfl (by simp[aQ,aX,aI,aL,aJ,EI,CY,EH,]))
    .rw[hq,if_neg (by decide),List.nil_append] at hJ;rw[hq] at n1;have hJ2:i+1<=A.length/\bd.length<=bad.length+(i+1)/\bd++(A.drop (i+1)).flatMap (zCx B)=bd1:=⟨by omega,by omega,hJ⟩
     clear hJ
     repeat' (first|simp only[*,go_sem,Nat.reduceLT,Nat.reduceEqDiff,↓reduceIte,Bool.not_true]|((with_reducible refine mH (hto) ?_ ?_ ?_);exact rfl;exact rfl))
     exact dE (i+1,bd) hJ2 (by simp only;omega) (aB (by first|rfl|(rw[hX];rfl)) rfl rfl (by simp[aQ,aX,aI,aL,aJ,]))
  .have h1:decide ((i:Int)<(A.length:Int))=false:=decide_eq_false (by omega);rw[List.drop_of_length_le (by omega),List.flatMap_nil,List.append_nil] at hJ;rw[<- hJ];clear hJ
   repeat' (simp only[*,go_sem,Nat.reduceLT,Nat.reduceEqDiff,↓reduceIte,])
   exact zOd () trivial (aB (by first|rfl|(rw[hX];rfl)) rfl rfl (by simp[aQ,aX,aI,aL,aJ,]))
 rintro - -;obtain⟨bd2,hb2⟩:∃bd2:List Cf,bd2=bd1++fB out bad:=⟨_,rfl⟩;have hB2:=PLift.up hb2;have hbl2:bd2.length<=2000:=by rw[hb2,List.length_append];omega
 clear hb2;refine oN aF aN (α:=Unit) (λ_=>⟨186,[(8,.c (.p (.sl 5 (aS out)))),(9,.c (.own 1 0 bd2.length))],
   [.arr 1 [[.sl 5 (aS b)],[.sl 5 (aS o)],[.sl 5 (aS t)]] true,.arr 2 (dY bd2) false]⟩) (λ_=>True) ?_ ?_
 .repeat' (simp only[*,go_sem,Nat.reduceLT,])
  refine aP aF aN (α:=Nat × List Cf) (λx=>⟨186,[(8,.c (.p (.sl 5 (aS out)))),(11,.c (.p (.sl 1 (Go.Dm.encS (bad.map Cf.p))))),(27,.c (.p (.i .i64 x.1))),(9,.c (.own 1 0 x.2.length))],
    [.arr 1 [[.sl 5 (aS b)],[.sl 5 (aS o)],[.sl 5 (aS t)]] true,.arr 2 (dY x.2) false]⟩)
   (λx=>x.1<=out.length/\x.2.length<=bd1.length+x.1/\x.2++(out.drop x.1).flatMap (yN out bad)=bd2) (λx=>out.length-x.1) (0,bd1) ⟨Nat.zero_le _,by simp,hB2.down.symm⟩ (.inl (aB (by first|rfl|(rw[hX];rfl)) rfl rfl (by simp[aQ,aX,aI,aL,aJ,]))) ?_
  rintro⟨i,bd⟩ ⟨hi,hol,hJ⟩;simp only at hi hol hJ;by_cases hlt:i<out.length
  .have hx:out[i]?=some out[i]:=List.getElem?_eq_getElem hlt;have hg:=bZ hx;have hd:=drop_at hx;have h1:decide ((i:Int)<(out.length:Int))=true:=decide_eq_true (by omega);have hli:(i:Int)<(out.length:Int):=by omega
   have hi0:(0:Int)<=i:=by omega
   have w1:IntKind.i64.wrap ((i:Int)+1)=i+1:=wrap_i64 (by omega) (by omega);have hxp:=hoq _ (List.getElem_mem hlt);generalize out[i]=x at hx hg hd hxp;have hdr:=KC (p:=x.p) hxp;have hdi:=oA (t:=out) (p:=aU x.p) (by omega);have hin:=zNf (l:=bad.map Cf.p) (s:=aU x.p) (by rw[List.length_map];omega);rw[zG9] at hin;rw[hd,List.flatMap_cons,yN] at hJ;generalize aU x.p=d at hdr hdi hin hJ;generalize (bad.any λc=>c.p==d)=b2 at hin hJ;generalize bC out d=b1 at hdi hJ;clear hx hd;have hob:bd.length<=1000000:=by omega
   cases b1<;>cases b2
   case false.false =>
    rw[if_pos (by decide)] at hJ;have hJ2:i+1<=out.length/\(bd++[(⟨x.p,7⟩:Cf)]).length<=bd1.length+(i+1)/\(bd++[(⟨x.p,7⟩:Cf)])++(out.drop (i+1)).flatMap (yN out bad)=bd2:=⟨by omega,by simp;omega,by simpa using hJ⟩
    clear hJ
    repeat' (first|simp only[*,go_sem,Nat.reduceLT,Nat.reduceLeDiff,Nat.reduceEqDiff,↓reduceIte,Nat.reduceAdd,Nat.reduceMul,Nat.reduceBEq,Bool.not_false]|((with_reducible refine mH (hdr) ?_ ?_ ?_);exact rfl;exact rfl)|((with_reducible refine mH (hdi) ?_ ?_ ?_);exact rfl;exact rfl)|((with_reducible refine mH (hin) ?_ ?_ ?_);exact rfl;exact rfl)|((with_reducible refine And.intro ?_ ?_);((first|omega|decide))))
    exact dN (i+1,bd++[⟨x.p,7⟩]) 1 3 hJ2 (by simp only;omega) (by first|rfl|(rw[hX];rfl)) rfl (aB (by first|rfl|(rw[hX];rfl)) rfl rfl (by simp[aQ,aX,aI,aL,aJ,EI,CY,EH,]))
   all_goals
    rw[if_neg (by decide),List.nil_append] at hJ;have hJ2:i+1<=out.length/\bd.length<=bd1.length+(i+1)/\bd++(out.drop (i+1)).flatMap (yN out bad)=bd2:=⟨by omega,by omega,hJ⟩
    clear hJ
    repeat' (first|simp only[*,go_sem,Nat.reduceLT,Nat.reduceEqDiff,↓reduceIte,Bool.not_true,Bool.not_false]|((with_reducible refine mH (hdr) ?_ ?_ ?_);exact rfl;exact rfl)|((with_reducible refine mH (hdi) ?_ ?_ ?_);exact rfl;exact rfl)|((with_reducible refine mH (hin) ?_ ?_ ?_);exact rfl;exact rfl))
    exact dE (i+1,bd) hJ2 (by simp only;omega) (aB (by first|rfl|(rw[hX];rfl)) rfl rfl (by simp[aQ,aX,aI,aL,aJ,]))
  .have h1:decide ((i:Int)<(out.length:Int))=false:=decide_eq_false (by omega);rw[List.drop_of_length_le (by omega),List.flatMap_nil,List.append_nil] at hJ;rw[<- hJ];clear hJ
   repeat' (simp only[*,go_sem,Nat.reduceLT,Nat.reduceEqDiff,↓reduceIte,])
   exact zOd () trivial (aB (by first|rfl|(rw[hX];rfl)) rfl rfl (by simp[aQ,aX,aI,aL,aJ,]))
 rintro - -;refine fE aF aN ?_;have hall:bad++(fC A B++fB out bad)=bd2:=by rw[hB2.down,hB1.down,List.append_assoc]
 rw[hall];have hor2:=zCt (l:=bd2) (by omega);have hsl:=nF bd2;clear hall hB1 hB2 hbl1 hbl2;generalize bd2=all at *;by_cases h0:all.length=0
 .have hb0:decide ((0:Int)<(all.length:Int))=false:=decide_eq_false (by omega);have hq0:((eB all).length==0)=true:=by rw[hsl,h0];rfl
  rw[hq0,if_pos rfl];clear hsl h0;simp only
  repeat' (simp only[*,go_sem,Nat.reduceLT,Nat.reduceEqDiff,↓reduceIte,])
  all_goals first|(simp;done)|trace_state
 .have hb0:decide ((0:Int)<(all.length:Int))=true:=decide_eq_true (by omega);have hq0:((eB all).length==0)=false:=by rw[hsl];simpa using h0
  rw[hq0,if_neg (by decide)];clear hsl h0;simp only
  repeat' (first|simp only[*,go_sem,Nat.reduceLT,Nat.reduceEqDiff,↓reduceIte,]|((with_reducible refine xE (hor2) ?_ ?_ ?_);exact rfl;exactλ_=>rfl)|((with_reducible apply aA.frz);exact rfl;exact rfl))
  all_goals first|(simp;done)|trace_state
theorem zNm{a:List It}(ha:a.length<=1000000):aA prog 18 [.c (.p (.sl 5 (aS a))),.c (.p (.sl 5 (aS a)))] [] λr h=>r=.c (.p (.b true))/\h=[]:=by
 refine eT func18 λX0 hX=>?_;simp only[f18,go_sem]
 repeat' (first|exact⟨⟩|refine sp ?_)
 refine aP aF aN (α:=Nat) (λk=>⟨42,[(0,.c (.p (.sl 5 (aS a)))),(1,.c (.p (.sl 5 (aS a)))),(5,.c (.p (.i .i64 k)))],[]⟩)
  (λk=>k<=a.length) (λk=>a.length-k) 0 (Nat.zero_le _) (.inl (aB (by rw[hX];rfl) rfl rfl wkS)) ?_
 intro k hk;by_cases hlt:k<a.length
 .have hx:a[k]?=some a[k]:=List.getElem?_eq_getElem hlt;have hg:=bZ hx;have h1:decide ((k:Int)<(a.length:Int))=true:=decide_eq_true (by omega);have hli:(k:Int)<(a.length:Int):=by omega
  have hk0:(0:Int)<=k:=by omega
  have w1:IntKind.i64.wrap ((k:Int)+1)=k+1:=wrap_i64 (by omega) (by omega);generalize a[k]=x at hx hg;have e1:=eQ x.n;clear hx
  repeat' (first|exact⟨⟩|refine sp ?_|((refine aG (id:=6) aF aN [] [0,1,2,3,4,5,6,7,8,9,10,11,12,13,14,15,16,17,18,19,20,21,22,23,24] (by decide +kernel) ?_);(repeat' (first|(refine aT ?_)|((refine bL ?_ rfl rfl ?_ ?_);(rotate_left 1);(focus ((repeat' (first|exact⟨⟩|refine sq ?_|refine uF (nC) ?_));exact rfl));(simp only[aC]))))))
  exact dE (k+1) (by omega) (by omega) (aB rfl rfl rfl wkS)
 .have h1:decide ((k:Int)<(a.length:Int))=false:=decide_eq_false (by omega)
  repeat' (first|exact⟨⟩|refine sp ?_)
theorem zL5{p q:List UInt8}{k m:Int}:zDg prog 108 [.s p,.i .i64 k] [.s q,.i .i64 m] (p==q && k==m):=by
 refine⟨by kernel_rfl,λvx vy w hx hy=>?_⟩
 have ex:vx=[.string ⟨p.toArray⟩,.int .i64 k]:=by
  match vx,hx with
  | [a,b],hx=>simp only[List.map_cons,List.map_nil,gX,List.cons.injEq,Option.some.injEq,and_true] at hx;rw[<- hx.1,<- hx.2]
  | [],hx=>simp at hx
  | [_],hx=>simp at hx
  | _::_::_::_,hx=>simp at hx
 have ey:vy=[.string ⟨q.toArray⟩,.int .i64 m]:=by
  match vy,hy with
  | [a,b],hx=>simp only[List.map_cons,List.map_nil,gX,List.cons.injEq,Option.some.injEq,and_true] at hx;rw[<- hx.1,<- hx.2]
  | [],hx=>simp at hx
  | [_],hx=>simp at hx
  | _::_::_::_,hx=>simp at hx
 subst ex ey;have u1:=Tryz.underlying3;have a1:=Tryz.isAgg3;have z1:=Tryz.sizeOf3;have u2:=Tryz.underlying9;have a2:=Tryz.isAgg9;have z2:=Tryz.sizeOf9;have hS:Tryz.prog.underlying 108=some (.struct (Tryz.prog.fieldsOf 108)):=by kernel_rfl
 have hp:Tryz.prog.stoodInHeld 108=false:=by kernel_rfl
 rw[show (10000:Nat)=9999+1 from rfl,run_equalIn_agg w 9999 108 _ _ hS hp]
 simp only[Program.fieldsOf,Tryz.underlying108]
 go_simp
 by_cases h1:p=q<;>by_cases h2:k=m<;>simp[h1,h2]
theorem zIe{ti:TI}{h:aD}{p q:List UInt8}{k m:Int}{K:DV->aD->Prop}(hK:K (.c (.p (.b (!(p==q && k==m))))) h):
  zDd prog 108 ti h .neq (.agg [.p (.s p),.p (.i .i64 k)]) (.agg [.p (.s q),.p (.i .i64 m)]) K :=
 NA [.s p,.i .i64 k] [.s q,.i .i64 m] _ rfl rfl rfl rfl zL5 (.inr ⟨rfl,hK⟩)
theorem zNl{a:List Cf}(ha:a.length<=1000000):aA prog 15 [.c (.p (.sl 2 (dY a))),.c (.p (.sl 2 (dY a)))] [] λr h=>r=.c (.p (.b true))/\h=[]:=by
 refine eT func15 λX0 hX=>?_;simp only[f15,go_sem]
 repeat' (first|exact⟨⟩|refine sp ?_)
 refine aP aF aN (α:=Nat) (λk=>⟨26,[(0,.c (.p (.sl 2 (dY a)))),(1,.c (.p (.sl 2 (dY a)))),(5,.c (.p (.i .i64 k)))],[]⟩)
  (λk=>k<=a.length) (λk=>a.length-k) 0 (Nat.zero_le _) (.inl (aB (by rw[hX];rfl) rfl rfl wkS)) ?_
 intro k hk;by_cases hlt:k<a.length
 .have hx:a[k]?=some a[k]:=List.getElem?_eq_getElem hlt;have hg:=KF hx;have h1:decide ((k:Int)<(a.length:Int))=true:=decide_eq_true (by omega);have hli:(k:Int)<(a.length:Int):=by omega
  have hk0:(0:Int)<=k:=by omega
  have w1:IntKind.i64.wrap ((k:Int)+1)=k+1:=wrap_i64 (by omega) (by omega);generalize a[k]=x at hx hg;clear hx
  repeat' (first|exact⟨⟩|refine sp ?_|((refine aG (id:=6) aF aN [] [0,1,2,3,4,5,6,7,8] (by decide +kernel) ?_);(repeat' (first|(refine aT ?_)|((refine bL ?_ rfl rfl ?_ ?_);(rotate_left 1);(focus ((repeat' (first|simp only[*,go_sem,Nat.reduceLT,Nat.reduceLeDiff,Nat.reduceEqDiff,↓reduceIte,Nat.reduceAdd,beq_self_eq_true,Bool.not_true,Bool.and_self]|refine zIe ?_));exact rfl));(simp only[aC]))))))
  exact dE (k+1) (by omega) (by omega) (aB rfl rfl rfl wkS)
 .have h1:decide ((k:Int)<(a.length:Int))=false:=decide_eq_false (by omega)
  repeat' (first|exact⟨⟩|refine sp ?_)
end Go.Proofs.YtflcjdohmojepaaGreatDoor
end
section
namespace Go.Dm
def xD(p:List UInt8):Nat->Nat->List It->List It
 | 0,_,u=>u
 | r+1,k,u =>
  if p.getD k 0==47 && !bC u (p.take k) then (if (aM u (p.take k)).isSome then u else xD p r (k+1) (mK u (mE u (p.take k) ⟨2,493,0,[]⟩)))
  else xD p r (k+1) u
def zHn(u:List It)(p:List UInt8)(n:Nd):List It :=
 if (aM u p).isSome && (((aM u p).getD nd0).k==2 && (n.k != 2)) then u else mK u (mE u p n)
def DU(t:List It)(x:RI):List It:=zHn (xD (tE x.p) (tE x.p).length 0 t) (tE x.p) (EX x.n)
def ZI(l:List RI):List It:=(l.take 30).foldl DU []
theorem zV{p:List UInt8}:∀(r k:Nat) {u:List It},OkT u->OkT (xD p r k u)
 | 0,_,_,h=>h
 | r+1,k,u,h=>by
  rw[xD];split
  .split
   .exact h
   .exact zV r (k+1) (qR h (show (0:Nat)<18446744073709551616 by decide))
  .exact zV r (k+1) h
theorem zKN{t:List It}{x:RI}(h:OkT t)(hx:x.n.x<18446744073709551616):OkT (DU t x):=by
 unfold DU zHn;split
 .exact zV _ _ h
 .exact qR (zV _ _ h) (zQ hx)
theorem MY:∀{l:List RI} {t:List It},OkT t->(∀x∈l,x.n.x<18446744073709551616)->OkT (l.foldl DU t)
 | [],_,h,_=>h
 | a::r,t,h,hx=>MY (l:=r) (t:=DU t a) (zKN h (hx _ List.mem_cons_self)) λy hy=>hx y (List.mem_cons_of_mem _ hy)
theorem zKO{l:List RI}(hx:∀x∈l,x.n.x<18446744073709551616):OkT (ZI l) :=
 MY OkT.nil λx hm=>hx x (List.take_subset _ _ hm)
theorem zC2{t:List It}{l:List RI}{i:Nat}{x:RI}(h:l[i]?=some x):(l.take (i+1)).foldl DU t=DU ((l.take i).foldl DU t) x:=by
 rw[List.take_add_one,h];simp
theorem VD{l:List RI}{i:Nat}(h:l.length<=i∨30<=i)(h2:i<=30):(l.take i).foldl DU []=ZI l:=by
 unfold ZI;rcases h with h|h
 .rw[List.take_of_length_le h,List.take_of_length_le (Nat.le_trans h h2)]
 .rw[show i=30 by omega]
theorem zC1{p:List UInt8}{k:Nat}{u:List It}{b:UInt8}(h:p[k]?=some b):xD p (p.length-k) k u =
  if b==47 && !bC u (p.take k) then (if (aM u (p.take k)).isSome then u else xD p (p.length-(k+1)) (k+1) (mK u (mE u (p.take k) ⟨2,493,0,[]⟩)))
  else xD p (p.length-(k+1)) (k+1) u:=by
 have hk:=(List.getElem?_eq_some_iff.1 h).1;rw[show p.length-k=(p.length-(k+1))+1 by omega,xD]
 have:p.getD k 0=b:=by simp[List.getD,h]
 rw[this]
end Go.Dm
end
