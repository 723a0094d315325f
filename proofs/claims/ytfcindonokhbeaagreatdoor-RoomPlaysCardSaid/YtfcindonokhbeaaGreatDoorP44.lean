/- Part 45 of roomPlays_card. No condition. -/
import Derived.Test.YtfcindonokhbeaaGreatDoorP37
import Derived.Test.YtfcindonokhbeaaGreatDoorP23
import Derived.Test.YtfcindonokhbeaaGreatDoorP32
import Derived.Test.YtfcindonokhbeaaGreatDoorP41
import Derived.Test.YtfcindonokhbeaaGreatDoorP30
set_option linter.all false
set_option maxRecDepth 100000
set_option maxHeartbeats 0
section
namespace Go.Proofs.YtfcindonokhbeaaGreatDoor
open Go Go.Dm Go.Proofs Go.Proofs.Tryz
def zNx{l:Bo}{p:Ba}(t:l.length<=1000000):aA prog 334 [.c (.own 0 0 l.length),.c (.p (.s p))] [.arr 2 (rA l) false] λr h=>r=.c (.p (.b (lS l p)))/\h=[.arr 2 (rA l) false]:=by
 refine aa func334 λu hX=>?_
 repeat' (first|exact⟨⟩|refine sp ?_)
 refine aJ aC aI (α:=Nat) (λk=>⟨18,[(1,.c (.p (.s p))),(7,.c (.own 0 0 l.length)),(8,.c (.p (.i .i64 l.length))),(9,.c (.p (.i .i64 k)))],[.arr 2 (rA l) false]⟩)
  (λk=>k<=l.length/\lS (l.drop k) p=lS l p) (λk=>l.length-k) 0 ⟨bc _,rfl⟩ (.inl (aB qj rfl rfl wkS)) ?_
 rintro k ⟨v,a⟩;by_cases g:k<l.length
 .have e:=ay g;have m:=EH e;have f:=drop_at e;obtain⟨n,o,q,w⟩:=lk k l.length;generalize l[k]=x at e m f;rw[f] at a;unfold lS at a;rw[kg] at a;cases j:(x.b==p)
  .rw[j,dw] at a;have d:k+1<=l.length/\lS (l.drop (k+1)) p=lS l p:=⟨qd,a⟩
   clear a f e
   repeat' (first|exact⟨⟩|refine sp ?_)
   exact cW (k+1) d qd (aB rfl rfl rfl wkS)
  .rw[j,e8] at a;have d:lS l p=true:=a.symm;rw[d];clear a f e d
   repeat' (first|exact⟨⟩|refine sp ?_)
 .have n:=aj k l.length;rw[cw qd] at a;have d:lS l p=false:=a.symm;rw[d];clear a d
  repeat' (first|exact⟨⟩|refine sp ?_)
def zJN{h:aF}{i n:Nat}{l:Bo}{p:Ba}{K:Bd}(a:l.length<=1000000)(d:h[i]?=some (.arr 2 (rA l) false))(e:n=l.length)(f:K (.c (.p (.b (lS l p)))) h):
  aA prog 334 [.c (.own i 0 n),.c (.p (.s p))] h K:=by
 subst e;exact aA.lent (i:=i) [none,some (.s p)] (zNx a) d rfl f
def zIF{l:Bh}(M:l.length<=1000000)(K:∀x∈l,x.p.length<=1000000000/\x.o.t<18446744073709551616/\x.n.t<18446744073709551616):
  ag 286 [.c (.p (.sl 10 (jD l)))] (.c (.p (.sl 2 (rA (dU l))))):=by
 refine aG ?_;have r:=AL M K;unfold dU;clear K;cases u:gU l
 .rw[u] at r;refine aa func286 λN hX=>?_
  repeat' (first|exact⟨⟩|refine sp ?_|refine uF r ?_)
  all_goals first|rfl|simp
 .rw [u] at r;rw[aw rfl];refine aa func286 λN hX=>?_
  repeat' (first|exact⟨⟩|refine sp ?_|refine uF r ?_)
  refine dM aC aI 3 2 rfl ?_;refine aJ aC aI (α:=Nat × Bo) (λx=>⟨68,[(0,.c (.p (.sl 10 (jD l)))),(11,.c (.p (.sl 10 (jD l)))),(12,.c (.p (.i .i64 l.length))),(13,.c (.p (.i .i64 x.1))),(3,.c (.own 0 0 x.2.length))],[.arr 2 (rA x.2) false]⟩)
   (λx=>x.1<=l.length/\x.2.length<=x.1/\(l.drop x.1).foldl (eL l) x.2=nZ l) (λx=>l.length-x.1) (0,[]) ⟨bc _,bg _,rfl⟩ (.inl (aB qj rfl rfl wkS)) ?_
  clear r;rintro⟨i,a⟩ ⟨O,D,e⟩;simp only at O D e;by_cases E:i<l.length
  .have z:=ay E;have P:=jK z;have F:=drop_at z;obtain⟨Q,R,S,Z⟩:=lk i l.length;generalize l[i]=x at z P F;rw[F,gx,eL] at e;have A:(x.k != 2) = !(x.k==2):=rfl;have G:(x.o.k != 1) = !(x.o.k==1):=rfl;rw[A,G] at e;clear z F;cases v:(x.k==2)
   .rw[v] at e A;have b:i+1<=l.length/\a.length<=i+1/\(l.drop (i+1)).foldl (eL l) a=nZ l:=⟨qd,qd,by simpa using e⟩
    clear e
    repeat' (first|exact⟨⟩|refine sq ?_)
    exact cW (i+1,a) b qf (aB rfl rfl rfl wkS)
   .cases B:(x.o.k==1)
    .rw[v,B] at e;rw[v] at A;rw[B] at G;have b:i+1<=l.length/\a.length<=i+1/\(l.drop (i+1)).foldl (eL l) a=nZ l:=⟨qd,qd,by simpa using e⟩
     clear e
     repeat' (first|exact⟨⟩|refine sq ?_)
     exact cW (i+1,a) b qf (aB rfl rfl rfl wkS)
    .rw [v,B,bh,dn,au qh] at e;rw[v] at A;rw[B] at G;have b:=PLift.up e;clear e
     repeat' (first|exact⟨⟩|refine sq ?_)
     refine aJ aC aI (α:=Nat) (λk=>⟨68,[(0,.c (.p (.sl 10 (jD l)))),(11,.c (.p (.sl 10 (jD l)))),(12,.c (.p (.i .i64 l.length))),(13,.c (.p (.i .i64 i))),(3,.c (.own 0 0 a.length)),(5,.c (.ptr 1 0)),(26,.c (.p (.sl 10 (jD l)))),(27,.c (.p (.i .i64 l.length))),(28,.c (.p (.i .i64 k)))],
       [.arr 2 (rA a) false,.box [.p (.s x.p),.p (.i .i64 x.k),.p (.i .i64 x.o.k),.p (.i .i64 x.o.m),.p (.f x.o.t),.p (.sl 1 (bS x.o.d)),.p (.i .i64 x.n.k),.p (.i .i64 x.n.m),.p (.f x.n.t),.p (.sl 1 (bS x.n.d))]]⟩)
      (λk=>k<=l.length/\nA x.o.d a (l.drop k)=nA x.o.d a l) (λk=>l.length-k) 0 ⟨bc _,rfl⟩ (.inl (aB qj rfl rfl wkS)) ?_
     rintro k ⟨hk,h⟩;by_cases H:k<l.length
     .have C:=ay H;have I:=jK C;have j:=drop_at C;obtain⟨T,L,U,w2⟩:=lk k l.length;generalize l[k]=y at C I j;rw[j,nA] at h;clear C j;have w:a.length<=1000000:=qd
      cases V:(y.k==1)<;>cases W:(y.n.k==1)<;>cases X:(x.o.d==y.n.d)<;>cases Y:lS a y.p
      all_goals rw[V,W,X,Y] at h
      case true.true.true.false =>
       rw[aw qh] at h;have g:=b.down;rw[<- h] at g;have q:i+1<=l.length/\(a++[(⟨x.p,y.p⟩:Pr)]).length<=i+1/\(l.drop (i+1)).foldl (eL l) (a++[(⟨x.p,y.p⟩:Pr)])=nZ l:=⟨qd,qk,g⟩
       clear h b g
       repeat' (first|exact⟨⟩|refine sq ?_|refine uF kX ?_|refine zJN w rfl rfl ?_|((with_reducible refine And.intro ?_ ?_);((first|omega|decide))))
       exact dN (i+1,a++[⟨x.p,y.p⟩]) 0 4 q qf rfl rfl (aB rfl rfl rfl wkS)
      all_goals
       rw[au qh] at h;have J:k+1<=l.length/\nA x.o.d a (l.drop (k+1))=nA x.o.d a l:=⟨qd,h⟩
       clear h b
       repeat' (first|exact⟨⟩|refine sq ?_|refine uF kX ?_|refine zJN w rfl rfl ?_)
       exact cW (k+1) J qd (aB rfl rfl rfl wkS)
     .have T:=aj k l.length;rw[cw qd,nA] at h;have g:=b.down;rw[<- h] at g;have q:i+1<=l.length/\a.length<=i+1/\(l.drop (i+1)).foldl (eL l) a=nZ l:=⟨qd,qd,g⟩
      clear h b g
      repeat' (first|exact⟨⟩|refine sp ?_)
      exact cW (i+1,a) q qf (aB rfl rfl rfl wkS)
  .have Q:=aj i l.length;rw[cw qd,lv] at e;rw[<- e];clear e
   repeat' (first|exact⟨⟩|refine sp ?_)
   all_goals first|rfl|(rw[bu ql])|simp
def zKt{p q:Ba}{k m k' m':Int}{tt tt':Nat}{d d':Ba}:
  ag 143 [.agg [.p (.s p),.p (.i .i64 k),.p (.i .i64 m),.p (.f tt),.p (.sl 1 (bS d))],.agg [.p (.s q),.p (.i .i64 k'),.p (.i .i64 m'),.p (.f tt'),.p (.sl 1 (bS d'))]] (.c (.p (.i .i64 (HP p q)))):=by
 refine aa func143 λa b=>?_
 repeat' (first|exact⟨⟩|refine sp ?_|refine uF oD ?_)
def zQB{h:aF}{id:Nat}{l:Bl}(q:∀x∈l,∀y∈l,x.p=y.p->x=y)(hid:h[id]?=some (.arr 5 (aP l) false))(e:l.length<4611686018427387904):
  aA prog 142 [.c (.own id 0 l.length),.c (.clo 143 [])] h λd r=>d=.tup []/\r=h.set id (.arr 5 (aP (iW l)) false):=by
 have:=nV (P:=prog) (f:=142) (g:=143) 5 qh cfI zBD
  (iX Tryz.func142 rfl rfl) (enters_of func143 qg rfl)
  (λm s t c u n o i d w j v k e=>Tryz.slices_SortFunc_f142 5 Tryz.isAgg147 Tryz.sizeOf147 m s t c u 143 #[] n o i d w (enters_of func143 qg rfl) j v k e)
  (λp i z w=>Tryz.slices_SortFunc_none_f142 (α:=Nat) p i z w)
  (h:=h) (i0:=id) (es:=aP l) (λx A y B=>by
   obtain⟨a,_,rfl⟩:=cg.1 A;obtain⟨b,_,rfl⟩:=cg.1 B;exact zKt) (SP q) hid (by rw[cV];exact e)
 rw[VK,cV] at this;exact this
def zRX{t:Bl}{p:Ba}{kk k m k' m':Int}{tt tt':Nat}{d d':Ba}(a:OkT t):
  ag 140 [.c (.p (.sl 5 (aP t))),.agg [.p (.s p),.p (.i .i64 kk),.p (.i .i64 k),.p (.i .i64 m),.p (.f tt),.p (.sl 1 (bS d)),.p (.i .i64 k'),.p (.i .i64 m'),.p (.f tt'),.p (.sl 1 (bS d'))]] (.c (.p (.b (vL t ⟨p,kk,⟨k,m,tt,d⟩,⟨k',m',tt',d'⟩⟩)))):=by
 have e:=gF (t:=t) (p:=p) (bj a.len qh) a.srt a.ne (λx g=>bj (a.dlen x g) qh);unfold vL;simp only;clear a;generalize (aN t p).getD nd0=n at *;generalize (aN t p).isSome=u at *;refine aa func140 λh j=>?_
 repeat' (first|exact⟨⟩|refine sp ?_|refine uN e ?_|refine uF xO ?_|refine aH (λ_=>?_) (λ_=>?_)|refine aY (λ_=>?_) (λ_=>?_))
 all_goals simp_all
def zKL{t:Bl}(u:t.length<=1000000)(m:∀x∈t,x.n.d.length<=140737488355328):
  ag 96 [.c (.p (.sl 5 (aP t)))] (.c (.p (.sl 5 (aP t)))):=by
 refine aa func96 λv hX=>?_
 repeat' (first|exact⟨⟩|refine sp ?_)
 refine dM aC aI 3 5 rfl ?_;refine aJ aC aI (α:=Nat) (λk=>⟨23,[(6,.c (.p (.sl 5 (aP t)))),(7,.c (.p (.i .i64 t.length))),(8,.c (.p (.i .i64 k))),(3,.c (.own 0 0 k))],[.arr 5 (aP (t.take k)) false]⟩)
  (λk=>k<=t.length) (λk=>t.length-k) 0 (bc _) (.inl (aB qj rfl rfl wkS)) ?_
 intro k o;have b:min k t.length=k:=lq o;have e:(t.take k).length=k:=by rw[cr,b]
 by_cases f:k<t.length
 .have j:=ay f;have q:=bX j;obtain⟨r,-,-,w⟩:=lk k t.length;have a:t.take (k+1)=t.take k++[⟨t[k].p,t[k].n⟩]:=by rw[dm,j];rfl
  have g:=m _ (ch f);generalize t[k]=x at j q a g;generalize h:t.take k=s at e a;clear j h m
  repeat' (first|exact⟨⟩|refine sp ?_|((refine aK (id:=5) aC aI [7,8] [1,2,3,4,5,6,7,0,8,9] qi ?_);(repeat' (first|(refine aM ?_)|((refine bJ ?_ ?_ rfl rfl rfl ?_ ?_);(rotate_left 2);(focus ((repeat' (first|exact⟨⟩|refine sp ?_|((with_reducible refine And.intro ?_ ?_);((first|omega|decide)))));((refine And.intro ?_ ?_<;>exact rfl))));(simp only[aD]))|((refine bI ?_ rfl rfl rfl ?_ ?_);(rotate_left 1);(focus ((repeat' (first|exact aS|refine aL ?_ ?_));(all_goals ((repeat' (first|exact⟨⟩|refine sp ?_|refine uN (rU g) ?_));(try (exact rfl))))));(simp only[aD])))))|refine ai ?_)
  exact dN (k+1) 0 3 qd qd rfl rfl (aB rfl (by rw[a];rfl) rfl wkS)
 .have r:=aj k t.length;have l:k=t.length:=qd
  subst l;rw[dj];clear e b
  repeat' (first|exact⟨⟩|refine sp ?_)
def zIz{t:Bl}{bad:Bg}(I:t.length<=1000)(A:bad.length<=1000000)(y:Srt t)(z:∀x∈t,x.p.length<=1000):
  ag 216 [.c (.p (.sl 5 (aP t))),.c (.p (.sl 2 (eI bad)))] (.c (.p (.sl 2 (eI (gJ t bad))))):=by
 refine aa func216 λJ hX=>?_
 repeat' (first|exact⟨⟩|refine sp ?_)
 refine dM aC aI 5 2 rfl ?_;refine aJ aC aI (α:=Nat × Bg) (λx=>⟨38,[(0,.c (.p (.sl 5 (aP t)))),(1,.c (.p (.sl 2 (eI bad)))),(10,.c (.p (.sl 5 (aP t)))),(11,.c (.p (.i .i64 t.length))),(12,.c (.p (.i .i64 x.1))),(5,.c (.own 0 0 x.2.length))],[.arr 2 (eI x.2) false]⟩)
  (λx=>x.1<=t.length/\x.2.length<=x.1/\x.2++(t.drop x.1).flatMap (BQ t bad)=gJ t bad) (λx=>t.length-x.1) (0,[]) ⟨bc _,bg _,rfl⟩ (.inl (aB qj rfl rfl wkS)) ?_
 rintro⟨i,a⟩ ⟨B,u,e⟩;simp only at B u e;by_cases q:i<t.length
 .have r:=ay q;have C:=bX r;have v:=drop_at r;obtain⟨D,E,-,L⟩:=lk i t.length;have w:=z _ (ch q);generalize t[i]=x at r C v w;have h:=eY (p:=x.p) qd;have g:=fZ (t:=t) (p:=aU x.p) qd y;rw[v,jq,BQ] at e;generalize aU x.p=d at h g e;have j:=λ(K:Bd) (F:K (.c (.p (.b (bad.any λc=>c.p==d)))) [.arr 2 (eI a) false,.box [.p (.s x.p),.p (.i .i64 x.n.k),.p (.i .i64 x.n.m),.p (.f x.n.t),.p (.sl 1 (bS x.n.d))],.box [.p (.s d)]])=>zAn (l:=bad) (eo:=eI a) A F;generalize (bad.any λc=>c.p==d)=b2 at j e;generalize aZ t d=G at g e;clear r v z y;have H:a.length<=1000000:=qd
  cases G<;>cases b2
  case false.false =>
   rw[aw qh] at e;have o:i+1<=t.length/\(a++[(⟨x.p,7⟩:Cf)]).length<=i+1/\(a++[(⟨x.p,7⟩:Cf)])++(t.drop (i+1)).flatMap (BQ t bad)=gJ t bad:=⟨qd,qk,by simpa using e⟩
   clear e
   repeat' (first|exact⟨⟩|refine sq ?_|refine uF h ?_|refine j _ ?_|refine uF g ?_|((with_reducible refine And.intro ?_ ?_);((first|omega|decide))))
   exact dN (i+1,a++[⟨x.p,7⟩]) 0 4 o qf rfl rfl (aB rfl rfl rfl wkS)
  all_goals
   rw[au qh,e9] at e;have o:i+1<=t.length/\a.length<=i+1/\a++(t.drop (i+1)).flatMap (BQ t bad)=gJ t bad:=⟨qd,qd,e⟩
   clear e
   repeat' (first|exact⟨⟩|refine sq ?_|refine uF h ?_|refine j _ ?_|refine uF g ?_|refine ai ?_)
   exact cW (i+1,a) o qf (aB rfl rfl rfl wkS)
 .have D:=aj i t.length;rw[cw qd,nu,dh] at e;rw[<- e];clear e
  repeat' (first|exact⟨⟩|refine sp ?_)
  all_goals first|rfl|(rw[bu ql])|simp
def zJk{b o t:Bl}(g:OkS b)(k:OkS o)(m:OkS t):
  ag 217 [.c (.p (.sl 5 (aP b))),.c (.p (.sl 5 (aP o))),.c (.p (.sl 5 (aP t)))] (.c (.p (.sl 2 (eI (gK (dU (dB b o)) (dU (dB b t))))))):=by
 have d1:=zAx g.len k.len g.srt k.srt g.ne k.ne g.dlen k.dlen;have d2:=zAx g.len m.len g.srt m.srt g.ne m.ne g.dlen m.dlen;have C:=jG b o;have D:=jG b t;have P:=g.len;have Q:=k.len;have R:=m.len;have y:=zIF (l:=dB b o) qd (DX g k);have z:=zIF (l:=dB b t) qd (DX g m);have E:=mL (dB b o);have F:=mL (dB b t);have G:(dU (dB b o)).length<=240:=qd
 have H:(dU (dB b t)).length<=240:=qd
 clear C D E F;generalize dB b o=I at *;generalize dB b t=J at *;generalize dU I=A at *;generalize dU J=B at *;refine aa func217 λS hX=>?_
 repeat' (first|exact⟨⟩|refine sp ?_|refine uN d1 ?_|refine uN d2 ?_|refine uN y ?_|refine uN z ?_)
 refine dM aC aI 9 2 rfl ?_;refine aJ aC aI (α:=Nat × Bg) (λx=>⟨50,[(8,.c (.p (.sl 2 (rA B)))),(22,.c (.p (.sl 2 (rA A)))),(23,.c (.p (.i .i64 A.length))),(24,.c (.p (.i .i64 x.1))),(9,.c (.own 0 0 x.2.length))],[.arr 2 (eI x.2) false]⟩)
  (λx=>x.1<=A.length/\x.2.length<=x.1/\x.2++(A.drop x.1).flatMap (zEu B)=gK A B) (λx=>A.length-x.1) (0,[]) ⟨bc _,bg _,rfl⟩ (.inl (aB qj rfl rfl wkS)) ?_
 clear d1 d2 y z;rintro⟨i,d⟩ ⟨K,s,e⟩;simp only at K s e;by_cases u:i<A.length
 .have n:=ay u;have L:=EH n;have v:=drop_at n;obtain⟨M,N,-,T⟩:=lk i A.length;generalize A[i]=x at n L v;have f:=to_c (l:=B) (p:=x.a) qd;rw[v,jq,zEu] at e;clear n v;have O:d.length<=1000000:=qd
  cases j:toF B x.a with
  | none =>
   rw[j] at f e;simp only[ke,gm,e9] at f e;have h:i+1<=A.length/\d.length<=i+1/\d++(A.drop (i+1)).flatMap (zEu B)=gK A B:=⟨qd,qd,e⟩
   clear e j
   repeat' (first|exact⟨⟩|refine sp ?_|refine uF f ?_|refine ai ?_)
   exact cW (i+1,d) h qf (aB rfl rfl rfl wkS)
  | some q =>
   rw[j] at f e;simp only[fe,gy] at f e;have w:(q != x.b) = !(q==x.b):=rfl;rw[w] at e;clear j;cases r:(q==x.b)
   .rw[r,aw qh] at e;rw[r] at w;have h:i+1<=A.length/\(d++[(⟨x.a,6⟩:Cf)]).length<=i+1/\(d++[(⟨x.a,6⟩:Cf)])++(A.drop (i+1)).flatMap (zEu B)=gK A B:=⟨qd,qk,by simpa using e⟩
    clear e
    repeat' (first|exact⟨⟩|refine sq ?_|refine uF f ?_|((with_reducible refine And.intro ?_ ?_);((first|omega|decide))))
    exact dN (i+1,d++[⟨x.a,6⟩]) 0 3 h qf rfl rfl (aB rfl rfl rfl wkS)
   .rw[r,au qh,e9] at e;rw[r] at w;have h:i+1<=A.length/\d.length<=i+1/\d++(A.drop (i+1)).flatMap (zEu B)=gK A B:=⟨qd,qd,e⟩
    clear e
    repeat' (first|exact⟨⟩|refine sq ?_|refine uF f ?_|refine ai ?_)
    exact cW (i+1,d) h qf (aB rfl rfl rfl wkS)
 .have M:=aj i A.length;rw[cw qd,nu,dh] at e;rw[<- e];clear e
  repeat' (first|exact⟨⟩|refine sp ?_)
  all_goals first|rfl|(rw[bu ql])|simp
def zQC{h:aF}{id:Nat}{l:Bl}{K:Bd}(b:∀x∈l,∀y∈l,x.p=y.p->x=y)(a:l.length<4611686018427387904)(hid:h[id]?=some (.arr 5 (aP l) false))(d:K (.tup []) (h.set id (.arr 5 (aP (iW l)) false))):
  aA prog 142 [.c (.own id 0 l.length),.c (.clo 143 [])] h K :=
 aA.mono (zQB b hid a) (by rintro _ _ ⟨rfl,rfl⟩;exact d)
def zKu{t:Bl}{l:Bh}(F:OkT t)(hl:l.length<=100000)(P:∀x∈l,x.p.length<=1000000000/\x.o.t<18446744073709551616/\x.n.t<18446744073709551616)(Z:∀x∈l,x.n.d.length<=140737488355328):
  ag 80 [.c (.p (.sl 5 (aP t))),.c (.p (.sl 10 (jD l)))] (.tup [.c (.p (.sl 5 (aP (gP t l).1))),.c (.p (.i .i64 (gP t l).2))]):=by
 refine aG ?_;have f:=AL (l:=l) qd P;unfold gP;cases Y:gU l
 .rw[Y] at f;refine zPp aC func80 rfl rfl λX0 hX=>?_;simp only[f80,go_sem];refine bE aC aI ?_
  repeat' (first|exact⟨⟩|refine sp ?_)
  refine bE aC aI ?_
  repeat' (first|exact⟨⟩|refine sq ?_|refine uN f ?_)
  all_goals exact .inr ⟨_,rfl⟩
 .rw [Y] at f;rw[au qh];have Q:=PLift.up Y;obtain⟨R,I⟩:∃R,(if !(l.all (vL t)) then (([],17):Bl × Int) else if decide ((120:Int)<((iW (SJ t l)).length:Int)) then ([],16) else if !lC (iW (SJ t l)) then ([],17) else (iW (SJ t l),0))=R:=⟨_,rfl⟩
  rw[I];have J:=PLift.up I;clear I;refine zPp aC func80 rfl rfl λX0 hX=>?_;simp only[f80,go_sem];refine bE aC aI ?_
  repeat' (first|exact⟨⟩|refine sp ?_)
  refine bE aC aI ?_
  repeat' (first|exact⟨⟩|refine sq ?_|refine uN f ?_)
  refine zJJ aC rfl rfl rfl qh (λb K G=>?_)
  repeat' (first|exact⟨⟩|refine sp ?_)
  refine G _ ?_;clear G K f Y;refine dH aC aI (λe a=>?_)
  repeat' (first|exact⟨⟩|refine sp ?_)
  clear a e;refine zJM 7 5 rfl ?_;refine qX ?_;refine dH aC aI (λe a=>?_)
  repeat' (first|exact⟨⟩|refine sp ?_)
  clear a e;refine uH ?_;refine ZP (α:=Nat × Bl) (λx=>⟨70,[(0,.c (.p (.sl 5 (aP t)))),(6,.c (.p (.o (.map (some b))))),(7,.c (.own 0 0 x.2.length)),(16,.c (.p (.sl 10 (jD l)))),(17,.c (.p (.i .i64 l.length))),(18,.c (.p (.i .i64 x.1)))],[.arr 5 (aP x.2) false]⟩)
   (λx=>vU (l.take x.1)) (λx=>x.1<=l.length/\BP (l.take x.1)=x.2/\(l.take x.1).all (vL t)=true) (λx=>l.length-x.1) (0,[]) ⟨bc _,rfl,rfl⟩ rfl (.inl (aB qj rfl rfl wkS)) ?_
  rintro⟨i,v⟩ ⟨hi,q,s⟩;simp only at hi q s;have hol:v.length<=i:=by rw[<- q];exact bj (zIn _) (jh ..)
  by_cases w:i<l.length
  .have r:=ay w;have hg:=jK r;have u:=zD5 r;have B:=zDY r;have L:(l.take (i+1)).all (vL t)=vL t l[i]:=by
    rw[dm,r,ly,s,cy];simp only[Option.toList_some,dz,ju,gp]
   have S:vL t l[i]=false->l.all (vL t)=false:=λh=>by
    rw[lh];intro h2;have:=fb.1 h2 _ (ch w);rw[h] at this;cases this
   obtain⟨T,-,-,w1⟩:=lk i l.length;have M:=P _ (ch w);have hdx:=Z _ (ch w);generalize l[i]=c at *;rw[q] at u;have y:=zRX (t:=t) (p:=c.p) (kk:=c.k) (k:=c.o.k) (m:=c.o.m) (tt:=c.o.t) (d:=c.o.d) (k':=c.n.k) (m':=c.n.m) (tt':=c.n.t) (d':=c.n.d) F;rw[show vL t ⟨c.p,c.k,⟨c.o.k,c.o.m,c.o.t,c.o.d⟩,⟨c.n.k,c.n.m,c.n.t,c.n.d⟩⟩=vL t c from rfl] at y
   refine dH aC aI (λe a=>?_)
   repeat' (first|exact⟨⟩|refine sp ?_)
   clear a e;refine dH aC aI (λe a=>?_)
   repeat' (first|exact⟨⟩|refine sp ?_)
   clear a e;refine qX ?_;refine uH ?_;refine dH aC aI (λe a=>?_)
   repeat' (first|exact⟨⟩|refine sp ?_|refine ai ?_)
   clear a e;cases hf:vL t c
   .rw[hf] at y;obtain rfl:([],17)=R:=by rw[<- J.down,S hf];rfl
    refine dH aC aI (λe a=>?_)
    repeat' (first|exact⟨⟩|refine sq ?_|refine uN y ?_)
    all_goals exact .inr ⟨_,rfl⟩
   .rw [hf] at y L;have hJ:=PLift.up L;clear L S;refine dH aC aI (λe a=>?_)
    repeat' (first|exact⟨⟩|refine sq ?_|refine uN y ?_)
    clear a e;refine qX (zJL aC 3 c.p rfl Tryz.underlying202 Tryz.underlying9 rfl rfl rfl (bj M.1 qh) λK G=>?_)
    repeat' (first|exact⟨⟩|refine sp ?_)
    refine G _ _ _ rfl rfl rfl ?_;clear G K;rw[zTn];cases U:(c.k != 2)
    .rw[show BO c=[] by unfold BO;rw[U];rfl,dh] at u
     have N:=PLift.up u;have hY:=PLift.up B;clear u B;refine lM aC aI (λe a=>?_)
     repeat' (first|exact⟨⟩|refine sp ?_)
     refine lM aC aI (λe a=>?_)
     repeat' (first|exact⟨⟩|refine sp ?_)
     exact zM2 (i+1,v) ⟨qd,N.down,hJ.down⟩ qf hY.down.symm (.inl (aB rfl rfl rfl wkS))
    .rw[show BO c=[⟨c.p,c.n⟩] by unfold BO;rw[U];rfl] at u
     have N:=PLift.up u;have hY:=PLift.up B;clear u B;refine lM aC aI (λe a=>?_)
     repeat' (first|exact⟨⟩|refine sp ?_|((refine aK (id:=12) aC aI [7,8] [1,2,3,4,5,6,7,0,8,9] qi ?_);(repeat' (first|(refine aM ?_)|((refine bJ ?_ ?_ rfl rfl rfl ?_ ?_);(rotate_left 2);(focus ((repeat' (first|exact⟨⟩|refine sp ?_|((with_reducible refine And.intro ?_ ?_);((first|omega|decide)))));((refine And.intro ?_ ?_<;>exact rfl))));(simp only[aD]))|((refine bI ?_ rfl rfl rfl ?_ ?_);(rotate_left 1);(focus ((repeat' (first|exact aS|refine aL ?_ ?_));(all_goals ((repeat' (first|exact⟨⟩|refine sp ?_|refine uN (rU hdx) ?_));(try (exact rfl))))));(simp only[aD]))))))
     refine lM aC aI (λe a=>?_)
     repeat' (first|exact⟨⟩|refine sp ?_)
     exact zM2 (i+1,v++[⟨c.p,c.n⟩]) ⟨qd,N.down,hJ.down⟩ qf hY.down.symm (.inr ⟨0,3,5,_,qh,bg _,bc _,pe _,rfl,aB rfl rfl rfl wkS⟩)
  .have T:=aj i l.length;rw[bu qd] at q s;rw[bu qd];have V:=zKL (t:=t) (bj F.len qh) (λx r=>bj (F.dlen x r) qh);have htl:=F.len;refine dH aC aI (λe a=>?_)
   repeat' (first|exact⟨⟩|refine sp ?_)
   clear a e;refine dH aC aI (λe a=>?_)
   repeat' (first|exact⟨⟩|refine sp ?_)
   clear a e T;refine qX ?_;refine dH aC aI (λe a=>?_)
   repeat' (first|exact⟨⟩|refine sp ?_|refine uN V ?_)
   clear a e;refine uH ?_;refine ZP (α:=Nat × Bl) (λx=>⟨70,[(6,.c (.p (.o (.map (some b))))),(7,.c (.own 0 0 x.2.length)),(43,.c (.p (.sl 5 (aP t)))),(44,.c (.p (.i .i64 t.length))),(45,.c (.p (.i .i64 x.1)))],[.arr 5 (aP x.2) false]⟩)
    (λ_=>vU l) (λx=>x.1<=t.length/\v++zS (t.take x.1) (vU l)=x.2) (λx=>t.length-x.1) (0,v) ⟨bc _,by simp[zS]⟩ rfl (.inl (aB qj rfl rfl wkS)) ?_
   rintro ⟨k,row⟩ ⟨hk,g⟩;simp only at hk g;have hrl:row.length<=100000+120:=by
    have:=zJm (t.take k) (vU l);rw[<- g,bo];rw[cr] at this;omega
   by_cases z:k<t.length
   .have r:=ay z;have hg:=bX r;have W:=zEw (ks:=vU l) r;obtain⟨T,-,-,w1⟩:=lk k t.length;have M:=F.plen _ (ch z);generalize t[k]=x at *;have j:v++zS (t.take (k+1)) (vU l)=row++RF (vU l) x:=by rw[W,<- gf,g]
    clear W g;unfold RF at j;refine dH aC aI (λe a=>?_)
    repeat' (first|exact⟨⟩|refine sp ?_)
    clear a e;refine dH aC aI (λe a=>?_)
    repeat' (first|exact⟨⟩|refine sp ?_)
    clear a e;refine qX ?_;refine uH ?_;refine dH aC aI (λe a=>?_)
    repeat' (first|exact⟨⟩|refine sp ?_|refine ai ?_)
    clear a e;refine qX (zEU aC 3 x.p rfl Tryz.underlying202 Tryz.underlying9 Tryz.zeroValue4 rfl rfl rfl (bj M qh) λK G=>?_)
    repeat' (first|exact⟨⟩|refine sp ?_)
    refine G _ _ _ qh rfl rfl (λK2 C=>?_);clear G K;cases O:(vU l).contains x.p
    .rw[O,aw qh] at j;have N:=PLift.up j;clear j
     repeat' (first|exact⟨⟩|refine sq ?_)
     refine C _ ?_;clear C K2 O;rw[zTn];refine lM aC aI (λe a=>?_)
     repeat' (first|exact⟨⟩|refine sp ?_|((with_reducible refine And.intro ?_ ?_);((first|omega|decide))))
     refine lM aC aI (λe a=>?_)
     repeat' (first|exact⟨⟩|refine sp ?_)
     exact zM2 (k+1,row++[x]) ⟨qd,N.down⟩ qf rfl (.inr ⟨0,3,5,_,qh,bg _,bc _,pe _,rfl,aB rfl rfl rfl wkS⟩)
    .rw[O,au qh,dh] at j;have N:=PLift.up j;clear j
     repeat' (first|exact⟨⟩|refine sq ?_)
     refine C _ ?_;clear C K2 O;rw[zTn];refine lM aC aI (λe a=>?_)
     repeat' (first|exact⟨⟩|refine sp ?_)
     refine lM aC aI (λe a=>?_)
     repeat' (first|exact⟨⟩|refine sp ?_)
     exact zM2 (k+1,row) ⟨qd,N.down⟩ qf rfl (.inl (aB rfl rfl rfl wkS))
   .have T:=aj k t.length;rw[bu qd,<- q] at g;refine dH aC aI (λe a=>?_)
    repeat' (first|exact⟨⟩|refine sp ?_)
    clear a e;refine dH aC aI (λe a=>?_)
    repeat' (first|exact⟨⟩|refine sp ?_)
    clear a e T;have A:SJ t l=row:=g;have I:=J.down;rw[s,au qh] at I;have hu:=zME F.srt Q.down;have D:∀x∈iW (SJ t l),x.p.length<=1000000000/\x.n.t<18446744073709551616:=λx r=>by
     rcases zA5 r with⟨c,O,rfl⟩|r
     .exact⟨(P c O).1,(P c O).2.2⟩
     .exact⟨bj (F.plen x r) qh,F.tlen x r⟩
    have X:(iW (SJ t l)).length=(SJ t l).length:=HE _;rw[A] at I hu D X;have E:=BF (t:=iW row) qd (λx r=>(D x r).1) (λx r=>(D x r).2);have hsl:(iW row).length<=100120:=qd
    subst I;clear q g A D P Z V s J Q w z htl;refine dH aC aI (λe a=>?_)
    repeat' (first|exact⟨⟩|refine sp ?_|refine zQC hu qd rfl ?_)
    have H:(iW row).length=row.length:=HE _;rw[<- H];clear hu X H hrl a e;generalize iW row=m at *;cases Z:decide ((120:Int)<(m.length:Int))
    .rw [au qh];cases hq:lC m
     .rw[hq] at E;rw[aw qh];refine lM aC aI (λe a=>?_)
      repeat' (first|exact⟨⟩|refine sq ?_|refine uN E ?_|((with_reducible apply aA.frz);exact rfl;exact rfl))
      all_goals exact .inr ⟨_,rfl⟩
     .rw[hq] at E;rw[au qh];refine lM aC aI (λe a=>?_)
      repeat' (first|exact⟨⟩|refine sq ?_|refine uN E ?_|((with_reducible apply aA.frz);exact rfl;exact rfl))
    .rw[aw rfl];refine lM aC aI (λe a=>?_)
     repeat' (first|exact⟨⟩|refine sp ?_)
     all_goals exact .inr ⟨_,rfl⟩
def zPU{b o t:Bl}(L:OkS b)(G:OkS o)(H:OkS t):
  ag 146 [.c (.p (.sl 5 (aP b))),.c (.p (.sl 5 (aP o))),.c (.p (.sl 5 (aP t)))] (.tup [.c (.p (.sl 5 (aP (eX b o t).1))),.c (.p (.sl 2 (eI (eX b o t).2)))]):=by
 refine aG ?_;have e1:=L.len;have e2:=G.len;have e3:=H.len;have d1:∀x∈b,x.n.d.length<=140737488355328:=λx C=>bj (L.dlen x C) qh;have d2:∀x∈o,x.n.d.length<=140737488355328:=λx C=>bj (G.dlen x C) qh;have d3:∀x∈t,x.n.d.length<=140737488355328:=λx C=>bj (H.dlen x C) qh;have hp:=zMv (ts:=[b,o,t]) ql (by intro s hs;simp at hs;rcases hs with rfl|rfl|rfl<;>assumption);simp only[dt,gw,mo,List.flatten_nil,dh] at hp;have hpl:=tW b o t;have l:=zJk L G H;have O:=zCr b o t (gD b o t);have P:=zCq b o t (gD b o t);have r:=zIz (t:=HT b o t) (bad:=lJ b o t (gD b o t)) (by unfold HT;omega) qd (zCB b o t) (XI L G H);have Q:(eX b o t)=if (zC8 b o t).length==0 then (HT b o t,[]) else ([],zC8 b o t):=rfl
 have R:zC8 b o t=fH (lJ b o t (gD b o t)++(gJ (HT b o t) (lJ b o t (gD b o t))++gK (dU (dB b o)) (dU (dB b t)))):=rfl;have S:=FU (HT b o t) (lJ b o t (gD b o t));have T:=GP (dU (dB b o)) (dU (dB b t));have E:=mL (dB b o);have F:=jG b o;rw[Q,R];clear Q R;unfold HT at *;unfold gD at *;generalize Lib.compact (((b++(o++t)).map It.p).mergeSort λx y=>decide (x<=y))=ps at *;generalize gK (dU (dB b o)) (dU (dB b t))=rn at *;generalize hQ:gJ (uP b o t ps) (lJ b o t ps)=q at *;clear hQ;refine zPp aC func146 rfl rfl λX0 hX=>?_;simp only[Tryz.f146,go_sem];refine bE aC aI ?_
 repeat' (first|exact⟨⟩|refine sp ?_)
 refine bE aC aI ?_
 repeat' (first|exact⟨⟩|refine sp ?_)
 refine bE aC aI ?_
 repeat' (first|exact⟨⟩|refine sp ?_)
 refine mF aC aI (α:=Unit) (λ_=>⟨92,[(0,.c (.p (.sl 5 (aP b)))),(1,.c (.p (.sl 5 (aP o)))),(2,.c (.p (.sl 5 (aP t)))),(8,.c (.p (.sl 5 (aP (uP b o t ps))))),(9,.c (.p (.sl 2 (eI (lJ b o t ps)))))],[]⟩) (λ_=>True) ?_ ?_
 .repeat' (first|exact⟨⟩|refine sp ?_|refine uN hp ?_|((with_reducible apply aA.frz);exact rfl;exact rfl)|refine ai ?_)
  refine dM aC aI 8 5 rfl ?_;refine dM aC aI 9 2 rfl ?_;refine aJ aC aI (α:=Nat × Bl × Bg) (λx=>⟨92,[(0,.c (.p (.sl 5 (aP b)))),(1,.c (.p (.sl 5 (aP o)))),(2,.c (.p (.sl 5 (aP t)))),(25,.c (.p (.sl 1 (Go.Dm.encS ps)))),(26,.c (.p (.i .i64 ps.length))),(27,.c (.p (.i .i64 x.1))),(8,.c (.own 1 0 x.2.1.length)),(9,.c (.own 2 0 x.2.2.length))],
    [.arr 1 [[.sl 5 (aP b)],[.sl 5 (aP o)],[.sl 5 (aP t)]] true,.arr 5 (aP x.2.1) false,.arr 2 (eI x.2.2) false]⟩)
   (λx=>x.1<=ps.length/\x.2.1.length<=x.1/\x.2.2.length<=x.1/\x.2.1++uP b o t (ps.drop x.1)=uP b o t ps/\x.2.2++lJ b o t (ps.drop x.1)=lJ b o t ps) (λx=>ps.length-x.1) (0,[],[]) ⟨bc _,bg _,bg _,rfl,rfl⟩ (.inl (aB qj rfl rfl wkS)) ?_
  clear hp l r S T E F;rintro⟨k,f,bad⟩ ⟨hk,hol,hbl,e,g⟩;simp only at hk hol hbl e g;by_cases hlt:k<ps.length
  .have C:=ay hlt;have hd:=drop_at C;have hg:=Go.Dm.encS_at C;obtain⟨h1,hli,-,w1⟩:=lk k ps.length;generalize ps[k]=p at C hg hd;have U:=gF (t:=b) (p:=p) qd L.srt L.ne d1;have V:=gF (t:=o) (p:=p) qd G.srt G.ne d2;have W:=gF (t:=t) (p:=p) qd H.srt H.ne d3;have y2:((aN o p).getD nd0).d.length<=140737488355328:=bj (G.getd p) qh;have y3:((aN t p).getD nd0).d.length<=140737488355328:=bj (H.getd p) qh;rw[hd] at e g;have X:uP b o t (p::ps.drop (k+1))=mgI b o t p++uP b o t (ps.drop (k+1)):=rfl;have Y:lJ b o t (p::ps.drop (k+1))=mgC b o t p++lJ b o t (ps.drop (k+1)):=rfl;rw[X] at e;rw[Y] at g;unfold mgI at e;unfold mgC at g;unfold mgN at e g;have j:=zP7 (k:=((aN b p).getD nd0).k) (m:=((aN b p).getD nd0).m) (t:=((aN b p).getD nd0).t) (d:=((aN b p).getD nd0).d) (k1:=((aN o p).getD nd0).k) (m1:=((aN o p).getD nd0).m) (t1:=((aN o p).getD nd0).t) (d1:=((aN o p).getD nd0).d) (k2:=((aN t p).getD nd0).k) (m2:=((aN t p).getD nd0).m) (t2:=((aN t p).getD nd0).t) (d2:=((aN t p).getD nd0).d) y2 y3 (aN b p).isSome (aN o p).isSome (aN t p).isSome;simp only[AR] at j;generalize (aN b p).getD nd0=x at U j e g;generalize (aN b p).isSome=u at U j e g;generalize (aN o p).getD nd0=y at V j e g;generalize (aN o p).isSome=v at V j e g;generalize (aN t p).getD nd0=z at W j e g;generalize (aN t p).isSome=w at W j e g;generalize mB x y z u v w=N at j e g;obtain⟨n,ok,M⟩:=N;simp only at j e g;clear C hd X Y y2 y3 d1 d2 d3;have n1:(M != 0) = !(M==0):=rfl;cases I:(M==0)
   .rw[n1,I,aw qh] at e g;rw[I] at n1;rw[e9] at e;have A:k+1<=ps.length/\f.length<=k+1/\(bad++[(⟨p,M⟩:Cf)]).length<=k+1/\f++uP b o t (ps.drop (k+1))=uP b o t ps/\(bad++[(⟨p,M⟩:Cf)])++lJ b o t (ps.drop (k+1))=lJ b o t ps:=⟨qd,qd,qk,e,by simpa using g⟩
    clear e g I
    repeat' (first|exact⟨⟩|refine sq ?_|refine uN U ?_|refine uN V ?_|refine uN W ?_|refine uN j ?_|((with_reducible refine And.intro ?_ ?_);((first|omega|decide))))
    exact dN (k+1,f,bad++[⟨p,M⟩]) 2 8 A qf rfl rfl (aB rfl rfl rfl wkS)
   .rw [n1,I,au qh] at e g;rw[I] at n1;rw[e9] at g;cases ok
    .rw[au qh,e9] at e;have A:k+1<=ps.length/\f.length<=k+1/\bad.length<=k+1/\f++uP b o t (ps.drop (k+1))=uP b o t ps/\bad++lJ b o t (ps.drop (k+1))=lJ b o t ps:=⟨qd,qd,qd,e,g⟩
     clear e g I
     repeat' (first|exact⟨⟩|refine sq ?_|refine uN U ?_|refine uN V ?_|refine uN W ?_|refine uN j ?_|refine ai ?_)
     exact cW (k+1,f,bad) A qf (aB rfl rfl rfl wkS)
    .rw[aw rfl] at e;have A:k+1<=ps.length/\(f++[(⟨p,n⟩:It)]).length<=k+1/\bad.length<=k+1/\(f++[(⟨p,n⟩:It)])++uP b o t (ps.drop (k+1))=uP b o t ps/\bad++lJ b o t (ps.drop (k+1))=lJ b o t ps:=⟨qd,qk,qd,by simpa using e,g⟩
     clear e g I
     repeat' (first|exact⟨⟩|refine sq ?_|refine uN U ?_|refine uN V ?_|refine uN W ?_|refine uN j ?_|((with_reducible refine And.intro ?_ ?_);((first|omega|decide))))
     exact dN (k+1,f++[⟨p,n⟩],bad) 1 8 A qf rfl rfl (aB rfl rfl rfl wkS)
  .have h1:=aj k ps.length;rw[cw qd] at e g;have X:f=uP b o t ps:=by rw[<- e];simp[uP]
   have Y:bad=lJ b o t ps:=by rw[<- g];simp[lJ]
   clear e g;rw[<- X,<- Y];clear X Y
   repeat' (first|exact⟨⟩|refine sp ?_)
   exact zCG () 8 1 0 f.length 9 2 0 bad.length trivial rfl (iD rfl (by rw[cV])) rfl (iD rfl (by rw[tN])) (aB qj rfl rfl wkS)
 rintro - -;refine gE aC aI ?_;have J:=zFH (a:=lJ b o t ps) (b:=q) (c:=rn) qd qd qd;have Z:=pL (lJ b o t ps++(q++rn));have D:(lJ b o t ps++(q++rn)).length=(lJ b o t ps).length+q.length+rn.length:=by simp;omega
 have hsz:(lJ b o t ps++(q++rn)).length<=1000000:=qd
 clear hp S T E F hpl d1 d2 d3;generalize uP b o t ps=f at *;generalize lJ b o t ps=bad at *;generalize bad++(q++rn)=all at *;generalize bad.length+q.length+rn.length=n at J D;have hke:(fH all).take n=fH all:=bu qd;have hk:∀(h:aF) (id:Nat) (K:Bd),h[id]?=some (.arr 2 (eI all) false)->K (.c (.own id 0 n)) (h.set id (.arr 2 (eI (fH all)) false))->aA prog 214 [.c (.own id 0 n)] h K:=λh id K h1 h2=>zNl h1 qd qd (by rw[D];exact h2)
 rw[Z,D];clear Z D hsz O P;by_cases h0:n=0
 .have hb0:=aj 0 n;have B:(n==0)=true:=by simpa using h0
  rw[B,aw rfl];clear h0 B;simp only
  repeat' (first|simp only[*,go_sem,Nat.reduceLT,Nat.reduceLeDiff,Nat.reduceEqDiff,↓reduceIte,kn,i7]|refine uN r ?_|refine uN l ?_|refine zEX J rfl ?_|refine hk _ _ _ rfl ?_|refine ai ?_)
  all_goals first|(simp;done)|trace_state
 .have hb0:=ah 0 n;have B:(n==0)=false:=by simpa using h0
  rw[B,au qh];clear h0 B;simp only
  repeat' (first|simp only[*,go_sem,Nat.reduceLT,Nat.reduceLeDiff,Nat.reduceEqDiff,↓reduceIte,kn,i7]|refine uN r ?_|refine uN l ?_|refine zEX J rfl ?_|refine hk _ _ _ rfl ?_|refine ai ?_)
  all_goals first|(simp;done)|trace_state
def zCp{b o t:Bl}(d:OkS b)(e:OkS o)(f:OkS t):
  ag 82 [.c (.p (.sl 5 (aP b))),.c (.p (.sl 5 (aP o))),.c (.p (.sl 5 (aP t)))] (.tup [.c (.p (.sl 5 (aP (gT b o t).1))),.c (.p (.sl 2 (eI (gT b o t).2.1))),.c (.p (.i .i64 (gT b o t).2.2))]):=by
 have a:=zPU d e f;unfold gT;generalize eX b o t=m at *;obtain⟨j,k⟩:=m;simp only at *;refine aG ?_;clear d e f;cases l:decide (0<(k.length:Int))
 .simp only[av,ax];cases n:decide (120<(j.length:Int))
  .simp only[av,ax];refine aa func82 λg h=>?_
   repeat' (first|exact⟨⟩|refine sp ?_|refine uN a ?_)
   all_goals first|exact .inr ⟨2,rfl⟩|exact⟨.inl rfl,.inr ⟨rfl,2,rfl⟩,.inl rfl,True.intro⟩
  .simp only[az];refine aa func82 λg h=>?_
   repeat' (first|exact⟨⟩|refine sp ?_|refine uN a ?_)
   all_goals first|exact⟨.inr ⟨5,rfl⟩,.inr ⟨2,rfl⟩⟩|exact⟨.inr ⟨rfl,5,rfl⟩,.inr ⟨rfl,2,rfl⟩,.inl rfl,True.intro⟩
 .simp only[az];refine aa func82 λg h=>?_
  repeat' (first|exact⟨⟩|refine sp ?_|refine uN a ?_)
  all_goals first|exact .inr ⟨5,rfl⟩|exact⟨.inr ⟨rfl,5,rfl⟩,.inl rfl,.inl rfl,True.intro⟩
def zOU{p q:Ba}{k m:Int}:zE9 prog 136 [.s p,.i .i64 k] [.s q,.i .i64 m] (p==q && k==m):=by
 refine⟨qg,λd e w c f=>?_⟩
 have g:d=[.string ⟨p.toArray⟩,.int .i64 k]:=by
  match d,c with
  | [a,b],c=>simp only[dt,gw,jM,fk,b0,jw] at c;rw[<- c.1,<- c.2]
  | [],c=>simp at c
  | [_],c=>simp at c
  | _::_::_::_,c=>simp at c
 have h:e=[.string ⟨q.toArray⟩,.int .i64 m]:=by
  match e,f with
  | [a,b],c=>simp only[dt,gw,jM,fk,b0,jw] at c;rw[<- c.1,<- c.2]
  | [],c=>simp at c
  | [_],c=>simp at c
  | _::_::_::_,c=>simp at c
 subst g h;have r:=Tryz.underlying3;have t:=Tryz.isAgg3;have u:=Tryz.sizeOf3;have v:=Tryz.underlying9;have x:=Tryz.isAgg9;have y:=Tryz.sizeOf9;have j:Tryz.prog.underlying 136=some (.struct (Tryz.prog.fieldsOf 136)):=qg
 have l:Tryz.prog.stoodInHeld 136=false:=qg
 rw[show (10000:Nat)=9999+1 from rfl,run_equalIn_agg w 9999 136 _ _ j l]
 simp only[Program.fieldsOf,Tryz.underlying136]
 go_simp
 by_cases n:p=q<;>by_cases o:k=m<;>simp[n,o]
def zKK{a:TI}{h:aF}{p q:Ba}{k m:Int}{K:Bd}(d:K (.c (.p (.b (!(p==q && k==m))))) h):
  zE6 prog 136 a h .neq (.agg [.p (.s p),.p (.i .i64 k)]) (.agg [.p (.s q),.p (.i .i64 m)]) K :=
 SC [.s p,.i .i64 k] [.s q,.i .i64 m] _ rfl rfl rfl rfl zOU (.inr ⟨rfl,d⟩)
def zQr{a:Bg}(l:a.length<=1000000):ag 31 [.c (.p (.sl 2 (eI a))),.c (.p (.sl 2 (eI a)))] (.c (.p (.b true))):=by
 refine aa func31 λm hX=>?_
 repeat' (first|exact⟨⟩|refine sp ?_)
 refine aJ aC aI (α:=Nat) (λk=>⟨26,[(0,.c (.p (.sl 2 (eI a)))),(1,.c (.p (.sl 2 (eI a)))),(5,.c (.p (.i .i64 k)))],[]⟩)
  (λk=>k<=a.length) (λk=>a.length-k) 0 (bc _) (.inl (aB qj rfl rfl wkS)) ?_
 intro k n;by_cases d:k<a.length
 .have e:=ay d;have f:=PB e;obtain⟨g,h,j,o⟩:=lk k a.length;generalize a[k]=x at e f;clear e
  repeat' (first|exact⟨⟩|refine sp ?_|((refine aK (id:=6) aC aI [] [0,1,2,3,4,5,6,7,8] qi ?_);(repeat' (first|(refine aM ?_)|((refine fR ?_ rfl rfl ?_ ?_);(rotate_left 1);(focus ((repeat' (first|simp only[*,go_sem,Nat.reduceLT,Nat.reduceLeDiff,Nat.reduceEqDiff,↓reduceIte,Nat.reduceAdd,fa,bh,Bool.and_self]|refine zKK ?_));exact rfl));(simp only[aD]))))))
  exact cW (k+1) qd qd (aB rfl rfl rfl wkS)
 .have g:=aj k a.length
  repeat' (first|exact⟨⟩|refine sp ?_)
end Go.Proofs.YtfcindonokhbeaaGreatDoor
end
