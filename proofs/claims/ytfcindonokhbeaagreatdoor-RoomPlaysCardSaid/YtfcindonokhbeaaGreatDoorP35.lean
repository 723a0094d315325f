/- Part 36 of roomPlays_card. No condition. -/
import Derived.Test.YtfcindonokhbeaaGreatDoorP27
import Derived.Test.YtfcindonokhbeaaGreatDoorP29
set_option linter.all false
set_option maxRecDepth 100000
set_option maxHeartbeats 0
section
namespace Go.Proofs.YtfcindonokhbeaaGreatDoor
open Go Go.Dm Go.Proofs Go.Proofs.Tryz
def zFm{p:Ba}(b:p.length<=4611686018427387904):ag 224 [.c (.p (.s p))] (.c (.p (.s (oG p)))):=by
 have d:IntKind.i64.wrap ((p.length:Int)-1)=p.length-1:=wrap_i64 qd qd;refine aa func224 λe hX=>?_
 repeat' (first|exact⟨⟩|refine sp ?_)
 refine aJ aC aI (α:=Nat) (λj=>⟨20,[(0,.c (.p (.s p))),(3,.c (.p (.i .i64 ((j:Int)-1))))],[]⟩) (λj=>j<=p.length/\cS p j=cS p p.length) (λj=>j) p.length ⟨bg _,rfl⟩ (.inl (aB qj rfl rfl wkS)) ?_;rintro (_|j) ⟨hj,hl⟩
 .repeat' (first|exact⟨⟩|refine sp ?_)
  simp only[oG,<- hl,cS]
 .have f:((j+1:Nat):Int)-1=j:=qd
  have g:IntKind.i64.wrap ((j:Int)-1)=j-1:=wrap_i64 qd qd;have h:IntKind.i64.wrap ((j:Int)+1)=(j+1:Nat):=by rw[wrap_i64 qd qd];omega
  have d1:decide ((0:Int)<=j)=true:=df qd;simp only[cS] at hl
  repeat' (first|exact⟨⟩|refine sp ?_|refine aH (λ_=>?_) (λ_=>?_)|refine ai ?_)
  .rename_i a;rw[aw a] at hl;simp only[oG,<- hl]
  .rename_i a;rw[au (by rw[a];decide)] at hl;exact cW j ⟨qd,hl⟩ qd (aB rfl rfl rfl wkS)
def zCd(t:List Ba)(i:Nat)(x:Ba):(Go.Dm.encS t).set i [.s x]=Go.Dm.encS (t.set i x):=by
 unfold Go.Dm.encS;rw[jn]
def tY{t:Bl}{p:Ba}(h:OkT t):ag 159 [.c (.p (.sl 5 (aP t))),.c (.p (.s p))] (.c (.p (.sl 1 (Go.Dm.encS (eZ t p))))):=by
 have hl:=h.len;have v:=h.plen;have w:=h.ne;clear h;unfold eZ;refine aa func159 λX0 hX=>?_
 repeat' (first|exact⟨⟩|refine sp ?_)
 refine dM aC aI 5 1 rfl ?_;refine aJ aC aI (α:=Nat × List Ba) (λx=>⟨80,[(0,.c (.p (.sl 5 (aP t)))),(1,.c (.p (.s p))),(6,.c (.p (.i .i64 x.1))),(5,.c (.own 0 0 x.2.length))],[.arr 1 (Go.Dm.encS x.2) false]⟩)
  (λx=>x.1<=t.length/\x.2.length<=x.1/\(((t.take x.1).filter λx=>aU x.p==p).map λx=>oG x.p)=x.2) (λx=>t.length-x.1) (0,[]) ⟨bc _,bg _,rfl⟩ (.inl (aB qj rfl rfl wkS)) ?_
 rintro⟨k,out⟩ ⟨D,H,a⟩;simp only at D H a;by_cases f:k<t.length
 .have r:=ay f;have hg:=bX r;obtain⟨h1,hki,V,w1⟩:=lk k t.length;have j:=fC (g:=λx=>aU x.p==p) r;have W:=v _ (ch f);have X:(t[k].p == [])=false:=by
   have:=w _ (ch f);simpa using this
  generalize t[k]=x at r hg j W X;cases hb:(aU x.p==p)
  .have Y:k+1<=t.length/\out.length<=k+1/\(((t.take (k+1)).filter λx=>aU x.p==p).map λx=>oG x.p)=out:=⟨qd,qd,by rw[j,hb,gh,a];simp⟩
   clear j r a v w
   repeat' (first|exact⟨⟩|refine sp ?_|refine uF (iM (p:=x.p) qd) ?_)
   exact cW (k+1,out) Y qf (aB rfl rfl rfl wkS)
  .have Y:k+1<=t.length/\(out++[oG x.p]).length<=k+1/\(((t.take (k+1)).filter λx=>aU x.p==p).map λx=>oG x.p)=out++[oG x.p]:=⟨qd,qk,by rw[j,hb,gh,a];simp⟩
   clear j r a v w
   repeat' (first|exact⟨⟩|refine sp ?_|refine uF (iM (p:=x.p) qd) ?_|refine uF (zFm (p:=x.p) qd) ?_|((with_reducible refine And.intro ?_ ?_);((first|omega|decide))))
   exact dN (k+1,out++[oG x.p]) 0 2 Y qf rfl rfl (aB rfl rfl rfl wkS)
 .have h0:=aj k t.length;rw[bu qd] at a;unfold xB;rw[a];clear a v w;have I:out.length<=120:=qd
  generalize out=l at I ⊢;clear H D;have J:kL (l.take 1)++l.drop 1=l:=by
   cases l with
   | nil=>simp[kL]
   | cons x l=>simp[kL]
  have K:l.length<=1000000:=qd
  repeat' (first|exact⟨⟩|refine sp ?_)
  refine aJ aC aI (α:=Nat) (λi=>⟨80,[(5,.c (.own 0 0 l.length)),(7,.c (.p (.i .i64 i)))],[.arr 1 (Go.Dm.encS (kL (l.take i)++l.drop i)) false]⟩)
   (λi=>1<=i/\(i<=l.length∨i=1)) (λi=>l.length-i) 1 ⟨bg _,.inr rfl⟩ (.inl (aB qj (by rw[J];rfl) rfl wkS)) ?_
  clear J;rintro i ⟨hi,hi2⟩;by_cases f:i<l.length
  .have r:=ay f;have Z:=drop_at r;obtain⟨h1,-,-,w1⟩:=lk i l.length;have b:=λk=>zHH (k:=k) r;generalize l[i]=x at r Z b;have hSl:(kL (l.take i)).length=i:=by rw[ZK,cr];omega
   have hRl:(l.drop (i+1)).length=l.length-(i+1):=fh;rw[Z];have n:1<=i+1/\(i+1<=l.length∨i+1=1):=⟨qd,.inl qd⟩
   have o:kL (l.take i)++x::l.drop (i+1)=eQ (kL (l.take i)) (l.drop (i+1)) x i:=by
    unfold eQ;rw[bu (l:=kL (l.take i)) (i:=i) qd,cw (l:=kL (l.take i)) (i:=i) qd];rfl
   rw[o];clear o Z r;generalize hS:kL (l.take i)=S at *;clear hS;have hil0:(eQ S (l.drop (i+1)) x i).length=l.length:=by rw[EY qd];omega
   repeat' (first|exact⟨⟩|refine sp ?_)
   refine aJ aC aI (α:=Nat) (λk=>⟨80,[(5,.c (.own 0 0 l.length)),(7,.c (.p (.i .i64 i))),(8,.c (.p (.i .i64 k)))],[.arr 1 (Go.Dm.encS (eQ S (l.drop (i+1)) x k)) false]⟩)
    (λk=>k<=S.length/\∀y∈S.drop k,cC x y=true) (λk=>k) i ⟨qd,by rw[cw qd];simp⟩ (.inl (aB qj rfl rfl wkS)) ?_
   rintro k ⟨D,q⟩;have L:=EY (S:=S) (R:=l.drop (i+1)) (x:=x) D;have M:(eQ S (l.drop (i+1)) x k).length=l.length:=qd
   have N:=Go.Dm.encS_at (zDR (S:=S) (R:=l.drop (i+1)) (x:=x) D);have hkl:(k:Int)<(l.length:Int):=qd
   have V:(0:Int)<=k:=qd
   by_cases u:k=0
   .subst u;have d:=b 0 D q (λy _ h=>absurd h qh);have q0:decide ((0:Int)<((0:Nat):Int))=false:=qh
    rw[d];clear d b q L M N
    repeat' (first|exact⟨⟩|refine sp ?_|refine dR (id:=11) aC aI [] [0,1,2,3,4,5,6,7,8,9,10,11,12,13] ?_)
    exact cW (i+1) n qd (aB rfl rfl rfl wkS)
   .obtain ⟨m,rfl⟩:∃m,k=m+1:=⟨k-1,qd⟩
    have G:S[m]?=some S[m]:=ay qd;have A:=Go.Dm.encS_at (PQ (S:=S) (R:=l.drop (i+1)) (x:=x) qd G);have E:=WG (S:=S) (R:=l.drop (i+1)) (x:=x) qd G;have F:=drop_at G;have d:=b (m+1) D q;simp only[Nat.add_sub_cancel] at d;generalize S[m]=y at G A E F;have q0:decide ((0:Int)<((m+1:Nat):Int))=true:=df qd;have w2:IntKind.i64.wrap (((m+1:Nat):Int)-1)=m:=by rw[wrap_i64 qd qd];omega
    have hml:(m:Int)<(l.length:Int):=qd
    have hm0:(0:Int)<=m:=qd
    have O:cC x y=true->m<=i/\∀z∈S.drop m,cC x z=true:=λh=>⟨qd,λz u=>by
     rw[F] at u;rcases bx.1 u with rfl|u
     .exact h
     .exact q z u⟩
    have B:cC x y=false->eQ S (l.drop (i+1)) x (m+1)=kL (l.take (i+1))++l.drop (i+1):=λh=>d (λz u _=>by rw[G] at u;cases u;exact h)
    have C:((Go.Dm.encS (eQ S (l.drop (i+1)) x (m+1))).set (m+1) [.s y]).set m [.s x]=Go.Dm.encS (eQ S (l.drop (i+1)) x m):=by
     rw[zCd,zCd,E]
    have I:m+1<(Go.Dm.encS (eQ S (l.drop (i+1)) x (m+1))).length:=by rw[encS_len];omega
    have K:m<(Go.Dm.encS (eQ S (l.drop (i+1)) x (m+1))).length:=by rw[encS_len];omega
    have hyat2:((Go.Dm.encS (eQ S (l.drop (i+1)) x (m+1))).set (m+1) [.s y]).getD m []=[.s y]:=by
     rw[ed,il qd,<- ed];exact A
    have P:=PLift.up O;have Q:=PLift.up B;have hP3:=PLift.up n;have T:=PLift.up C;clear O B d b q E C L G F n u;cases c1:cC x y
    .have U:=PLift.up (Q.down c1);clear P Q T
     repeat' (first|exact⟨⟩|refine sp ?_|refine dA (id:=11) aC aI [] [0,1,2,3,4,5,6,7,8,9,10,11,12,13] ?_)
     exact cW (i+1) hP3.down qd (aB rfl (by rw[U.down];rfl) rfl wkS)
    .repeat' (first|exact⟨⟩|refine sp ?_|refine dA (id:=11) aC aI [] [0,1,2,3,4,5,6,7,8,9,10,11,12,13] ?_|((refine aK (id:=13) aC aI [15,17] [0,1,5,6,7,8,9,10,11,12,13,14,15,2,3,4,16,17] qi ?_);(repeat' (first|(refine aM ?_)|((refine bJ ?_ ?_ rfl rfl rfl ?_ ?_);(rotate_left 2);(focus ((repeat' (first|simp only[*,go_sem,Nat.reduceLeDiff,Nat.reduceEqDiff,↓reduceIte,ff]|refine ai ?_));((refine And.intro ?_ ?_<;>exact rfl))));(simp only[aQ]))|((refine bI ?_ rfl rfl rfl ?_ ?_);(rotate_left 1);(focus ((repeat' (first|exact aS|refine aL ?_ ?_));(all_goals ((repeat' (first|exact⟨⟩|refine sp ?_|refine ai ?_));(try (exact rfl))))));(simp only[aD]))))))
     exact cW m (P.down c1) qd (aB rfl (by rw[T.down];rfl) rfl wkS)
  .have h1:=aj i l.length;have e:kL (l.take i)++l.drop i=kL l:=by
    rw[bu qd,cw qd,dh]
   rw[e];have hsl:(kL l).length=l.length:=ZK l;have hke:(kL l).take l.length=kL l:=bu qd;clear e
   repeat' (first|exact⟨⟩|refine sp ?_)
   rfl
def zIs{q p:Ba}{a:Int}:ag 154 [.agg [.p (.s q),.p (.i .i64 a)],.c (.p (.s p))] (.c (.p (.i .i64 (HP q p)))):=by
 refine aa func154 λb d=>?_
 repeat' (first|exact⟨⟩|refine sp ?_|refine uF oD ?_)
def zAh{l:Bn}{p:Ba}(o:l.length<=1000000)(F:DC l):
  ag 153 [.c (.p (.sl 2 (bW l))),.c (.p (.s p)),.c (.clo 154 [])] (.tup [.c (.p (.i .i64 (nP l p))),.c (.p (.b (zAa l p)))]):=by
 have g:∀(k r:Nat) (x t:Nm),l[k]?=some x->l[r]?=some t->k<r->cC x.n t.n=true:=λk r x t u v H=>by
  obtain⟨I,rfl⟩:=bz.1 u;obtain⟨J,rfl⟩:=bz.1 v;exact gg.1 F _ _ I J H
 refine aa func153 λN hX=>?_
 repeat' (first|exact⟨⟩|refine sp ?_)
 refine aJ aC aI (α:=Nat × Nat) (λx=>⟨49,[(0,.c (.p (.sl 2 (bW l)))),(1,.c (.p (.s p))),(2,.c (.clo 154 [])),(8,.c (.p (.i .i64 l.length))),(9,.c (.p (.i .i64 x.1))),(10,.c (.p (.i .i64 x.2)))],[]⟩)
  (λx=>x.1<=x.2/\x.2<=l.length/\∀(k:Nat) (y:Nm),l[k]?=some y->(k<x.1->cC y.n p=true)/\(x.2<=k->cC y.n p=false)) (λx=>x.2-x.1) (0,l.length) ⟨bc _,bg _,λk y a=>⟨λh=>by omega,λh=>by rw[jb h] at a;cases a⟩⟩ (.inl (aB qj rfl rfl wkS)) ?_
 rintro⟨i,j⟩ ⟨w,z,o⟩;simp only at w z o;by_cases K:i<j
 .have u:=ah i j;have O:IntKind.i64.wrap ((i:Int)+j)=(i:Int)+j:=wrap_i64 qd qd;have P:IntKind.u64.wrap ((i:Int)+j)=(i:Int)+j:=oF qd qd;obtain⟨m,Q,A,L⟩:∃m:Nat,((i:Int)+j).fdiv (2 ^ min 1 64)=(m:Int)/\i<=m/\m<j :=
   ⟨(i+j) / 2,by rw[show (2:Int) ^ min 1 64=2 from rfl,oe _ qh];omega,qd,qd⟩
  have R:IntKind.i64.wrap (m:Int)=m:=wrap_i64 qd qd;have S:=ar m;have B:m<l.length:=qd
  have d:=ay B;have C:=kQ d;generalize l[m]=x at d C
  repeat' (first|exact⟨⟩|refine sp ?_|refine uF zIs ?_|refine aH (λ_=>?_) (λ_=>?_)|refine ai ?_)
  .rename_i e;have e:cC x.n p=true:=by rw[<- rS];exact e
   exact cW (m+1,j) ⟨qf,z,λk y a=>⟨λD=>by
    rcases cc k m with h|h
    .exact cO (g _ _ _ _ a d h) e
    .have:k=m:=by simp only at D;omega
     subst this;rw[d] at a;cases a;exact e,(o k y a).2⟩⟩ qf (aB rfl rfl rfl wkS)
  .rename_i e;have e:cC x.n p=false:=by rw[<- rS];exact e
   exact cW (i,m) ⟨A,qf,λk y a=>⟨(o k y a).1,λD=>by
    rcases cc m k with h|h
    .cases M:cC y.n p
     .rfl
     .have:=cO (g _ _ _ _ d a h) M;rw[e] at this;cases this
    .have:k=m:=by simp only at D;omega
     subst this;rw[d] at a;cases a;exact e⟩⟩ qf (aB rfl rfl rfl wkS)
 .have u:=aj i j;have:i=j:=qd
  subst this;have f:AtN l p i:=⟨z,o⟩;have G:=PLift.up (zFk f);have E:=zPK F f;by_cases q:i<l.length
  .have d:=ay q;rw[d] at E;have C:=kQ d;have v:=ah i l.length;generalize l[i]=x at d C E;clear f o
   repeat' (first|exact⟨⟩|refine sp ?_|refine uF zIs ?_|refine ai ?_)
   all_goals simp only[G.down,NO]
  .have v:=aj i l.length;rw[jb (oi q)] at E;clear f o
   repeat' (first|exact⟨⟩|refine sp ?_)
   all_goals simp only[G.down]
def zAi{h:aF}{i n:Nat}{l:Bn}{p:Ba}{K:Bd}(a:l.length<=1000000)(e:DC l)(f:n=l.length)(g:h[i]?=some (.arr 2 (bW l) false))
  (j:K (.tup [.c (.p (.i .i64 (nP l p))),.c (.p (.b (zAa l p)))]) h):aA prog 153 [.c (.own i 0 n),.c (.p (.s p)),.c (.clo 154 [])] h K :=
 zSV rfl rfl (by rw[f,<- jL,dj]) (zAh a e) g (λd k=>by subst k;exact⟨rfl,j⟩)
def uB{r:Rm}{s:Ba}(a:r.N.length<=1000000)(e:DC r.N):aA prog 85 [.c (.ptr 0 0),.c (.p (.s s))] (bC r) λd h=>d=.tup [.c (.p (.i .i64 (nP r.N s))),.c (.p (.b (zAa r.N s)))]/\h=bC r:=by
 unfold bC;refine aa func85 λf g=>?_
 repeat' (first|exact⟨⟩|refine sp ?_|refine zAi a e rfl rfl ?_)
def zNj{p q:Ba}{k m k' m':Int}{t t':Nat}{d d':Ba}:
  ag 103 [.agg [.p (.s p),.p (.i .i64 k),.p (.i .i64 m),.p (.f t),.p (.sl 1 (bS d))],.agg [.p (.s q),.p (.i .i64 k'),.p (.i .i64 m'),.p (.f t'),.p (.sl 1 (bS d'))]] (.c (.p (.b (MI ⟨p,⟨k,m,t,d⟩⟩ ⟨q,⟨k',m',t',d'⟩⟩)))):=by
 refine aa func103 λa e=>?_
 repeat' (first|exact⟨⟩|refine sp ?_|refine uF xO ?_|refine aY (λ_=>?_) (λ_=>?_))
 all_goals ((simp_all[MI];done))
def zTz{a b:Bl}(u:a.length<=1000000)(e:b.length<=1000000):
  ag 102 [.c (.p (.sl 5 (aP a))),.c (.p (.sl 5 (aP b))),.c (.clo 103 [])] (.c (.p (.b (jB a b)))):=by
 by_cases n:b.length=a.length
 .have o:((a.length:Int) != a.length)=false:=ql
  refine aa func102 λq hX=>?_
  repeat' (first|exact⟨⟩|refine sp ?_)
  refine aJ aC aI (α:=Nat) (λk=>⟨32,[(1,.c (.p (.sl 5 (aP b)))),(2,.c (.clo 103 [])),(15,.c (.p (.sl 5 (aP a)))),(16,.c (.p (.i .i64 a.length))),(17,.c (.p (.i .i64 k)))],[]⟩)
   (λk=>k<=a.length/\jB (a.drop k) (b.drop k)=jB a b) (λk=>a.length-k) 0 ⟨bc _,rfl⟩ (.inl (aB qj rfl rfl wkS)) ?_
  rintro k ⟨v,d⟩;by_cases g:k<a.length
  .have j:=ay g;have l:b[k]?=some (b[k]' qd):=ay qd;have r:=bX j;have m:=bX l;have s:=ah k a.length;have f:=zBx j l;generalize a[k]=x at j r f;generalize (b[k]' qd)=y at l m f;have w:=ar k;rw[f] at d;clear f
   repeat' (first|exact⟨⟩|refine sp ?_|refine uF zNj ?_|refine aH (λ_=>?_) (λ_=>?_)|refine ai ?_)
   .rename_i e;rw[dg] at e;rw[e,dp] at d;rw[<- d]
   .rename_i e;rw[kd] at e;rw[e,cy] at d;exact cW (k+1) ⟨qd,d⟩ qd (aB rfl rfl rfl wkS)
  .have s:=aj k a.length;rw[cw qd,cw qd] at d;have t:jB a b=true:=d.symm;clear d
   repeat' (first|exact⟨⟩|refine sp ?_)
 .have o:((a.length:Int) != b.length)=true:=by simpa[bne] using λh=>n qd
  rw[ML λh=>n h.symm];refine aa func102 λq hX=>?_
  repeat' (first|exact⟨⟩|refine sp ?_)
def MU{a b:Bl}(d:a.length<=1000000)(e:b.length<=1000000):ag 54 [.c (.p (.sl 5 (aP a))),.c (.p (.sl 5 (aP b)))] (.c (.p (.b (jB a b)))):=by
 refine aa func54 λf g=>?_
 repeat' (first|exact⟨⟩|refine sp ?_|refine uF (zTz d e) ?_)
end Go.Proofs.YtfcindonokhbeaaGreatDoor
end
