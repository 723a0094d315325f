/- Part 33 of roomPlays_card. No condition. -/
import Derived.Test.YtfcindonokhbeaaGreatDoorP28
import Derived.Test.YtfcindonokhbeaaGreatDoorP26
set_option linter.all false
set_option maxRecDepth 100000
set_option maxHeartbeats 0
section
namespace Go.Proofs.YtfcindonokhbeaaGreatDoor
open Go Go.Dm Go.Proofs Go.Proofs.Tryz
def zQl{l:Bo}{p:Ba}(r:l.length<=1000000):ag 127 [.c (.p (.sl 2 (rA l))),.c (.p (.s p))] (.tup [.c (.p (.s ((toF l p).getD []))),.c (.p (.b (toF l p).isSome))]):=by
 refine aa func127 λt hX=>?_
 repeat' (first|exact⟨⟩|refine sp ?_)
 refine aJ aC aI (α:=Nat) (λk=>⟨25,[(0,.c (.p (.sl 2 (rA l)))),(1,.c (.p (.s p))),(6,.c (.p (.i .i64 k)))],[]⟩)
  (λk=>k<=l.length/\toF (l.drop k) p=toF l p) (λk=>l.length-k) 0 ⟨bc _,rfl⟩ (.inl (aB qj rfl rfl wkS)) ?_
 rintro k ⟨u,d⟩;by_cases g:k<l.length
 .have e:=ay g;have j:=EH e;have f:=drop_at e;obtain⟨m,n,o,v⟩:=lk k l.length;generalize l[k]=x at e j f;rw[f,toF] at d;cases h:(x.a==p)
  .rw[h,au qh] at d;have q:k+1<=l.length/\toF (l.drop (k+1)) p=toF l p:=⟨qd,d⟩
   clear d f e
   repeat' (first|exact⟨⟩|refine sp ?_)
   exact cW (k+1) q qd (aB rfl rfl rfl wkS)
  .rw[h,aw rfl] at d;rw[<- d];clear d f e
   repeat' (simp only[*,go_sem,Nat.reduceLT,Nat.reduceEqDiff,↓reduceIte,fe,gy])
 .have m:=aj k l.length;rw[cw qd,toF] at d;rw[<- d];clear d
  repeat' (simp only[*,go_sem,Nat.reduceLT,Nat.reduceEqDiff,↓reduceIte,ke,gm])
def zQi{l:List Ba}{s:Ba}(q:l.length<=1000000):ag 130 [.c (.p (.sl 1 (Go.Dm.encS l))),.c (.p (.s s))] (.c (.p (.b (l.any λx=>x==s)))):=by
 refine aa func130 λr hX=>?_
 repeat' (first|exact⟨⟩|refine sp ?_)
 refine aJ aC aI (α:=Nat) (λk=>⟨18,[(0,.c (.p (.sl 1 (Go.Dm.encS l)))),(1,.c (.p (.s s))),(5,.c (.p (.i .i64 k)))],[]⟩)
  (λk=>k<=l.length/\((l.drop k).any λx=>x==s)=(l.any λx=>x==s)) (λk=>l.length-k) 0 ⟨bc _,rfl⟩ (.inl (aB qj rfl rfl wkS)) ?_
 rintro k ⟨t,a⟩;by_cases f:k<l.length
 .have d:=ay f;have h:=Go.Dm.encS_at d;have e:=drop_at d;obtain⟨j,m,n,u⟩:=lk k l.length;generalize l[k]=x at d h e;rw[e,kg] at a;cases g:(x==s)
  .rw[g,dw] at a;have o:k+1<=l.length/\((l.drop (k+1)).any λx=>x==s)=(l.any λx=>x==s):=⟨qd,a⟩
   clear a e d
   repeat' (first|exact⟨⟩|refine sp ?_)
   exact cW (k+1) o qd (aB rfl rfl rfl wkS)
  .rw[g,e8] at a;rw[<- a];clear a e d
   repeat' (first|exact⟨⟩|refine sp ?_)
 .have j:=aj k l.length;rw[cw qd,oo] at a;rw[<- a];clear a
  repeat' (first|exact⟨⟩|refine sp ?_)
def iF(S R:Bg)(x:Cf)(k:Nat):Bg:=S.take k++x::(S.drop k++R)
def zHG{S R:Bg}{x:Cf}{k:Nat}(a:k<=S.length):(iF S R x k)[k]?=some x:=by
 unfold iF;rw[gv qk];simp[lq a]
def WH{S R:Bg}{x y:Cf}{k:Nat}(b:k+1<=S.length)(a:S[k]?=some y):(iF S R x (k+1))[k]?=some y:=by
 unfold iF;rw[fu qk,gq,aw qd,a]
def KP{S R:Bg}{x:Cf}{k:Nat}(a:k<=S.length):(iF S R x k).length=S.length+1+R.length:=by
 unfold iF;simp only[bo,bw,cr,fh];omega
def zAX{S R:Bg}{x y:Cf}{k:Nat}(f:k+1<=S.length)(c:S[k]?=some y):((iF S R x (k+1)).set (k+1) y).set k x=iF S R x k:=by
 obtain⟨a,rfl⟩:=bz.1 c;unfold iF;have d:S.drop k=S[k]::S.drop (k+1):=ib a;have e:S.take (k+1)=S.take k++[S[k]]:=by rw[dm,ay a];rfl
 rw[d,e];have b:(S.take k).length=k:=by simp;omega
 generalize S.take k=A at b;generalize S.drop (k+1)=B;generalize S[k]=z;rw[gf,lr _ _ qd,lr _ _ qd];simp[b]
def zB8(t:Bg)(i:Nat)(x:Cf):(eI t).set i [.s x.p,.i .i64 x.k]=eI (t.set i x):=by
 unfold eI;rw[jn];rfl
def zMb{l:Bg}{i k:Nat}{x:Cf}(p:l[i]?=some x)(w:k<=(fH (l.take i)).length)(q:∀y∈(fH (l.take i)).drop k,ltC x y=true)(r:∀y,(fH (l.take i))[k-1]?=some y->0<k->ltC x y=false):
  iF (fH (l.take i)) (l.drop (i+1)) x k=fH (l.take (i+1))++l.drop (i+1):=by
 have c:=sW (l.take i);have s:=zY (l.take i);have g:l.take (i+1)=l.take i++[x]:=by rw[dm,p];rfl
 rw [g];generalize fH (l.take i)=S at *;have e:S.take k++x::S.drop k=fH (l.take i++[x]):=by
  refine BD ?_ ?_
  .refine(List.perm_middle).trans ?_;rw[jv];exact((List.Perm.cons x s).trans (o3 (l₁:=[x])))
  .refine ic.2 ⟨c.sublist (mi _ _),dx.2 ⟨λy b=>WU (q y b),c.sublist (oh _ _)⟩,λy b z m=>?_⟩;have a:∀y∈S.take k,ltC x y=false:=by
    intro y b;obtain⟨j,t,rfl⟩:=ie.1 b;have u:j<k:=by simp at t;omega
    rw[km];have d:k-1<S.length:=qd
    have f:=r S[k-1] (ay d) qd;rcases cc j (k-1) with h|h
    .have v:=gg.1 c j (k-1) qd d h;cases n:ltC x (S[j]' qd) with
     | false=>rfl
     | true =>
      cases o:ltC (S[j]' qd) S[k-1] with
      | true=>rw[xK n o] at f;cases f
      | false=>rw[QE o v] at n;rw[n] at f;cases f
    .have:j=k-1:=qd
     subst this;exact f
   rcases bx.1 m with rfl|m
   .exact a y b
   .have:S=S.take k++S.drop k:=(jv _ _).symm;rw[this] at c;exact(ic.1 c).2.2 y b z m
 unfold iF;rw[<- e,gf];rfl
def zEk{l:Bg}(hl:l.length<=1000000):ag 131 [.c (.p (.sl 2 (eI l)))] (.c (.p (.sl 2 (eI (fH l))))):=by
 have D:fH (l.take 1)++l.drop 1=l:=by
  cases l with
  | nil=>simp[fH]
  | cons x l=>simp[fH]
 refine aa func131 λX0 hX=>?_
 repeat' (first|exact⟨⟩|refine sp ?_|((with_reducible refine And.intro ?_ ?_);((first|omega|decide))))
 refine aJ aC aI (α:=Nat) (λi=>⟨79,[(3,.c (.own 1 0 l.length)),(4,.c (.p (.i .i64 i)))],[.dead,.arr 2 (eI (fH (l.take i)++l.drop i)) false]⟩)
  (λi=>1<=i/\(i<=l.length∨i=1)) (λi=>l.length-i) 1 ⟨bg _,.inr rfl⟩ (.inl (aB qj (by rw[D];rfl) rfl wkS)) ?_
 clear D;rintro i ⟨hi,V⟩;by_cases M:i<l.length
 .have J:=ay M;have N:=drop_at J;obtain⟨W,-,-,w1⟩:=lk i l.length;have a:=λk=>zMb (k:=k) J;generalize l[i]=x at J N a;have X:(fH (l.take i)).length=i:=by rw[pL,cr];omega
  have Y:(l.drop (i+1)).length=l.length-(i+1):=fh;rw[N];have d:1<=i+1/\(i+1<=l.length∨i+1=1):=⟨qd,.inl qd⟩
  have f:fH (l.take i)++x::l.drop (i+1)=iF (fH (l.take i)) (l.drop (i+1)) x i:=by
   unfold iF;rw[bu (l:=fH (l.take i)) (i:=i) qd,cw (l:=fH (l.take i)) (i:=i) qd];rfl
  rw[f];clear f N J;generalize Z:fH (l.take i)=S at *;clear Z;have Q:(iF S (l.drop (i+1)) x i).length=l.length:=by rw[KP qd];omega
  repeat' (first|exact⟨⟩|refine sp ?_)
  refine aJ aC aI (α:=Nat) (λk=>⟨79,[(3,.c (.own 1 0 l.length)),(4,.c (.p (.i .i64 i))),(5,.c (.p (.i .i64 k)))],[.dead,.arr 2 (eI (iF S (l.drop (i+1)) x k)) false]⟩)
   (λk=>k<=S.length/\∀y∈S.drop k,ltC x y=true) (λk=>k) i ⟨qd,by rw[cw qd];simp⟩ (.inl (aB qj rfl rfl wkS)) ?_
  rintro k ⟨K,g⟩;have E:=KP (S:=S) (R:=l.drop (i+1)) (x:=x) K;have F:(iF S (l.drop (i+1)) x k).length=l.length:=qd
  have G:=PB (zHG (S:=S) (R:=l.drop (i+1)) (x:=x) K);have hkl:(k:Int)<(l.length:Int):=qd
  have hk0:(0:Int)<=k:=qd
  by_cases n:k=0
  .subst n;have b:=a 0 K g (λy _ h=>absurd h qh);have q0:decide ((0:Int)<((0:Nat):Int))=false:=qh
   rw[b];clear b a g E F G
   repeat' (first|exact⟨⟩|refine sp ?_|refine dR (id:=6) aC aI [] [0,1,2,3,4,5,6,7,8,9,10,11,12,13,14,15,16,17,18,19,20,21,22,23,24,25,26,27,28,29,30,31,32,33,34,35,36,37,38,39,40,41,42,43] ?_)
   exact cW (i+1) d qd (aB rfl rfl rfl wkS)
  .obtain ⟨m,rfl⟩:∃m,k=m+1:=⟨k-1,qd⟩
   have C:S[m]?=some S[m]:=ay qd;have t:=PB (WH (S:=S) (R:=l.drop (i+1)) (x:=x) qd C);have w:=zAX (S:=S) (R:=l.drop (i+1)) (x:=x) qd C;have A:=drop_at C;have b:=a (m+1) K g;simp only[Nat.add_sub_cancel] at b;generalize S[m]=y at C t w A;have q0:decide ((0:Int)<((m+1:Nat):Int))=true:=df qd;have w2:IntKind.i64.wrap (((m+1:Nat):Int)-1)=m:=by rw[wrap_i64 qd qd];omega
   have hml:(m:Int)<(l.length:Int):=qd
   have hm0:(0:Int)<=m:=qd
   have H:ltC x y=true->m<=i/\∀z∈S.drop m,ltC x z=true:=λh=>⟨qd,λz n=>by
    rw[A] at n;rcases bx.1 n with rfl|n
    .exact h
    .exact g z n⟩
   have u:ltC x y=false->iF S (l.drop (i+1)) x (m+1)=fH (l.take (i+1))++l.drop (i+1):=λh=>b (λz n _=>by rw[C] at n;cases n;exact h)
   have v:((eI (iF S (l.drop (i+1)) x (m+1))).set (m+1) [.s y.p,.i .i64 y.k]).set m [.s x.p,.i .i64 x.k]=eI (iF S (l.drop (i+1)) x m):=by
    rw[zB8,zB8,w]
   have hll:m+1<(eI (iF S (l.drop (i+1)) x (m+1))).length:=by rw[tN];omega
   have T:m<(eI (iF S (l.drop (i+1)) x (m+1))).length:=by rw[tN];omega
   have O:((eI (iF S (l.drop (i+1)) x (m+1))).set (m+1) [.s y.p,.i .i64 y.k]).getD m []=[.s y.p,.i .i64 y.k]:=by
    rw[ed,il qd,<- ed];exact t
   have o:=PLift.up H;have q:=PLift.up u;have I:=PLift.up d;have r:=PLift.up v;clear H u b a g w v E C A d n;cases L:cC x.p y.p
   .cases P:(x.p==y.p)
    .have B:ltC x y=false:=by unfold ltC;rw[L,P];rfl
     have j:=PLift.up (q.down B);clear o q r
     repeat' (first|exact⟨⟩|refine sp ?_|refine dA (id:=6) aC aI [] [0,1,2,3,4,5,6,7,8,9,10,11,12,13,14,15,16,17,18,19,20,21,22,23,24,25,26,27,28,29,30,31,32,33,34,35,36,37,38,39,40,41,42,43] ?_)
     exact cW (i+1) I.down qd (aB rfl (by rw[j.down];rfl) rfl wkS)
    .cases U:decide (x.k<y.k)
     .have B:ltC x y=false:=by unfold ltC;rw[L,P,U];rfl
      have j:=PLift.up (q.down B);clear o q r
      repeat' (first|exact⟨⟩|refine sp ?_|refine dA (id:=6) aC aI [] [0,1,2,3,4,5,6,7,8,9,10,11,12,13,14,15,16,17,18,19,20,21,22,23,24,25,26,27,28,29,30,31,32,33,34,35,36,37,38,39,40,41,42,43] ?_)
      exact cW (i+1) I.down qd (aB rfl (by rw[j.down];rfl) rfl wkS)
     .have B:ltC x y=true:=by unfold ltC;rw[L,P,U];rfl
      repeat' (first|exact⟨⟩|refine sp ?_|refine dA (id:=6) aC aI [] [0,1,2,3,4,5,6,7,8,9,10,11,12,13,14,15,16,17,18,19,20,21,22,23,24,25,26,27,28,29,30,31,32,33,34,35,36,37,38,39,40,41,42,43] ?_|((refine aK (id:=8) aC aI [15,17] [0,1,5,6,7,8,9,10,11,12,13,14,15,2,3,4,16,17] qi ?_);(repeat' (first|(refine aM ?_)|((refine bJ ?_ ?_ rfl rfl rfl ?_ ?_);(rotate_left 2);(focus ((repeat' (first|simp only[*,go_sem,Nat.reduceLeDiff,Nat.reduceEqDiff,↓reduceIte,Nat.reduceAdd,ff]|refine ai ?_));((refine And.intro ?_ ?_<;>exact rfl))));(simp only[aQ]))|((refine bI ?_ rfl rfl rfl ?_ ?_);(rotate_left 1);(focus ((repeat' (first|exact aS|refine aL ?_ ?_));(all_goals ((repeat' (first|exact⟨⟩|refine sp ?_|refine ai ?_));(try (exact rfl))))));(simp only[aD]))))))
      exact cW m (o.down B) qd (aB rfl (by rw[r.down];rfl) rfl wkS)
   .have B:ltC x y=true:=by unfold ltC;rw[L];rfl
    repeat' (first|exact⟨⟩|refine sp ?_|refine dA (id:=6) aC aI [] [0,1,2,3,4,5,6,7,8,9,10,11,12,13,14,15,16,17,18,19,20,21,22,23,24,25,26,27,28,29,30,31,32,33,34,35,36,37,38,39,40,41,42,43] ?_|((refine aK (id:=8) aC aI [15,17] [0,1,5,6,7,8,9,10,11,12,13,14,15,2,3,4,16,17] qi ?_);(repeat' (first|(refine aM ?_)|((refine bJ ?_ ?_ rfl rfl rfl ?_ ?_);(rotate_left 2);(focus ((repeat' (first|simp only[*,go_sem,Nat.reduceLeDiff,Nat.reduceEqDiff,↓reduceIte,Nat.reduceAdd,ff]|refine ai ?_));((refine And.intro ?_ ?_<;>exact rfl))));(simp only[aQ]))|((refine bI ?_ rfl rfl rfl ?_ ?_);(rotate_left 1);(focus ((repeat' (first|exact aS|refine aL ?_ ?_));(all_goals ((repeat' (first|exact⟨⟩|refine sp ?_|refine ai ?_));(try (exact rfl))))));(simp only[aD]))))))
    exact cW m (o.down B) qd (aB rfl (by rw[r.down];rfl) rfl wkS)
 .have W:=aj i l.length;have e:fH (l.take i)++l.drop i=fH l:=by
   rw[bu qd,cw qd,dh]
  rw[e];have hsl:(fH l).length=l.length:=pL l;have hke:(fH l).take l.length=fH l:=bu qd;clear e
  repeat' (first|exact⟨⟩|refine sp ?_)
def zP7{k m k1 m1 k2 m2:Int}{t t1 t2:Nat}{d d1 d2:Ba}(h1:d1.length<=140737488355328)(e:d2.length<=140737488355328)(b a t':Bool):
  ag 213 [.agg (ndc k m t d),.agg (ndc k1 m1 t1 d1),.agg (ndc k2 m2 t2 d2),.c (.p (.b b)),.c (.p (.b a)),.c (.p (.b t'))] (.tup [.agg (mB ⟨k,m,t,d⟩ ⟨k1,m1,t1,d1⟩ ⟨k2,m2,t2,d2⟩ b a t').1.cv,.c (.p (.b (mB ⟨k,m,t,d⟩ ⟨k1,m1,t1,d1⟩ ⟨k2,m2,t2,d2⟩ b a t').2.1)),.c (.p (.i .i64 (mB ⟨k,m,t,d⟩ ⟨k1,m1,t1,d1⟩ ⟨k2,m2,t2,d2⟩ b a t').2.2))]):=by
 refine aG ?_;refine aa func213 λf g=>?_
 repeat' (first|exact⟨⟩|refine sp ?_|refine uF (zSG _ _) ?_|refine uN (zOg h1 _) ?_|refine uN (zOg e _) ?_|refine uN (zQc h1 e _) ?_|with_reducible refine aH (λ_=>?_) (λ_=>?_)|with_reducible refine aY (λ_=>?_) (λ_=>?_))
 all_goals ((simp_all[mB,nd0,jJ];done))
def zQA{h:aF}{id:Nat}{l:Bg}(hid:h[id]?=some (.arr 2 (eI l) false))(e:l.length<4611686018427387904):
  aA prog 278 [.c (.own id 0 l.length),.c (.clo 279 [])] h λd q=>d=.tup []/\q=h.set id (.arr 2 (eI (fH l)) false):=by
 have:=nV (P:=prog) (f:=278) (g:=279) 2 qh cfV zQK
  (iX Tryz.func278 rfl rfl) (enters_of func279 qg rfl)
  (λm r s c t n o i d w j u k e=>Tryz.slices_SortFunc_f278 2 Tryz.isAgg136 Tryz.sizeOf136 m r s c t 279 #[] n o i d w (enters_of func279 qg rfl) j u k e)
  (λp i v w=>Tryz.slices_SortFunc_none_f278 (α:=Nat) p i v w)
  (h:=h) (i0:=id) (es:=eI l) (λx z y A=>by
   obtain⟨a,_,rfl⟩:=cg.1 z;obtain⟨b,_,rfl⟩:=cg.1 A;exact zJC) (zFA l) hid (by rw[tN];exact e)
 rw[zGI,tN] at this;exact this
def zNl{h:aF}{id n:Nat}{l:Bg}{K:Bd}(hid:h[id]?=some (.arr 2 (eI l) false))(a:l.length<4611686018427387904)(b:n=l.length)
  (e:K (.c (.own id 0 l.length)) (h.set id (.arr 2 (eI (fH l)) false))):aA prog 214 [.c (.own id 0 n)] h K:=by
 subst b;have d:=zQA hid a;refine VN aC aI func214 rfl rfl λf g=>?_;simp only[f214,go_sem]
 repeat' (first|exact⟨⟩|refine sp ?_)
 refine aA.mono d ?_;rintro _ _ ⟨rfl,rfl⟩
 repeat' (first|exact⟨⟩|refine sp ?_)
def GI{a b:Bl}(B:OkT a)(C:OkT b):ag 71 [.c (.p (.sl 5 (aP a))),.c (.p (.sl 5 (aP b)))] (.c (.p (.sl 10 (jD (QZ a b))))):=by
 have D:=B.len;have E:=C.len;have g:=zBe (ts:=[a,b]) ql (by intro t A;simp at A;rcases A with rfl|rfl<;>assumption);simp only[dt,gw,gx,lv] at g;have o:(AW a b).length<=240:=by
  have q:=kH a [];have I:=kH b (dX [] a);simp only[da] at q;unfold AW;omega
 change aA _ _ _ _ (λr h=>r=.c (.p (.sl 1 (Go.Dm.encS (AW a b))))/\h=[]) at g;unfold QZ;generalize AW a b=ps at g o;refine aa func71 λJ hX=>?_
 repeat' (first|exact⟨⟩|refine sp ?_|refine uN g ?_|((with_reducible apply aA.frz);exact rfl;exact rfl)|refine ai ?_)
 refine dM aC aI 5 10 rfl ?_;refine aJ aC aI (α:=Nat × Bh) (λx=>⟨65,[(0,.c (.p (.sl 5 (aP a)))),(1,.c (.p (.sl 5 (aP b)))),(6,.c (.p (.sl 1 (Go.Dm.encS ps)))),(7,.c (.p (.i .i64 x.1))),(5,.c (.own 1 0 x.2.length))],[.arr 1 [[.sl 5 (aP a)],[.sl 5 (aP b)]] true,.arr 10 (jD x.2) false]⟩)
  (λx=>x.1<=ps.length/\x.2.length<=x.1/\x.2++rD a b (ps.drop x.1)=rD a b ps) (λx=>ps.length-x.1) (0,[]) ⟨bc _,bg _,rfl⟩ (.inl (aB qj rfl rfl wkS)) ?_
 rintro⟨k,e⟩ ⟨F,s,d⟩;simp only at F s d;by_cases w:k<ps.length
 .have n:=ay w;have z:=drop_at n;have G:=Go.Dm.encS_at n;obtain⟨q,-,-,K⟩:=lk k ps.length;generalize ps[k]=p at n G z;rw[z,rD,zM6] at d;have l:=fT (t:=a) (p:=p) qd;have m:=fT (t:=b) (p:=p) qd;clear g n z;generalize (aN a p).getD nd0=x at l d;generalize (aN a p).isSome=u at l d;generalize (aN b p).getD nd0=y at m d;generalize (aN b p).isSome=v at m d;cases f:(u && v && cH x y)
  .rw [f,au qh] at d;have j:k+1<=ps.length/\(e++[(⟨p,BL x y u v,x,y⟩:Ch)]).length<=k+1/\(e++[(⟨p,BL x y u v,x,y⟩:Ch)])++rD a b (ps.drop (k+1))=rD a b ps:=⟨qd,qk,by simpa using d⟩
   clear d;cases u<;>cases v
   case true.true =>
    have H:cH x y=false:=by simpa using f
    clear f
    repeat' (first|exact⟨⟩|refine sp ?_|refine uN l ?_|refine uN m ?_|refine uF eV ?_|((refine aK (id:=9) aC aI [13,14] [1,2,3,4,5,6,7,8,9,10,11,12,13,0,14,15] qi ?_);(repeat' (first|(refine aM ?_)|((refine bJ ?_ ?_ rfl rfl rfl ?_ ?_);(rotate_left 2);(focus ((repeat' (first|exact⟨⟩|refine sp ?_|((with_reducible refine And.intro ?_ ?_);((first|omega|decide)))));((refine And.intro ?_ ?_<;>exact rfl))));(simp only[aD]))|((refine bI ?_ rfl rfl rfl ?_ ?_);(rotate_left 1);(focus ((repeat' (first|exact aS|refine aL ?_ ?_));(all_goals ((repeat' (first|exact⟨⟩|refine sp ?_|refine uF (GJ _ _) ?_|refine ai ?_));(try (exact rfl))))));(simp only[aD])))))|refine ai ?_)
    exact dN (k+1,e++[⟨p,BL x y true true,x,y⟩]) 1 5 j qf rfl rfl (aB rfl rfl rfl wkS)
   all_goals clear f
   all_goals repeat' (first|exact⟨⟩|refine sp ?_|refine uN l ?_|refine uN m ?_|((refine aK (id:=9) aC aI [13,14] [1,2,3,4,5,6,7,8,9,10,11,12,13,0,14,15] qi ?_);(repeat' (first|(refine aM ?_)|((refine bJ ?_ ?_ rfl rfl rfl ?_ ?_);(rotate_left 2);(focus ((repeat' (first|exact⟨⟩|refine sp ?_|((with_reducible refine And.intro ?_ ?_);((first|omega|decide)))));((refine And.intro ?_ ?_<;>exact rfl))));(simp only[aD]))|((refine bI ?_ rfl rfl rfl ?_ ?_);(rotate_left 1);(focus ((repeat' (first|exact aS|refine aL ?_ ?_));(all_goals ((repeat' (first|exact⟨⟩|refine sp ?_|refine uF (GJ _ _) ?_|refine ai ?_));(try (exact rfl))))));(simp only[aD])))))|refine ai ?_)
   .exact dN (k+1,e++[⟨p,BL x y false false,x,y⟩]) 1 5 j qf rfl rfl (aB rfl rfl rfl wkS)
   .exact dN (k+1,e++[⟨p,BL x y false true,x,y⟩]) 1 5 j qf rfl rfl (aB rfl rfl rfl wkS)
   .exact dN (k+1,e++[⟨p,BL x y true false,x,y⟩]) 1 5 j qf rfl rfl (aB rfl rfl rfl wkS)
  .rw[f,aw rfl,e9] at d;simp only[bn] at f;obtain⟨⟨rfl,rfl⟩,f⟩:=f;have j:k+1<=ps.length/\e.length<=k+1/\e++rD a b (ps.drop (k+1))=rD a b ps:=⟨qd,qd,d⟩
   clear d
   repeat' (first|exact⟨⟩|refine sp ?_|refine uN l ?_|refine uN m ?_|refine uF eV ?_|refine ai ?_)
   exact cW (k+1,e) j qf (aB rfl rfl rfl wkS)
 .have q:=aj k ps.length;rw[cw qd,rD,dh] at d;rw[<- d];clear d g
  repeat' (first|exact⟨⟩|refine sp ?_)
  all_goals rw[bu ql]
end Go.Proofs.YtfcindonokhbeaaGreatDoor
end
