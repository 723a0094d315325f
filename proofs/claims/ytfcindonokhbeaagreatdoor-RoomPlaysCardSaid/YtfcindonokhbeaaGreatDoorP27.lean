/- Part 28 of roomPlays_card. No condition. -/
import Derived.Test.YtfcindonokhbeaaGreatDoorP25
import Derived.Test.YtfcindonokhbeaaGreatDoorP26
set_option linter.all false
set_option maxRecDepth 100000
set_option maxHeartbeats 0
section
namespace Go.Proofs.YtfcindonokhbeaaGreatDoor
open Go Go.Dm Go.Proofs Go.Proofs.Tryz
def zMN{x:Nat}:ag 249 [.c (.p (.f x))] (.c (.p (.b (xT x)))):=by
 refine aa func249 λa d=>?_
 repeat' (first|simp (maxSteps:=1000000) only[*,go_sem,Nat.reduceLT,Nat.reduceLeDiff,Nat.reduceEqDiff,↓reduceIte,Nat.reduceAdd,Int.reduceLE,Int.reduceSub,Int.reduceMul,Int.reduceNeg,Int.reduceToNat,Nat.reduceBEq,lE,ZW,zBL,Nat.min_def,l7,l8,zGt,zB2]|refine dR (id:=5) aC aI [] [0,1,2,3,4,5,6,7,8,9,10,11] ?_|((with_reducible refine zUk aC aI func317 rfl rfl λ_ _=>?_);simp only[f317,go_sem])|((with_reducible refine zUk aC aI func360 rfl rfl λ_ _=>?_);simp only[f360,go_sem])|refine uF (DG _) ?_|refine uF (DA _) ?_|refine eH aC aI 9 ?_|refine ai ?_)
 all_goals rfl
def fA{k m:Int}{t:Nat}{d:Ba}(a:d.length<=1000000000):ag 198 [.agg (ndc k m t d)] (.c (.p (.b (aO ⟨k,m,t,d⟩)))):=by
 refine aa func198 λe f=>?_
 repeat' (first|exact⟨⟩|refine sp ?_|refine uF zMN ?_|refine uN (zJP a) ?_|refine aH (λ_=>?_) (λ_=>?_)|refine aY (λ_=>?_) (λ_=>?_))
 all_goals simp only[aO, *,bh,br,dn,ej,e8,cy,dp,↓reduceIte,av]
def zSy{t:Bl}{p:Ba}{k m:Int}{tt:Nat}{d:Ba}(g:t.length<=1000000-1)(b:p.length<=1000000000)(e:∀x∈t,x.p.length<=9223372036854775807)(f:d.length<=1000000000):
  ag 246 [.c (.p (.sl 5 (aP t))),.c (.p (.s p)),.agg (ndc k m tt d)] (.tup [.c (.p (.sl 5 (aP (vB t p ⟨k,m,tt,d⟩).1))),.c (.p (.i .i64 (vB t p ⟨k,m,tt,d⟩).2))]):=by
 have h:=qP t p;have j:=qV t p ⟨k,m,tt,d⟩;have l:=qV (bN t p) p ⟨k,m,tt,d⟩;have a:p.length<=4611686018427387904:=qd
 refine aG ?_;refine aa func246 λn o=>?_
 repeat' (first|exact⟨⟩|refine sp ?_|refine uF (gC b) ?_|refine uF (fA f) ?_|refine uF (iM a) ?_|refine uF (eA (t:=t) qd) ?_|refine uN (FT (t:=t) qd a e) ?_|refine uN (BC (t:=t) qd) ?_|refine uN (BC (t:=bN t p) qd) ?_|refine aH (λ_=>?_) (λ_=>?_)|refine aY (λ_=>?_) (λ_=>?_))
 all_goals simp only[vB, *,dn,ej,e8,↓reduceIte,av,tO]
 all_goals simp
def nR{n m:Int}(a:0<m)(b:m<=9223372036854775807):ag 18 [.c (.p (.i .i64 n)),.c (.p (.i .i64 m))] (.c (.p (.i .i64 (n % m)))):=by
 refine aa func18 λd e=>?_;have f:=fy n (show m≠0 by omega)
 have g:=gl n a
 repeat' (first|exact⟨⟩|refine sp ?_|refine aH (λ_=>?_) (λ_=>?_)|refine ai ?_)
 .rename_i h;rw[zNz a (pg h),wrap_i64 qd qd]
 .rename_i h;rw[zNA a (jt h)]
def zOE{b:Ba}{n:Int}(d:0<=n)(a:n<=140737488355328)(e:b.length<=9223372036854775807):ag 20 [.c (.p (.sl 1 (bS b))),.c (.p (.i .i64 n))] (.c (.p (.sl 1 (bS (b.take n.toNat))))):=by
 refine aa func20 λf g=>?_
 repeat' (first|exact⟨⟩|refine sp ?_|((with_reducible refine And.intro ?_ ?_);((first|omega|decide))))
 by_cases h:n<(b.length:Int)
 .simp only[aw h,cr];refine⟨qd,qd,?_⟩
  first|trivial|rfl
 .simp only[au h,cr];refine⟨qd,qd,?_⟩
  rw[bu qd,bu qd]
def CZ{n:Int}:ag 106 [.c (.p (.i .i64 n))] (.c (.p (.s (BN n)))):=by
 refine aa func106 λd e=>?_
 repeat' (first|exact⟨⟩|refine sp ?_|refine uF (nR qd qd) ?_|refine ai ?_)
 unfold BN;have a:=fy n (show (6:Int)≠0 by decide)
 have b:=gl n (show (0:Int)<6 by decide)
 generalize n % 6=k at a b;have:k=0∨k=1∨k=2∨k=3∨k=4∨k=5:=qd
 rcases this with rfl|rfl|rfl|rfl|rfl|rfl<;>rfl
def zNY{n:Int}:ag 105 [.c (.p (.i .i64 n))] (.c (.p (.s (xQ n)))):=by
 unfold xQ;have b:=fy n (show (1073741824:Int)≠0 by decide)
 have d:=gl n (show (0:Int)<1073741824 by decide)
 have e:IntKind.i64.wrap ((n % 1073741824).tdiv 6)=n % 1073741824 / 6:=by rw[ph b];exact wrap_i64 qd qd
 have f:(n % 1073741824 / 6).tmod 3=n % 1073741824 / 6 % 3:=Int.tmod_eq_emod_of_nonneg qd;have g:IntKind.i64.wrap ((n % 1073741824).tdiv 7)=n % 1073741824 / 7:=by rw[ph b];exact wrap_i64 qd qd
 have h:IntKind.i64.wrap ((n % 1073741824 / 7).tdiv 7)=n % 1073741824 / 7 / 7:=by rw[ph qd];exact wrap_i64 qd qd
 have j:=jQ (n % 1073741824);have k:=jQ (n % 1073741824 / 7);have l:=jQ (n % 1073741824 / 7 / 7);have a:n % 1073741824 / 6 % 3=0∨n % 1073741824 / 6 % 3=1∨n % 1073741824 / 6 % 3=2:=qd
 refine aa func105 λm o=>?_;rcases a with a|a|a
 .repeat' (first|exact⟨⟩|refine sp ?_|refine uF (nR qd qd) ?_|refine uF CZ ?_)
  refine eH aC aI 1 ?_
  repeat' (first|exact⟨⟩|refine sp ?_)
  simp only[XQ]
 .repeat' (first|exact⟨⟩|refine sp ?_|refine uF (nR qd qd) ?_|refine uF CZ ?_)
  refine eH aC aI 2 ?_
  repeat' (first|exact⟨⟩|refine sp ?_|refine uF CZ ?_|refine ai ?_)
  all_goals simp[XQ]
 .repeat' (first|exact⟨⟩|refine sp ?_|refine uF (nR qd qd) ?_|refine uF CZ ?_)
  refine eH aC aI 3 ?_
  repeat' (first|exact⟨⟩|refine sp ?_|refine uF CZ ?_|refine ai ?_)
  all_goals simp[XQ]
def zNZ{n:Int}{x:Nat}:ag 58 [.c (.p (.i .i64 n)),.c (.p (.f x))] (.c (.p (.f (HF n x)))):=by
 refine aa func58 λb d=>?_
 repeat' (first|exact⟨⟩|refine sp ?_|refine uF (nR qd qd) ?_|refine uF zDj ?_|refine uF (zTF _) ?_|refine uF zTt ?_|refine uF (mK _ qd) ?_|refine aH (λ_=>?_) (λ_=>?_)|((with_reducible refine And.intro ?_ ?_);((first|omega|(simp only[ew] at *;omega)))))
 .rename_i h;have h:=pg h
  try refine⟨h,?_⟩
  unfold HF;have a:=fy n (show (15:Int)≠0 by decide)
  generalize n % 15=k at h a;have:k=0∨k=1∨k=2∨k=3∨k=4∨k=5∨k=6∨k=7∨k=8∨k=9∨k=10∨k=11:=qd
  rcases this with rfl|rfl|rfl|rfl|rfl|rfl|rfl|rfl|rfl|rfl|rfl|rfl<;>rfl
 .rename_i h;have h:=jt h;unfold HF;rw[au h]
def zP6{k m t:Int}{x:Nat}{d:Ba}(a:d.length<=9223372036854775807):ag 59 [.agg (rnc k m t x d)] (.agg (zMB ⟨k,m,t,x,d⟩).cv):=by
 have b:=xR m;have c:=fy k (show (3:Int)≠0 by decide)
 have e:=gl k (show (0:Int)<3 by decide)
 have f:IntKind.i64.wrap (1+k % 3)=1+k % 3:=wrap_i64 qd qd;refine aG ?_;refine aa func59 λg h=>?_
 repeat' (first|exact⟨⟩|refine sp ?_|refine uF zNY ?_|refine uN (zOE qd qd a) ?_|((refine aK (id:=1) aC aI [14,15] [14,0,1,2,3,4,5,6,7,8,9,10,11,12,13,15] qi ?_);(repeat' (first|(refine aM ?_)|((refine bJ ?_ ?_ rfl rfl rfl ?_ ?_);(rotate_left 2);(focus ((repeat' (first|exact⟨⟩|refine sp ?_));((refine And.intro ?_ ?_<;>exact rfl))));(simp only[aD,aQ]))|((refine bI ?_ rfl rfl rfl ?_ ?_);(rotate_left 1);(focus ((repeat' (first|exact aS|refine aL ?_ ?_));(all_goals ((repeat' (first|exact⟨⟩|refine sp ?_|refine uF (nR qd qd) ?_|refine uF zNZ ?_|refine uF (zAf _) ?_));(try (exact rfl))))));(simp only[aD])))))|refine aH (λ_=>?_) (λ_=>?_)|((with_reducible refine And.intro ?_ ?_);((first|omega|decide))))
 all_goals (simp_all[zMB,zP5,QC,jJ,];try omega)
def zIh{t:Bl}{a b:Ba}(L:t.length<=400000)(D:a.length<=1000000000)(h:b.length<=1000000000)(A:∀x∈t,x.p.length<=1000000000):
  ag 248 [.c (.p (.sl 5 (aP t))),.c (.p (.s a)),.c (.p (.s b))] (.tup [.c (.p (.sl 5 (aP (mA t a b).1))),.c (.p (.i .i64 (mA t a b).2))]):=by
 have r:=zBp t a;have j:a.length<=4611686018427387904:=qd
 have u:b.length<=4611686018427387904:=qd
 have v:∀x∈t,x.p.length<=9223372036854775807:=λx o=>bj (A x o) qd;refine aG ?_;refine aa func248 λM hX=>?_
 repeat' (first|simp only[*,go_sem,Nat.reduceLT,Nat.reduceLeDiff,Nat.reduceEqDiff,↓reduceIte,Nat.reduceAdd,]|((with_reducible refine mI (gC D) ?_ ?_ ?_);exact rfl;exact rfl)|((with_reducible refine mI (gC h) ?_ ?_ ?_);exact rfl;exact rfl)|((with_reducible refine AF (fT (t:=t) qd) ?_ ?_ ?_);exact rfl;exactλ_=>rfl)|((with_reducible refine mI (tH j qd) ?_ ?_ ?_);exact rfl;exact rfl)|((with_reducible refine mI (iM u) ?_ ?_ ?_);exact rfl;exact rfl)|((with_reducible refine AF (eA (t:=t) qd) ?_ ?_ ?_);exact rfl;exactλ_=>rfl)|((with_reducible refine AF (xX (t:=t) qd j v) ?_ ?_ ?_);exact rfl;exactλ_=>rfl)|with_reducible refine aH (λ_=>?_) (λ_=>?_)|with_reducible refine aY (λ_=>?_) (λ_=>?_))
 all_goals try (simp only[mA, *,dn,ej,e8,↓reduceIte,av,tO];simp;done)
 have B:mA t a b=fW a b (bU t a) t:=by
  simp only[mA, *,dn,↓reduceIte,av]
 rw [B];clear B;refine aJ aC aI (α:=Nat × Bl) (λx=>⟨96,[(0,.c (.p (.sl 5 (aP t)))),(1,.c (.p (.s a))),(2,.c (.p (.s b))),(12,.c (.p (.sl 5 (aP x.2)))),(13,.c (.p (.i .i64 x.1)))],[]⟩)
  (λx=>x.1<=t.length/\x.2.length<=t.length+x.1/\fW a b x.2 (t.drop x.1)=fW a b (bU t a) t) (λx=>t.length-x.1) (0,bU t a) ⟨bc _,by simpa using r,rfl⟩ (.inl (aB qj rfl rfl qo)) ?_
 rintro⟨k,f⟩ ⟨E,w,d⟩;simp only at E w d;by_cases y:k<t.length
 .have o:=ay y;have F:=bX o;have C:=drop_at o;obtain⟨G,-,-,N⟩:=lk k t.length;generalize t[k]=x at o F C;have H:=A x (dr o);have l:x.p.length<=9223372036854775807:=qd
  rw[C,fW] at d;have I:(List.drop a.length x.p).length<=1000000000:=by rw[fh];omega
  have J:=qV f (b++List.drop a.length x.p) x.n;have e:(!(x.p==a) && !aT a x.p)=false->a.length<=x.p.length:=by
   intro K;cases m:(x.p==a)
   .cases g:aT a x.p
    .simp[m,g] at K
    .exact eR g
   .rw[eq_of_beq m];exact bg _
  cases m:(!(x.p==a))
  .have z:=e (by rw[m];rfl);rw[m,dp,au qh] at d;clear e
   repeat' (first|simp only[*,go_sem,Nat.reduceLT,Nat.reduceLeDiff,Nat.reduceEqDiff,↓reduceIte,Nat.reduceAdd,]|((with_reducible refine AF (BC (t:=f) qd) ?_ ?_ ?_);exact rfl;exactλ_=>rfl)|with_reducible refine aH (λ_=>?_) (λ_=>?_)|((with_reducible refine And.intro ?_ ?_);omega))
   .rename_i h;rw[aw h] at d;simp only[<- d,tO];simp
   .rename_i h;rw[au (by rw[h];decide)] at d;exact cW (k+1,wL f (b++List.drop a.length x.p) x.n) ⟨qd,qf,d⟩ qf (aB rfl rfl rfl qo)
  .cases g:(!aT a x.p)
   .have z:=e (by rw[m,g];rfl);rw[m,g,cy,au qh] at d;clear e
    repeat' (first|simp only[*,go_sem,Nat.reduceLT,Nat.reduceLeDiff,Nat.reduceEqDiff,↓reduceIte,Nat.reduceAdd,]|((with_reducible refine mI (tH (p:=a) (q:=x.p) j l) ?_ ?_ ?_);exact rfl;exact rfl)|((with_reducible refine AF (BC (t:=f) qd) ?_ ?_ ?_);exact rfl;exactλ_=>rfl)|with_reducible refine aH (λ_=>?_) (λ_=>?_)|((with_reducible refine And.intro ?_ ?_);omega))
    .rename_i h;rw[aw h] at d;simp only[<- d,tO];simp
    .rename_i h;rw[au (by rw[h];decide)] at d;exact cW (k+1,wL f (b++List.drop a.length x.p) x.n) ⟨qd,qf,d⟩ qf (aB rfl rfl rfl qo)
   .rw[m,g,cy,aw rfl] at d;clear e
    repeat' (first|simp only[*,go_sem,Nat.reduceLT,Nat.reduceEqDiff,↓reduceIte,]|((with_reducible refine mI (tH (p:=a) (q:=x.p) j l) ?_ ?_ ?_);exact rfl;exact rfl)|((with_reducible refine And.intro ?_ ?_);omega))
    exact cW (k+1,f) ⟨qd,qf,d⟩ qf (aB rfl rfl rfl qo)
 .have G:=aj k t.length;rw[cw qd] at d;simp only[fW] at d
  repeat' (simp only[*,go_sem,Nat.reduceLT,Nat.reduceEqDiff,↓reduceIte,])
  all_goals trace_state
  all_goals simp only[<- d]
  all_goals simp
def vQ{a:Ba}{c:Int}(b:a.length<4611686018427387904):ag 164 [.c (.p (.s a)),.c (.p (.i .u8 c))] (.c (.p (.i .i64 (Lib.indexByte a c.toNat.toUInt8)))) :=
 uT (N:=4611686018427387904) (g:=λa c=>Lib.indexByte a c.toNat.toUInt8) (iX Tryz.func164 rfl rfl) (λa c w _=>Tryz.strings_IndexByte ⟨a.toArray⟩ c w) b
def zJD{a:Ba}(d:a.length<4294967281):ag 228 [.c (.p (.s a)),.c (.p (.s [47]))] (.c (.p (.sl 1 (Go.Dm.encS (rL a))))):=by
 rw[<- zJE];exact TJ (g1:=Tryz.laysM146_ren.g 1) (iX Tryz.func228 rfl rfl) (λw h=>Tryz.laysM146.s1_3 w h) (λs b m w e f i=>Tryz.strings_Split s b m w e f i) d qh
def qZ{d:Ba}{c:Int}(b:d≠[]):ag 235 [.c (.p (.sl 1 (bS d))),.c (.p (.i .u8 c))] (.c (.p (.i .i64 (Lib.indexByte d c.toNat.toUInt8)))) :=
 DU (g:=λa c=>Lib.indexByte a c.toNat.toUInt8) (iX Tryz.func235 rfl rfl) (λa n c e cv w f h=>Tryz.bytes_IndexByte_at a n c e cv w f h) b
def vY{s:Ba}(g:s.length<=1000000000):ag 91 [.c (.p (.s s))] (.c (.p (.b (bB s)))):=by
 have e:decide (Lib.indexByte s (Int.toNat 0).toUInt8<0)=s.all λb=>!(b==0):=indexByte_none 0 s;have f:decide (Lib.indexByte s (Int.toNat 47).toUInt8<0)=s.all λb=>!(b==47):=indexByte_none 47 s;have d:decide ((1:Int)<=s.length) = !(s == []):=by cases s<;>simp<;>omega
 have a:bB s=(!(s == []) && decide ((s.length:Int)<=24) && (s.all λb=>!(b==0)) && (s.all λb=>!(b==47)) && !(s == [46]) && !(s == [46,46])):=by
  unfold bB;rw[LA,d];cases (s == [])<;>cases decide ((s.length:Int)<=24)<;>cases (s.all λb=>!(b==0))<;>cases (s.all λb=>!(b==47))<;>cases (s == [46])<;>rfl
 rw[a];clear a d;generalize (s.all λb=>!(b==0))=h at e ⊢;generalize (s.all λb=>!(b==47))=i at f ⊢;refine aa func91 λj k=>?_
 repeat' (first|exact⟨⟩|refine sp ?_|refine uF (vQ qd) ?_|refine aY (λ_=>?_) (λ_=>?_))
 all_goals first|(simp_all;done)|(simp_all;intros;omega)
def iA{p:Ba}(v:p.length<=1000000000):ag 209 [.c (.p (.s p))] (.c (.p (.b (bZ p)))):=by
 by_cases m:p=[]
 .subst m;refine aa func209 λo hX=>?_
  repeat' (first|exact⟨⟩|refine sp ?_)
  rfl
 .have q:(p == [])=false:=by simpa using m
  have e:∀x∈rL p,x.length<=p.length:=λx g=>by have:=CB p [] x g;simpa using this
  have r:(rL p).length<=p.length+1:=pY p [];refine aa func209 λo hX=>?_
  repeat' (first|exact⟨⟩|refine sp ?_|refine uN (zJD qd) ?_)
  have a:bZ p=((rL p).all bB && decide ((p.length:Int)<=120)):=by rw[bZ,q,dw]
  generalize rL p=cs at *;refine aJ aC aI (α:=Nat) (λk=>⟨21,[(0,.c (.p (.s p))),(8,.c (.p (.sl 1 (Go.Dm.encS cs)))),(9,.c (.p (.i .i64 cs.length))),(10,.c (.p (.i .i64 k)))],[]⟩)
   (λk=>k<=cs.length/\(cs.drop k).all bB=cs.all bB) (λk=>cs.length-k) 0 ⟨bc _,rfl⟩ (.inl (aB qj rfl rfl wkS)) ?_
  rintro k ⟨w,d⟩;by_cases h:k<cs.length
  .have g:=ay h;have t:=Go.Dm.encS_at g;have f:=drop_at g;obtain⟨u,-,-,y⟩:=lk k cs.length;have j:=e _ (ch h);generalize cs[k]=x at g t f j;rw[f,dz] at d;clear f e;cases n:bB x
   .rw[n,dp] at d;rw[a,<- d];clear a d
    repeat' (first|exact⟨⟩|refine sp ?_|refine uF (vY qd) ?_|refine ai ?_)
   .rw[n,cy] at d;have l:k+1<=cs.length/\(cs.drop (k+1)).all bB=cs.all bB:=⟨qd,d⟩
    clear d a
    repeat' (first|exact⟨⟩|refine sp ?_|refine uF (vY qd) ?_|refine ai ?_)
    exact cW (k+1) l qd (aB rfl rfl rfl wkS)
  .have u:=aj k cs.length;rw[cw qd,ju] at d;rw[a,<- d,cy];clear a d e
   repeat' (first|exact⟨⟩|refine sp ?_)
def zRv{k m:Int}{t:Nat}{d:Ba}:ag 274 [.agg (ndc k m t d)] (.c (.p (.b (zDl ⟨k,m,t,d⟩)))):=by
 have e:decide (Lib.indexByte d (Int.toNat 0).toUInt8<0)=d.all λb=>!(b==0):=indexByte_none 0 d;by_cases a:d=[]
 .subst a;refine aa func274 λf g=>?_
  repeat' (first|exact⟨⟩|refine sp ?_|refine aH (λ_=>?_) (λ_=>?_))
  all_goals simp_all[zDl]
 .have h:decide ((1:Int)<=(d.length:Int))=true:=by
   have:=o6.2 a;exact df qd
  refine aa func274 λf g=>?_;unfold zDl;generalize (d.all λb=>!(b==0))=i at e ⊢
  repeat' (first|exact⟨⟩|refine sp ?_|refine uF (qZ a) ?_|refine aH (λ_=>?_) (λ_=>?_)|refine aY (λ_=>?_) (λ_=>?_))
  all_goals first|(simp_all;done)|(simp_all;intros;omega)
def fD{k m:Int}{t:Nat}{d:Ba}(a:t<18446744073709551616):ag 210 [.agg (ndc k m t d)] (.c (.p (.b (aO ⟨k,m,t,d⟩)))):=by
 rw[<- mC (n:=⟨k,m,t,d⟩) a];refine aa func210 λe f=>?_
 repeat' (first|exact⟨⟩|refine sp ?_|refine uF zRv ?_|refine aY (λ_=>?_) (λ_=>?_)|refine uF (dJ _) ?_|refine uF (DG _) ?_|refine dG (id:=1) aC aI [] [0,1,2,3,4,5,6,7,8] ?_|refine aM ?_|refine d1 ?_ ?_ ?_|with_reducible exact rfl)
 all_goals first|(simp_all[pB,FP];done)|(simp_all[pB];intros;omega)
def oD{a b:Ba}:ag 144 [.c (.p (.s a)),.c (.p (.s b))] (.c (.p (.i .i64 (HP a b)))):=by
 rw[<- rT];exact zAv (iX Tryz.func144 rfl rfl) (λa b w=>Tryz.strings_Compare a b w)
def zSI{h:aF}{id:Nat}{ss:List Ba}(hid:h[id]?=some (.arr 1 (Go.Dm.encS ss) false))(b:ss.length<4611686018427387904):
  aA prog 135 [.c (.own id 0 ss.length)] h λd g=>d=.tup []/\g=h.set id (.arr 1 (Go.Dm.encS (ss.mergeSort λx y=>decide (x<=y))) false) :=
 zAu (iX Tryz.func135 rfl rfl) (λe f a ss w i j k=>Tryz.slices_Sort_string e f a ss w i j k) (λp a w=>Tryz.slices_Sort_string_none p a w) hid b
def DL(l:List Ba):(Lib.compact l).length<=l.length:=by
 unfold Lib.compact Lib.compactUpTo;rw[di];exact bj (ei ..) ql
def zFG{h:aF}{id:Nat}{ss:List Ba}(hid:h[id]?=some (.arr 1 (Go.Dm.encS ss) false))(b:ss.length<4611686018427387904):
  aA prog 136 [.c (.own id 0 ss.length)] h λd g=>d=.c (.own id 0 (Lib.compact ss).length)/\g=h.set id (.arr 1 (Go.Dm.encS (Lib.compact ss++List.replicate (ss.length-(Lib.compact ss).length) [])) false) :=
 HX (iX Tryz.func136 rfl rfl) (λe f a ss w i j k=>Tryz.slices_Compact_string e f a ss w i j k) (λp a w=>Tryz.slices_Compact_string_empty p a w) hid b DL
def zRZ{h:aF}{n:Nat}(q:n<=1000000000):
  aA prog 202 [.c (.p .nil),.c (.p (.i .i64 n))] h λd b=>d=.c (.own h.length 0 0)/\b=h++[.arr 5 [] false]:=by
 have:=qA (n:=n) (h:=h) (e:=147) aC (by rw[tab147];exactλh=>by cases h) (by rw[tab147];decide) (iX func202 rfl rfl)
  (λw=>Any8.slices_Grow_room Tryz.growItem none 0 0 0 w (bg _) qh qh (bg _))
  (λf z n w g j k r l m=>by
   have:=Any8.slices_Grow_grow Tryz.growItem f z g j k none 0 0 n [] w (bg _) qd (by simpa using l) (by simpa using m) ql (λ_=>rfl) (λa o=>by cases o)
   simp only[fm,kx] at this;exact this)
  (by rw[tab147];simp only;omega) qd
 rw[tab147] at this;exact this
def zHj{q:Ba}{k m:Int}{tt:Nat}{d p:Ba}:ag 263 [.agg [.p (.s q),.p (.i .i64 k),.p (.i .i64 m),.p (.f tt),.p (.sl 1 (bS d))],.c (.p (.s p))] (.c (.p (.i .i64 (HP q p)))):=by
 refine aa func263 λa b=>?_
 repeat' (first|exact⟨⟩|refine sp ?_|refine uF oD ?_)
def NB(t:Bl)(p:Ba)(i:Nat):Prop:=i<=t.length/\∀k x,t[k]?=some x->(k<i->cC x.p p=true)/\(i<=k->cC x.p p=false)
def iY(t:Bl)(p:Ba)(i:Nat):Bool:=match t[i]? with
 | some x=>x.p==p
 | none=>false
def qE(t:Bl)(p:Ba)(i:Nat):DV:=.tup [.c (.p (.i .i64 i)),.c (.p (.b (iY t p i)))]
def VW{p:Ba}:∀{t:Bl},(∀x∈t,(x.p==p)=false)->aN t p=none
 | [],_=>rfl
 | x::r,h=>by
  rw[aN,au (by rw[h x cz];decide)];exact VW λy a=>h y (cu _ a)
def PK{p:Ba}:∀{t:Bl} {k:Nat} {x:It},Srt t->t[k]?=some x->(x.p==p)=true->aN t p=some x.n
 | [],k,x,_,h,_=>by simp at h
 | y::r,0,x,_,h,a=>by
  simp only[eu,b0] at h;subst h;rw[aN,aw a]
 | y::r,k+1,x,b,h,a=>by
  simp only[fp] at h;have b:=dx.1 b;have:=b.1 x (dr h);rw[eq_of_beq a] at this;rw[aN,au (by rw[mO this];decide)];exact PK b.2 h a
def zAI{t:Bl}{p:Ba}{i:Nat}(g:Srt t)(h:NB t p i)(b:iY t p i=false):aN t p=none:=by
 refine VW λx j=>?_;obtain⟨k,c⟩:=List.getElem?_of_mem j;cases e:x.p==p
 .rfl
 .have l:=h.2 k x c;rcases o0 k i with a|rfl|a
  .have:=l.1 a;rw[eq_of_beq e,cD] at this;cases this
  .unfold iY at b;rw[c] at b;simp only at b;rw[e] at b;cases b
  .have d:i<t.length:=Nat.lt_trans a (bz.1 c).1;have m:=h.2 i t[i] (ay d);have f:=gg.1 g i k d (bz.1 c).1 a;rw[(bz.1 c).2,eq_of_beq e,m.2 (bg _)] at f;cases f
def zFw{t:Bl}{p:Ba}(J:t.length<=1000000)(C:Srt t):
  aA prog 262 [.c (.p (.sl 5 (aP t))),.c (.p (.s p)),.c (.clo 263 [])] [] λr h =>
   ∃i:Nat,NB t p i/\r=qE t p i/\h=[]:=by
 have e:∀(k n:Nat) (x o:It),t[k]?=some x->t[n]?=some o->k<n->cC x.p o.p=true:=λk n x o q u D=>by
  obtain⟨E,rfl⟩:=bz.1 q;obtain⟨F,rfl⟩:=bz.1 u;exact gg.1 C _ _ E F D
 refine aa func262 λK hX=>?_
 repeat' (first|exact⟨⟩|refine sp ?_)
 refine aJ aC aI (α:=Nat × Nat) (λx=>⟨49,[(0,.c (.p (.sl 5 (aP t)))),(1,.c (.p (.s p))),(2,.c (.clo 263 [])),(8,.c (.p (.i .i64 t.length))),(9,.c (.p (.i .i64 x.1))),(10,.c (.p (.i .i64 x.2)))],[]⟩)
  (λx=>x.1<=x.2/\x.2<=t.length/\∀k y,t[k]?=some y->(k<x.1->cC y.p p=true)/\(x.2<=k->cC y.p p=false)) (λx=>x.2-x.1) (0,t.length) ⟨bc _,bg _,λk y a=>⟨λh=>by omega,λh=>by rw[jb h] at a;cases a⟩⟩ (.inl (aB qj rfl rfl wkS)) ?_
 rintro⟨i,j⟩ ⟨v,l,f⟩;simp only at v l f;by_cases G:i<j
 .have q:=ah i j;have L:IntKind.i64.wrap ((i:Int)+j)=(i:Int)+j:=wrap_i64 qd qd;have M:IntKind.u64.wrap ((i:Int)+j)=(i:Int)+j:=oF qd qd;obtain⟨m,N,w,H⟩:∃m:Nat,((i:Int)+j).fdiv (2 ^ min 1 64)=(m:Int)/\i<=m/\m<j :=
   ⟨(i+j) / 2,by rw[show (2:Int) ^ min 1 64=2 from rfl,oe _ qh];omega,qd,qd⟩
  have O:IntKind.i64.wrap (m:Int)=m:=wrap_i64 qd qd;have P:=ar m;have z:m<t.length:=qd
  have b:=ay z;have A:=bX b;generalize t[m]=x at b A
  repeat' (first|exact⟨⟩|refine sp ?_|refine uF zHj ?_|refine aH (λ_=>?_) (λ_=>?_)|refine ai ?_)
  .rename_i d;have d:cC x.p p=true:=by rw[<- rS];exact d
   exact cW (m+1,j) ⟨qf,l,λk y a=>⟨λB=>by
    rcases cc k m with h|h
    .exact cO (e _ _ _ _ a b h) d
    .have:k=m:=by simp only at B;omega
     subst this;rw[b] at a;cases a;exact d,(f k y a).2⟩⟩ qf (aB rfl rfl rfl wkS)
  .rename_i d;have d:cC x.p p=false:=by rw[<- rS];exact d
   exact cW (i,m) ⟨w,qf,λk y a=>⟨(f k y a).1,λB=>by
    rcases cc m k with h|h
    .cases I:cC y.p p
     .rfl
     .have:=cO (e _ _ _ _ b a h) I;rw[d] at this;cases this
    .have:k=m:=by simp only at B;omega
     subst this;rw[b] at a;cases a;exact d⟩⟩ qf (aB rfl rfl rfl wkS)
 .have q:=aj i j;have:i=j:=qd
  subst this;by_cases g:i<t.length
  .have b:=ay g;have A:=bX b;have u:=ah i t.length;generalize t[i]=x at b A
   repeat' (first|exact⟨⟩|refine sp ?_|refine uF zHj ?_|refine ai ?_)
   refine⟨i,⟨l,f⟩,?_⟩;simp only[qE,iY,b,NO]
  .have u:=aj i t.length
   repeat' (first|exact⟨⟩|refine sp ?_)
   refine⟨i,⟨l,f⟩,?_⟩;simp only[qE,iY,jb (oi g)]
def VQ{t:Bl}{p:Ba}(a:t.length<=1000000)(b:Srt t):
  aA prog 205 [.c (.p (.sl 5 (aP t))),.c (.p (.s p))] [] λr h=>∃i:Nat,NB t p i/\r=qE t p i/\h=[]:=by
 refine aa func205 λe f=>?_
 repeat' (first|exact⟨⟩|refine sp ?_)
 refine zJW (zFw a b) rfl (λ_ _=>rfl) λi d=>?_;unfold qE
 repeat' (first|exact⟨⟩|refine sp ?_)
 exact⟨i,d,rfl⟩
def gF{t:Bl}{p:Ba}(m:t.length<=1000000)(h:Srt t)(j:∀x∈t,x.p≠[])(k:∀x∈t,x.n.d.length<=140737488355328):
  ag 137 [.c (.p (.sl 5 (aP t))),.c (.p (.s p))] (.tup [.agg ((aN t p).getD nd0).cv,.c (.p (.b (aN t p).isSome))]):=by
 refine aG ?_;refine aa func137 λu v=>?_
 repeat' (first|exact⟨⟩|refine sp ?_)
 refine zJW (VQ m h) rfl (λ_ _=>rfl) λi o=>?_;unfold qE;cases a:iY t p i
 .have g:=zAI h o a;rw[g]
  repeat' (first|exact⟨⟩|refine sp ?_)
  all_goals simp[nd0,jJ]
 .unfold iY at a;cases e:t[i]? with
  | none=>rw[e] at a;cases a
  | some x =>
   rw [e] at a;simp only at a;have g:=PK h e a;have f:=dr e;have q:(p == [])=false:=by
    rw[<- eq_of_beq a];have:=j x f;simpa using this
   have w:=bX e;have r:i<t.length:=(bz.1 e).1;have l:=k x f;rw[g];clear g
   repeat' (first|exact⟨⟩|refine sp ?_|refine uN (rU l) ?_|((with_reducible refine And.intro ?_ ?_);omega))
   all_goals simp
def zKJ{a b:Bl}(e:a.length<=1000000)(f:b.length<=1000000):
  ag 134 [.c (.p (.sl 1 [[.sl 5 (aP a)],[.sl 5 (aP b)]]))] (.c (.p (.sl 5 (aP (a++b))))):=by
 have g:IntKind.i64.wrap (a.length:Int)=a.length:=wrap_i64 qd qd;have h:IntKind.i64.wrap ((a.length:Int)+(b.length:Int))=(a.length+b.length:Nat):=wrap_i64 qd qd;have i:=aj a.length 0;have j:decide (((a.length+b.length:Nat):Int)<0)=false:=er qd;refine aa func134 λk l=>?_
 repeat' (first|simp only[*,go_sem,Nat.reduceLT,Nat.reduceEqDiff,↓reduceIte,Nat.reduceAdd,Int.reduceLT,Int.reduceLE,Int.reduceAdd,Int.reduceToNat,lj,lE,l7,l8]|refine eH aC aI 3 ?_)
 refine(zRZ (n:=a.length+b.length) qd).mono ?_;rintro d m ⟨rfl,rfl⟩
 repeat' (first|simp only[*,go_sem,Nat.reduceLT,Nat.reduceLeDiff,Nat.reduceEqDiff,↓reduceIte,Nat.reduceAdd,Int.reduceLT,Int.reduceLE,Int.reduceAdd,Int.reduceToNat,lj,lE,l7,l8]|refine eH aC aI 3 ?_|refine ai ?_)
 rw[bu ql]
def zOh{k m k' m':Int}{t t':Nat}{d d':Ba}(p q:Bool):ag 138 [.agg (ndc k m t d),.agg (ndc k' m' t' d'),.c (.p (.b p)),.c (.p (.b q))] (.c (.p (.i .i64 (xI p q ⟨k,m,t,d⟩ ⟨k',m',t',d'⟩)))):=by
 cases p<;>cases q
 all_goals
  refine aa func138 λa e=>?_
 all_goals repeat' (first|exact⟨⟩|refine sp ?_|refine uF xO ?_|refine uF kX ?_|refine aH (λ_=>?_) (λ_=>?_))
 all_goals simp only[xI, *,↓reduceIte,av]
def sE{a:Ba}{c:Int}(b:a.length<4611686018427387904):ag 229 [.c (.p (.s a)),.c (.p (.i .u8 c))] (.c (.p (.i .i64 (Lib.lastIndexByte ⟨a.toArray⟩ c)))) :=
 uT (N:=4611686018427387904) (g:=λa c=>Lib.lastIndexByte ⟨a.toArray⟩ c) (iX Tryz.func229 rfl rfl) (λa c w h=>Tryz.strings_LastIndexByte ⟨a.toArray⟩ c (by simpa[ByteArray.size] using h) w) b
def zAR{a b:Ba}:ag 309 [.c (.p (.s a)),.c (.p (.s b))] (.c (.p (.b (b.isPrefixOf a)))) :=
 HY (g:=λa b=>b.isPrefixOf a) (iX Tryz.func309 rfl rfl) (λa b w=>Tryz.strings_HasPrefix a b w)
def eY{p:Ba}(k:p.length<=1000000000):ag 172 [.c (.p (.s p))] (.c (.p (.s (aU p)))):=by
 have b:=sE (a:=p) (c:=47) qd;rw[rC] at b;unfold aU;cases e:cS p p.length with
 | none =>
  rw[e] at b;simp only at b ⊢;clear e;refine aa func172 λf g=>?_
  repeat' (first|exact⟨⟩|refine sp ?_|refine uF b ?_)
  all_goals simp
 | some j =>
  rw[e] at b;have l:=AQ e;have m:max (0:Int) (j:Int)=j:=qd
  simp only at b ⊢;clear e;have h:(j:Int)<=p.length:=qd
  have i:(0:Int)<=j:=qd
  have d:(if (0:Int)<(j:Int) then (j:Int) else 0)=j:=by split<;>omega
  refine aa func172 λf g=>?_
  repeat' (first|exact⟨⟩|refine sp ?_|refine uF b ?_)
  all_goals first|(rw[d];done)|(rw[d];omega)|(rw[d];rfl)|skip
def zD2{p:Ba}(i:p.length<=1000000000):ag 232 [.c (.p (.s p))] (.c (.p (.s (oG p)))):=by
 have b:=sE (a:=p) (c:=47) qd;rw[rC] at b;unfold oG;cases d:cS p p.length with
 | none =>
  rw[d] at b;simp only at b ⊢;clear d;have e:IntKind.i64.wrap (-1+1)=0:=qi
  refine aa func232 λf g=>?_
  repeat' (first|exact⟨⟩|refine sp ?_|refine uF b ?_|refine ai ?_)
  all_goals simp
 | some j =>
  rw[d] at b;have k:=AQ d;have e:IntKind.i64.wrap ((j:Int)+1)=(j+1:Nat):=wrap_i64 qd qd;simp only at b ⊢;clear d;have h:((j+1:Nat):Int)<=p.length:=qd
  refine aa func232 λf g=>?_
  repeat' (first|exact⟨⟩|refine sp ?_|refine uF b ?_|refine ai ?_)
  all_goals simp
def dE{p q:Ba}(d:p.length<=1000000000):ag 238 [.c (.p (.s p)),.c (.p (.s q))] (.c (.p (.b (aT p q)))):=by
 by_cases a:p=[]
 .subst a;refine aa func238 λe f=>?_
  repeat' (first|exact⟨⟩|refine sp ?_)
  all_goals simp[aT]
 .have g:(p == [])=false:=by simpa using a
  have h:=SM (q:=q) a;refine aa func238 λe f=>?_
  repeat' (first|exact⟨⟩|refine sp ?_|refine uF zAR ?_|refine ai ?_)
def fZ{t:Bl}{p:Ba}(h:t.length<=1000000)(f:Srt t):
  ag 211 [.c (.p (.sl 5 (aP t))),.c (.p (.s p))] (.c (.p (.b (aZ t p)))):=by
 refine aa func211 λl m=>?_
 repeat' (first|exact⟨⟩|refine sp ?_)
 refine zJW (VQ h f) rfl (λ_ _=>rfl) λi g=>?_;unfold qE aZ;cases a:iY t p i
 .have e:=zAI f g a;rw[e];cases q:(p == [])
  .repeat' (first|exact⟨⟩|refine sp ?_)
  .repeat' (first|exact⟨⟩|refine sp ?_)
 .unfold iY at a;cases d:t[i]? with
  | none=>rw[d] at a;cases a
  | some x =>
   rw[d] at a;simp only at a;have e:=PK f d a;have n:=bX d;have j:(i:Int)<t.length:=by have:=(bz.1 d).1;omega
   have k:(0:Int)<=i:=qd
   rw[e];clear e a g;cases q:(p == [])
   .repeat' (first|exact⟨⟩|refine sp ?_)
   .repeat' (first|exact⟨⟩|refine sp ?_)
end Go.Proofs.YtfcindonokhbeaaGreatDoor
end
