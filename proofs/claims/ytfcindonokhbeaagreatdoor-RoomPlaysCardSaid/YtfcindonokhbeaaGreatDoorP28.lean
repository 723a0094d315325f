/- Part 29 of roomPlays_card. No condition. -/
import Derived.Test.YtfcindonokhbeaaGreatDoorP25
import Derived.Test.YtfcindonokhbeaaGreatDoorP21
set_option linter.all false
set_option maxRecDepth 100000
set_option maxHeartbeats 0
section
namespace Go.Proofs.YtfcindonokhbeaaGreatDoor
open Go Go.Dm Go.Proofs Go.Proofs.Tryz
def zHe{l:List Ba}{s:Ba}(C:l.length<=1000000):
  ag 122 [.c (.p (.sl 1 (Go.Dm.encS l))),.c (.p (.s s))] (.c (.p (.sl 1 (Go.Dm.encS (AO s l))))):=by
 refine aa func122 λD hX=>?_
 repeat' (first|exact⟨⟩|refine sp ?_)
 refine aJ aC aI (α:=Nat) (λk=>⟨48,[(0,.c (.p (.sl 1 (Go.Dm.encS l)))),(1,.c (.p (.s s))),(5,.c (.p (.i .i64 k)))],[]⟩)
  (λk=>k<=l.length/\∀j x,l[j]?=some x->j<k->cC x s=true) (λk=>l.length-k) 0 ⟨bc _,λj x _ h=>by omega⟩ (.inl (aB qj rfl rfl wkS)) ?_
 rintro k ⟨g,e⟩;by_cases m:k<l.length
 .have b:=ay m;have t:=Go.Dm.encS_at b;obtain⟨u,-,-,E⟩:=lk k l.length;have v:(k:Int)<=(l.length:Int):=qd
  have q:(k:Int)<(l.length:Int):=qd
  have f:min k l.length=k:=lq g;have w:(0:Int)<=(k:Int):=qd
  have z:(l.take k).length=k:=by rw[cr];exact f
  have A:(l.drop k).length=l.length-k:=fh;generalize l[k]=x at b t;cases r:cC x s
  .have a:=zAY (s:=s) g e (λy d=>by rw[b] at d;cases d;exact r)
   rw[b] at a;simp only at a;rw[a];clear a e b;cases F:(x==s)
   .repeat' (first|simp only[*,go_sem,Nat.reduceLT,Nat.reduceLeDiff,Nat.reduceEqDiff,↓reduceIte,Nat.reduceAdd,Int.reduceLE,Int.reduceToNat,Nat.reduceBEq,av]|((with_reducible refine And.intro ?_ ?_);((first|omega|decide))))
    rw[bu qk];simp
   .repeat' (first|exact⟨⟩|refine sp ?_)
  .have n:k+1<=l.length/\∀j y,l[j]?=some y->j<k+1->cC y s=true:=⟨qd,λj y d G=>by
    rcases cc j k with h|h
    .exact e j y d h
    .have:j=k:=qd
     subst this;rw[b] at d;cases d;exact r⟩
   clear e b
   repeat' (first|exact⟨⟩|refine sp ?_)
   exact cW (k+1) n qd (aB rfl rfl rfl wkS)
 .have u:=aj k l.length;have o:k=l.length:=qd
  subst o;have b:l[l.length]?=none:=jb (bg _);have a:=zAY (s:=s) g e (λy d=>by rw[b] at d;cases d)
  rw[b] at a;simp only at a;rw[a];clear a e b;have B:l.drop l.length=[]:=ma
  repeat' (first|simp only[*,go_sem,Nat.reduceLT,Nat.reduceLeDiff,Nat.reduceEqDiff,↓reduceIte,Nat.reduceAdd,Int.reduceLE,Int.reduceToNat,Nat.reduceBEq,dh,da,je]|((with_reducible refine And.intro ?_ ?_);((first|omega|decide))))
  rw[bu ql]
def zBe{ts:List Bl}(E:ts.length<=3)(w:∀t∈ts,t.length<=120):
  ag 118 [.c (.p (.sl 1 (ts.map λt=>[.sl 5 (aP t)])))] (.c (.p (.sl 1 (Go.Dm.encS (ts.foldl dX []))))):=by
 have u:(ts.map λt=>[PV.sl 5 (aP t)]).length=ts.length:=di _;have v:(∀x∈(ts.map λt=>[PV.sl 5 (aP t)]),x.length=1)=True:=fr λx e=>by
  obtain⟨t,_,rfl⟩:=cg.1 e;rfl
 have f:∀i t,ts[i]?=some t->(ts.map λt=>[PV.sl 5 (aP t)]).getD i []=[.sl 5 (aP t)]:=λi t h=>by
  simp only[ed,dv,h];rfl
 generalize (ts.map λt=>[PV.sl 5 (aP t)])=arg at *;refine aa func118 λF hX=>?_
 repeat' (first|exact⟨⟩|refine sp ?_)
 refine zS3 3 1 rfl ?_;refine aJ aC aI (α:=Nat) (λi=>⟨32,[(0,.c (.p (.sl 1 arg))),(3,.c (.p (.sl 1 (Go.Dm.encS ((ts.take i).foldl dX []))))),(4,.c (.p (.i .i64 i)))],[]⟩)
  (λi=>i<=ts.length/\((ts.take i).foldl dX []).length<=120*i) (λi=>ts.length-i) 0 ⟨bc _,bg _⟩ (.inl (aB qj rfl rfl wkS)) ?_
 rintro i ⟨G,m⟩;by_cases g:i<ts.length
 .have e:=ay g;have z:=f _ _ e;obtain⟨A,B,-,H⟩:=lk i ts.length;have n:=w _ (ch g);have a:(ts.take (i+1)).foldl dX []=dX ((ts.take i).foldl dX []) ts[i]:=by
   rw[dm,e,nc];rfl
  generalize ts[i]=t at e z n a;generalize (ts.take i).foldl dX []=o at m a;clear f e
  repeat' (first|exact⟨⟩|refine sp ?_)
  refine aJ aC aI (α:=Nat) (λk=>⟨32,[(0,.c (.p (.sl 1 arg))),(3,.c (.p (.sl 1 (Go.Dm.encS (dX o (t.take k)))))),(4,.c (.p (.i .i64 i))),(5,.c (.p (.i .i64 k)))],[]⟩)
   (λk=>k<=t.length) (λk=>t.length-k) 0 (bc _) (.inl (aB qj rfl rfl (by simp[bR,cL,bA,bD,aX,dX]))) ?_
  intro k I;by_cases r:k<t.length
  .have l:=ay r;have s:=bX l;obtain⟨C,-,-,J⟩:=lk k t.length;have d:dX o (t.take (k+1))=AO t[k].p (dX o (t.take k)):=by
    unfold dX;rw[dm,l,nc];rfl
   have b:(dX o (t.take k)).length<=o.length+k:=by
    have:=kH (t.take k) o;rw[cr] at this;omega
   generalize t[k]=y at l s d;generalize D:dX o (t.take k)=q at b d;clear D l a
   repeat' (first|exact⟨⟩|refine sp ?_|refine uN (zHe qd) ?_|refine ai ?_)
   exact cW (k+1) qd qd (aB rfl rfl rfl (by simp[bR,cL,bA,bD,aX,d]))
  .have C:=aj k t.length;rw[bu qd];have b:=kH t o;rw[<- a] at b ⊢;have j:i+1<=ts.length/\((ts.take (i+1)).foldl dX []).length<=120*(i+1):=⟨qd,qd⟩
   clear a b
   repeat' (first|exact⟨⟩|refine sp ?_|refine ai ?_)
   exact cW (i+1) j qd (aB rfl rfl rfl wkS)
 .have A:=aj i ts.length;rw[bu qd]
  repeat' (first|exact⟨⟩|refine sp ?_)
def GJ{k m k' m':Int}{t t':Nat}{d d':Ba}(p q:Bool):ag 120 [.agg (ndc k m t d),.agg (ndc k' m' t' d'),.c (.p (.b p)),.c (.p (.b q))] (.c (.p (.i .i64 (BL ⟨k,m,t,d⟩ ⟨k',m',t',d'⟩ p q)))):=by
 cases p<;>cases q
 all_goals
  refine aa func120 λa e=>?_
 all_goals repeat' (first|exact⟨⟩|refine sp ?_|refine aH (λ_=>?_) (λ_=>?_))
 all_goals simp_all[BL]
def RO{a:Bh}(j:a.length<=1000000):ag 30 [.c (.p (.sl 10 (jD a))),.c (.p (.sl 10 (jD a)))] (.c (.p (.b true))):=by
 refine eT func30 λl hX=>?_;simp only[Tryz.ntmps30,f30,go_sem]
 repeat' (first|exact⟨⟩|refine sp ?_|refine aH (λ_=>?_) (λ_=>?_)|refine aY (λ_=>?_) (λ_=>?_)|((with_reducible apply aA.frz);exact rfl;exact rfl)|refine ai ?_)
 refine aJ aC aI (α:=Nat) (λk=>⟨69,[(0,.c (.p (.sl 10 (jD a)))),(1,.c (.p (.sl 10 (jD a)))),(5,.c (.p (.i .i64 k)))],[]⟩)
  (λk=>k<=a.length) (λk=>a.length-k) 0 (bc _) (.inl (aB qj rfl rfl wkS)) ?_
 intro k m;by_cases d:k<a.length
 .have e:=ay d;have f:=jK e;have g:=ah k a.length;have h:(k:Int)<(a.length:Int):=qd
  have q:=ar k;generalize a[k]=x at e f;have r:=dK x.o;have s:=dK x.n;clear e
  repeat' (first|exact⟨⟩|refine sq ?_|refine uF eV ?_|((refine aK (id:=6) aC aI [] [0,1,2,3,4,5,6,7,8,9,10,11,12,13,14,15,16,17,18,19,20,21,22,23,24,25,26,27,28,29,30,31,32,33,34,35,36,37,38,39,40,41,42,43,44,45,46,47,48,49,50,51] qi ?_);(repeat' (first|(refine aM ?_)|((refine fR ?_ rfl rfl ?_ ?_);(rotate_left 1);(focus ((repeat' (first|exact⟨⟩|refine sq ?_|refine uF eV ?_|refine aH (λ_=>?_) (λ_=>?_)|refine aY (λ_=>?_) (λ_=>?_)|((with_reducible apply aA.frz);exact rfl;exact rfl)|refine ai ?_));exact rfl));(simp only[aD,aQ])))))|refine aH (λ_=>?_) (λ_=>?_)|refine aY (λ_=>?_) (λ_=>?_)|((with_reducible apply aA.frz);exact rfl;exact rfl)|refine ai ?_)
  exact cW (k+1) qd qd (aB rfl rfl rfl wkS)
 .have g:=aj k a.length
  repeat' (first|exact⟨⟩|refine sp ?_|refine aH (λ_=>?_) (λ_=>?_)|refine aY (λ_=>?_) (λ_=>?_)|((with_reducible apply aA.frz);exact rfl;exact rfl)|refine ai ?_)
def zOD{k m:Int}{t:Nat}{d:Ba}:ag 264 [.agg (ndc k m t d)] (.c (.p (.b (nQ ⟨k,m,t,d⟩)))):=by
 refine aa func264 λa e=>?_
 repeat' (first|exact⟨⟩|refine sp ?_|refine uF (DG _) ?_|refine aY (λ_=>?_) (λ_=>?_))
 all_goals first|(simp_all[nQ];done)|(simp_all[nQ];rw[gi];simp)
end Go.Proofs.YtfcindonokhbeaaGreatDoor
end
section
namespace Go.Proofs.YtfcindonokhbeaaGreatDoor
open Go Go.Dm Go.Proofs.Tryz Go.Shelf
def zAV:Go.Shelf.Ren:=⟨λ| 22=>352 | 29=>376 | 30=>377|n=>n,λ| 24=>71 | 9=>147 | 3=>3 | 4=>4 | 0=>0|n=>n,fun|n=>n⟩
def zPF:InsL prog zAV:={
 mixed:=qg
 f22:=⟨Tryz.f352.name,qh,Tryz.func352.trans (congrArg some qg)⟩
 ov:=λa w b v h=>by
  have:=run_callFunc_extern func376 qg qg qg (e:=Extern.SlicesOverlaps.overlaps #[71,71] #[4]) qg a w;refine this.trans ?_;rw[show (Extern.SlicesOverlaps.overlaps #[71,71] #[4] a).run prog w=.ok v b from h]
  rfl
 t0:=Tryz.underlying0
 a0:=Tryz.isAgg0
 z0:=Tryz.sizeOf0
 v0:=Tryz.zeroValue0
 t3:=Tryz.underlying3
 a3:=Tryz.isAgg3
 z3:=Tryz.sizeOf3
 v3:=Tryz.zeroValue3
 t4:=Tryz.underlying4
 a4:=Tryz.isAgg4
 z4:=Tryz.sizeOf4
 v4:=Tryz.zeroValue4
 t24:=Tryz.underlying71
 a24:=Tryz.isAgg71
 z24:=Tryz.sizeOf71
 v24:=Tryz.zeroValue71 }
def zMd{h:aF}{id a n i:Nat}{es:Bc}{x:List PV}(hid:h[id]?=some (.arr 5 es false))(b:h[a]?=some (.arr 5 [x] false))(e:id≠a)(g:n<=es.length)(f:i<=n)(j:n<=1000000):
  aA prog 352 [.c (.own id 0 n),.c (.p (.i .i64 i)),.c (.own a 0 1)] h λd l=>d=.c (.own (h.length+1) 0 (n+1))/\l=h.set id .dead++[.dead,.arr 5 (iH i x (es.take n)) false] :=
 wZ (k:=5) aC zPF (iX func352 rfl rfl) (by show (tab 147).size=5;rw[tab147]) qh (by show (tab 71).k=_;rw[tab71];rfl)
  hid b e g f (by show (n+1)*(tab 147).bytes<=_;rw[tab147];simp only;omega) qd
end Go.Proofs.YtfcindonokhbeaaGreatDoor
end
section
namespace Go.Proofs.YtfcindonokhbeaaGreatDoor
open Go Go.Dm Go.Proofs Go.Proofs.Tryz
def zJy(a alike o t:Bool):ag 328 [.c (.p (.b a)),.c (.p (.b alike)),.c (.p (.b o)),.c (.p (.b t))] (.c (.p (.i .i64 (zBA a alike o t)))):=by
 refine aa func328 λd e=>?_
 repeat' (first|exact⟨⟩|refine sp ?_|refine aH (λ_=>?_) (λ_=>?_)|refine aY (λ_=>?_) (λ_=>?_))
 all_goals ((simp_all[zBA];done))
def zSG{k m k' m':Int}{t t':Nat}{d d':Ba}(p q:Bool):ag 275 [.agg (ndc k m t d),.agg (ndc k' m' t' d'),.c (.p (.b p)),.c (.p (.b q))] (.c (.p (.b (zBv ⟨k,m,t,d⟩ ⟨k',m',t',d'⟩ p q)))):=by
 refine aa func275 λa e=>?_
 repeat' (first|exact⟨⟩|refine sp ?_|refine uF xO ?_|refine aY (λ_=>?_) (λ_=>?_))
 all_goals ((simp_all[zBv];done))
def zOg{k m:Int}{t:Nat}{d:Ba}(a:d.length<=140737488355328)(p:Bool):ag 276 [.agg (ndc k m t d),.c (.p (.b p))] (.tup [.agg (if p then ⟨k,m,t,d⟩ else nd0:Nd).cv,.c (.p (.b p)),.c (.p (.i .i64 0))]):=by
 refine aG ?_;refine aa func276 λe f=>?_
 repeat' (first|exact⟨⟩|refine sp ?_|refine uN (rU a) ?_|refine aH (λ_=>?_) (λ_=>?_))
 all_goals ((simp_all[nd0,jJ];done))
def zQc{k m k1 m1 k2 m2:Int}{t t1 t2:Nat}{d d1 d2:Ba}(h1:d1.length<=140737488355328)(a:d2.length<=140737488355328)(b:Bool):
  ag 277 [.agg (ndc k m t d),.agg (ndc k1 m1 t1 d1),.agg (ndc k2 m2 t2 d2),.c (.p (.b b))] (.tup [.agg (uZ ⟨k,m,t,d⟩ ⟨k1,m1,t1,d1⟩ ⟨k2,m2,t2,d2⟩ b).1.cv,.c (.p (.b (uZ ⟨k,m,t,d⟩ ⟨k1,m1,t1,d1⟩ ⟨k2,m2,t2,d2⟩ b).2))]):=by
 refine aa func277 λe f=>?_
 repeat' (first|exact⟨⟩|refine sp ?_|refine uN (rU h1) ?_|((refine aK (id:=2) aC aI [] [0,1,2,3,4,5,6,7,8,9,10,11] qi ?_);(repeat' (first|(refine aM ?_)|((refine fR ?_ rfl rfl ?_ ?_);(rotate_left 1);(focus ((repeat' (first|exact⟨⟩|refine sp ?_|refine uF zTb ?_|refine uF (zJy _ _ _ _) ?_));exact rfl));(simp only[aD])))))|((refine aK (id:=4) aC aI [6,8] [0,1,2,3,5,6,4,7,8] qi ?_);(repeat' (first|(refine aM ?_)|((refine bJ ?_ ?_ rfl rfl rfl ?_ ?_);(rotate_left 2);(focus ((repeat' (first|exact⟨⟩|refine sp ?_));((refine And.intro ?_ ?_<;>exact rfl))));(simp only[aQ]))|((refine bI ?_ rfl rfl rfl ?_ ?_);(rotate_left 1);(focus ((repeat' (first|exact aS|refine aL ?_ ?_));(all_goals ((repeat' (first|exact⟨⟩|refine sp ?_|refine uN (rU a) ?_));(try (exact rfl))))));(simp only[aD])))))|((refine aK (id:=8) aC aI [] [0,1,2,3,4,5,6,7,8,9,10,11,12,13,14,15,16] qi ?_);(repeat' (first|(refine aM ?_)|((refine fR ?_ rfl rfl ?_ ?_);(rotate_left 1);(focus ((repeat' (first|exact⟨⟩|refine sp ?_|refine uF (zJy _ _ _ _) ?_|refine uF (XG _ _) ?_));exact rfl));(simp only[aD])))))|refine uF (zJy _ _ _ _) ?_|refine uF (zD6 _ _) ?_|refine aH (λ_=>?_) (λ_=>?_)|refine aY (λ_=>?_) (λ_=>?_))
 all_goals ((simp_all[uZ];done))
def zDV(s:Ba):ag 324 [.c (.p (.s s))] (.c (.p (.b false))):=by
 refine aa Tryz.func324 λa d=>?_
 repeat' (first|exact⟨⟩|refine sp ?_)
 all_goals (first|(with_reducible rfl)|(simp_all[];done)|(simp_all[];omega)|(simp_all[];(repeat' split)<;>omega))
def zKI{a b:Ba}:ag 281 [.c (.p (.s a)),.c (.p (.s b))] (.c (.p (.i .i64 (HP a b)))):=by
 unfold HP;cases d:cC a b<;>cases e:(a==b)
 all_goals
  refine aa func281 λf g=>?_
 all_goals repeat' (first|exact⟨⟩|refine sp ?_|refine uF (zDV _) ?_)
 all_goals simp
def zJC{p q:Ba}{k m:Int}:ag 279 [.agg [.p (.s p),.p (.i .i64 k)],.agg [.p (.s q),.p (.i .i64 m)]] (.c (.p (.i .i64 (cfC ⟨p,k⟩ ⟨q,m⟩)))):=by
 unfold cfC;simp only;refine aa func279 λa b=>?_
 repeat' (first|exact⟨⟩|refine sp ?_|((refine aK (id:=1) aC aI [10,11] [0,1,2,3,4,5,6,7,8,9,10,11,12] qi ?_);(repeat' (first|(refine aM ?_)|((refine bJ ?_ ?_ rfl rfl rfl ?_ ?_);(rotate_left 2);(focus ((repeat' (first|exact⟨⟩|refine sp ?_|refine uF (zUg _ _) ?_|((with_reducible apply aA.frz);exact rfl;exact rfl)|refine ai ?_));((refine And.intro ?_ ?_<;>exact rfl))));(simp only[aD]))|((refine bI ?_ rfl rfl rfl ?_ ?_);(rotate_left 1);(focus ((repeat' (first|exact aS|refine aL ?_ ?_));(all_goals ((repeat' (first|exact⟨⟩|refine sp ?_|refine uF zKI ?_|refine uF (zBV _ _) ?_));(try (exact rfl))))));(simp only[aD]))))))
def to_c{l:Bo}{p:Ba}(r:l.length<=1000000):ag 287 [.c (.p (.sl 2 (rA l))),.c (.p (.s p))] (.tup [.c (.p (.s ((toF l p).getD []))),.c (.p (.b (toF l p).isSome))]):=by
 refine aa func287 λt hX=>?_
 repeat' (first|exact⟨⟩|refine sp ?_)
 refine aJ aC aI (α:=Nat) (λk=>⟨21,[(1,.c (.p (.s p))),(8,.c (.p (.sl 2 (rA l)))),(9,.c (.p (.i .i64 l.length))),(10,.c (.p (.i .i64 k)))],[]⟩)
  (λk=>k<=l.length/\toF (l.drop k) p=toF l p) (λk=>l.length-k) 0 ⟨bc _,rfl⟩ (.inl (aB qj rfl rfl wkS)) ?_
 rintro k ⟨u,d⟩;by_cases g:k<l.length
 .have e:=ay g;have j:=EH e;have f:=drop_at e;obtain⟨m,n,o,v⟩:=lk k l.length;generalize l[k]=x at e j f;rw[f,toF] at d;cases h:(x.a==p)
  .rw[h,au qh] at d;have q:k+1<=l.length/\toF (l.drop (k+1)) p=toF l p:=⟨qd,d⟩
   clear d f e
   repeat' (first|exact⟨⟩|refine sp ?_)
   exact cW (k+1) q qd (aB rfl rfl rfl wkS)
  .rw[h,aw rfl] at d;rw[<- d];clear d f e
   repeat' (simp only[*,go_sem,Nat.reduceLT,Nat.reduceLeDiff,Nat.reduceEqDiff,↓reduceIte,Nat.reduceAdd,fe,gy])
 .have m:=aj k l.length;rw[cw qd,toF] at d;rw[<- d];clear d
  repeat' (simp only[*,go_sem,Nat.reduceLT,Nat.reduceEqDiff,↓reduceIte,ke,gm])
end Go.Proofs.YtfcindonokhbeaaGreatDoor
end
