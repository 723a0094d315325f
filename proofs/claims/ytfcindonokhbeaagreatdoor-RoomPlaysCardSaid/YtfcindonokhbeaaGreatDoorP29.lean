/- Part 30 of roomPlays_card. No condition. -/
import Derived.Test.YtfcindonokhbeaaGreatDoorP25
import Derived.Test.YtfcindonokhbeaaGreatDoorP26
set_option linter.all false
set_option maxRecDepth 100000
set_option maxHeartbeats 0
section
namespace Go.Proofs.YtfcindonokhbeaaGreatDoor
open Go Go.Dm Go.Proofs Go.Proofs.Tryz
def AN{a i p s:Int}{f:Bool}:aA prog 169 [.agg [.p (.i .i64 i),.p (.i .i64 p),.p (.i .i64 s),.p (.b f)],.c (.ptr 0 0)] [.box [.p (.i .i64 a)]] λr h=>r=.c (.p (.b (i==a)))/\h=[.box [.p (.i .i64 a)]]:=by
 refine aa func169 λd e=>?_
 repeat' (first|exact⟨⟩|refine sp ?_)
def zL7{l:Bm}{a:Int}(s:l.length<=1000000):aA prog 168 [.c (.p (.sl 4 (cZ l))),.c (.clo 169 [.ptr 0 0])] [.box [.p (.i .i64 a)]]
  λr h=>r=.c (.p (.i .i64 (zHA l a)))/\h=[.box [.p (.i .i64 a)]]:=by
 refine aa func168 λt hX=>?_
 repeat' (first|exact⟨⟩|refine sp ?_)
 refine aJ aC aI (α:=Nat) (λk=>⟨19,[(0,.c (.p (.sl 4 (cZ l)))),(1,.c (.clo 169 [.ptr 0 0])),(7,.c (.p (.i .i64 l.length))),(8,.c (.p (.i .i64 k)))],[.box [.p (.i .i64 a)]]⟩)
  (λk=>k<=l.length/\∀(j:Nat) (y:Ly),j<k->l[j]?=some y->(y.i==a)=false) (λk=>l.length-k) 0 ⟨bc _,λj y h=>by omega⟩ (.inl (aB qj rfl rfl wkS)) ?_
 rintro k ⟨u,b⟩;by_cases f:k<l.length
 .have d:=ay f;have o:=iG d;obtain⟨q,-,-,v⟩:=lk k l.length;generalize l[k]=x at d o;cases n:(x.i==a)
  .have e:PLift (k+1<=l.length/\∀(j:Nat) (y:Ly),j<k+1->l[j]?=some y->(y.i==a)=false):=⟨qd,λj y g m=>by
    rcases cc j k with h|h
    .exact b j y h m
    .have:j=k:=qd
     subst this;rw[d] at m;cases m;exact n⟩
   clear b d
   repeat' (first|exact⟨⟩|refine sp ?_|refine zST AN rfl rfl rfl ?_|refine ai ?_)
   exact cW (k+1) e.down qd (aB rfl rfl rfl wkS)
  .have e:=PLift.up (zAT b d n).1;clear b d
   repeat' (first|exact⟨⟩|refine sp ?_|refine zST AN rfl rfl rfl ?_|refine ai ?_)
   all_goals rw[e.down]
 .have q:=aj k l.length;have e:=PLift.up (WB (l:=l) (a:=a) λj y g=>b j y (by have:=(bz.1 g).1;omega) g);clear b
  repeat' (first|exact⟨⟩|refine sp ?_)
  all_goals rw[e.down]
def PF{l:Bm}{a:Int}(h:l.length<=1000000):ag 94 [.c (.p (.sl 4 (cZ l))),.c (.p (.i .i64 a))] (.tup [.agg ((fQ l a).getD ly0).cv,.c (.p (.b (fQ l a).isSome))]):=by
 have f:=zL7 (a:=a) h;rcases zLR l a with⟨d,e⟩|⟨k,x,d,e,g⟩
 .rw[e] at f;rw[d];clear d e;refine aa func94 λj m=>?_
  repeat' (first|exact⟨⟩|refine sp ?_|refine uS [0] f ?_)
  all_goals simp[ly0]
 .rw[e] at f;rw[d];have n:=(bz.1 g).1;have o:=iG g;have q:=aj k 0;have r:(0:Int)<=(k:Int):=qd
  have s:(k:Int)<(l.length:Int):=qd
  clear d e g;refine aa func94 λj m=>?_
  repeat' (first|exact⟨⟩|refine sp ?_|refine uS [0] f ?_)
  all_goals simp[Ly.cv]
def zL9{l:List Int}{a:Int}(r:l.length<=1000000):ag 219 [.c (.p (.sl 1 (cU l))),.c (.p (.i .i64 a))] (.c (.p (.i .i64 (zHB l a)))):=by
 refine aa func219 λs hX=>?_
 repeat' (first|exact⟨⟩|refine sp ?_)
 refine aJ aC aI (α:=Nat) (λk=>⟨19,[(0,.c (.p (.sl 1 (cU l)))),(1,.c (.p (.i .i64 a))),(7,.c (.p (.i .i64 l.length))),(8,.c (.p (.i .i64 k)))],[]⟩)
  (λk=>k<=l.length/\∀(j:Nat) (y:Int),j<k->l[j]?=some y->(a==y)=false) (λk=>l.length-k) 0 ⟨bc _,λj y h=>by omega⟩ (.inl (aB qj rfl rfl qo)) ?_
 rintro k ⟨t,b⟩;by_cases f:k<l.length
 .have d:=ay f;have o:=mU d;obtain⟨q,-,-,u⟩:=lk k l.length;generalize l[k]=x at d o;cases n:(a==x)
  .have e:PLift (k+1<=l.length/\∀(j:Nat) (y:Int),j<k+1->l[j]?=some y->(a==y)=false):=⟨qd,λj y g m=>by
    rcases cc j k with h|h
    .exact b j y h m
    .have:j=k:=qd
     subst this;rw[d] at m;cases m;exact n⟩
   clear b d
   repeat' (first|exact⟨⟩|refine sp ?_|((with_reducible refine And.intro ?_ ?_);omega))
   exact cW (k+1) e.down qd (aB rfl rfl rfl qo)
  .have e:=PLift.up (zHC b d n);clear b d
   repeat' (first|exact⟨⟩|refine sp ?_|((with_reducible refine And.intro ?_ ?_);omega))
   all_goals rw[e.down]
 .have q:=aj k l.length;have e:=PLift.up (WC (l:=l) (a:=a) λj y g=>b j y (by have:=(bz.1 g).1;omega) g);clear b
  repeat' (first|exact⟨⟩|refine sp ?_)
  all_goals rw[e.down]
def zAo{l:List Int}{a:Int}(d:l.length<=1000000):ag 148 [.c (.p (.sl 1 (cU l))),.c (.p (.i .i64 a))] (.c (.p (.b (l.contains a)))):=by
 rw[<- zL4];refine aa func148 λe f=>?_
 repeat' (first|exact⟨⟩|refine sp ?_|refine uF (zL9 d) ?_)
def zBU{l:Bm}(b:l.length<=1000000):aA prog 88 [.c (.p (.sl 4 (cZ l)))] [] λr h=>r=.c (.own 0 0 (cZ l).length)/\h=[.arr 4 (cZ l) false]:=by
 refine aA.rowR ?_;have a:=kO l;cases l with
 | nil =>
  refine VN aC aI func88 rfl rfl λd f=>?_;simp only[f88,go_sem]
  repeat' (first|exact⟨⟩|refine sp ?_)
  all_goals first|exact .inl ⟨rfl,rfl⟩|exact .inr ⟨_,rfl,rfl⟩|exact⟨.inl trivial,rfl,.inr ⟨1,rfl,rfl⟩⟩
 | cons x l =>
  have e:cZ (x::l)=x.cs::cZ l:=rfl;have g:=zB9 (x::l);have i:(cZ (x::l)).length<=1000000:=by rw[a];exact b
  clear a;rw[e] at i g ⊢;have j:x.cs.length=4:=rfl;refine VN aC aI func88 rfl rfl λd f=>?_;simp only[f88,go_sem]
  repeat' (first|exact⟨⟩|refine sp ?_|((with_reducible refine And.intro ?_ ?_);decide))
  all_goals first|omega|exact .inr ⟨_,rfl,rfl⟩|(simp_all;done)|(simp_all;omega)
def zFE{l:Bn}(b:l.length<=1000000):aA prog 56 [.c (.p (.sl 2 (bW l)))] [] λr h=>r=.c (.own 0 0 (bW l).length)/\h=[.arr 2 (bW l) false]:=by
 refine aA.rowR ?_;have a:=jL l;cases l with
 | nil =>
  refine VN aC aI func56 rfl rfl λd f=>?_;simp only[f56,go_sem]
  repeat' (first|exact⟨⟩|refine sp ?_)
  all_goals first|exact .inl ⟨rfl,rfl⟩|exact .inr ⟨_,rfl,rfl⟩|exact⟨.inl trivial,rfl,.inr ⟨1,rfl,rfl⟩⟩
 | cons x l =>
  have e:bW (x::l)=[.s x.n,.i .i64 x.l]::bW l:=rfl;have g:=VH (x::l);have j:(bW (x::l)).length<=1000000:=by rw[a];exact b
  clear a;rw[e] at j g ⊢;refine VN aC aI func56 rfl rfl λd f=>?_;simp only[f56,go_sem]
  repeat' (first|exact⟨⟩|refine sp ?_|((with_reducible refine And.intro ?_ ?_);decide))
  all_goals first|omega|exact .inr ⟨_,rfl,rfl⟩|(simp_all;done)|(simp_all;omega)
def MC{l:List Int}(x:l.length<=1000000):aA prog 165 [.c (.own 0 0 l.length)] [.arr 1 (cU l) false] λr h=>r=.tup []/\h=[.arr 1 (cU l.reverse) false]:=by
 have y:IntKind.i64.wrap ((l.length:Int)-1)=l.length-1:=wrap_i64 qd qd;refine aa func165 λz hX=>?_
 repeat' (first|exact⟨⟩|refine sp ?_)
 refine aJ aC aI (α:=Nat) (λk=>⟨28,[(0,.c (.own 0 0 l.length)),(2,.c (.p (.i .i64 k))),(3,.c (.p (.i .i64 ((l.length:Int)-1-k))))],[.arr 1 (cU (swI l k)) false]⟩)
  (λk=>2*k<=l.length+1) (λk=>l.length+1-2*k) 0 qd (.inl (aB qj (by rw[zNo];rfl) rfl (by simp[bR,cL,bA,bD,aX]))) ?_
 intro k A;have b:=RV l k;by_cases a:2*k+1<l.length
 .have m:decide ((k:Int)<(l.length:Int)-1-k)=true:=df qd;obtain⟨j,e⟩:∃j:Nat,(l.length:Int)-1-k=j/\j=l.length-1-k:=⟨l.length-1-k,qd,rfl⟩
  have o:=mU (zSJ (l:=l) (i:=k) a);have n:=mU (zOv (l:=l) (i:=k) a);have d:=zNn a;rw[<- e.2] at n d;have B:=ar k;have C:IntKind.i64.wrap ((j:Int)-1)=j-1:=wrap_i64 qd qd;have D:k<(cU (swI l k)).length:=by rw[fV,b];omega
  have E:j<(cU (swI l k)).length:=by rw[fV,b];omega
  have F:(k:Int)<(l.length:Int):=qd
  have G:(j:Int)<(l.length:Int):=qd
  have H:(0:Int)<=(k:Int):=qd
  have I:(0:Int)<=(j:Int):=qd
  have J:k<l.length:=qd
  have q:j<l.length:=qd
  rw [e.1] at m ⊢;have f:=PLift.up e;clear e;generalize l.getD k 0=u at o d;have s:(cU ((swI l k).set k (l.getD j 0))).getD j []=[.i .i64 (l.getD j 0)]:=by
   refine mU ?_;have g:k≠j:=by have:=f.down;omega
   rw[il g,f.down.2];exact zOv (l:=l) (i:=k) a
  have t:j<((swI l k).set k (l.getD j 0)).length:=by rw[ff,b];exact q
  generalize l.getD j 0=v at n s t d
  repeat' (first|exact⟨⟩|refine sp ?_|refine dR (id:=3) aC aI [13,15] [0,1,4,5,6,7,8,9,10,11,12,13,2,3,14,15] ?_)
  exact cW (k+1) qd qd (aB rfl rfl rfl (by have:=f.down;simp[bR,cL,bA,bD,aX];omega))
 .have m:decide ((k:Int)<(l.length:Int)-1-k)=false:=er qd;have w:=PLift.up (zQJ (l:=l) (i:=k) qd)
  repeat' (first|exact⟨⟩|refine sp ?_)
  all_goals rw[w.down]
def zPu{l:Bm}{a:Int}(s:l.length<=1000000):ag 196 [.c (.p (.sl 4 (cZ l))),.c (.p (.i .i64 a))] (.tup [.agg ((fQ l a).getD ly0).cv,.c (.p (.b (fQ l a).isSome))]):=by
 refine aa func196 λt hX=>?_
 repeat' (first|exact⟨⟩|refine sp ?_)
 refine bG aC aI (α:=Nat) (λk=>⟨25,[(0,.c (.p (.sl 4 (cZ l)))),(1,.c (.p (.i .i64 a))),(4,.c (.ptr 0 0)),(6,.c (.p (.i .i64 k)))],[.box [.p (.i .i64 0),.p (.i .i64 0),.p (.i .i64 0),.p (.b false)]]⟩)
  (λk=>k<=l.length/\∀(j:Nat) (y:Ly),j<k->l[j]?=some y->(y.i==a)=false) (λk=>l.length-k) 0 ⟨bc _,λj y h=>by omega⟩ (aV (aB qj rfl rfl wkK)) ?_
 rintro k ⟨u,e⟩;by_cases g:k<l.length
 .have d:=ay g;have q:=iG d;obtain⟨r,v,w,z⟩:=lk k l.length;generalize l[k]=x at d q;cases o:(x.i==a)
  .have f:PLift (k+1<=l.length/\∀(j:Nat) (y:Ly),j<k+1->l[j]?=some y->(y.i==a)=false):=⟨qd,λj y m n=>by
    rcases cc j k with h|h
    .exact e j y h n
    .have:j=k:=qd
     subst this;rw[d] at n;cases n;exact o⟩
   clear e d
   repeat' (first|exact⟨⟩|refine sp ?_)
   exact eO (k+1) f.down qd (aV (aB rfl rfl rfl wkK))
  .have f:=PLift.up (zAT e d o).2;clear e d
   repeat' (first|exact⟨⟩|refine sp ?_)
   all_goals rw[f.down]
   all_goals rfl
 .have r:=aj k l.length;have f:PLift (fQ l a=none):=⟨kr.2 λx d=>by
   obtain⟨j,m⟩:=eh.1 d;have:=e j x (by have:=(bz.1 m).1;omega) m;rw[this];decide⟩
  clear e
  repeat' (first|exact⟨⟩|refine sp ?_)
  all_goals rw[f.down]
  all_goals rfl
def zKD{l:Bm}{a:Int}(u:l.length<=100000):ag 117 [.c (.p (.sl 4 (cZ l))),.c (.p (.i .i64 a))] (.c (.p (.sl 1 (cU (cA l a))))):=by
 refine eT func117 λv hX=>?_;simp only[Tryz.ntmps117,f117,go_sem]
 repeat' (first|exact⟨⟩|refine sp ?_|refine aH (λ_=>?_) (λ_=>?_)|refine aY (λ_=>?_) (λ_=>?_)|((with_reducible apply aA.frz);exact rfl;exact rfl)|refine ai ?_)
 refine bG aC aI (α:=List Int × Int) (λx=>⟨31,[(0,.c (.p (.sl 4 (cZ l)))),(1,.c (.p (.i .i64 x.2))),(5,.c (.p (.sl 1 (cU x.1)))),(6,.c (.p (.i .i64 x.1.length)))],[]⟩)
  (λx=>x.1.length<=l.length+1/\(eP l (l.length+1-x.1.length) x.2).reverse++x.1=cA l a) (λx=>l.length+1-x.1.length) ([],a) ⟨bc _,by simp[cA]⟩ ((zMi 5 1 rfl).trans (aV (aB qj rfl rfl wkK))) ?_
 rintro⟨b,id⟩ ⟨n,d⟩;simp only at n d ⊢;by_cases o:b.length<=l.length
 .have f:=zPu (l:=l) (a:=id) qd;have q:decide ((b.length:Int)<=(l.length:Int))=true:=df qd;have w:=ar b.length;cases g:fQ l id with
  | none =>
   rw[g] at f;have e:eP l (l.length+1-b.length) id=[]:=by cases (l.length+1-b.length)<;>simp[eP,g]
   rw[e] at d;have h:=PLift.up d;clear d e g
   repeat' (first|simp (maxSteps:=1000000) only[*,go_sem,Nat.reduceLT,Nat.reduceLeDiff,Nat.reduceEqDiff,↓reduceIte,Nat.reduceAdd,Nat.reduceSub,Nat.reduceMul,Int.reduceLT,Int.reduceLE,Int.reduceAdd,Int.reduceSub,Int.reduceMul,Int.reduceNeg,Int.reduceToNat,Int.reduceEq,Int.reduceBEq,Int.reduceBNe,Nat.reduceBEq,fa,lx,gm,ke,ly0]|refine uF f ?_|refine aH (λ_=>?_) (λ_=>?_)|refine aY (λ_=>?_) (λ_=>?_)|((with_reducible apply aA.frz);exact rfl;exact rfl)|refine ai ?_)
   all_goals rw[<- h.down]
   all_goals rfl
  | some y =>
   rw [g] at f;have j:=(oW g).2;have k:(id::b).length<=l.length+1/\(eP l (l.length+1-(id::b).length) y.p).reverse++(id::b)=cA l a:=by
    refine⟨qk,?_⟩
    rw[<- d,show l.length+1-b.length=(l.length+1-(id::b).length)+1 by simp;omega,eP,g]
    simp[j]
   have m:l.length+1-(id::b).length<l.length+1-b.length:=by simp;omega
   have k:=PLift.up k;have m:=PLift.up m;have r:=PLift.up (show (((id::b).length:Nat):Int)=(b.length:Int)+1 by simp)
   have s:[[PV.i .i64 id]]++cU b=cU (id::b):=rfl;clear d g
   repeat' (first|simp (maxSteps:=1000000) only[*,go_sem,Nat.reduceLT,Nat.reduceLeDiff,Nat.reduceEqDiff,↓reduceIte,Nat.reduceAdd,Nat.reduceSub,Nat.reduceMul,Int.reduceLT,Int.reduceLE,Int.reduceAdd,Int.reduceSub,Int.reduceMul,Int.reduceNeg,Int.reduceToNat,Int.reduceEq,Int.reduceBEq,Int.reduceBNe,Nat.reduceBEq,fa,lx,gy,fe,mq]|refine uF f ?_|refine aH (λ_=>?_) (λ_=>?_)|refine aY (λ_=>?_) (λ_=>?_)|((with_reducible apply aA.frz);exact rfl;exact rfl)|refine ai ?_)
   exact eO (id::b,y.p) k.down m.down ((WO 5 2 0 (1+b.length) rfl (iD rfl (by simp[fV,Nat.add_comm]))).trans (aV (aB rfl rfl rfl wkK)))
 .have t:b.length=l.length+1:=qd
  have q:decide (((l.length+1:Nat):Int)<=(l.length:Int))=false:=er qd;rw[show l.length+1-b.length=0 by omega] at d
  have h:=PLift.up d;clear d
  repeat' (first|exact⟨⟩|refine sp ?_|refine aH (λ_=>?_) (λ_=>?_)|refine aY (λ_=>?_) (λ_=>?_)|((with_reducible apply aA.frz);exact rfl;exact rfl)|refine ai ?_)
  all_goals rw[<- h.down]
  all_goals rfl
def zFd{l:Bm}{a:Int}(hl:l.length<=100000):ag 124 [.c (.p (.sl 4 (cZ l))),.c (.p (.i .i64 a))] (.c (.p (.sl 1 (cU (lT l a))))):=by
 refine aG ?_;refine aa func124 λX0 hX=>?_;have w0:IntKind.i64.wrap ((l.length:Int)-1)=(l.length:Int)-1:=wrap_i64 qd qd;have hl0:(0:Int)<=(l.length:Int):=qd
 have hl1:(l.length:Int)<=140737488355328:=qd
 have hrep:=zLC l.length
 repeat' (first|exact⟨⟩|refine sp ?_|refine ai ?_)
 refine bG aC aI (α:=Nat × List Bool) (λx=>⟨86,[(0,.c (.p (.sl 4 (cZ l)))),(1,.c (.p (.i .i64 a))),(5,.c (.own 0 0 l.length)),(6,.c (.p (.i .i64 ((x.1:Int)-1))))],[.arr 1 (ZY x.2) false]⟩)
  (λx=>∃W,AncAt l a x.1 x.2 W) (λx=>x.1) (l.length,List.replicate l.length false) ⟨[],zC4 l a⟩ (aV (aB qj rfl rfl wkK)) ?_
 rintro⟨m,B⟩ ⟨W,G⟩;simp only at G ⊢;cases m with
 | succ i =>
  have hle:=G.le;have U:=G.len;have V:i<l.length:=qd
  have e1:(((i+1:Nat):Int)-1)=(i:Int):=qd
  rw[e1];have H:=ay V;have hg:=iG H;generalize l[i]=x at H hg;have R:=G.lo i x qd H;have hq:=zA R;generalize W.contains x.i=b at R hq;have h1:decide ((0:Int)<=(i:Int))=true:=df qd;have h2:(i:Int)<(l.length:Int):=qd
  have h3:(0:Int)<=i:=qd
  have w1:IntKind.i64.wrap ((i:Int)-1)=(i:Int)-1:=wrap_i64 qd qd;have C:∀c:Bool,(B.set i c)[i]?=some c:=λc=>by rw[j6 qd]
  have X:∀c:Bool,(ZY (B.set i c)).getD i []=[.b c]:=λc=>zA (C c)
  cases hi:(x.i==a)<;>cases hbb:b
  all_goals subst hbb
  .have Y:=PLift.up (G.no H R hi);clear G H X C
   repeat' (first|exact⟨⟩|refine sq ?_)
   exact eO (i,B) ⟨W,Y.down⟩ qf (aV (aB rfl rfl rfl wkK))
  all_goals
   obtain⟨w,E⟩:∃w,w=B.set i true:=⟨_,rfl⟩
   have hqB:=X true;have Z:=C true;rw[<- E] at hqB Z;have I:w.length=l.length:=by rw[E,ff];exact U
   have J:∀k,k≠i->w[k]?=B[k]? := λk hk=>by rw[E,il (λe=>hk e.symm)]
   have K:∀d:List Bool,d.length=l.length->(∀(k:Nat) (y:Ly),k<i->l[k]?=some y->d[k]?=some (W.contains y.i || (y.i==x.p || y.i==x.s)))->(∀k,i<=k->d[k]?=w[k]?)->AncAt l a i d (x.p::x.s::W):=λd g1 g2 g3 =>
    G.yes H R (by simp[hi]) (by rw[g1,U]) g2 ((g3 i (bg _)).trans Z) λk hk=>(g3 k qd).trans (J k qd)
   have o:∀(k:Nat) (y:Ly),k<i->l[k]?=some y->w[k]?=some (W.contains y.i):=λk y hk n=>by rw[J k qd];exact G.lo k y qd n
   have K:=PLift.up K;have o:=PLift.up o;have hBs:=E.symm;have F:B[i]?=some true->w=B:=λh=>by
    rw[E];obtain⟨h1,h2⟩:=bz.1 h;rw[<- h2,kj]
   have F:=PLift.up F;clear G H X C E J Z
  .have e:=F.down R;subst e;clear F hBs R hqB
   repeat' (first|exact⟨⟩|refine sq ?_)
   refine bG aC aI (α:=Nat × List Bool) (λz=>⟨86,[(0,.c (.p (.sl 4 (cZ l)))),(1,.c (.p (.i .i64 a))),(5,.c (.own 0 0 l.length)),(6,.c (.p (.i .i64 i))),(7,.c (.p (.i .i64 z.1)))],[.arr 1 (ZY z.2) false]⟩)
    (λz=>z.1<=i/\z.2.length=l.length/\(∀(j:Nat) (y:Ly),j<z.1->l[j]?=some y->z.2[j]?=some (W.contains y.i || (y.i==x.p || y.i==x.s)))/\∀j,z.1<=j->z.2[j]?=w[j]?) (λz=>i-z.1) (0,w) ⟨bc _,I,λj y h=>by omega,λ_ _=>rfl⟩ (aV (aB qj rfl rfl wkK)) ?_
   rintro⟨k,d⟩ ⟨j1,D,u,r⟩;simp only at j1 D u r;by_cases L:k<i
   .have v:l[k]?=some l[k]:=ay qd;have M:=iG v;generalize l[k]=z at v M;have t:=(r k (bg _)).trans (o.down k z L v);have hqz:=zA t;have u1:=ah k i;have u2:(k:Int)<(l.length:Int):=qd
    have u3:(0:Int)<=k:=qd
    have u4:=ar k;have f:(z.i==x.p || z.i==x.s)=false->(k+1<=i/\d.length=l.length/\(∀(j:Nat) (y:Ly),j<k+1->l[j]?=some y->d[j]?=some (W.contains y.i || (y.i==x.p || y.i==x.s)))/\∀j,k+1<=j->d[j]?=w[j]?):=λN=>⟨qd,D,λj y P n=>by
     rcases cc j k with h|h
     .exact u j y h n
     .have:j=k:=qd
      subst this;rw[v] at n;cases n;rw[t,N,dn],λj P=>r j qd⟩
    have g:(z.i==x.p || z.i==x.s)=true->(k+1<=i/\(d.set k true).length=l.length/\(∀(j:Nat) (y:Ly),j<k+1->l[j]?=some y->(d.set k true)[j]?=some (W.contains y.i || (y.i==x.p || y.i==x.s)))/\∀j,k+1<=j->(d.set k true)[j]?=w[j]?):=λN=>⟨qd,by rw[ff];exact D,λj y P n=>by
     rcases cc j k with h|h
     .rw[il qd];exact u j y h n
     .have:j=k:=qd
      subst this;rw[v] at n;cases n;rw[j6 qd,N,ej],λj P=>by rw[il qd];exact r j qd⟩
    have f:=PLift.up f;have g:=PLift.up g;clear u r v t o K;cases S:(z.i==x.p)<;>cases T:(z.i==x.s)
    .repeat' (first|exact⟨⟩|refine sp ?_|refine dR (id:=11) aC aI [] [0,1,2,3,4,5,6,7,8,9,10,11,12,13,14,15,16,17,18,19,20,21,22,23] ?_)
     exact eO (k+1,d) (f.down (by rw[S,T];rfl)) qf (aV (aB rfl rfl rfl wkK))
    all_goals
     repeat' (first|exact⟨⟩|refine sp ?_|refine dR (id:=11) aC aI [] [0,1,2,3,4,5,6,7,8,9,10,11,12,13,14,15,16,17,18,19,20,21,22,23] ?_|refine ai ?_)
     exact eO (k+1,d.set k true) (g.down (by rw[S,T];rfl)) qf (aV (aB rfl rfl rfl wkK))
   .have A:k=i:=qd
    subst A;have Y:=PLift.up (K.down d D u r);have u1:=nlt k;clear u r o K
    repeat' (first|exact⟨⟩|refine sp ?_)
    exact eO (k,d) ⟨_,Y.down⟩ qf (aV (aB rfl rfl rfl wkK))
  .clear F R
   repeat' (first|exact⟨⟩|refine sq ?_)
   refine bG aC aI (α:=Nat × List Bool) (λz=>⟨86,[(0,.c (.p (.sl 4 (cZ l)))),(1,.c (.p (.i .i64 a))),(5,.c (.own 0 0 l.length)),(6,.c (.p (.i .i64 i))),(7,.c (.p (.i .i64 z.1)))],[.arr 1 (ZY z.2) false]⟩)
    (λz=>z.1<=i/\z.2.length=l.length/\(∀(j:Nat) (y:Ly),j<z.1->l[j]?=some y->z.2[j]?=some (W.contains y.i || (y.i==x.p || y.i==x.s)))/\∀j,z.1<=j->z.2[j]?=w[j]?) (λz=>i-z.1) (0,w) ⟨bc _,I,λj y h=>by omega,λ_ _=>rfl⟩ (aV (aB qj rfl rfl wkK)) ?_
   rintro⟨k,d⟩ ⟨j1,D,u,r⟩;simp only at j1 D u r;by_cases L:k<i
   .have v:l[k]?=some l[k]:=ay qd;have M:=iG v;generalize l[k]=z at v M;have t:=(r k (bg _)).trans (o.down k z L v);have hqz:=zA t;have u1:=ah k i;have u2:(k:Int)<(l.length:Int):=qd
    have u3:(0:Int)<=k:=qd
    have u4:=ar k;have f:(z.i==x.p || z.i==x.s)=false->(k+1<=i/\d.length=l.length/\(∀(j:Nat) (y:Ly),j<k+1->l[j]?=some y->d[j]?=some (W.contains y.i || (y.i==x.p || y.i==x.s)))/\∀j,k+1<=j->d[j]?=w[j]?):=λN=>⟨qd,D,λj y P n=>by
     rcases cc j k with h|h
     .exact u j y h n
     .have:j=k:=qd
      subst this;rw[v] at n;cases n;rw[t,N,dn],λj P=>r j qd⟩
    have g:(z.i==x.p || z.i==x.s)=true->(k+1<=i/\(d.set k true).length=l.length/\(∀(j:Nat) (y:Ly),j<k+1->l[j]?=some y->(d.set k true)[j]?=some (W.contains y.i || (y.i==x.p || y.i==x.s)))/\∀j,k+1<=j->(d.set k true)[j]?=w[j]?):=λN=>⟨qd,by rw[ff];exact D,λj y P n=>by
     rcases cc j k with h|h
     .rw[il qd];exact u j y h n
     .have:j=k:=qd
      subst this;rw[v] at n;cases n;rw[j6 qd,N,ej],λj P=>by rw[il qd];exact r j qd⟩
    have f:=PLift.up f;have g:=PLift.up g;clear u r v t o K;cases S:(z.i==x.p)<;>cases T:(z.i==x.s)
    .repeat' (first|exact⟨⟩|refine sp ?_|refine dR (id:=11) aC aI [] [0,1,2,3,4,5,6,7,8,9,10,11,12,13,14,15,16,17,18,19,20,21,22,23] ?_)
     exact eO (k+1,d) (f.down (by rw[S,T];rfl)) qf (aV (aB rfl rfl rfl wkK))
    all_goals
     repeat' (first|exact⟨⟩|refine sp ?_|refine dR (id:=11) aC aI [] [0,1,2,3,4,5,6,7,8,9,10,11,12,13,14,15,16,17,18,19,20,21,22,23] ?_|refine ai ?_)
     exact eO (k+1,d.set k true) (g.down (by rw[S,T];rfl)) qf (aV (aB rfl rfl rfl wkK))
   .have A:k=i:=qd
    subst A;have Y:=PLift.up (K.down d D u r);have u1:=nlt k;clear u r o K
    repeat' (first|exact⟨⟩|refine sp ?_)
    exact eO (k,d) ⟨_,Y.down⟩ qf (aV (aB rfl rfl rfl wkK))
  .clear F R
   repeat' (first|exact⟨⟩|refine sq ?_)
   refine bG aC aI (α:=Nat × List Bool) (λz=>⟨86,[(0,.c (.p (.sl 4 (cZ l)))),(1,.c (.p (.i .i64 a))),(5,.c (.own 0 0 l.length)),(6,.c (.p (.i .i64 i))),(7,.c (.p (.i .i64 z.1)))],[.arr 1 (ZY z.2) false]⟩)
    (λz=>z.1<=i/\z.2.length=l.length/\(∀(j:Nat) (y:Ly),j<z.1->l[j]?=some y->z.2[j]?=some (W.contains y.i || (y.i==x.p || y.i==x.s)))/\∀j,z.1<=j->z.2[j]?=w[j]?) (λz=>i-z.1) (0,w) ⟨bc _,I,λj y h=>by omega,λ_ _=>rfl⟩ (aV (aB qj rfl rfl wkK)) ?_
   rintro⟨k,d⟩ ⟨j1,D,u,r⟩;simp only at j1 D u r;by_cases L:k<i
   .have v:l[k]?=some l[k]:=ay qd;have M:=iG v;generalize l[k]=z at v M;have t:=(r k (bg _)).trans (o.down k z L v);have hqz:=zA t;have u1:=ah k i;have u2:(k:Int)<(l.length:Int):=qd
    have u3:(0:Int)<=k:=qd
    have u4:=ar k;have f:(z.i==x.p || z.i==x.s)=false->(k+1<=i/\d.length=l.length/\(∀(j:Nat) (y:Ly),j<k+1->l[j]?=some y->d[j]?=some (W.contains y.i || (y.i==x.p || y.i==x.s)))/\∀j,k+1<=j->d[j]?=w[j]?):=λN=>⟨qd,D,λj y P n=>by
     rcases cc j k with h|h
     .exact u j y h n
     .have:j=k:=qd
      subst this;rw[v] at n;cases n;rw[t,N,dn],λj P=>r j qd⟩
    have g:(z.i==x.p || z.i==x.s)=true->(k+1<=i/\(d.set k true).length=l.length/\(∀(j:Nat) (y:Ly),j<k+1->l[j]?=some y->(d.set k true)[j]?=some (W.contains y.i || (y.i==x.p || y.i==x.s)))/\∀j,k+1<=j->(d.set k true)[j]?=w[j]?):=λN=>⟨qd,by rw[ff];exact D,λj y P n=>by
     rcases cc j k with h|h
     .rw[il qd];exact u j y h n
     .have:j=k:=qd
      subst this;rw[v] at n;cases n;rw[j6 qd,N,ej],λj P=>by rw[il qd];exact r j qd⟩
    have f:=PLift.up f;have g:=PLift.up g;clear u r v t o K;cases S:(z.i==x.p)<;>cases T:(z.i==x.s)
    .repeat' (first|exact⟨⟩|refine sp ?_|refine dR (id:=11) aC aI [] [0,1,2,3,4,5,6,7,8,9,10,11,12,13,14,15,16,17,18,19,20,21,22,23] ?_)
     exact eO (k+1,d) (f.down (by rw[S,T];rfl)) qf (aV (aB rfl rfl rfl wkK))
    all_goals
     repeat' (first|exact⟨⟩|refine sp ?_|refine dR (id:=11) aC aI [] [0,1,2,3,4,5,6,7,8,9,10,11,12,13,14,15,16,17,18,19,20,21,22,23] ?_|refine ai ?_)
     exact eO (k+1,d.set k true) (g.down (by rw[S,T];rfl)) qf (aV (aB rfl rfl rfl wkK))
   .have A:k=i:=qd
    subst A;have Y:=PLift.up (K.down d D u r);have u1:=nlt k;clear u r o K
    repeat' (first|exact⟨⟩|refine sp ?_)
    exact eO (k,d) ⟨_,Y.down⟩ qf (aV (aB rfl rfl rfl wkK))
 | zero =>
  have e1:(((0:Nat):Int)-1) = -1:=rfl;rw[e1];have U:=G.len;have hE:=PLift.up G.end_;clear G
  repeat' (first|exact⟨⟩|refine sp ?_)
  refine bG aC aI (α:=Nat) (λk=>⟨86,[(0,.c (.p (.sl 4 (cZ l)))),(5,.c (.own 0 0 l.length)),(8,.c (.own 1 0 (XJ (l.take k) (B.take k)).length)),(9,.c (.p (.i .i64 k)))],[.arr 1 (ZY B) false,.arr 1 (cU (XJ (l.take k) (B.take k))) false]⟩)
   (λk=>k<=l.length) (λk=>l.length-k) 0 (bc _) ((gS 8 1 rfl).trans (aV (aB qj rfl rfl wkK))) ?_
  intro k hk;by_cases V:k<l.length
  .have H:=ay V;have hg:=iG H;generalize l[k]=x at H hg;obtain⟨q,hq⟩:∃q,B[k]?=some q:=⟨_,ay qd⟩;have hqq:=zA hq;have Q:=XK H hq;have hol:(XJ (l.take k) (B.take k)).length<=k:=bj (zCD _ _) (jh ..);obtain⟨h1,h2,h3,w1⟩:=lk k l.length;generalize XJ (l.take k) (B.take k)=O at Q hol ⊢;have Q:=PLift.up Q;clear H hq;cases q
   .repeat' (first|exact⟨⟩|refine sp ?_)
    exact eO (k+1) qd qd (by rw[Q.down];simp only[av,ax,dh];exact aV (aB rfl rfl rfl wkK))
   .repeat' (first|exact⟨⟩|refine sp ?_|((with_reducible refine And.intro ?_ ?_);((first|omega|decide))))
    exact eO (k+1) qd qd (by rw[Q.down];simp only[az,bo,bw,da];exact cK (dV [0,3] rfl hpK rfl wpK))
  .have A:k=l.length:=qd
   subst A;have h1:=nlt l.length;rw[dj,bu (by omega:B.length<=l.length),hE.down]
   repeat' (first|exact⟨⟩|refine sp ?_)
   all_goals first|exact .inr ⟨_,rfl⟩|rfl|skip
end Go.Proofs.YtfcindonokhbeaaGreatDoor
end
section
namespace Go.Proofs.YtfcindonokhbeaaGreatDoor
open Go Go.Dm Go.Proofs.Tryz Go.Shelf
def zAW:Go.Shelf.Ren:=⟨λ| 22=>93 | 29=>166 | 30=>167|n=>n,λ| 24=>27 | 9=>59 | 3=>3 | 4=>4 | 0=>0|n=>n,fun|n=>n⟩
def zPG:InsL prog zAW:={
 mixed:=qg
 f22:=⟨Tryz.f93.name,qh,Tryz.func93.trans (congrArg some qg)⟩
 ov:=λa w b v h=>by
  have:=run_callFunc_extern func166 qg qg qg (e:=Extern.SlicesOverlaps.overlaps #[27,27] #[4]) qg a w;refine this.trans ?_;rw[show (Extern.SlicesOverlaps.overlaps #[27,27] #[4] a).run prog w=.ok v b from h]
  rfl
 t0:=Tryz.underlying0
 a0:=Tryz.isAgg0
 z0:=Tryz.sizeOf0
 v0:=Tryz.zeroValue0
 t3:=Tryz.underlying3
 a3:=Tryz.isAgg3
 z3:=Tryz.sizeOf3
 v3:=Tryz.zeroValue3
 t4:=Tryz.underlying4
 a4:=Tryz.isAgg4
 z4:=Tryz.sizeOf4
 v4:=Tryz.zeroValue4
 t24:=Tryz.underlying27
 a24:=Tryz.isAgg27
 z24:=Tryz.sizeOf27
 v24:=Tryz.zeroValue27 }
def zPH{h:aF}{id a n i:Nat}{es:Bc}{x:List PV}(hid:h[id]?=some (.arr 2 es false))(b:h[a]?=some (.arr 2 [x] false))(e:id≠a)(g:n<=es.length)(f:i<=n)(j:n<=1000000):
  aA prog 93 [.c (.own id 0 n),.c (.p (.i .i64 i)),.c (.own a 0 1)] h λd l=>d=.c (.own (h.length+1) 0 (n+1))/\l=h.set id .dead++[.dead,.arr 2 (iH i x (es.take n)) false] :=
 wZ (k:=2) aC zPG (iX func93 rfl rfl) (by show (tab 59).size=2;rw[tab59]) qh (by show (tab 27).k=_;rw[tab27];rfl)
  hid b e g f (by show (n+1)*(tab 59).bytes<=_;rw[tab59];simp only;omega) qd
end Go.Proofs.YtfcindonokhbeaaGreatDoor
end
section
namespace Go.Proofs.YtfcindonokhbeaaGreatDoor
open Go Go.Dm Go.Proofs Go.Proofs.Tryz
def NH{α:Type}(p:α->Bool){l:List α}{k:Nat}{x:α}(h:l[k]?=some x):(l.take (k+1)).any p=((l.take k).any p || p x):=by
 rw[dm,h];simp
def zFe(A:List Int)(v:Int):(A.any λz=>z==v)=A.contains v:=by
 rw[gi,jj,List.contains_iff_mem];constructor
 .rintro⟨z,h,e⟩;rw[<- eq_of_beq e];exact h
 .intro h;exact⟨v,h,ql⟩
def EJ{α:Type}(p:α->Bool){l:List α}{k:Nat}{x:α}(h:l[k]?=some x):(l.take (k+1)).filter p=(l.take k).filter p++(if p x then [x] else []):=by
 rw[dm,h,fq];cases a:p x<;>simp[a]
def zPL{l:Bm}{ids:List Int}(I:l.length<=100000)(hi:ids.length<=100000):ag 132 [.c (.p (.sl 4 (cZ l))),.c (.p (.sl 1 (cU ids)))] (.c (.p (.sl 4 (cZ (jV l ids))))):=by
 obtain⟨F,s⟩:∃F:Ly->Bool,F=λx=>ids.any λid=>(lT l id).contains x.i:=⟨_,rfl⟩;have t:jV l ids=l.filter F:=by rw[s];rfl
 rw[t];refine aG ?_;refine aa func132 λR hX=>?_
 repeat' (first|exact⟨⟩|refine sp ?_)
 refine bG aC aI (α:=Nat) (λi=>⟨57,[(0,.c (.p (.sl 4 (cZ l)))),(1,.c (.p (.sl 1 (cU ids)))),(5,.c (.own 0 0 ((l.take i).filter F).length)),(6,.c (.p (.i .i64 i)))],[.arr 4 (cZ ((l.take i).filter F)) false]⟩)
  (λi=>i<=l.length) (λi=>l.length-i) 0 (bc _) ((gS 5 4 rfl).trans (aV (aB qj rfl rfl wkK))) ?_
 intro i J;by_cases u:i<l.length
 .have n:=ay u;have L:=iG n;generalize l[i]=x at n L;have h:=PLift.up (EJ F n);have v:F x=ids.any λid=>(lT l id).contains x.i:=by rw[s]
  have w:((l.take i).filter F).length<=i:=bj (ei _ _) (jh ..);obtain⟨N,S,T,U⟩:=lk i l.length;generalize (l.take i).filter F=O at h w ⊢;clear n s t
  repeat' (first|exact⟨⟩|refine sp ?_)
  refine bG aC aI (α:=Nat) (λk=>⟨57,[(0,.c (.p (.sl 4 (cZ l)))),(1,.c (.p (.sl 1 (cU ids)))),(5,.c (.own 0 0 O.length)),(6,.c (.p (.i .i64 i))),(7,.c (.p (.b ((ids.take k).any λid=>(lT l id).contains x.i)))),(8,.c (.p (.i .i64 k)))],[.arr 4 (cZ O) false]⟩)
   (λk=>k<=ids.length) (λk=>ids.length-k) 0 (bc _) (aV (aB qj rfl rfl wkK)) ?_
  intro k t;by_cases y:k<ids.length
  .have o:=ay y;have B:=mU o;have g:=zFd (l:=l) (a:=ids[k]) I;have m:=pW l ids[k];have e:=NH (λid=>(lT l id).contains x.i) o;obtain⟨P,V,W,X⟩:=lk k ids.length;rw[<- zFe] at e;generalize ids[k]=d at o B g m e;generalize lT l d=A at g m e;generalize (ids.take k).any (λid=>(lT l id).contains x.i)=K at e ⊢;have e:=PLift.up e;clear o
   repeat' (first|exact⟨⟩|refine sp ?_|refine uN g ?_)
   refine bG aC aI (α:=Nat) (λj=>⟨57,[(0,.c (.p (.sl 4 (cZ l)))),(1,.c (.p (.sl 1 (cU ids)))),(5,.c (.own 0 0 O.length)),(6,.c (.p (.i .i64 i))),(7,.c (.p (.b (K || (A.take j).any λz=>z==x.i)))),(8,.c (.p (.i .i64 k))),(9,.c (.p (.sl 1 (cU A)))),(10,.c (.p (.i .i64 j)))],[.arr 4 (cZ O) false]⟩)
    (λj=>j<=A.length) (λj=>A.length-j) 0 (bc _) (aV (aB qj ql rfl (by simp only[lu,oo,dn];exact wkK))) ?_
   intro j Y;by_cases C:j<A.length
   .have q:=ay C;have D:=mU q;have f:=NH (λz=>z==x.i) q;obtain⟨Q,v2,Z,v4⟩:=lk j A.length;generalize A[j]=z at q D f;have f:(K || (A.take (j+1)).any λz=>z==x.i)=((K || (A.take j).any λz=>z==x.i) || (z==x.i)):=by rw[f,Bool.or_assoc]
    generalize (K || (A.take j).any λz=>z==x.i)=M at f ⊢;have f:=PLift.up f;clear q g;cases M<;>cases r:(z==x.i)
    all_goals
     repeat' (first|exact⟨⟩|refine sp ?_|refine dR (id:=13) aC aI [] [0,1,2,3,4,5,6,7,8,9,10,11,12,13] ?_)
     exact eO (j+1) qd qd (by rw[f.down,r];exact aV (aB rfl rfl rfl wkK))
   .have E:j=A.length:=qd
    subst E;rw[dj];have Q:=nlt A.length;clear g
    repeat' (first|exact⟨⟩|refine sp ?_)
    exact eO (k+1) qd qd (by rw[e.down];exact aV (aB rfl rfl rfl wkK))
  .have G:k=ids.length:=qd
   subst G;rw[dj,<- v];have P:=nlt ids.length;cases r:F x
   .repeat' (first|exact⟨⟩|refine sp ?_)
    exact eO (i+1) qd qd (by rw[h.down,r];simp only[av,ax,dh];exact aV (aB rfl rfl rfl wkK))
   .repeat' (first|exact⟨⟩|refine sp ?_|((with_reducible refine And.intro ?_ ?_);((first|omega|decide))))
    exact eO (i+1) qd qd (by rw[h.down,r];simp only[az,bo,bw,da];exact cK (dV [2] rfl hpK rfl wpK))
 .have H:i=l.length:=qd
  subst H;rw[dj];have N:=nlt l.length
  repeat' (first|exact⟨⟩|refine sp ?_)
  all_goals (repeat' (first|exact rfl|exact .inr ⟨_,rfl⟩|refine And.intro ?_ ?_))
def zTL{i p s:Int}{f:Bool}:zE9 prog 61 [.i .i64 i,.i .i64 p,.i .i64 s,.b f] [.i .i64 i,.i .i64 p,.i .i64 s,.b f] true:=by
 refine⟨qg,λg h w e j=>?_⟩
 have one:∀g:Bb,[PV.i .i64 i,.i .i64 p,.i .i64 s,.b f].map jM=g.map some->g=[.int .i64 i,.int .i64 p,.int .i64 s,.bool f]:=λg e=>by
  match g,e with
  | [a,b,c,d],e=>simp only[dt,gw,jM,fk,b0,jw] at e;rw[<- e.1,<- e.2.1,<- e.2.2.1,<- e.2.2.2]
  | [],e=>simp at e
  | [_],e=>simp at e
  | [_,_],e=>simp at e
  | [_,_,_],e=>simp at e
  | _::_::_::_::_::_,e=>simp at e
 rw[one g e,one h j];have m:=Tryz.underlying3;have n:=Tryz.isAgg3;have o:=Tryz.sizeOf3;have q:=Tryz.underlying4;have r:=Tryz.isAgg4;have t:=Tryz.sizeOf4;have k:Tryz.prog.underlying 61=some (.struct (Tryz.prog.fieldsOf 61)):=qg
 have l:Tryz.prog.stoodInHeld 61=false:=qg
 rw[show (10000:Nat)=9999+1 from rfl,run_equalIn_agg w 9999 61 _ _ k l]
 simp only[Program.fieldsOf,Tryz.underlying61]
 go_simp
def zSi{a:TI}{h:aF}{i p s:Int}{f:Bool}{K:Bd}(d:K (.c (.p (.b false))) h):
  zE6 prog 61 a h .neq (.agg [.p (.i .i64 i),.p (.i .i64 p),.p (.i .i64 s),.p (.b f)]) (.agg [.p (.i .i64 i),.p (.i .i64 p),.p (.i .i64 s),.p (.b f)]) K :=
 SC [.i .i64 i,.i .i64 p,.i .i64 s,.b f] [.i .i64 i,.i .i64 p,.i .i64 s,.b f] _ rfl rfl rfl rfl zTL (.inr ⟨rfl,d⟩)
def zTN{q:Ba}{n:Int}:zE9 prog 59 [.s q,.i .i64 n] [.s q,.i .i64 n] true:=by
 refine⟨qg,λd e w c f=>?_⟩
 have one:∀d:Bb,[PV.s q,.i .i64 n].map jM=d.map some->d=[.string ⟨q.toArray⟩,.int .i64 n]:=λd c=>by
  match d,c with
  | [a,b],c=>simp only[dt,gw,jM,fk,b0,jw] at c;rw[<- c.1,<- c.2]
  | [],c=>simp at c
  | [_],c=>simp at c
  | _::_::_::_,c=>simp at c
 rw[one d c,one e f];have j:=Tryz.underlying3;have k:=Tryz.isAgg3;have l:=Tryz.sizeOf3;have m:=Tryz.underlying9;have o:=Tryz.isAgg9;have p:=Tryz.sizeOf9;have g:Tryz.prog.underlying 59=some (.struct (Tryz.prog.fieldsOf 59)):=qg
 have h:Tryz.prog.stoodInHeld 59=false:=qg
 rw[show (10000:Nat)=9999+1 from rfl,run_equalIn_agg w 9999 59 _ _ g h]
 simp only[Program.fieldsOf,Tryz.underlying59]
 go_simp
def zSs{a:TI}{h:aF}{q:Ba}{n:Int}{K:Bd}(d:K (.c (.p (.b false))) h):
  zE6 prog 59 a h .neq (.agg [.p (.s q),.p (.i .i64 n)]) (.agg [.p (.s q),.p (.i .i64 n)]) K :=
 SC [.s q,.i .i64 n] [.s q,.i .i64 n] _ rfl rfl rfl rfl zTN (.inr ⟨rfl,d⟩)
def zOM{l:Bm}{a b:Int}(E:l.length<=100000)(q:OkG l):ag 73 [.c (.p (.sl 4 (cZ l))),.c (.p (.i .i64 a)),.c (.p (.i .i64 b))] (.c (.p (.i .i64 (rE l a b)))):=by
 have F:=zFd (l:=l) (a:=a) E;have G:=zFd (l:=l) (a:=b) E;have O:=pW l a;have P:=pW l b;have m:∀{k:Nat} {x:Int},(lT l a)[k]?=some x->yS (lT l b) ((lT l a).take k)<x:=λf=>zON (BV q.inc a) (λx f=>by
  obtain⟨y,H,rfl⟩:=zBQ f;have:=q.lo1 y H;omega) f
 rw[zKA];generalize lT l a=A at *;generalize lT l b=B at *;refine aa func73 λQ hX=>?_
 repeat' (first|simp only[*,go_sem,Nat.reduceLT,Nat.reduceEqDiff,↓reduceIte,Nat.reduceAdd,]|((with_reducible refine AF F ?_ ?_ ?_);exact rfl;exactλ_=>rfl)|((with_reducible refine AF G ?_ ?_ ?_);exact rfl;exactλ_=>rfl))
 clear F G;refine bG aC aI (α:=Nat) (λi=>⟨46,[(7,.c (.p (.sl 1 (cU A)))),(8,.c (.p (.sl 1 (cU B)))),(9,.c (.p (.i .i64 (yS B (A.take i))))),(10,.c (.p (.i .i64 i)))],[]⟩)
  (λi=>i<=A.length) (λi=>A.length-i) 0 (bc _) (aV (aB qj rfl rfl (by simp only[bR,cL];(repeat' (first|exact rfl|exact True.intro|refine And.intro ?_ ?_))))) ?_
 intro i R;by_cases t:i<A.length
 .have f:=ay t;have I:=mU f;have g:=m f;have d:yS B (A.take (i+1))=if B.contains A[i] then A[i] else yS B (A.take i):=by
   rw[dm,f];exact zC9 B _ _
  generalize A[i]=x at f I g d;generalize yS B (A.take i)=M at g d ⊢;have d:=PLift.up d;obtain⟨J,S,T,U⟩:=lk i A.length;clear f m
  repeat' (simp only[*,go_sem,Nat.reduceLT,Nat.reduceEqDiff,↓reduceIte,])
  refine bG aC aI (α:=Nat) (λk=>⟨46,[(7,.c (.p (.sl 1 (cU A)))),(8,.c (.p (.sl 1 (cU B)))),(9,.c (.p (.i .i64 (if (B.take k).any (λz=>z==x) then x else M)))),(10,.c (.p (.i .i64 i))),(11,.c (.p (.i .i64 k)))],[]⟩)
   (λk=>k<=B.length) (λk=>B.length-k) 0 (bc _) (aV (aB qj rfl rfl (by simp only[bR,cL];(repeat' (first|exact rfl|exact True.intro|refine And.intro ?_ ?_))))) ?_
  intro k V;by_cases u:k<B.length
  .have r:=ay u;have v:=mU r;have n:=NH (λz=>z==x) r;obtain⟨K,W,X,Y⟩:=lk k B.length;generalize B[k]=z at r v n;obtain⟨N,s⟩:∃N,(if (B.take k).any (λz=>z==x) then x else M)=N:=⟨_,rfl⟩
   have L:(if N<x then x else N)=x:=by
    have:N=x∨N=M:=by
     rw[<- s];split
     .exact .inl rfl
     .exact .inr rfl
    rcases this with e|e
    .rw[e];simp
    .rw[e,aw g]
   have j:(if (B.take (k+1)).any (λz=>z==x) then x else M)=if (z==x) then x else N:=by
    rw[n,<- s];cases (z==x)<;>simp
   rw[s];have j:=PLift.up j;clear r n s g;cases w:(x==z)
   .have o:(z==x)=false:=by
     rw[lh];intro h;rw[eq_of_beq h] at w;simp at w
    repeat' (first|simp only[*,go_sem,Nat.reduceLT,Nat.reduceEqDiff,↓reduceIte,]|((refine aK (id:=10) aC aI [] [0,1,2,3,4,5,6,7,8] qi ?_);(repeat' (first|(refine aM ?_)|((refine fR ?_ rfl rfl ?_ ?_);(rotate_left 1);(focus ((repeat' (simp only[*,go_sem,Nat.reduceLT,Nat.reduceEqDiff,↓reduceIte,]));exact rfl));(simp only[aD]))))))
    exact eO (k+1) qd qd (by rw[j.down,o];exact aV (aB rfl rfl rfl (by simp only[bR,cL];(repeat' (first|exact rfl|exact True.intro|refine And.intro ?_ ?_)))))
   .have o:(z==x)=true:=by rw[eq_of_beq w];simp
    repeat' (first|simp only[*,go_sem,Nat.reduceLT,Nat.reduceEqDiff,↓reduceIte,]|((refine aK (id:=10) aC aI [] [0,1,2,3,4,5,6,7,8] qi ?_);(repeat' (first|(refine aM ?_)|((refine fR ?_ rfl rfl ?_ ?_);(rotate_left 1);(focus ((repeat' (simp only[*,go_sem,Nat.reduceLT,Nat.reduceEqDiff,↓reduceIte,]));exact rfl));(simp only[aD]))))))
    exact eO (k+1) qd qd (by rw[j.down,o];exact aV (aB rfl rfl rfl (by simp only[bR,cL];(repeat' (first|exact rfl|exact True.intro|refine And.intro ?_ ?_)))))
  .have C:k=B.length:=qd
   subst C;rw[dj,zFe];have K:=nlt B.length
   repeat' (simp only[*,go_sem,Nat.reduceLT,Nat.reduceEqDiff,↓reduceIte,])
   exact eO (i+1) qd qd (by rw[d.down];exact aV (aB rfl rfl rfl (by simp only[bR,cL];(repeat' (first|exact rfl|exact True.intro|refine And.intro ?_ ?_)))))
 .have D:i=A.length:=qd
  subst D;rw[dj];have J:=nlt A.length
  repeat' (simp only[*,go_sem,Nat.reduceLT,Nat.reduceEqDiff,↓reduceIte,])
end Go.Proofs.YtfcindonokhbeaaGreatDoor
end
section
namespace Go.Proofs.YtfcindonokhbeaaGreatDoor
open Go Go.Dm Go.Proofs.Tryz Go.Shelf
def zAw:Go.Shelf.Ren:=⟨λ| 45=>86|n=>n,λ| 22=>27 | 23=>59 | 3=>3 | 4=>4 | 0=>0|n=>n,fun|n=>n⟩
def zOX:DelL prog zAw:={
 mixed:=qg
 f45:=⟨Tryz.f86.name,qh,Tryz.func86.trans (congrArg some qg)⟩
 t0:=Tryz.underlying0
 a0:=Tryz.isAgg0
 z0:=Tryz.sizeOf0
 v0:=Tryz.zeroValue0
 t3:=Tryz.underlying3
 a3:=Tryz.isAgg3
 z3:=Tryz.sizeOf3
 v3:=Tryz.zeroValue3
 t4:=Tryz.underlying4
 a4:=Tryz.isAgg4
 z4:=Tryz.sizeOf4
 v4:=Tryz.zeroValue4
 t22:=Tryz.underlying27
 a22:=Tryz.isAgg27
 z22:=Tryz.sizeOf27
 v22:=Tryz.zeroValue27 }
def zOY{h:aF}{id n i:Nat}{es:Bc}(hid:h[id]?=some (.arr 2 es false))(b:es.length=n)(a:i<n):
  aA prog 86 [.c (.own id 0 n),.c (.p (.i .i64 i)),.c (.p (.i .i64 (i+1)))] h λd e=>d=.c (.own h.length 0 (n-1))/\e=h.set id .dead++[.arr 2 (es.take i++es.drop (i+1)) false] :=
 NU (k:=2) aC zOX (iX func86 rfl rfl) (by show (tab 59).size=2;rw[tab59]) qh hid b a
end Go.Proofs.YtfcindonokhbeaaGreatDoor
end
