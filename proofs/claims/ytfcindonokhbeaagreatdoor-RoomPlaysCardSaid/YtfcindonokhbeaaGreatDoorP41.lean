/- Part 42 of roomPlays_card. No condition. -/
import Derived.Test.YtfcindonokhbeaaGreatDoorP34
import Derived.Test.YtfcindonokhbeaaGreatDoorP38
import Derived.Test.YtfcindonokhbeaaGreatDoorP24
set_option linter.all false
set_option maxRecDepth 100000
set_option maxHeartbeats 0
section
namespace Go.Proofs.YtfcindonokhbeaaGreatDoor
open Go Go.Dm Go.Proofs Go.Proofs.Tryz
def zMv{ts:List Bl}(J:ts.length<=3)(B:∀t∈ts,t.length<=120):
  ag 212 [.c (.p (.sl 1 (ts.map λt=>[.sl 5 (aP t)])))] (.c (.p (.sl 1 (Go.Dm.encS (Lib.compact ((ts.flatten.map It.p).mergeSort λx y=>decide (x<=y))))))):=by
 have w:(ts.map λt=>[PV.sl 5 (aP t)]).length=ts.length:=di _;have z:(∀x∈(ts.map λt=>[PV.sl 5 (aP t)]),x.length=1)=True:=fr λx g=>by
  obtain⟨t,_,rfl⟩:=cg.1 g;rfl
 have d:∀i t,ts[i]?=some t->(ts.map λt=>[PV.sl 5 (aP t)]).getD i []=[.sl 5 (aP t)]:=λi t h=>by
  simp only[ed,dv,h];rfl
 generalize (ts.map λt=>[PV.sl 5 (aP t)])=arg at *;refine aa func212 λK hX=>?_
 repeat' (first|exact⟨⟩|refine sp ?_)
 refine dM aC aI 3 1 rfl ?_;refine aJ aC aI (α:=Nat × List Ba) (λx=>⟨31,[(8,.c (.p (.sl 1 arg))),(9,.c (.p (.i .i64 ts.length))),(10,.c (.p (.i .i64 x.1))),(3,.c (.own 0 0 x.2.length))],[.arr 1 (Go.Dm.encS x.2) false]⟩)
  (λx=>x.1<=ts.length/\x.2.length<=120*x.1/\(ts.take x.1).flatten.map It.p=x.2) (λx=>ts.length-x.1) (0,[]) ⟨bc _,bg _,rfl⟩ (.inl (aB qj rfl rfl (by simp[bR,cL,bA,bD,aX,PC]))) ?_
 rintro⟨i,a⟩ ⟨C,m,j⟩;simp only at C m j;by_cases n:i<ts.length
 .have g:=ay n;have D:=d _ _ g;obtain⟨E,F,-,L⟩:=lk i ts.length;have r:=B _ (ch n);have b:(ts.take (i+1)).flatten.map It.p=a++ts[i].map It.p:=by
   rw[dm,g,ni,gh,j];simp
  generalize ts[i]=t at g D r b;clear d g j
  repeat' (first|exact⟨⟩|refine sp ?_|((with_reducible refine And.intro ?_ ?_);omega))
  refine aJ aC aI (α:=Nat × List Ba) (λx=>⟨31,[(8,.c (.p (.sl 1 arg))),(9,.c (.p (.i .i64 ts.length))),(10,.c (.p (.i .i64 i))),(14,.c (.p (.sl 5 (aP t)))),(15,.c (.p (.i .i64 t.length))),(16,.c (.p (.i .i64 x.1))),(3,.c (.own 0 0 x.2.length))],[.arr 1 (Go.Dm.encS x.2) false]⟩)
   (λx=>x.1<=t.length/\x.2.length<=120*i+x.1/\a++(t.take x.1).map It.p=x.2) (λx=>t.length-x.1) (0,a) ⟨bc _,m,ql⟩ (.inl (aB qj rfl rfl qo)) ?_
  rintro⟨k,o⟩ ⟨G,s,l⟩;simp only at G s l;by_cases u:k<t.length
  .have q:=ay u;have v:=bX q;obtain⟨H,-,-,M⟩:=lk k t.length;have e:a++(t.take (k+1)).map It.p=o++[t[k].p]:=by
    rw[dm,q,gh,<- gf,l];rfl
   generalize t[k]=y at q v e;have f:k+1<=t.length/\(o++[y.p]).length<=120*i+(k+1)/\a++(t.take (k+1)).map It.p=o++[y.p]:=⟨qd,qk,e⟩
   have N:o.length<=1000000:=qd
   clear q b l e
   repeat' (first|exact⟨⟩|refine sp ?_|((with_reducible refine And.intro ?_ ?_);((first|omega|decide))))
   exact dN (k+1,o++[y.p]) 0 3 f qf rfl rfl (aB rfl rfl rfl (by simp[bR,cL,bA,bD,aX,zJj,zE5,zJh,]))
  .have H:=aj k t.length;rw[bu qd,<- b] at l;have f:i+1<=ts.length/\o.length<=120*(i+1)/\(ts.take (i+1)).flatten.map It.p=o:=⟨qd,qd,l⟩
   clear b l
   repeat' (first|exact⟨⟩|refine sp ?_)
   exact cW (i+1,o) f qf (aB rfl rfl rfl qo)
 .have E:=aj i ts.length;rw[bu qd] at j;have A:a.length<=360:=qd
  rw[j];clear j d;have I:(a.mergeSort λx y=>decide (x<=y)).length=a.length:=iq ..
  repeat' (first|simp only[*,go_sem,Nat.reduceLT,Nat.reduceEqDiff,↓reduceIte,i7]|refine zJB (id:=0) (ss:=a) rp qd ?_|refine SU (id:=0) (ss:=a.mergeSort λx y=>decide (x<=y)) rp qd qd ?_)
  all_goals (try rw[ka ql])
def zPz{h:aF}{n:Nat}(q:n<=1000000000):
  aA prog 283 [.c (.p .nil),.c (.p (.i .i64 n))] h λd b=>d=.c (.own h.length 0 0)/\b=h++[.arr 2 [] false]:=by
 have:=qA (n:=n) (h:=h) (e:=136) aC (by rw[tab136];exactλh=>by cases h) (by rw[tab136];decide) (iX func283 rfl rfl)
  (λw=>Any8.slices_Grow_room Tryz.growConf none 0 0 0 w (bg _) qh qh (bg _))
  (λf z n w g j k r l m=>by
   have:=Any8.slices_Grow_grow Tryz.growConf f z g j k none 0 0 n [] w (bg _) qd (by simpa using l) (by simpa using m) ql (λ_=>rfl) (λa o=>by cases o)
   simp only[fm,kx] at this;exact this)
  (by rw[tab136];simp only;omega) qd
 rw[tab136] at this;exact this
def zFH{a b c:Bg}(e:a.length<=1000000)(f:b.length<=1000000)(g:c.length<=1000000):
  aA prog 215 [.c (.p (.sl 1 [[.sl 2 (eI a)],[.sl 2 (eI b)],[.sl 2 (eI c)]]))] [] λr h=>r=.c (.own 0 0 (a.length+b.length+c.length))/\h=[.arr 2 (eI (a++(b++c))) false]:=by
 have i:IntKind.i64.wrap (a.length:Int)=a.length:=wrap_i64 qd qd;have j:IntKind.i64.wrap ((a.length:Int)+(b.length:Int))=(a.length+b.length:Nat):=wrap_i64 qd qd;have k:IntKind.i64.wrap (((a.length+b.length:Nat):Int)+(c.length:Int))=(a.length+b.length+c.length:Nat):=wrap_i64 qd qd;have l:=aj a.length 0;have m:decide (((a.length+b.length:Nat):Int)<0)=false:=er qd;have o:decide (((a.length+b.length+c.length:Nat):Int)<0)=false:=er qd;refine zTy aC aI func215 rfl rfl λq s=>?_;simp only[f215,go_sem]
 repeat' (first|simp only[*,go_sem,Nat.reduceLT,Nat.reduceEqDiff,↓reduceIte,Nat.reduceAdd,Int.reduceLT,Int.reduceLE,Int.reduceAdd,Int.reduceToNat,lj,lE,l7,l8]|refine eH aC aI 4 ?_)
 refine(zPz (n:=a.length+b.length+c.length) qd).mono ?_;rintro d t ⟨rfl,rfl⟩
 repeat' (first|simp only[*,go_sem,Nat.reduceLT,Nat.reduceLeDiff,Nat.reduceEqDiff,↓reduceIte,Nat.reduceAdd,Int.reduceLT,Int.reduceLE,Int.reduceAdd,Int.reduceToNat,lj,lE,l7,l8]|refine eH aC aI 4 ?_|((with_reducible refine And.intro ?_ ?_);omega))
 try rw[gf]
 exact⟨rfl,bc _,rfl,_,_,rfl,rfl,rfl⟩
def zIy{c d q:Ba}{kk k m:Int}{tt:Nat}{dd:Ba}{eo:Bc}:
  aA prog 285 [.agg [.p (.s c),.p (.i .i64 kk)],.c (.ptr 2 0)] [.arr 2 eo false,.box [.p (.s q),.p (.i .i64 k),.p (.i .i64 m),.p (.f tt),.p (.sl 1 (bS dd))],.box [.p (.s d)]]
   λr h=>r=.c (.p (.b (c==d)))/\h=[.arr 2 eo false,.box [.p (.s q),.p (.i .i64 k),.p (.i .i64 m),.p (.f tt),.p (.sl 1 (bS dd))],.box [.p (.s d)]]:=by
 refine aa func285 λa e=>?_
 repeat' (simp only[*,go_sem,Nat.reduceLT,Nat.reduceEqDiff,↓reduceIte,Nat.reduceAdd,cG,aX])
def zL6{l:Bg}{d q:Ba}{k m:Int}{tt:Nat}{dd:Ba}{eo:Bc}(y:l.length<=1000000):
  aA prog 333 [.c (.p (.sl 2 (eI l))),.c (.clo 285 [.ptr 2 0])] [.arr 2 eo false,.box [.p (.s q),.p (.i .i64 k),.p (.i .i64 m),.p (.f tt),.p (.sl 1 (bS dd))],.box [.p (.s d)]]
   λr h=>(∃z:Int,decide (0<=z)=(l.any λc=>c.p==d)/\r=.c (.p (.i .i64 z)))/\h=[.arr 2 eo false,.box [.p (.s q),.p (.i .i64 k),.p (.i .i64 m),.p (.f tt),.p (.sl 1 (bS dd))],.box [.p (.s d)]]:=by
 refine aa func333 λA hX=>?_
 repeat' (first|exact⟨⟩|refine sp ?_)
 refine aJ aC aI (α:=Nat) (λt=>⟨19,[(0,.c (.p (.sl 2 (eI l)))),(1,.c (.clo 285 [.ptr 2 0])),(7,.c (.p (.i .i64 l.length))),(8,.c (.p (.i .i64 t)))],[.arr 2 eo false,.box [.p (.s q),.p (.i .i64 k),.p (.i .i64 m),.p (.f tt),.p (.sl 1 (bS dd))],.box [.p (.s d)]]⟩)
  (λk=>k<=l.length/\((l.drop k).any λc=>c.p==d)=(l.any λc=>c.p==d)) (λk=>l.length-k) 0 ⟨bc _,rfl⟩ (.inl (aB qj rfl rfl (by simp[bR,cL,bA,bD,aX,jZ]))) ?_
 rintro j ⟨B,b⟩;by_cases o:j<l.length
 .have e:=ay o;have u:=PB e;have n:=drop_at e;obtain⟨v,w,-,C⟩:=lk j l.length;generalize l[j]=x at e u n;rw[n,kg] at b;cases g:(x.p==d)
  .rw[g,dw] at b;have a:j+1<=l.length/\((l.drop (j+1)).any λc=>c.p==d)=(l.any λc=>c.p==d):=⟨qd,b⟩
   clear b n e
   repeat' (first|exact⟨⟩|refine sp ?_|((with_reducible refine And.intro ?_ ?_);omega))
   refine aA.mono zIy ?_;rintro _ _ ⟨rfl,rfl⟩;rw[g]
   repeat' (first|exact⟨⟩|refine sp ?_)
   exact cW (j+1) a qd (aB rfl rfl rfl (by simp[bR,cL,bA,bD,aX,jZ]))
  .rw[g,e8] at b;have a:PLift ((l.any λc=>c.p==d)=true):=⟨b.symm⟩;clear b n e
   repeat' (first|exact⟨⟩|refine sp ?_|((with_reducible refine And.intro ?_ ?_);omega))
   refine aA.mono zIy ?_;rintro _ _ ⟨rfl,rfl⟩;rw[g];clear g
   repeat' (simp only[*,go_sem,Nat.reduceLT,Nat.reduceEqDiff,↓reduceIte,Int.reduceNeg,cG,aX])
   exact⟨j,by rw[a.down];exact df qd,rfl⟩
 .have v:=aj j l.length;rw[cw qd,oo] at b;have a:PLift ((l.any λc=>c.p==d)=false):=⟨b.symm⟩;clear b
  repeat' (simp only[*,go_sem,Nat.reduceLT,Nat.reduceEqDiff,↓reduceIte,Nat.reduceAdd,Int.reduceNeg,cG,aX])
  refine⟨-1,by rw[a.down];decide,?_⟩
  first|rfl|trivial
def zAn{l:Bg}{d q:Ba}{k m:Int}{tt:Nat}{dd:Ba}{eo:Bc}{K:Bd}(e:l.length<=1000000)
  (g:K (.c (.p (.b (l.any λc=>c.p==d)))) [.arr 2 eo false,.box [.p (.s q),.p (.i .i64 k),.p (.i .i64 m),.p (.f tt),.p (.sl 1 (bS dd))],.box [.p (.s d)]]):
  aA prog 284 [.c (.p (.sl 2 (eI l))),.c (.clo 285 [.ptr 2 0])] [.arr 2 eo false,.box [.p (.s q),.p (.i .i64 k),.p (.i .i64 m),.p (.f tt),.p (.sl 1 (bS dd))],.box [.p (.s d)]] K:=by
 have a:=zL6 (l:=l) (d:=d) (q:=q) (k:=k) (m:=m) (tt:=tt) (dd:=dd) (eo:=eo) e;generalize (l.any λc=>c.p==d)=b at a g;refine VN aC aI func284 rfl rfl λh j=>?_;simp only[f284,go_sem]
 repeat' (first|exact⟨⟩|refine sp ?_)
 refine aA.mono a ?_;rintro _ _ ⟨⟨z,n,rfl⟩,rfl⟩
 repeat' (first|exact⟨⟩|refine sp ?_)
def DO{d:Dr}{a:Int}(s:d.L.length<=1000000):ag 67 [.agg (drv d),.c (.p (.i .i64 a))] (.c (.p (.i .i64 (KO d.L a)))):=by
 refine aa func67 λt hX=>?_
 repeat' (first|exact⟨⟩|refine sp ?_)
 refine bG aC aI (α:=Nat) (λk=>⟨23,[(1,.c (.p (.i .i64 a))),(2,.c (.ptr 0 0)),(5,.c (.p (.i .i64 k)))],[.box (drv d)]⟩)
  (λk=>k<=d.L.length/\∀(j:Nat) (y:Ly × Bl),j<k->d.L[j]?=some y->(y.1.i==a)=false) (λk=>d.L.length-k) 0 ⟨bc _,λj y h=>by omega⟩ (aV (aB qj rfl rfl wkK)) ?_
 rintro k ⟨u,b⟩;by_cases g:k<d.L.length
 .have e:=ay g;have q:=oI e;obtain⟨r,v,w,z⟩:=lk k d.L.length;generalize d.L[k]=x at e q;cases o:(x.1.i==a)
  .have f:PLift (k+1<=d.L.length/\∀(j:Nat) (y:Ly × Bl),j<k+1->d.L[j]?=some y->(y.1.i==a)=false):=⟨qd,λj y m n=>by
    rcases cc j k with h|h
    .exact b j y h n
    .have:j=k:=qd
     subst this;rw[e] at n;cases n;exact o⟩
   clear b e
   repeat' (first|exact⟨⟩|refine sp ?_)
   exact eO (k+1) f.down qd (aV (aB rfl rfl rfl wkK))
  .have f:=PLift.up (zHz b e o);clear b e
   repeat' (first|exact⟨⟩|refine sp ?_)
   all_goals rw[f.down]
 .have r:=aj k d.L.length;have f:=PLift.up (WA (l:=d.L) (a:=a) λj y m=>b j y (by have:=(bz.1 m).1;omega) m);clear b
  repeat' (first|exact⟨⟩|refine sp ?_)
  all_goals rw[f.down]
def mR{d:Dr}{s:Ba}(o:d.N.length<=1000000):ag 60 [.agg (drv d),.c (.p (.s s))] (.c (.p (.i .i64 (aW d.N s)))):=by
 refine aa func60 λq hX=>?_
 repeat' (first|exact⟨⟩|refine sp ?_)
 refine bG aC aI (α:=Nat) (λk=>⟨27,[(1,.c (.p (.s s))),(2,.c (.ptr 0 0)),(5,.c (.p (.i .i64 k)))],[.box (drv d)]⟩)
  (λk=>k<=d.N.length/\pT (d.N.drop k) s=pT d.N s) (λk=>d.N.length-k) 0 ⟨bc _,rfl⟩ (aV (aB qj rfl rfl wkK)) ?_
 rintro k ⟨r,a⟩;by_cases e:k<d.N.length
 .have g:=ay e;have j:=kQ g;have b:d.N.drop k=d.N[k]::d.N.drop (k+1):=ib e;obtain⟨m,t,u,v⟩:=lk k d.N.length;rw[b] at a;generalize d.N[k]=x at g j a;unfold pT at a;rw[mz] at a;cases h:(x.n==s)
  .rw[h] at a;have f:PLift (k+1<=d.N.length/\pT (d.N.drop (k+1)) s=pT d.N s):=⟨qd,a⟩
   clear a g b
   repeat' (first|exact⟨⟩|refine sp ?_)
   exact eO (k+1) f.down qd (aV (aB rfl rfl rfl wkK))
  .rw[h] at a;have f:PLift (aW d.N s=x.l):=⟨by unfold aW pT;rw[<- a]⟩
   clear a g b
   repeat' (first|exact⟨⟩|refine sp ?_)
   all_goals rw[f.down]
 .have m:=aj k d.N.length;rw[List.drop_eq_nil_of_le qd] at a;have f:PLift (aW d.N s=0):=⟨by unfold aW;rw[<- a];rfl⟩
  clear a
  repeat' (first|exact⟨⟩|refine sp ?_)
  all_goals rw[f.down]
def oS{d:Dr}{a:Int}(j:d.L.length<=1000000):ag 61 [.agg (drv d),.c (.p (.i .i64 a))] (.c (.p (.b (fN d a)))):=by
 have g:=DO (a:=a) j;unfold fN;rcases vW d a with⟨e,f⟩|⟨k,y,e,f,h⟩
 .rw[f] at g;rw[e];clear e f;refine aa func61 λl m=>?_
  repeat' (first|exact⟨⟩|refine sp ?_|refine uF g ?_)
 .rw[f] at g;rw[e];have o:=oI h;have n:=(bz.1 h).1;have q:decide ((0:Int)<=(k:Int))=true:=df qd;have r:(k:Int)<(d.L.length:Int):=qd
  have s:(0:Int)<=k:=qd
  clear e f h;refine aa func61 λl m=>?_
  repeat' (first|exact⟨⟩|refine sp ?_|refine uF g ?_)
def jF{d:Dr}{a:Int}(h:d.L.length<=1000000):ag 41 [.agg (drv d),.c (.p (.i .i64 a))] (.c (.p (.sl 5 (aP (cB d a))))):=by
 have f:=DO (a:=a) h;unfold cB;refine aG ?_;rcases vW d a with⟨b,e⟩|⟨k,y,b,e,g⟩
 .rw[e] at f;rw[b];clear b e;refine aa func41 λj l=>?_
  repeat' (first|refine sp ?_|refine uF f ?_)
  all_goals exact .inr ⟨_,rfl⟩
 .rw[e] at f;rw[b];have n:=oI g;have m:=(bz.1 g).1;have o:decide ((0:Int)<=(k:Int))=true:=df qd;have q:(k:Int)<(d.L.length:Int):=qd
  have r:(0:Int)<=k:=qd
  clear b e g;refine aa func41 λj l=>?_
  repeat' (first|exact⟨⟩|refine sp ?_|refine uF f ?_)
def zFR{d:Dr}{s:Ba}(f:d.L.length<=1000000)(g:d.N.length<=1000000):ag 70 [.agg (drv d),.c (.p (.s s))] (.tup [.c (.p (.sl 5 (aP (gA d s).1))),.c (.p (.i .i64 (gA d s).2))]):=by
 have e:=mR (s:=s) g;have b:=jF (a:=aW d.N s) f;unfold gA;generalize aW d.N s=n at e b ⊢;generalize cB d n=T at b ⊢;refine aG ?_;cases k:(n==0)
 .simp only[av,ax];refine aa func70 λh j=>?_
  repeat' (first|exact⟨⟩|refine sp ?_|refine uF e ?_|refine uN b ?_)
 .simp only[az];clear b;refine aa func70 λh j=>?_
  repeat' (first|refine sp ?_|refine uF e ?_)
  all_goals (repeat' (exact .inr ⟨_,rfl⟩))
def zDk{d:Dr}{a:Int}(j:d.L.length<=1000000)(m:∀y∈d.L,OkT y.2):ag 44 [.agg (drv d),.c (.p (.i .i64 a))] (.c (.p (.sl 7 (fG (xE d a))))):=by
 have l:=DO (a:=a) j;have g:∀i,OkT (cB d i):=λi=>by
  unfold cB;cases j:lX d i with
  | none=>exact OkT.nil
  | some y=>exact m y (lY j).1
 unfold xE;refine aG ?_;rcases vW d a with⟨f,h⟩|⟨k,y,f,h,n⟩
 .rw[h] at l;rw[f];clear f h;refine aa func44 λq r=>?_
  repeat' (first|exact⟨⟩|refine sp ?_|refine uF l ?_)
  all_goals exact .inr ⟨_,rfl⟩
 .rw[h] at l;rw[f];have s:=oI n;have t:=(bz.1 n).1;have v:=aj k 0;have w:(k:Int)<(d.L.length:Int):=qd
  have x:(0:Int)<=k:=qd
  have e:=jF (d:=d) (a:=y.1.p) j;have b:=zI4 (g y.1.p) (m y (lY f).1);obtain⟨⟨z,o,A,B⟩,u⟩:=y;simp only at e b s ⊢;generalize eW (cB d o) u=E at b ⊢;generalize cB d o=T at e b;clear f h n m g;refine aa func44 λq r=>?_
  repeat' (first|exact⟨⟩|refine sp ?_|refine uF l ?_|refine uN e ?_|refine uN b ?_|refine dG (id:=4) aC aI [] [0,1,2,3,4,5,6,7,8,9,10,11,12,13,14,15,16] ?_|refine aM ?_|refine d1 ?_ ?_ ?_|with_reducible exact rfl)
def NR{d:Dr}{s:Ba}(k:d.N.length<=1000000)(l:d.L.length<=1000000)(m:s.length<=1000000000):ag 65 [.agg (drv d),.c (.p (.s s))] (.c (.p (.i .i64 (iE d s)))):=by
 have b:=mR (s:=s) k;have e:=AZ (s:=s) qd;unfold iE;generalize bB s=a at e ⊢;generalize aW d.N s=n at b ⊢;cases a
 .simp only[br,az];clear b;refine aa func65 λg h=>?_
  repeat' (first|exact⟨⟩|refine sq ?_|refine uF e ?_)
 .cases j:(n==0)
  .have f:(n != 0)=true:=by rw[bne,j];rfl
   simp only[bh,br,av,ax,az];refine aa func65 λg h=>?_
   repeat' (first|exact⟨⟩|refine sq ?_|refine uF b ?_|refine uF e ?_)
  .have f:(n != 0)=false:=by rw[bne,j];rfl
   simp only[bh,av,ax];cases o:decide (20<=(d.N.length:Int))<;>cases q:decide (40<=(d.L.length:Int))<;>cases r:decide (2147483647<=d.x)
   all_goals simp only[ej,dn,az,av,ax]
   all_goals
    refine aa func65 λg h=>?_
    repeat' (first|exact⟨⟩|refine sq ?_|refine uF b ?_|refine uF e ?_)
def DP{d:Dr}(q:d.L.length<=1000000):ag 74 [.agg (drv d)] (.c (.p (.sl 4 (cZ d.G)))):=by
 refine aG ?_;refine aa func74 λr hX=>?_
 repeat' (first|exact⟨⟩|refine sp ?_)
 refine bG aC aI (α:=Nat) (λk=>⟨22,[(1,.c (.ptr 0 0)),(3,.c (.own 1 0 ((d.L.take k).map (·.1)).length)),(4,.c (.p (.i .i64 k)))],[.box (drv d),.arr 4 (cZ ((d.L.take k).map (·.1))) false]⟩)
  (λk=>k<=d.L.length) (λk=>d.L.length-k) 0 (bc _) ((gS 3 4 rfl).trans (aV (aB qj rfl rfl wkK))) ?_
 intro k s;by_cases f:k<d.L.length
 .have e:=ay f;have l:=oI e;have a:(d.L.take (k+1)).map (·.1)=(d.L.take k).map (·.1)++[d.L[k].1]:=by rw[dm,e,gh];rfl
  have g:((d.L.take k).map (·.1)).length<=k:=by rw[di];exact jh ..
  obtain⟨m,t,u,v⟩:=lk k d.L.length;have b:(d.L.take (k+1)).length=((d.L.take k).map (·.1)).length+1:=by rw[di,cr,cr];omega
  generalize d.L[k]=x at e l a;obtain⟨⟨w,y,z,A⟩,B⟩:=x;generalize (d.L.take k).map (·.1)=O at a g b ⊢
  have a:=PLift.up a;have b:=PLift.up b;clear e
  repeat' (first|refine sp ?_|((with_reducible refine And.intro ?_ ?_);((first|omega|decide))))
  exact eO (k+1) qd qd (by rw[a.down];(try rw[b.down]);simp only[];exact cK (dV [0,3] rfl hpK rfl wpK))
 .have h:k=d.L.length:=qd
  subst h;rw[dj];have m:=nlt d.L.length;have n:d.L.map (·.1)=d.G:=rfl
  rw[n];have j:d.G.length=d.L.length:=by simp[Dr.G]
  have o:d.G.take d.L.length=d.G:=by rw[<- j,dj]
  repeat' (first|exact⟨⟩|refine sp ?_)
  all_goals (repeat' (first|exact rfl|exact .inr ⟨_,rfl⟩|refine And.intro ?_ ?_))
def NQ{d:Dr}{a:Int}(j:d.L.length<=100000):ag 66 [.agg (drv d),.c (.p (.i .i64 a))] (.c (.p (.b (rF d a)))):=by
 have e:=DP (d:=d) qd;have f:d.G.length=d.L.length:=by simp[Dr.G]
 have g:=zKD (l:=d.G) (a:=a) qd;have h:=JT d.G a;unfold rF;generalize d.G=G at *;generalize cA G a=C at *;have k:=ar C.length;clear f h;refine aa func66 λm n=>?_
 repeat' (first|exact⟨⟩|refine sp ?_|refine uN e ?_|refine uN g ?_)
def zFS{d:Dr}{a:Int}{t:Bl}(u:d.L.length<=100000)(f:(lX d a).isSome=true):ag 64 [.agg (drv d),.c (.p (.i .i64 a)),.c (.p (.sl 5 (aP t)))] (.agg (drv (oN d a t))):=by
 have n:=DO (a:=a) (d:=d) qd;rcases vW d a with⟨g,b⟩|⟨k,y,g,b,e⟩
 .rw[g] at f;cases f
 .rw[b] at n;have o:=zC2 (t:=t) b e;unfold oN;rw[o];have v:=oI e;have q:=(bz.1 e).1;have w:(k:Int)<(d.L.length:Int):=qd
  have x:(0:Int)<=k:=qd
  obtain⟨⟨h,j,l,m⟩,z⟩:=y;have r:=PA d.L k h j l m t;have s:(d.L.set k (⟨h,j,l,m⟩,t)).take d.L.length=d.L.set k (⟨h,j,l,m⟩,t):=bu ql
  clear g b e o f;refine aa func64 λA B=>?_
  repeat' (first|exact⟨⟩|refine sp ?_|refine uF n ?_|((with_reducible refine And.intro ?_ ?_);((first|omega|decide))))
  all_goals (repeat' (first|exact rfl|exact .inr ⟨_,rfl⟩|refine And.intro ?_ ?_))
def JA{α β:Type}(f:α->Option β){l:List α}{k:Nat}{x:α}{y:β}(h:l[k]?=some x)(a:f x=some y):(l.take (k+1)).filterMap f=(l.take k).filterMap f++[y]:=by
 rw[dm,h,List.filterMap_append];simp[a]
def zFP{d:Dr}(Y:d.L.length<=100000)(P:d.N.length<=100000):ag 76 [.agg (drv d)] (.agg (drv (uO d))):=by
 have h:=DP (d:=d) qd;have Q:d.G.length=d.L.length:=by simp[Dr.G]
 have t:=zPL (l:=d.G) (ids:=d.N.map (·.l)) qd (by simpa using P)
 have f:=λa=>DO (d:=d) (a:=a) qd;refine aG ?_;refine aa func76 λZ hX=>?_
 repeat' (first|exact⟨⟩|refine sp ?_)
 refine bG aC aI (α:=Nat) (λk=>⟨51,[(1,.c (.ptr 0 0)),(2,.c (.ptr 1 0)),(3,.c (.own 2 0 ((d.N.take k).map (·.l)).length)),(4,.c (.p (.i .i64 k)))],[.box (drv d),.box [.p .nil,.p .nil,.p (.i .i64 0)],.arr 1 (cU ((d.N.take k).map (·.l))) false]⟩)
  (λk=>k<=d.N.length) (λk=>d.N.length-k) 0 (bc _) ((gS 3 1 rfl).trans (aV (aB qj rfl rfl wkK))) ?_
 intro k E;by_cases m:k<d.N.length
 .have n:=ay m;have C:=kQ n;have b:(d.N.take (k+1)).map (·.l)=(d.N.take k).map (·.l)++[d.N[k].l]:=by rw[dm,n,gh];rfl
  have r:((d.N.take k).map (·.l)).length<=k:=by rw[di];exact jh ..
  obtain⟨F,R,S,T⟩:=lk k d.N.length;have o:(d.N.take (k+1)).length=((d.N.take k).map (·.l)).length+1:=by rw[di,cr,cr];omega
  generalize d.N[k]=x at n C b;generalize (d.N.take k).map (·.l)=O at b r o ⊢
  have b:=PLift.up b;have o:=PLift.up o;clear n h t f
  repeat' (first|exact⟨⟩|refine sp ?_|((with_reducible refine And.intro ?_ ?_);((first|omega|decide))))
  exact eO (k+1) qd qd (by rw[b.down];(try rw[o.down]);(try simp only[bo,bw,da]);exact cK (dV [0,1,4] rfl hpK rfl wpK))
 .have s:k=d.N.length:=qd
  subst s;rw[dj];have F:=nlt d.N.length;have A:(d.N.map (·.l)).length=d.N.length:=ql
  have hit:(d.N.map (·.l)).take d.N.length=d.N.map (·.l):=by rw[<- A,dj]
  have B:uO d=⟨(jV d.G (d.N.map (·.l))).filterMap λy=>lX d y.i,d.N,d.x⟩:=rfl;have q:∀y∈jV d.G (d.N.map (·.l)),∃(j:Nat) (z:Ly × Bl),KO d.L y.i=j/\d.L[j]?=some z/\lX d y.i=some z:=λy U=>by
   have H:y∈d.G:=(dy.1 U).1;rcases vW d y.i with⟨u,v⟩|⟨j,z,u,v,D⟩
   .obtain⟨w,V,e⟩:=JH.1 H;exact absurd (by rw[<- e]) (FB u w V)
   .exact⟨j,z,v,D,u⟩
  rw[B];generalize M:jV d.G (d.N.map (·.l))=K at t q ⊢
  have W:K.length<=100000:=by
   rw[<- M];exact bj (ei _ _) qd
  generalize d.N.map (·.l)=I at t A hit ⊢
  clear M B
  repeat' (first|exact⟨⟩|refine sp ?_|refine uN h ?_|refine uN t ?_|((with_reducible apply aA.frz);exact rfl;exact rfl))
  refine bG aC aI (α:=Nat) (λk=>⟨51,[(1,.c (.ptr 0 0)),(2,.c (.ptr 1 0)),(5,.c (.p (.sl 4 (cZ K)))),(6,.c (.own 2 0 ((K.take k).filterMap λy=>lX d y.i).length)),(7,.c (.p (.i .i64 k)))],[.box (drv d),.box [.p .nil,.p .nil,.p (.i .i64 0)],.arr 5 (uL ((K.take k).filterMap λy=>lX d y.i)) false]⟩)
   (λk=>k<=K.length) (λk=>K.length-k) 0 (bc _) ((gS 6 5 rfl).trans (by rw[hX];exact cK (dV [0,1,3] rfl hpK rfl wpK))) ?_
  intro k E;by_cases m:k<K.length
  .have n:=ay m;have C:=iG n;obtain⟨j,z,u,v,D⟩:=q _ (ch m);have J:=oI v;have X:=(bz.1 v).1;have b:=JA (λy:Ly=>lX d y.i) n D;have r:((K.take k).filterMap λy=>lX d y.i).length<=k:=bj (List.length_filterMap_le _ _) (jh ..);have g:=f K[k].i;rw[u] at g;obtain⟨F,R,S⟩:=lk3 k K.length;have j2:(j:Int)<(d.L.length:Int):=qd
   have j3:(0:Int)<=j:=qd
   have T:=ar k;generalize K[k]=y at n C g;obtain⟨yi,yp,ys,yf⟩:=y;obtain⟨⟨zi,zp,zs,zf⟩,zt⟩:=z;generalize (K.take k).filterMap (λy=>lX d y.i)=O at b r ⊢;have b:=PLift.up b;simp only at g J C;clear n h t f q u v D
   repeat' (first|exact⟨⟩|refine sp ?_|((refine aK (id:=11) aC aI [12,13] [1,2,3,4,5,6,7,8,9,10,11,12,0,13,14] qi ?_);(repeat' (first|(refine aM ?_)|((refine bJ ?_ ?_ rfl rfl rfl ?_ ?_);(rotate_left 2);(focus ((repeat' (first|exact⟨⟩|refine sp ?_|((with_reducible refine And.intro ?_ ?_);((first|omega|decide)))));((refine And.intro ?_ ?_<;>exact rfl))));(simp only[aD]))|((refine bI ?_ rfl rfl rfl ?_ ?_);(rotate_left 1);(focus ((repeat' (first|exact aS|refine aL ?_ ?_));(all_goals ((repeat' (first|exact⟨⟩|refine sp ?_|refine uF g ?_));(try (exact rfl))))));(simp only[aD]))))))
   exact eO (k+1) qd qd (by rw[b.down];(try simp only[bo,bw,da]);exact cK (dV [0,1,4] rfl hpK rfl wpK))
  .have s:k=K.length:=qd
   subst s;rw[dj];have F:=nlt K.length;generalize K.filterMap (λy=>lX d y.i)=O;clear h t f q
   repeat' (first|exact⟨⟩|refine sp ?_)
   all_goals (repeat' (first|exact rfl|exact .inr ⟨_,rfl⟩|refine And.intro ?_ ?_))
def zFN{d:Dr}{s:Ba}{id:Int}(E:d.N.length<=100000):ag 68 [.agg (drv d),.c (.p (.s s)),.c (.p (.i .i64 id))] (.agg (drv ⟨d.L,bY d.N s id,d.x⟩)):=by
 refine aG ?_;refine aa func68 λF hX=>?_
 repeat' (first|exact⟨⟩|refine sp ?_)
 refine bG aC aI (α:=Nat) (λk=>⟨62,[(1,.c (.p (.s s))),(2,.c (.p (.i .i64 id))),(3,.c (.ptr 0 0)),(6,.c (.ptr 1 0)),(7,.c (.own 2 0 (JI (d.N.take k) s id).length)),(8,.c (.p (.b (XA (d.N.take k) s)))),(9,.c (.p (.i .i64 k)))],[.box (drv d),.box [.p .nil,.p .nil,.p (.i .i64 0)],.arr 2 (bW (JI (d.N.take k) s id)) false]⟩)
  (λk=>k<=d.N.length) (λk=>d.N.length-k) 0 (bc _) ((gS 7 2 rfl).trans (aV (aB qj rfl rfl wkK))) ?_
 intro k C;by_cases w:k<d.N.length
 .have u:=ay w;have B:=kQ u;have m:d.N.take (k+1)=d.N.take k++[d.N[k]]:=by rw[dm,u];rfl
  have e:=zCC (d.N.take k) s id;have e:(JI (d.N.take k) s id).length<=k+1:=bj e (by have:=jh k d.N;omega);obtain⟨D,G,H,I⟩:=lk k d.N.length;generalize d.N[k]=x at u B m;obtain⟨g,y⟩:=x;simp only at B;have n:=λh=>zMH (N:=d.N.take k) (s:=s) (id:=id) (x:=⟨g,y⟩) h;have o:=λh z=>zQb (N:=d.N.take k) (s:=s) (id:=id) (x:=⟨g,y⟩) h z;have q:=λh z=>zQa (N:=d.N.take k) (s:=s) (id:=id) (x:=⟨g,y⟩) h z;rw[<- m] at n o q;clear u m;cases r:XA (d.N.take k) s
  .cases v:cC g s
   .obtain ⟨f,a⟩:=q r v;generalize JI (d.N.take k) s id=O at a e ⊢;cases j:(g==s)
    .have l:(g != s)=true:=by rw[bne,j];rfl
     simp only[j,br,az] at a;have f:=PLift.up f;have a:=PLift.up a;clear n o q
     repeat' (first|exact⟨⟩|refine sq ?_|((with_reducible refine And.intro ?_ ?_);((first|omega|decide))))
     exact eO (k+1) qd qd (by rw[f.down,a.down];(try simp only[bo,bw,da]);exact cK (dV [0,1,6] rfl hpK rfl wpK))
    .have l:(g != s)=false:=by rw[bne,j];rfl
     simp only[j,bh,av,ax,dh] at a;have f:=PLift.up f;have a:=PLift.up a;clear n o q
     repeat' (first|exact⟨⟩|refine sq ?_|((with_reducible refine And.intro ?_ ?_);((first|omega|decide))))
     exact eO (k+1) qd qd (by rw[f.down,a.down];(try simp only[bo,bw,da]);exact cK (dV [0,1,4] rfl hpK rfl wpK))
   .obtain ⟨f,a⟩:=o r v;have j:(g==s)=false:=by
     rw[ji];rintro rfl;rw[cD] at v;cases v
    have l:(g != s)=true:=by rw[bne,j];rfl
    generalize JI (d.N.take k) s id=O at a e ⊢;have f:=PLift.up f;have a:=PLift.up a;clear n o q
    repeat' (first|exact⟨⟩|refine sq ?_|((with_reducible refine And.intro ?_ ?_);((first|omega|decide))))
    exact eO (k+1) qd qd (by rw[f.down,a.down];(try simp only[bo,bw,da]);exact cK (dV [0,1,4] rfl hpK rfl wpK))
  .obtain ⟨f,a⟩:=n r;generalize JI (d.N.take k) s id=O at a e ⊢;cases j:(g==s)
   .have l:(g != s)=true:=by rw[bne,j];rfl
    simp only[j,br,az] at a;have f:=PLift.up f;have a:=PLift.up a;clear n o q
    repeat' (first|exact⟨⟩|refine sq ?_|((with_reducible refine And.intro ?_ ?_);((first|omega|decide))))
    exact eO (k+1) qd qd (by rw[f.down,a.down];(try simp only[bo,bw,da]);exact cK (dV [0,1,4] rfl hpK rfl wpK))
   .have l:(g != s)=false:=by rw[bne,j];rfl
    simp only[j,bh,av,ax,dh] at a;have f:=PLift.up f;have a:=PLift.up a;clear n o q
    repeat' (first|exact⟨⟩|refine sq ?_)
    exact eO (k+1) qd qd (by rw[f.down,a.down];(try simp only[bo,bw,da]);exact cK (dV [0,1,2] rfl hpK rfl wpK))
 .have A:k=d.N.length:=qd
  subst A;rw[dj];have D:=nlt d.N.length;have e:=zCC d.N s id;cases r:XA d.N s
  .have t:JI d.N s id=d.N:=by unfold JI;rw[r];rfl
   rw[t,zFy r];clear e t
   repeat' (first|exact⟨⟩|refine sq ?_|((with_reducible refine And.intro ?_ ?_);((first|omega|decide))))
   all_goals (repeat' (rw[bu ql]))
  .have t:JI d.N s id=bY d.N s id:=by unfold JI;rw[r];rfl
   rw[t] at e ⊢;generalize bY d.N s id=O at e ⊢;clear t
   repeat' (first|exact⟨⟩|refine sq ?_)
   all_goals (repeat' (first|exact rfl|exact .inr ⟨_,rfl⟩|refine And.intro ?_ ?_))
def zOV{d:Dr}{s:Ba}(z:d.L.length<=10000)(A:d.N.length<=10000):
  ag 28 [.agg (drv d),.c (.p (.s s))] (.tup [.agg (drv (EC d s).1),.c (.p (.i .i64 (EC d s).2))]):=by
 have b:=mR (d:=d) (s:=s) qd;unfold EC;generalize aW d.N s=n at b ⊢;refine aG ?_;cases r:(n==0)
 .simp only[av,ax];have h:(kC d.N s).length<=d.N.length:=ei _ _;have e:=zFP (d:=⟨d.L,kC d.N s,d.x⟩) qf qf;generalize uO ⟨d.L,kC d.N s,d.x⟩=R at e ⊢;simp only[drv] at e;refine aa func28 λu hX=>?_
  repeat' (first|exact⟨⟩|refine sp ?_|refine uF b ?_)
  refine bG aC aI (α:=Nat) (λk=>⟨40,[(1,.c (.p (.s s))),(2,.c (.ptr 0 0)),(4,.c (.ptr 1 0)),(5,.c (.p (.i .i64 0))),(6,.c (.own 2 0 (kC (d.N.take k) s).length)),(7,.c (.p (.i .i64 k)))],[.box (drv d),.box [.p .nil,.p .nil,.p (.i .i64 0)],.arr 2 (bW (kC (d.N.take k) s)) false]⟩)
   (λk=>k<=d.N.length) (λk=>d.N.length-k) 0 (bc _) ((gS 6 2 rfl).trans (aV (aB qj rfl rfl wkK))) ?_
  intro k v;by_cases j:k<d.N.length
  .have f:=ay j;have t:=kQ f;have a:=EJ (λx:Nm=>!(x.n==s)) f;have l:(kC (d.N.take k) s).length<=k:=bj (ei _ _) (jh ..);obtain⟨w,B,C,D⟩:=lk k d.N.length;generalize d.N[k]=x at f t a;obtain⟨m,E⟩:=x;simp only at t a;change kC (d.N.take (k+1)) s=kC (d.N.take k) s++_ at a;generalize kC (d.N.take k) s=O at a l ⊢;clear f e h b r;cases g:(m==s)
   .have o:(m != s)=true:=by rw[bne,g];rfl
    simp only[g,br,az] at a;have a:=PLift.up a
    repeat' (first|exact⟨⟩|refine sq ?_|((with_reducible refine And.intro ?_ ?_);((first|omega|decide))))
    exact eO (k+1) qd qd (by rw[a.down];(try simp only[bo,bw,da]);exact cK (dV [0,1,4] rfl hpK rfl wpK))
   .have o:(m != s)=false:=by rw[bne,g];rfl
    simp only[g,bh,av,ax,dh] at a;have a:=PLift.up a
    repeat' (first|exact⟨⟩|refine sq ?_)
    exact eO (k+1) qd qd (by rw[a.down];exact aV (aB rfl rfl rfl wkK))
  .have q:k=d.N.length:=qd
   subst q;rw[dj];have w:=nlt d.N.length;generalize kC d.N s=O at *;have y:O.take O.length=O:=dj;clear b r
   repeat' (first|exact⟨⟩|refine sp ?_|refine uN e ?_|((with_reducible apply aA.frz);exact rfl;exact rfl))
   all_goals (repeat' (first|exact rfl|exact .inr ⟨_,rfl⟩|refine And.intro ?_ ?_))
 .simp only[az];refine aa func28 λu hX=>?_
  repeat' (first|exact⟨⟩|refine sp ?_|refine uF b ?_)
  all_goals (repeat' (first|exact rfl|exact .inr ⟨_,rfl⟩|refine And.intro ?_ ?_))
def NS{d:Dr}{s:Ba}{p q:Int}{t:Bl}(K:d.L.length<=10000)(M:d.N.length<=10000)(O:IntKind.i64.wrap (d.x+1)=d.x+1):
  ag 69 [.agg (drv d),.c (.p (.s s)),.c (.p (.i .i64 p)),.c (.p (.i .i64 q)),.c (.p (.sl 5 (aP t)))] (.agg (drv (vP d s p q t))):=by
 have k:=gQ d.N s d.x;have G:=zFN (d:=⟨d.L++[(⟨d.x,p,q,false⟩,t)],d.N,d.x⟩) (s:=s) (id:=d.x) qf;have l:=zFP (d:=⟨d.L++[(⟨d.x,p,q,false⟩,t)],bY d.N s d.x,d.x+1⟩) (by simp only[bo,bw,da];omega) qf;unfold vP;generalize uO ⟨d.L++[(⟨d.x,p,q,false⟩,t)],bY d.N s d.x,d.x+1⟩=R at l ⊢;simp only[drv] at G l;generalize bY d.N s d.x=C at *;have I:(d.L++[((⟨d.x,p,q,false⟩:Ly),t)]).take (d.L.length+1)=d.L++[((⟨d.x,p,q,false⟩:Ly),t)]:=bu ql;have P:(0:Nat)+d.L.length=d.L.length:=fm _;clear k;refine aG ?_;refine aa func69 λQ S=>?_
 repeat' (first|exact⟨⟩|refine sp ?_)
 obtain ⟨V,m,n,o,r,u,v,w,y,z,A,e,a,f,g,h⟩:∃V:Nat->DV,V 0=.c (.own 2 0 0)/\V 1=.c (.ptr 0 0)/\V 2=.c (.p (.sl 5 (uL d.L)))/\V 3=.c (.own 3 0 d.L.length)/\V 4=.c (.ptr 0 2)/\V 5=.c (.p (.i .i64 d.x))/\V 6=.c (.p (.i .i64 p))/\V 7=.c (.p (.i .i64 q))/\V 8=.agg [.p (.i .i64 d.x),.p (.i .i64 p),.p (.i .i64 q),.p (.b false)]/\V 9=.c (.p (.sl 5 (aP t)))/\V 10=.agg [.p (.i .i64 d.x),.p (.i .i64 p),.p (.i .i64 q),.p (.b false),.p (.sl 5 (aP t))]/\V 11=.c (.p (.sl 5 [[.i .i64 d.x,.i .i64 p,.i .i64 q,.b false,.sl 5 (aP t)]]))/\V 12=.c (.own 4 0 (d.L.length+1))/\V 13=.c (.ptr 0 0)/\V 14=.tup [] :=
  ⟨λi=>match i with
   | 0=>.c (.own 2 0 0)
   | 1=>.c (.ptr 0 0)
   | 2=>.c (.p (.sl 5 (uL d.L)))
   | 3=>.c (.own 3 0 d.L.length)
   | 4=>.c (.ptr 0 2)
   | 5=>.c (.p (.i .i64 d.x))
   | 6=>.c (.p (.i .i64 p))
   | 7=>.c (.p (.i .i64 q))
   | 8=>.agg [.p (.i .i64 d.x),.p (.i .i64 p),.p (.i .i64 q),.p (.b false)]
   | 9=>.c (.p (.sl 5 (aP t)))
   | 10=>.agg [.p (.i .i64 d.x),.p (.i .i64 p),.p (.i .i64 q),.p (.b false),.p (.sl 5 (aP t))]
   | 11=>.c (.p (.sl 5 [[.i .i64 d.x,.i .i64 p,.i .i64 q,.b false,.sl 5 (aP t)]]))
   | 12=>.c (.own 4 0 (d.L.length+1))
   | 13=>.c (.ptr 0 0)
   | _=>.tup [],rfl,rfl,rfl,rfl,rfl,rfl,rfl,rfl,rfl,rfl,rfl,rfl,rfl,rfl,rfl⟩
 obtain ⟨H,j,B,D,E,F⟩:∃H:Nat->aF,H 0=[.box (drv d),.box [.p .nil,.p .nil,.p (.i .i64 0)]]/\H 1=[.box (drv d),.box [.p .nil,.p .nil,.p (.i .i64 0)],.arr 5 [] false]/\H 2=[.box (drv d),.box [.p .nil,.p .nil,.p (.i .i64 0)],.dead,.arr 5 (uL d.L) false]/\H 3=[.box (drv d),.box [.p .nil,.p .nil,.p (.i .i64 0)],.dead,.dead,.arr 5 (uL (d.L++[(⟨d.x,p,q,false⟩,t)])) false]/\H 4=[.box [.own 4 0 (d.L.length+1),.p (.sl 2 (bW d.N)),.p (.i .i64 d.x)],.box [.p .nil,.p .nil,.p (.i .i64 0)],.dead,.dead,.arr 5 (uL (d.L++[(⟨d.x,p,q,false⟩,t)])) false] :=
  ⟨λi=>match i with
   | 0=>[.box (drv d),.box [.p .nil,.p .nil,.p (.i .i64 0)]]
   | 1=>[.box (drv d),.box [.p .nil,.p .nil,.p (.i .i64 0)],.arr 5 [] false]
   | 2=>[.box (drv d),.box [.p .nil,.p .nil,.p (.i .i64 0)],.dead,.arr 5 (uL d.L) false]
   | 3=>[.box (drv d),.box [.p .nil,.p .nil,.p (.i .i64 0)],.dead,.dead,.arr 5 (uL (d.L++[(⟨d.x,p,q,false⟩,t)])) false]
   | _=>[.box [.own 4 0 (d.L.length+1),.p (.sl 2 (bW d.N)),.p (.i .i64 d.x)],.box [.p .nil,.p .nil,.p (.i .i64 0)],.dead,.dead,.arr 5 (uL (d.L++[(⟨d.x,p,q,false⟩,t)])) false],rfl,rfl,rfl,rfl,rfl⟩
 refine WD.swp_drawnF aC aI [0,3,12,14] [0,1,2,3,4,5,6,7,8,9,10,11,12,13,14] 11 V (λc _=>H c) qi rfl j
  ⟨WD.goodD_chg (c:=0) rfl rfl rfl ?_,WD.goodD_all (c:=1) rfl rfl rfl ?_,WD.goodD_all (c:=1) rfl rfl rfl ?_,WD.goodD_chg (c:=1) rfl rfl rfl ?_,WD.goodD_all (c:=2) rfl rfl rfl ?_,WD.goodD_all (c:=2) rfl rfl rfl ?_,WD.goodD_all (c:=2) rfl rfl rfl ?_,WD.goodD_all (c:=2) rfl rfl rfl ?_,WD.goodD_all (c:=2) rfl rfl rfl ?_,WD.goodD_all (c:=2) rfl rfl rfl ?_,WD.goodD_all (c:=2) rfl rfl rfl ?_,WD.goodD_data (c:=2) rfl rfl rfl a ?_,WD.goodD_chg (c:=2) rfl rfl rfl ?_,WD.goodD_all (c:=3) rfl rfl rfl ?_,WD.goodD_chg (c:=3) rfl rfl rfl ?_,trivial⟩ ?_
 rotate_right 1
 .have J:cnt [0,3,12,14] [0,1,2,3,4,5,6,7,8,9,10,11,12,13,14]=4:=rfl;simp only[*,bM,go_sem,dZ,oq,eu,fp,j5,aD,aQ];clear m n o r u v w y z A e a f g h j B D E F
  repeat' (first|exact⟨⟩|refine sp ?_|refine uN G ?_|refine uN l ?_|((with_reducible apply aA.frz);exact rfl;exact rfl))
  all_goals (repeat' (first|exact rfl|exact .inr ⟨_,rfl⟩|refine And.intro ?_ ?_))
 all_goals (try (intro s T;(obtain rfl|rfl|rfl|rfl:s=0∨s=1∨s=2∨s=3:=by omega)<;>first|(exfalso;omega)|skip))
 all_goals repeat' (first|simp only[*,go_sem,Nat.reduceLT,Nat.reduceLeDiff,Nat.reduceEqDiff,↓reduceIte,Nat.reduceAdd,Nat.reduceMul,dZ,oq,eu,fp,j5,aD]|refine ai ?_)
 all_goals first|omega|exact⟨rfl,rfl⟩|rfl|trace_state
def zOW{d:Dr}{sn s:Ba}(h:OkW d)(z:d.L.length<=100)(x:s.length<=1000000000):
  ag 23 [.agg (drv d),.c (.p (.s sn)),.c (.p (.s s))] (.tup [.agg (drv (EN d sn s).1),.c (.p (.i .i64 (EN d sn s).2))]):=by
 have u:=h.ln;have g:=mR (d:=d) (s:=sn) qd;have j:=oS (d:=d) (a:=aW d.N sn) qd;have k:=NR (d:=d) (s:=s) qd qd x;have l:=NQ (d:=d) (a:=aW d.N sn) qd;have m:=jF (d:=d) (a:=aW d.N sn) qd;have b:iE d s=0->_:=λy=>NS (d:=d) (s:=s) (p:=aW d.N sn) (q:=0) (t:=cB d (aW d.N sn)) qd qd (zF h y);unfold EN;generalize aW d.N sn=n at *;generalize vP d s n 0 (cB d n)=R at *;generalize cB d n=T at *;generalize fN d n=f at *;generalize rF d n=p at *;generalize iE d s=e at *;clear h u;refine aG ?_;cases A:(n==0)
 .cases f
  .simp only[av,ax,br,az];clear k l m b;refine aa func23 λo r=>?_
   repeat' (first|exact⟨⟩|refine sp ?_|refine uF g ?_|refine uF j ?_)
   all_goals (repeat' (first|exact rfl|exact .inr ⟨_,rfl⟩|refine And.intro ?_ ?_))
  .cases v:(e==0)
   .have w:(e != 0)=true:=by rw[bne,v];rfl
    simp only[av,ax,br,bh,az];clear l m b;refine aa func23 λo r=>?_
    repeat' (first|exact⟨⟩|refine sp ?_|refine uF g ?_|refine uF j ?_|refine uF k ?_)
    all_goals (repeat' (first|exact rfl|exact .inr ⟨_,rfl⟩|refine And.intro ?_ ?_))
   .have w:(e != 0)=false:=by rw[bne,v];rfl
    have b:=b (by simpa using v);cases p
    .simp only[av,ax,bh];refine aa func23 λo r=>?_
     repeat' (first|exact⟨⟩|refine sp ?_|refine uF g ?_|refine uF j ?_|refine uF k ?_|refine uF l ?_|((refine aK (id:=11) aC aI [7] [0,1,2,3,4,5,6,7,8] qi ?_);(repeat' (first|(refine aM ?_)|((refine bJ ?_ ?_ rfl rfl rfl ?_ ?_);(rotate_left 2);(focus ((repeat' (first|exact⟨⟩|refine sp ?_));((refine And.intro ?_ ?_<;>exact rfl))));(simp only[aQ]))|((refine bI ?_ rfl rfl rfl ?_ ?_);(rotate_left 1);(focus ((repeat' (first|exact aS|refine aL ?_ ?_));(all_goals ((repeat' (first|exact⟨⟩|refine sp ?_|refine uN m ?_|refine uN b ?_));(try (exact rfl))))));(simp only[aD]))))))
     all_goals (repeat' (first|exact rfl|exact .inr ⟨_,rfl⟩|refine And.intro ?_ ?_))
    .simp only[av,ax,bh,az];clear m b;refine aa func23 λo r=>?_
     repeat' (first|exact⟨⟩|refine sp ?_|refine uF g ?_|refine uF j ?_|refine uF k ?_|refine uF l ?_)
     all_goals (repeat' (first|exact rfl|exact .inr ⟨_,rfl⟩|refine And.intro ?_ ?_))
 .simp only[az];clear j k l m b;refine aa func23 λo r=>?_
  repeat' (first|exact⟨⟩|refine sp ?_|refine uF g ?_)
  all_goals (repeat' (first|exact rfl|exact .inr ⟨_,rfl⟩|refine And.intro ?_ ?_))
def zFO{d:Dr}{s sn:Ba}(h:OkW d)(hl:d.L.length<=100)(W:sn.length<=1000000000):
  ag 22 [.agg (drv d),.c (.p (.s s)),.c (.p (.s sn))] (.tup [.agg (drv (gR d s sn).1),.c (.p (.i .i64 (gR d s sn).2))]):=by
 have H:=h.ln;have u:=mR (d:=d) (s:=s) qd;have v:=oS (d:=d) (a:=aW d.N s) qd;have w:=NR (d:=d) (s:=sn) qd qd W;have z:=NQ (d:=d) (a:=aW d.N s) qd;have o:=DO (d:=d) (a:=aW d.N s) qd;have B:=CG h (aW d.N s) (aW d.N s);have I:=zCi (aW d.N s) d.L;have J:=gQ d.N sn (aW d.N s);have m:=zFN (d:=⟨vM (aW d.N s) d.L,d.N,d.x⟩) (s:=sn) (id:=aW d.N s) qf;have j:=jF (d:=⟨vM (aW d.N s) d.L,d.N,d.x⟩) (a:=aW d.N s) qf;have b:iE d sn=0->_:=λX=>NS (d:=⟨vM (aW d.N s) d.L,bY d.N sn (aW d.N s),d.x⟩) (s:=s) (p:=aW d.N s) (q:=0) (t:=cB d (aW d.N s)) qf qf (show IntKind.i64.wrap (d.x+1)=d.x+1 from zF h X)
 unfold zPw at B;rw[B] at j;have g:=QG h s;unfold gR;have A:=vW d (aW d.N s);have r:=λ{k:Nat} {y:Ly × Bl}=>zHt (id:=aW d.N s) (l:=d.L) (k:=k) (y:=y);generalize aW d.N s=n at *;generalize cB d n=T at *;generalize vP ⟨vM n d.L,bY d.N sn n,d.x⟩ s n 0 T=R at *;generalize bY d.N sn n=C at *;generalize fN d n=f at *;generalize rF d n=p at *;generalize iE d sn=e at *;clear h H B J;refine aG ?_;cases Y:(n==0)
 .have g:=g Y;cases f
  .cases K:(e==0)
   .have M:(e != 0)=true:=by rw[bne,K];rfl
    simp only[av,ax,br,az];clear z j b o m A r g;refine aa func22 λD E=>?_
    repeat' (first|exact⟨⟩|refine sp ?_|refine uF u ?_|refine uF v ?_|refine uF w ?_)
    all_goals (repeat' (first|exact rfl|exact .inr ⟨_,rfl⟩|refine And.intro ?_ ?_))
   .have M:(e != 0)=false:=by rw[bne,K];rfl
    have b:=b (by simpa using K);cases p
    .simp only[av,ax,bh];rcases A with⟨O,F⟩|⟨k,y,O,F,G⟩
     .rw[O] at g;cases g
     rw[F] at o;have V:=r F G;have hg:=oI G;have Z:=(bz.1 G).1;have k2:(k:Int)<(d.L.length:Int):=qd
     have k3:(0:Int)<=k:=qd
     obtain⟨⟨P,Q,S,yf⟩,U⟩:=y;have hst:=PA d.L k P Q S true U;have htk:(d.L.set k (⟨P,Q,S,true⟩,U)).take d.L.length=d.L.set k (⟨P,Q,S,true⟩,U):=bu ql
     rw[V] at m j b;simp only[drv] at m j b;clear O F G V g r I;refine aa func22 λD E=>?_
     repeat' (first|exact⟨⟩|refine sp ?_|refine uF u ?_|refine uF v ?_|refine uF w ?_|refine uF z ?_|refine uF o ?_|((with_reducible refine And.intro ?_ ?_);((first|omega|decide))))
     refine zNs (WO 10 3 0 d.L.length rfl (iD rfl (by simp[zB4]))) ?_
     repeat' (first|exact⟨⟩|refine sp ?_|((refine aK (id:=14) aC aI [10] [0,1,2,3,4,5,6,7,8,9,10,11] qi ?_);(repeat' (first|(refine aM ?_)|((refine bJ ?_ ?_ rfl rfl rfl ?_ ?_);(rotate_left 2);(focus ((repeat' (first|exact⟨⟩|refine sp ?_));((refine And.intro ?_ ?_<;>exact rfl))));(simp only[aQ]))|((refine bI ?_ rfl rfl rfl ?_ ?_);(rotate_left 1);(focus ((repeat' (first|exact aS|refine aL ?_ ?_));(all_goals ((repeat' (first|exact⟨⟩|refine sp ?_|refine uN m ?_|refine uN j ?_|refine uN b ?_|((with_reducible apply aA.frz);exact rfl;exact rfl)));(try (exact rfl))))));(simp only[aD]))))))
     all_goals (repeat' (first|exact rfl|exact .inr ⟨_,rfl⟩|refine And.intro ?_ ?_))
    .simp only[av,ax,bh,az];clear j b o m A r g;refine aa func22 λD E=>?_
     repeat' (first|exact⟨⟩|refine sp ?_|refine uF u ?_|refine uF v ?_|refine uF w ?_|refine uF z ?_)
     all_goals (repeat' (first|exact rfl|exact .inr ⟨_,rfl⟩|refine And.intro ?_ ?_))
  .simp only[av,ax,az];clear w z j b o m A r g;refine aa func22 λD E=>?_
   repeat' (first|exact⟨⟩|refine sp ?_|refine uF u ?_|refine uF v ?_)
   all_goals (repeat' (first|exact rfl|exact .inr ⟨_,rfl⟩|refine And.intro ?_ ?_))
 .simp only[az];clear v w z j b o m A r g;refine aa func22 λD E=>?_
  repeat' (first|exact⟨⟩|refine sp ?_|refine uF u ?_)
  all_goals (repeat' (first|exact rfl|exact .inr ⟨_,rfl⟩|refine And.intro ?_ ?_))
end Go.Proofs.YtfcindonokhbeaaGreatDoor
end
