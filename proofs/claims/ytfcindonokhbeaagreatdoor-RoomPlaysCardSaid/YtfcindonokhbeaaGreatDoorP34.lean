/- Part 35 of roomPlays_card. No condition. -/
import Derived.Test.YtfcindonokhbeaaGreatDoorP27
import Derived.Test.YtfcindonokhbeaaGreatDoorP28
set_option linter.all false
set_option maxRecDepth 100000
set_option maxHeartbeats 0
section
namespace Go.Proofs.YtfcindonokhbeaaGreatDoor
open Go Go.Dm Go.Proofs Go.Proofs.Tryz
def zJB{h:aF}{id:Nat}{ss:List Ba}{K:Bd}(hid:h[id]?=some (.arr 1 (Go.Dm.encS ss) false))(a:ss.length<4611686018427387904)
  (b:K (.tup []) (h.set id (.arr 1 (Go.Dm.encS (ss.mergeSort λx y=>decide (x<=y))) false))):aA prog 135 [.c (.own id 0 ss.length)] h K :=
 aA.mono (zSI hid a) (by rintro d e ⟨rfl,rfl⟩;exact b)
def SU{h:aF}{id n:Nat}{ss:List Ba}{K:Bd}(hid:h[id]?=some (.arr 1 (Go.Dm.encS ss) false))(a:ss.length<4611686018427387904)(b:n=ss.length)
  (e:K (.c (.own id 0 (Lib.compact ss).length)) (h.set id (.arr 1 (Go.Dm.encS (Lib.compact ss++List.replicate (ss.length-(Lib.compact ss).length) [])) false))):aA prog 136 [.c (.own id 0 n)] h K:=by
 subst b;exact aA.mono (zFG hid a) (by rintro d f ⟨rfl,rfl⟩;exact e)
def zAx{a b:Bl}(N:a.length<=120)(O:b.length<=120)(A:Srt a)(B:Srt b)(C:∀x∈a,x.p≠[])(D:∀x∈b,x.p≠[])(q:∀x∈a,x.n.d.length<=2000)(r:∀x∈b,x.n.d.length<=2000):
  ag 79 [.c (.p (.sl 5 (aP a))),.c (.p (.sl 5 (aP b)))] (.c (.p (.sl 10 (jD (dB a b))))):=by
 have E:∀x∈a,x.n.d.length<=140737488355328:=λx h=>bj (q x h) qh;have F:∀x∈b,x.n.d.length<=140737488355328:=λx h=>bj (r x h) qh;have G:(a++b).length<=240:=by rw[bo];omega
 unfold dB AV;refine aa func79 λQ hX=>?_
 repeat' (first|exact⟨⟩|refine sp ?_|refine uN (zKJ (a:=a) (b:=b) qd qd) ?_|((with_reducible apply aA.frz);exact rfl;exact rfl)|refine ai ?_)
 have s:(a++b).length=a.length+b.length:=bo;generalize a++b=c at G s;refine dM aC aI 5 1 rfl ?_;refine aJ aC aI (α:=Nat × List Ba) (λx=>⟨69,[(0,.c (.p (.sl 5 (aP a)))),(1,.c (.p (.sl 5 (aP b)))),(19,.c (.p (.sl 5 (aP c)))),(20,.c (.p (.i .i64 ((a.length:Int)+b.length)))),(5,.c (.own 1 0 x.2.length)),(21,.c (.p (.i .i64 x.1)))],[.arr 1 [[.sl 5 (aP a)],[.sl 5 (aP b)]] true,.arr 1 (Go.Dm.encS x.2) false]⟩)
  (λx=>x.1<=c.length/\x.2.length<=x.1/\x.2++(c.drop x.1).map It.p=c.map It.p) (λx=>c.length-x.1) (0,[]) ⟨bc _,bg _,rfl⟩ (.inl (aB qj rfl rfl wkS)) ?_
 rintro⟨k,f⟩ ⟨w,l,e⟩;simp only at w l e;by_cases j:k<c.length
 .have h:=ay j;have H:=bX h;have u:=drop_at h;have z:decide ((k:Int)<(a.length:Int)+b.length)=true:=df qd;have P:=ar k;generalize c[k]=x at h H u;rw[u,dt] at e
  repeat' (first|exact⟨⟩|refine sp ?_|((with_reducible refine And.intro ?_ ?_);((first|omega|decide))))
  exact dN (k+1,f++[x.p]) 1 4 ⟨qf,qk,by simpa using e⟩ qf rfl rfl (aB rfl rfl rfl wkS)
 .have z:decide ((k:Int)<(a.length:Int)+b.length)=false:=er qd;rw[cw qd,gw,dh] at e;rw[<- e];clear e;have M:f.length<=240:=qd
  have I:(f.mergeSort λx y=>decide (x<=y)).length=f.length:=iq ..
  repeat' (first|simp only[*,go_sem,Nat.reduceLT,Nat.reduceEqDiff,↓reduceIte,kn,i7]|refine zJB (id:=1) (ss:=f) rp qd ?_|refine SU (id:=1) (ss:=f.mergeSort λx y=>decide (x<=y)) rp qd qd ?_)
  have J:(f.mergeSort λx y=>decide (x<=y)).length<=240:=qd
  generalize (f.mergeSort λx y=>decide (x<=y))=st at J;have K:=DL st;generalize List.replicate (f.length-(Lib.compact st).length) ([]:Ba)=m;generalize Lib.compact st=g at K;clear j z w l I;refine dM aC aI 8 10 rfl ?_;refine aJ aC aI (α:=Nat × Bh) (λx=>⟨69,[(0,.c (.p (.sl 5 (aP a)))),(1,.c (.p (.sl 5 (aP b)))),(34,.c (.own 1 0 g.length)),(35,.c (.p (.i .i64 g.length))),(36,.c (.p (.i .i64 x.1))),(8,.c (.own 2 0 x.2.length))],[.arr 1 [[.sl 5 (aP a)],[.sl 5 (aP b)]] true,.arr 1 (Go.Dm.encS (g++m)) false,.arr 10 (jD x.2) false]⟩)
   (λx=>x.1<=g.length/\x.2.length<=x.1/\x.2++zAk a b (g.drop x.1)=zAk a b g) (λx=>g.length-x.1) (0,[]) ⟨bc _,bg _,rfl⟩ (.inl (aB qj rfl rfl wkS)) ?_
  rintro⟨k,o⟩ ⟨w,l,e⟩;simp only at w l e;by_cases j:k<g.length
  .have h:=ay j;have u:=drop_at h;have v:(g++m)[k]?=some g[k]:=by rw[fu j];exact h
   have H:=Go.Dm.encS_at v;obtain⟨z,-,-,P⟩:=lk k g.length;generalize g[k]=p at h v H u;rw[u,zAk,chF] at e
   repeat' (first|exact⟨⟩|refine sp ?_|refine uN (gF (t:=a) qd A C E) ?_|refine uN (gF (t:=b) qd B D F) ?_|refine uN (zOh _ _) ?_|refine aH (λ_=>?_) (λ_=>?_)|((with_reducible refine And.intro ?_ ?_);((first|omega|decide))))
   .rename_i L;rw[aw L] at e;exact dN (k+1,o++[⟨p,xI (aN a p).isSome (aN b p).isSome ((aN a p).getD nd0) ((aN b p).getD nd0),(aN a p).getD nd0,(aN b p).getD nd0⟩]) 2 6 ⟨qf,qk,by simpa using e⟩ qf rfl rfl (aB rfl rfl rfl wkS)
   .rename_i L;rw[au (by rw[L];decide)] at e;exact cW (k+1,o) ⟨qf,qf,by simpa using e⟩ qf (aB rfl rfl rfl wkS)
  .have z:=aj k g.length;rw[cw qd,zAk,dh] at e
   repeat' (first|exact⟨⟩|refine sp ?_)
def zRB{a b:Bl}(d:OkT a)(e:OkT b):
  ag 79 [.c (.p (.sl 5 (aP a))),.c (.p (.sl 5 (aP b)))] (.c (.p (.sl 10 (jD (dB a b))))) :=
 zAx d.len e.len d.srt e.srt (λx f=>(d.its x f).1) (λx f=>(e.its x f).1) d.dlen e.dlen
def DM{t:Bl}(w:t.length<=1000000)(o:∀x∈t,x.n.d.length<=140737488355328):
  aA prog 96 [.c (.p (.sl 5 (aP t)))] [] λr h=>r=.c (.own 0 0 t.length)/\h=[.arr 5 (aP t) false]:=by
 refine zTy aC aI func96 rfl rfl λy hX=>?_;simp only[f96,go_sem]
 repeat' (first|exact⟨⟩|refine sp ?_)
 refine dM aC aI 3 5 rfl ?_;refine aJ aC aI (α:=Nat) (λk=>⟨23,[(6,.c (.p (.sl 5 (aP t)))),(7,.c (.p (.i .i64 t.length))),(8,.c (.p (.i .i64 k))),(3,.c (.own 0 0 k))],[.arr 5 (aP (t.take k)) false]⟩)
  (λk=>k<=t.length) (λk=>t.length-k) 0 (bc _) (.inl (aB qj rfl rfl wkS)) ?_
 intro k q;have b:min k t.length=k:=lq q;have e:(t.take k).length=k:=by rw[cr,b]
 by_cases f:k<t.length
 .have l:=ay f;have s:=bX l;obtain⟨u,-,-,z⟩:=lk k t.length;have a:t.take (k+1)=t.take k++[⟨t[k].p,t[k].n⟩]:=by rw[dm,l];rfl
  have g:=o _ (ch f);generalize t[k]=x at l s a g;generalize j:t.take k=v at e a;clear l j o
  repeat' (first|exact⟨⟩|refine sp ?_|((refine aK (id:=5) aC aI [7,8] [1,2,3,4,5,6,7,0,8,9] qi ?_);(repeat' (first|(refine aM ?_)|((refine bJ ?_ ?_ rfl rfl rfl ?_ ?_);(rotate_left 2);(focus ((repeat' (first|exact⟨⟩|refine sp ?_|((with_reducible refine And.intro ?_ ?_);((first|omega|decide)))));((refine And.intro ?_ ?_<;>exact rfl))));(simp only[aD]))|((refine bI ?_ rfl rfl rfl ?_ ?_);(rotate_left 1);(focus ((repeat' (first|exact aS|refine aL ?_ ?_));(all_goals ((repeat' (first|exact⟨⟩|refine sp ?_|refine uN (rU g) ?_));(try (exact rfl))))));(simp only[aD])))))|refine ai ?_)
  exact dN (k+1) 0 3 qd qd rfl rfl (aB rfl (by rw[a];rfl) rfl wkS)
 .have u:=aj k t.length;have m:k=t.length:=qd
  subst m;rw[dj];clear e b
  repeat' (first|exact⟨⟩|refine sp ?_)
  exact⟨rfl,bc _,rfl,_,_,rfl,rfl,rfl⟩
def goF(p:Ba)(it:Bool)(x:It):Bool:=aT p x.p || (it && x.p==p)
def zN4{q p:Ba}{it:Bool}{k m:Int}{tt:Nat}{d:Ba}{es:Bc}(a:p.length<=1000000000):
  aA prog 314 [.agg [.p (.s q),.p (.i .i64 k),.p (.i .i64 m),.p (.f tt),.p (.sl 1 (bS d))],.c (.ptr 0 0),.c (.ptr 1 0)] [.box [.p (.s p)],.box [.p (.b it)],.arr 5 es false]
   λr h=>r=.c (.p (.b (aT p q || (it && q==p))))/\h=[.box [.p (.s p)],.box [.p (.b it)],.arr 5 es false]:=by
 refine aa func314 λe g=>?_
 repeat' (first|simp only[*,go_sem,Nat.reduceLT,Nat.reduceEqDiff,↓reduceIte,Nat.reduceAdd,cG,aX]|refine uF (dE a) ?_|refine aY (λ_=>?_) (λ_=>?_))
 all_goals simp_all
def zN5{q p:Ba}{it:Bool}{k m:Int}{tt:Nat}{d:Ba}{es:Bc}(a:p.length<=1000000000):
  aA prog 314 [.agg [.p (.s q),.p (.i .i64 k),.p (.i .i64 m),.p (.f tt),.p (.sl 1 (bS d))],.c (.ptr 0 0),.c (.ptr 1 0)] [.box [.p (.s p)],.box [.p (.b it)],.arr 5 es false,.box [.p (.s q),.p (.i .i64 k),.p (.i .i64 m),.p (.f tt),.p (.sl 1 (bS d))]]
   λr h=>r=.c (.p (.b (aT p q || (it && q==p))))/\h=[.box [.p (.s p)],.box [.p (.b it)],.arr 5 es false,.box [.p (.s q),.p (.i .i64 k),.p (.i .i64 m),.p (.f tt),.p (.sl 1 (bS d))]]:=by
 refine aa func314 λe g=>?_
 repeat' (first|simp only[*,go_sem,Nat.reduceLT,Nat.reduceEqDiff,↓reduceIte,Nat.reduceAdd,cG,aX]|refine uF (dE a) ?_|refine aY (λ_=>?_) (λ_=>?_))
 all_goals simp_all
def zPE{t:Bl}{p:Ba}{it:Bool}(o:p.length<=1000000000)(z:t.length<=1000000):
  aA prog 344 [.c (.own 2 0 t.length),.c (.clo 314 [.ptr 0 0,.ptr 1 0])] [.box [.p (.s p)],.box [.p (.b it)],.arr 5 (aP t) false]
   λr h=>(∃i:Nat,i<=t.length/\(∀j x,t[j]?=some x->j<i->goF p it x=false)/\((∃x,t[i]?=some x/\goF p it x=true/\r=.c (.p (.i .i64 i)))∨(i=t.length/\r=.c (.p (.i .i64 (-1))))))/\h=[.box [.p (.s p)],.box [.p (.b it)],.arr 5 (aP t) false]:=by
 refine aa func344 λA hX=>?_
 repeat' (first|exact⟨⟩|refine sp ?_)
 refine aJ aC aI (α:=Nat) (λk=>⟨19,[(0,.c (.own 2 0 t.length)),(1,.c (.clo 314 [.ptr 0 0,.ptr 1 0])),(7,.c (.p (.i .i64 t.length))),(8,.c (.p (.i .i64 k)))],[.box [.p (.s p)],.box [.p (.b it)],.arr 5 (aP t) false]⟩)
  (λk=>k<=t.length/\∀j x,t[j]?=some x->j<k->goF p it x=false) (λk=>t.length-k) 0 ⟨bc _,λj x _ h=>by omega⟩ (.inl (aB qj rfl rfl wkS)) ?_
 rintro k ⟨q,f⟩;by_cases g:k<t.length
 .have d:=ay g;have u:=bX d;obtain⟨v,w,-,B⟩:=lk k t.length;generalize t[k]=x at d u;cases e:goF p it x
  .have l:k+1<=t.length/\∀j y,t[j]?=some y->j<k+1->goF p it y=false:=⟨qd,λj y m C=>by
    rcases cc j k with h|h
    .exact f j y m h
    .have:j=k:=qd
     subst this;rw[d] at m;cases m;exact e⟩
   have a:(aT p x.p || (it && x.p==p))=false:=e;clear f d e
   repeat' (first|exact⟨⟩|refine sp ?_|refine ai ?_)
   refine aA.mono (zN4 o) ?_;rintro _ _ ⟨rfl,rfl⟩;rw[a]
   repeat' (first|exact⟨⟩|refine sp ?_)
   exact cW (k+1) l qd (aB rfl rfl rfl wkS)
  .have a:(aT p x.p || (it && x.p==p))=true:=e
   repeat' (first|exact⟨⟩|refine sp ?_|refine ai ?_)
   refine aA.mono (zN4 o) ?_;rintro _ _ ⟨rfl,rfl⟩;rw[a];clear a
   repeat' (simp only[*,go_sem,Nat.reduceLT,Nat.reduceEqDiff,↓reduceIte,Int.reduceNeg,cG,aX])
   exact⟨k,q,f,.inl ⟨x,d,e,rfl⟩⟩
 .have v:=aj k t.length;have n:k=t.length:=qd
  subst n
  repeat' (simp only[*,go_sem,Nat.reduceLT,Nat.reduceEqDiff,↓reduceIte,Nat.reduceAdd,Int.reduceNeg,cG,aX])
  refine⟨t.length,bg _,f,.inr ?_⟩
  first|exact⟨rfl,rfl⟩|rfl
def xD(t:Bl)(i:Nat)(x:It):(aP t).set i [.s x.p,.i .i64 x.n.k,.i .i64 x.n.m,.f x.n.t,.sl 1 (bS x.n.d)]=aP (t.set i x):=by
 unfold aP;rw[jn];rfl
def zBX{t:Bl}{p:Ba}{it:Bool}{K:Bd}(G:p.length<=1000000000)(P:t.length<=1000000)
  (B:∀es:Bc,es.take (t.filter λx=>!goF p it x).length=aP (t.filter λx=>!goF p it x)->K (.c (.own 2 0 (t.filter λx=>!goF p it x).length)) [.box [.p (.s p)],.box [.p (.b it)],.arr 5 es false]):
  aA prog 313 [.c (.own 2 0 t.length),.c (.clo 314 [.ptr 0 0,.ptr 1 0])] [.box [.p (.s p)],.box [.p (.b it)],.arr 5 (aP t) false] K:=by
 refine VN aC aI func313 rfl rfl λW hX=>?_;simp only[f313,go_sem]
 repeat' (first|exact⟨⟩|refine sp ?_)
 refine aA.mono (zPE G P) ?_;rintro _ _ ⟨⟨i0,C,l,r⟩,rfl⟩;rcases r with⟨X,u,D,rfl⟩|⟨rfl,rfl⟩
 .have m:i0<t.length:=(bz.1 u).1;have q:((i0:Int) == -1)=false:=by rw[ji];omega
  have Q:IntKind.i64.wrap ((i0:Int)+1)=(i0+1:Nat):=wrap_i64 qd qd
  repeat' (first|exact⟨⟩|refine sp ?_)
  have a:(t.take i0).filter (λx=>!goF p it x)=t.take i0:=fw.2 λx n=>by
   obtain⟨j,z,rfl⟩:=ie.1 n;rw[km];have H:j<i0:=by simp at z;omega
   rw[l j _ (ay qd) H];rfl
  have N:(t.take (i0+1)).filter (λx=>!goF p it x)=t.take i0:=by
   rw[fC u,a,D];simp
  refine aJ aC aI (α:=Nat × Nat × Bl) (λx=>⟨42,[(0,.c (.own 2 0 t.length)),(1,.c (.clo 314 [.ptr 0 0,.ptr 1 0])),(5,.c (.p (.i .i64 x.2.1))),(6,.c (.p (.i .i64 x.1)))],[.box [.p (.s p)],.box [.p (.b it)],.arr 5 (aP x.2.2) false]⟩)
   (λx=>x.1<=t.length/\x.2.1<x.1/\x.2.2.length=t.length/\x.2.2.take x.2.1=(t.take x.1).filter (λx=>!goF p it x)/\x.2.2.drop x.1=t.drop x.1) (λx=>t.length-x.1) (i0+1,i0,t)
   ⟨qd,ql,rfl,by rw[N],rfl⟩ (.inl (aB qj rfl rfl wkS)) ?_
  clear a N l u D q Q m C;rintro⟨j,i,R⟩ ⟨z,E,v,d,h⟩;simp only at z E v d h;by_cases I:j<t.length
  .have n:=ay I;have o:R[j]?=some t[j]:=by
    have S:R[j]?=t[j]? := by
     have:=congrArg (·[0]?) h
     simpa[gu] using this
    exact S.trans n
   have T:=bX o;obtain⟨U,J,-⟩:=lk3 j t.length;have O:(i:Int)<(t.length:Int):=qd
   have Y:IntKind.i64.wrap ((j:Int)+1)=(j+1:Nat):=wrap_i64 qd qd;have Z:IntKind.i64.wrap ((i:Int)+1)=(i+1:Nat):=wrap_i64 qd qd;have e:=fC (g:=λx=>!goF p it x) n;generalize t[j]=x at n o T e;have f:R.drop (j+1)=t.drop (j+1):=by rw[<- kv,<- kv,h]
   cases A:goF p it x
   .rw [A] at e;have L:j+1<=t.length/\i+1<j+1/\(R.set i x).length=t.length/\(R.set i x).take (i+1)=(t.take (j+1)).filter (λx=>!goF p it x)/\(R.set i x).drop (j+1)=t.drop (j+1):=by
     refine⟨qd,qd,by simp[v],?_,?_⟩
     .rw[e,dm,j6 qd,od,pf ri,d];rfl
     .rw[List.drop_set,aw qd,f]
    have w:(aT p x.p || (it && x.p==p))=false:=A;have M:=bX (t:=R) (k:=i) (ay qd);generalize (R[i]' qd)=y at M;clear e d h f n o A
    repeat' (first|exact⟨⟩|refine sp ?_|refine ai ?_)
    refine aA.mono (zN5 G) ?_;rintro _ _ ⟨rfl,rfl⟩;rw[w]
    repeat' (first|exact⟨⟩|refine sp ?_|refine ai ?_)
    exact cW (j+1,i+1,R.set i x) L qf (aB rfl (by simp only[<- xD];rfl) rfl wkS)
   .rw[A] at e;have L:j+1<=t.length/\i<j+1/\R.length=t.length/\R.take i=(t.take (j+1)).filter (λx=>!goF p it x)/\R.drop (j+1)=t.drop (j+1):=⟨qd,qd,v,by rw[e,d];simp,f⟩
    have w:(aT p x.p || (it && x.p==p))=true:=A;clear e d h f n o A
    repeat' (first|exact⟨⟩|refine sp ?_|refine ai ?_)
    refine aA.mono (zN5 G) ?_;rintro _ _ ⟨rfl,rfl⟩;rw[w]
    repeat' (first|exact⟨⟩|refine sp ?_)
    exact cW (j+1,i,R) L qf (aB rfl rfl rfl wkS)
  .have U:=aj j t.length;have F:t.take j=t:=bu qd;rw[F] at d;have m:(t.filter λx=>!goF p it x).length=i:=by
    rw[<- d,cr];omega
   have J:(i:Int)<=(t.length:Int):=qd
   have C:(0:Int)<=i:=qd
   have V:i+(t.length-i)=R.length:=qd
   rw[m] at B;clear F h E
   repeat' (first|exact⟨⟩|refine sp ?_|refine ai ?_)
   all_goals first|refine B _ ?_|refine⟨qd,B _ ?_⟩
   all_goals exact ka (by simp[aP,m])
 .have a:t.filter (λx=>!goF p it x)=t:=fw.2 λx n=>by
   obtain⟨j,z,rfl⟩:=ie.1 n;rw[l j _ (ay z) z];rfl
  rw[a] at B;clear a
  repeat' (first|exact⟨⟩|refine sp ?_)
  all_goals exact B _ (bu ql)
def zKc{t:Bl}{p:Ba}{it:Bool}(f:p.length<=1000000000)(e:t.length<=1000000)(g:∀x∈t,x.n.d.length<=140737488355328):
  ag 242 [.c (.p (.sl 5 (aP t))),.c (.p (.s p)),.c (.p (.b it))] (.c (.p (.sl 5 (aP (t.filter λx=>!goF p it x))))):=by
 have h:=DM e g;refine aa func242 λi j=>?_
 repeat' (first|exact⟨⟩|refine sp ?_|refine zEX h rfl ?_)
 refine zBX f e λk a=>?_
 repeat' (first|exact⟨⟩|refine sp ?_)
 all_goals rw[a]
def sY{t:Bl}{p:Ba}(b:p.length<=1000000000)(e:t.length<=1000000)(f:∀x∈t,x.n.d.length<=140737488355328):
  ag 185 [.c (.p (.sl 5 (aP t))),.c (.p (.s p))] (.c (.p (.sl 5 (aP (bU t p))))):=by
 have g:bU t p=t.filter λx=>!goF p true x:=by
  rw[iK]
  congr 1
  funext x
  simp only[goF,cy];cases aT p x.p<;>cases x.p==p<;>rfl
 have a:=zKc (p:=p) (it:=true) b e f;rw[<- g] at a;refine aa func185 λh i=>?_
 repeat' (first|exact⟨⟩|refine sp ?_|refine uN a ?_)
def QH{t:Bl}{p:Ba}(h:OkT t):ag 177 [.c (.p (.sl 5 (aP t))),.c (.p (.s p))] (.c (.p (.sl 1 (Go.Dm.encS (eZ t p))))):=by
 have z:=h.len;have d:=h.plen;have e:=h.ne;clear h;unfold eZ;refine aa func177 λA hX=>?_
 repeat' (first|exact⟨⟩|refine sp ?_)
 refine dM aC aI 5 1 rfl ?_;refine aJ aC aI (α:=Nat × List Ba) (λx=>⟨34,[(1,.c (.p (.s p))),(8,.c (.p (.sl 5 (aP t)))),(9,.c (.p (.i .i64 t.length))),(10,.c (.p (.i .i64 x.1))),(5,.c (.own 0 0 x.2.length))],[.arr 1 (Go.Dm.encS x.2) false]⟩)
  (λx=>x.1<=t.length/\x.2.length<=x.1/\(((t.take x.1).filter λx=>aU x.p==p).map λx=>oG x.p)=x.2) (λx=>t.length-x.1) (0,[]) ⟨bc _,bg _,rfl⟩ (.inl (aB qj rfl rfl wkS)) ?_
 rintro⟨k,out⟩ ⟨r,l,a⟩;simp only at r l a;by_cases f:k<t.length
 .have j:=ay f;have u:=bX j;obtain⟨v,-,-,B⟩:=lk k t.length;have b:=fC (g:=λx=>aU x.p==p) j;have m:=d _ (ch f);have n:(t[k].p == [])=false:=by
   have:=e _ (ch f);simpa using this
  generalize t[k]=x at j u b m n;cases q:(aU x.p==p)
  .have o:k+1<=t.length/\out.length<=k+1/\(((t.take (k+1)).filter λx=>aU x.p==p).map λx=>oG x.p)=out:=⟨qd,qd,by rw[b,q,gh,a];simp⟩
   clear b j a d e
   repeat' (first|exact⟨⟩|refine sp ?_|refine uF (eY qd) ?_|refine ai ?_)
   exact cW (k+1,out) o qf (aB rfl rfl rfl wkS)
  .have o:k+1<=t.length/\(out++[oG x.p]).length<=k+1/\(((t.take (k+1)).filter λx=>aU x.p==p).map λx=>oG x.p)=out++[oG x.p]:=⟨qd,qk,by rw[b,q,gh,a];simp⟩
   clear b j a d e
   repeat' (first|exact⟨⟩|refine sp ?_|refine uF (eY qd) ?_|refine uF (zD2 qd) ?_|((with_reducible refine And.intro ?_ ?_);((first|omega|decide))))
   exact dN (k+1,out++[oG x.p]) 0 3 o qf rfl rfl (aB rfl rfl rfl wkS)
 .have v:=aj k t.length;rw[bu qd] at a;unfold xB;rw[a];have w:(out.mergeSort λx y=>decide (x<=y)).length=out.length:=iq ..;clear a
  repeat' (first|simp only[*,go_sem,Nat.reduceLT,Nat.reduceEqDiff,↓reduceIte,i7]|refine zJB (id:=0) (ss:=out) rp qd ?_)
  all_goals rw[bu ql]
def t3:Bl:=[⟨[97],⟨2,493,0,[]⟩⟩,⟨[97,47,98],⟨1,0,0,[]⟩⟩,⟨[99],⟨2,493,0,[]⟩⟩]
def zHk{h:aF}{i n:Nat}{es:Bc}{t:Bl}{p:Ba}{K:Bd}(f:h[i]?=some (.arr 5 es false))(e:es.take n=aP t)(g:t.length<=1000000)(k:Srt t)(l:∀j,NB t p j->K (qE t p j) h):
  aA prog 205 [.c (.own i 0 n),.c (.p (.s p))] h K :=
 zNB (R:=λd=>∃j,NB t p j/\d=qE t p j) rfl e (aA.mono (VQ g k) λd q ⟨j,a,b,c⟩=>⟨⟨j,a,b⟩,c⟩) f (λd ⟨j,m,o⟩=>by subst o;exact⟨rfl,l j m⟩)
def PU{h:aF}{id a n i:Nat}{es:Bc}{x:List PV}{K:Bd}(hid:h[id]?=some (.arr 5 es false))(b:h[a]?=some (.arr 5 [x] false))(d:id≠a)(g:n<=es.length)(e:i<=n)(f:n<=1000000)
  (j:K (.c (.own (h.length+1) 0 (n+1))) (h.set id .dead++[.dead,.arr 5 (iH i x (es.take n)) false])):
  aA prog 352 [.c (.own id 0 n),.c (.p (.i .i64 i)),.c (.own a 0 1)] h K :=
 aA.mono (zMd hid b d g e f) (by rintro _ _ ⟨rfl,rfl⟩;exact j)
def zKe{t:Bl}{p:Ba}{it:Bool}(g:p.length<=1000000000)(e:t.length<=1000000)(i:∀x∈t,x.n.d.length<=140737488355328):
  aA prog 242 [.c (.p (.sl 5 (aP t))),.c (.p (.s p)),.c (.p (.b it))] [] λr h=>∃es:Bc,es.take (t.filter λx=>!goF p it x).length=aP (t.filter λx=>!goF p it x)/\r=.c (.own 2 0 (t.filter λx=>!goF p it x).length)/\h=[.box [.p (.s p)],.box [.p (.b it)],.arr 5 es false]:=by
 have j:=DM e i;refine VN aC aI func242 rfl rfl λk l=>?_;simp only[f242,go_sem]
 repeat' (first|exact⟨⟩|refine sp ?_|refine zEX j rfl ?_)
 refine zBX g e λes a=>?_;generalize (t.filter λx=>!goF p it x)=f at a
 repeat' (first|exact⟨⟩|refine sp ?_)
 all_goals first|exact⟨es,a,rfl,rfl⟩|exact⟨es,a,rfl⟩|(trace_state;exact⟨es,a⟩)
def zKd{t:Bl}{p:Ba}{it:Bool}{h:aF}{K:Bd}(a:p.length<=1000000000)(e:t.length<=1000000)(f:∀x∈t,x.n.d.length<=140737488355328)
  (g:∀es:Bc,es.take (t.filter λx=>!goF p it x).length=aP (t.filter λx=>!goF p it x)->K (.c (.own (2+h.length) 0 (t.filter λx=>!goF p it x).length)) (h++[.box [.p (.s p)],.box [.p (.b it)],.arr 5 es false])):
  aA prog 242 [.c (.p (.sl 5 (aP t))),.c (.p (.s p)),.c (.p (.b it))] h K:=by
 refine aA.mono (aA.frame h rfl (zKe a e f)) ?_;rintro _ _ ⟨d0,j,⟨es,i,rfl,rfl⟩,rfl,rfl⟩;exact g es i
def DN{t:Bl}{h:aF}{K:Bd}(a:t.length<=1000000)(b:∀x∈t,x.n.d.length<=140737488355328)(e:K (.c (.own h.length 0 t.length)) (h++[.arr 5 (aP t) false])):
  aA prog 96 [.c (.p (.sl 5 (aP t)))] h K:=zEX (DM a b) rfl e
def EW(t:Bl)(i:Nat)(p:Ba)(k m:Int)(tt:Nat)(d:Ba):iH i [.s p,.i .i64 k,.i .i64 m,.f tt,.sl 1 (bS d)] (aP t)=aP (t.take i++⟨p,⟨k,m,tt,d⟩⟩::t.drop i):=by
 simp[iH,aP,It.cs,List.map_take,List.map_drop]
def zTP{t:Bl}{p:Ba}{k m:Int}{tt:Nat}{d:Ba}(h:OkT t)(L:p.length<=1000000000)(hd:d.length<=140737488355328)(U:tt<18446744073709551616):
  ag 308 [.c (.p (.sl 5 (aP t))),.c (.p (.s p)),.agg (ndc k m tt d)] (.tup [.c (.p (.sl 5 (aP (vB t p ⟨k,m,tt,d⟩).1))),.c (.p (.i .i64 (vB t p ⟨k,m,tt,d⟩).2))]):=by
 have htl:=h.len;have F:∀x∈t,x.n.d.length<=140737488355328:=λx r=>bj (h.dlen x r) qh;have o:=fZ (t:=t) (p:=aU p) qd h.srt;have a:=iA L;have e:=fD (k:=k) (m:=m) (d:=d) U;refine aG ?_;unfold vB;cases q0:(p == [])
 case true =>
  refine aa func308 λM N=>?_
  repeat' (first|exact⟨⟩|refine sp ?_)
  all_goals simp
 cases O:bZ p
 case false =>
  rw[O] at a;refine aa func308 λM N=>?_
  repeat' (first|exact⟨⟩|refine sq ?_|refine uF a ?_)
  all_goals simp
 cases T:aO ⟨k,m,tt,d⟩
 case false =>
  rw[O] at a;rw[T] at e;refine aa func308 λM N=>?_
  repeat' (first|exact⟨⟩|refine sq ?_|refine uF a ?_|refine uF e ?_)
  all_goals simp
 cases V:aZ t (aU p)
 case false =>
  rw[O] at a;rw[T] at e;rw[V] at o;refine aa func308 λM N=>?_
  repeat' (first|exact⟨⟩|refine sq ?_|refine uF a ?_|refine uF e ?_|refine uF (eY L) ?_|refine uF o ?_)
  all_goals simp
 rw [O] at a;rw[T] at e;rw[V] at o;have Y:(false || !true || !true)=false:=rfl;rw[Y,au qh,au qh];clear Y O T V;have B:=rU (k:=k) (m:=m) (t:=tt) (d:=d) hd;have P:(t.filter λx=>!goF p false x)=bN t p:=by
  unfold bN
  congr 1
  funext x
  simp[goF]
 have G:=h.toOkT0.filter (λx=>!aT p x.p);change OkT0 (bN t p) at G;cases q4:(k != 2)
 .simp only[av,ax];have E:=h.srt;have w:t.length<=(aP t).length:=my (cV t).symm;have Q:(aP t).take t.length=aP t:=bu (my (cV t));have R:=qV t p ⟨k,m,tt,d⟩;refine aa func308 λM N=>?_
  repeat' (first|exact⟨⟩|refine sq ?_|refine uF a ?_|refine uF e ?_|refine uF (eY L) ?_|refine uF o ?_|refine DN qd F ?_|refine zHk (i:=1) (t:=t) rfl Q qd E ?_)
  intro j H;unfold qE;have I:=H.1;have v:At t p j:=H;cases l:iY t p j
  .have z:=RP (n:=⟨k,m,tt,d⟩) E v (λx r=>by unfold iY at l;rw[r] at l;exact l)
   rw [z];have g:(t.take j++(⟨p,⟨k,m,tt,d⟩⟩:It)::t.drop j).length=t.length+1:=by
    rw[bo,bw,cr,fh];omega
   rw[g]
   repeat' (first|exact⟨⟩|refine sp ?_|refine uN B ?_|refine PU (x:=[.s p,.i .i64 k,.i .i64 m,.f tt,.sl 1 (bS d)]) rfl rfl qh w I qd ?_|refine aH (λ_=>?_) (λ_=>?_)|refine ai ?_)
   all_goals first|exact .inr ⟨_,rfl⟩|(rw[EW,bu (by rw[cV,g];exact bg _)])
  .unfold iY at l;have C:j<t.length:=by
    rcases cc j t.length with h|h
    .exact h
    .rw[jb h] at l;cases l
   have r:=ay C;rw[r] at l;have q:=MQ (n:=⟨k,m,tt,d⟩) E v r l;rw[q];have g:(t.set j ⟨p,⟨k,m,tt,d⟩⟩).length=t.length:=ff
   rw[g];have W:(j:Int)<(t.length:Int):=qd
   have D:=bX (t:=t) (k:=j) r;have S:=xD t j ⟨p,⟨k,m,tt,d⟩⟩;clear r l q v H;generalize t[j]=y at D
   repeat' (first|exact⟨⟩|refine sp ?_|refine uN B ?_|refine aH (λ_=>?_) (λ_=>?_)|refine ai ?_)
   all_goals first|exact .inr ⟨_,rfl⟩|(rw[bu (by rw[g];exact bg _)])
 .simp only[az];have E:=G.srt;have X:=qP t p;have R:=qV (bN t p) p ⟨k,m,tt,d⟩;have Z:∀(h:aF) (K:Bd),(∀J:Bc,J.take (bN t p).length=aP (bN t p)->K (.c (.own (2+h.length) 0 (bN t p).length)) (h++[.box [.p (.s p)],.box [.p (.b false)],.arr 5 J false])) ->
    aA prog 242 [.c (.p (.sl 5 (aP t))),.c (.p (.s p)),.c (.p (.b false))] h K:=λh K hk=>by
   refine zKd L qd F ?_;rw[P];exact hk
  refine aa func308 λM N=>?_
  repeat' (first|exact⟨⟩|refine sq ?_|refine uF a ?_|refine uF e ?_|refine uF (eY L) ?_|refine uF o ?_|refine DN qd F ?_|refine Z _ _ ?_)
  intro J A;clear Z P;generalize bN t p=u at G E X R A ⊢;have w:u.length<=J.length:=by
   have:=congrArg List.length A;rw[cr,cV] at this;omega
  repeat' (first|exact⟨⟩|refine sp ?_|refine zHk (i:=4) (t:=u) rfl A qd E ?_)
  intro j H;unfold qE;have I:=H.1;have v:At u p j:=H;cases l:iY u p j
  .have z:=RP (n:=⟨k,m,tt,d⟩) E v (λx r=>by unfold iY at l;rw[r] at l;exact l)
   rw [z];have g:(u.take j++(⟨p,⟨k,m,tt,d⟩⟩:It)::u.drop j).length=u.length+1:=by
    rw[bo,bw,cr,fh];omega
   rw[g]
   repeat' (first|exact⟨⟩|refine sp ?_|refine uN B ?_|refine PU (x:=[.s p,.i .i64 k,.i .i64 m,.f tt,.sl 1 (bS d)]) rfl rfl qh w I qd ?_|refine aH (λ_=>?_) (λ_=>?_)|refine ai ?_)
   all_goals first|exact .inr ⟨_,rfl⟩|(rw[EW,bu (by rw[cV,g];exact bg _)])
  .unfold iY at l;have C:j<u.length:=by
    rcases cc j u.length with h|h
    .exact h
    .rw[jb h] at l;cases l
   have r:=ay C;rw[r] at l;have q:=MQ (n:=⟨k,m,tt,d⟩) E v r l;rw[q];have g:(u.set j ⟨p,⟨k,m,tt,d⟩⟩).length=u.length:=ff
   rw[g];have W:(j:Int)<(u.length:Int):=qd
   have D:J.getD j []=u[j].cs:=by
    have h1:=bX (t:=u) (k:=j) r;rw[<- A,ed,gq,aw C,<- ed] at h1;exact h1
   have S:(J.set j [.s p,.i .i64 k,.i .i64 m,.f tt,.sl 1 (bS d)]).take u.length=aP (u.set j ⟨p,⟨k,m,tt,d⟩⟩):=by
    rw[od,A];exact xD u j ⟨p,⟨k,m,tt,d⟩⟩
   have hje:(j:Int)<(J.length:Int):=qd
   clear r l q v H;generalize u[j]=y at D;unfold It.cs at D
   repeat' (first|exact⟨⟩|refine sp ?_|refine uN B ?_|refine aH (λ_=>?_) (λ_=>?_)|refine ai ?_)
   all_goals first|exact .inr ⟨_,rfl⟩|rw[S]
def VU{t:Bl}{p:Ba}{i:Nat}(c:Srt t)(h:NB t p i):iY t p i=(aN t p).isSome:=by
 cases a:iY t p i
 .rw[zAI c h a];rfl
 .unfold iY at a;cases b:t[i]? with
  | none=>rw[b] at a;cases a
  | some x=>rw[b] at a;rw[PK c b a];rfl
def zMr(t:Bl)(a b:Ba):Int :=
 if a == [] || b == [] || !bZ a || !bZ b then 1 else if !(aN t a).isSome then 6 else if aT a b then 18 else if (aN t b).isSome then 7 else if !aZ t (aU b) then 9 else 0
def zIa{t:Bl}{a b:Ba}(f:t.length<=1000000)(d:Srt t)(k:a.length<=1000000000)(l:b.length<=1000000000):
  ag 310 [.c (.p (.sl 5 (aP t))),.c (.p (.s a)),.c (.p (.s b))] (.c (.p (.i .i64 (zMr t a b)))):=by
 have e:=fZ (t:=t) (p:=aU b) f d;have g:=iA k;have h:=iA l;unfold zMr;generalize bZ a=m at *;generalize bZ b=n at *;generalize aZ t (aU b)=o at *;refine aa func310 λw x=>?_
 repeat' (first|exact⟨⟩|refine sp ?_)
 refine zJW (VQ f d) rfl (λ_ _=>rfl) λi q=>?_;unfold qE;rw[VU d q];generalize (aN t a).isSome=r
 repeat' (first|exact⟨⟩|refine sp ?_)
 refine zJW (VQ f d) rfl (λ_ _=>rfl) λj u=>?_;unfold qE;rw[VU d u];generalize (aN t b).isSome=v;cases m<;>cases n<;>cases r<;>cases v<;>cases o
 all_goals repeat' (first|exact⟨⟩|refine sq ?_|refine uF g ?_|refine uF h ?_|refine uF (dE k) ?_|refine uF (eY l) ?_|refine uF e ?_|with_reducible refine aH (λ_=>?_) (λ_=>?_)|with_reducible refine aY (λ_=>?_) (λ_=>?_))
 all_goals simp_all
def zPX{q a:Ba}{k k' m m':Int}{t t':Nat}{d d':Ba}:
  ag 311 [.agg [.p (.s q),.p (.i .i64 k),.p (.i .i64 m),.p (.f t),.p (.sl 1 (bS d))],.agg [.p (.s a),.p (.i .i64 k'),.p (.i .i64 m'),.p (.f t'),.p (.sl 1 (bS d'))]] (.c (.p (.i .i64 (HP q a)))):=by
 refine aa func311 λb e=>?_
 repeat' (first|exact⟨⟩|refine sp ?_|refine uF oD ?_)
def zQD{h:aF}{id:Nat}{l:Bl}(q:∀x∈l,∀y∈l,x.p=y.p->x=y)(hid:h[id]?=some (.arr 5 (aP l) false))(e:l.length<4611686018427387904):
  aA prog 142 [.c (.own id 0 l.length),.c (.clo 311 [])] h λd r=>d=.tup []/\r=h.set id (.arr 5 (aP (iW l)) false):=by
 have:=nV (P:=prog) (f:=142) (g:=311) 5 qh cfI zBD
  (iX Tryz.func142 rfl rfl) (enters_of func311 qg rfl)
  (λm s t c u n o i d w j v k e=>Tryz.slices_SortFunc_f142 5 Tryz.isAgg147 Tryz.sizeOf147 m s t c u 311 #[] n o i d w (enters_of func311 qg rfl) j v k e)
  (λp i z w=>Tryz.slices_SortFunc_none_f142 (α:=Nat) p i z w)
  (h:=h) (i0:=id) (es:=aP l) (λx A y B=>by
   obtain⟨a,_,rfl⟩:=cg.1 A;obtain⟨b,_,rfl⟩:=cg.1 B;exact zPX) (SP q) hid (by rw[cV];exact e)
 rw[VK,cV] at this;exact this
def zQE{h:aF}{id:Nat}{l:Bl}{K:Bd}(b:∀x∈l,∀y∈l,x.p=y.p->x=y)(a:l.length<4611686018427387904)(hid:h[id]?=some (.arr 5 (aP l) false))(d:K (.tup []) (h.set id (.arr 5 (aP (iW l)) false))):
  aA prog 142 [.c (.own id 0 l.length),.c (.clo 311 [])] h K :=
 aA.mono (zQD b hid a) (by rintro _ _ ⟨rfl,rfl⟩;exact d)
def zPM{t w:Bl}{q p:Ba}{k m:Int}{tt:Nat}{d:Ba}(e:OkT w)(o:p.length<=1000000):
  aA prog 290 [.agg [.p (.s q),.p (.i .i64 k),.p (.i .i64 m),.p (.f tt),.p (.sl 1 (bS d))],.c (.ptr 0 0),.c (.ptr 1 0)] [.box [.p (.sl 5 (aP t)),.p (.sl 5 (aP w))],.box [.p (.s p)]]
   λr h=>r=.c (.p (.b (aT p q && (aN w q).isSome)))/\h=[.box [.p (.sl 5 (aP t)),.p (.sl 5 (aP w))],.box [.p (.s p)]]:=by
 have g:=e.len;have a:=gF (t:=w) (p:=q) qd e.srt e.ne (λx j=>bj (e.dlen x j) qh);generalize (aN w q).getD nd0=n at a;generalize (aN w q).isSome=l at a ⊢;obtain⟨u,v,y,z⟩:=n;unfold Nd.cv at a;simp only at a;refine aa func290 λA B=>?_;cases l
 all_goals repeat' (first|simp only[*,go_sem,Nat.reduceLT,Nat.reduceLeDiff,Nat.reduceEqDiff,↓reduceIte,Nat.reduceAdd,cG,aX]|refine uN a ?_|refine uF (dE (p:=p) qd) ?_|refine aY (λ_=>?_) (λ_=>?_))
 all_goals simp_all
def zMg{t w:Bl}{p:Ba}(o:OkT w)(C:t.length<=1000000)(u:p.length<=1000000):
  aA prog 344 [.c (.p (.sl 5 (aP t))),.c (.clo 290 [.ptr 0 0,.ptr 1 0])] [.box [.p (.sl 5 (aP t)),.p (.sl 5 (aP w))],.box [.p (.s p)]]
   λr h=>(∃i:Int,r=.c (.p (.i .i64 i))/\decide (0<=i)=PX t w p)/\h=[.box [.p (.sl 5 (aP t)),.p (.sl 5 (aP w))],.box [.p (.s p)]]:=by
 refine aa func344 λD hX=>?_
 repeat' (first|exact⟨⟩|refine sp ?_)
 refine aJ aC aI (α:=Nat) (λk=>⟨19,[(0,.c (.p (.sl 5 (aP t)))),(1,.c (.clo 290 [.ptr 0 0,.ptr 1 0])),(7,.c (.p (.i .i64 t.length))),(8,.c (.p (.i .i64 k)))],[.box [.p (.sl 5 (aP t)),.p (.sl 5 (aP w))],.box [.p (.s p)]]⟩)
  (λk=>k<=t.length/\(t.drop k).any (λy=>aT p y.p && (aN w y.p).isSome)=PX t w p) (λk=>t.length-k) 0 ⟨bc _,rfl⟩ (.inl (aB qj rfl rfl wkS)) ?_
 rintro k ⟨E,a⟩;by_cases l:k<t.length
 .have e:=ay l;have v:=bX e;have g:=drop_at e;obtain⟨z,A,B,F⟩:=lk k t.length;generalize t[k]=x at e v g;rw[g,kg] at a;have j:=zPM (t:=t) (w:=w) (q:=x.p) (p:=p) (k:=x.n.k) (m:=x.n.m) (tt:=x.n.t) (d:=x.n.d) o u;cases b:(aT p x.p && (aN w x.p).isSome)
  .rw[b,dw] at a;rw[b] at j;have f:=PLift.up a;clear a e g b
   repeat' (first|exact⟨⟩|refine sp ?_)
   refine aA.mono j ?_;rintro _ _ ⟨rfl,rfl⟩
   repeat' (first|exact⟨⟩|refine sp ?_)
   exact cW (k+1) ⟨qd,f.down⟩ qd (aB rfl rfl rfl wkS)
  .rw[b,e8] at a;rw[b] at j;have f:=PLift.up a;clear a e g b
   repeat' (first|exact⟨⟩|refine sp ?_)
   refine aA.mono j ?_;rintro _ _ ⟨rfl,rfl⟩
   repeat' (simp only[*,go_sem,Nat.reduceLT,Nat.reduceEqDiff,↓reduceIte,Int.reduceNeg,cG,aX])
   exact⟨k,rfl,by rw[<- f.down];exact df qd⟩
 .have z:=aj k t.length;rw[cw qd] at a;have f:=PLift.up a;clear a
  repeat' (simp only[*,go_sem,Nat.reduceLT,Nat.reduceEqDiff,↓reduceIte,Nat.reduceAdd,Int.reduceNeg,cG,aX])
  exact⟨-1,rfl,by rw[<- f.down];rfl⟩
def zPN{t w:Bl}{p:Ba}(a:OkT w)(d:t.length<=1000000)(e:p.length<=1000000):
  aA prog 289 [.c (.p (.sl 5 (aP t))),.c (.clo 290 [.ptr 0 0,.ptr 1 0])] [.box [.p (.sl 5 (aP t)),.p (.sl 5 (aP w))],.box [.p (.s p)]]
   λr h=>r=.c (.p (.b (PX t w p)))/\h=[.box [.p (.sl 5 (aP t)),.p (.sl 5 (aP w))],.box [.p (.s p)]]:=by
 refine aa func289 λj k=>?_
 repeat' (first|exact⟨⟩|refine sp ?_)
 refine aA.mono (zMg a d e) ?_;rintro _ _ ⟨⟨i,rfl,f⟩,rfl⟩;have g:decide (i>=0)=PX t w p:=f
 repeat' (simp only[*,go_sem,Nat.reduceLT,↓reduceIte,cG,aX])
def zHY{t w:Bl}{p:Ba}(a:OkT w)(d:t.length<=1000000)(e:p.length<=1000000):
  ag 220 [.agg [.p (.sl 5 (aP t)),.p (.sl 5 (aP w))],.c (.p (.s p))] (.c (.p (.b (PX t w p)))):=by
 refine aa func220 λf g=>?_
 repeat' (first|exact⟨⟩|refine sp ?_)
 refine aA.mono (zPN a d e) ?_;rintro _ _ ⟨rfl,rfl⟩
 repeat' (first|exact⟨⟩|refine sp ?_)
def zCz{t w:Bl}{p:Ba}(f:OkT t)(g:OkT w)(j:p.length<=1000000):
  ag 149 [.agg [.p (.sl 5 (aP t)),.p (.sl 5 (aP w))],.c (.p (.s p))] (.c (.p (.b (wA t w p)))):=by
 have k:=f.len;have l:=g.len;have m:=fZ (t:=t) (p:=p) qd f.srt;have n:=fZ (t:=w) (p:=p) qd g.srt;have o:=QH (p:=p) f;have q:=zHY (t:=t) (w:=w) (p:=p) g qd j;unfold wA;generalize aZ t p=a at *;generalize aZ w p=b at *;generalize PX t w p=c at *;generalize r:eZ t p=e at *;have i:decide ((e.length:Int)>=2) = !decide ((e.length:Int)<2):=by
  by_cases h:(e.length:Int)<2
  .rw[df h,er qd];rfl
  .rw[er h,df qd];rfl
 have u:decide (2<=(e.length:Int)) = !decide ((e.length:Int)<2):=i;generalize decide ((e.length:Int)<2)=d at *;refine aa func149 λv x=>?_;cases a<;>cases b<;>cases c<;>cases d
 all_goals repeat' (first|exact⟨⟩|refine sq ?_|refine uF m ?_|refine uF n ?_|refine uN o ?_|refine uF q ?_)
 all_goals rfl
def zL3{t w:Bl}{p:Ba}(u:OkT t)(f:OkT w)(E:p.length<=1000000):
  ag 150 [.agg [.p (.sl 5 (aP t)),.p (.sl 5 (aP w))],.c (.p (.s p))] (.c (.p (.b (HW w (lK t w) p)))):=by
 have i:=zB0 p;have v:=f.len;refine aa func150 λF hX=>?_
 repeat' (first|exact⟨⟩|refine sp ?_|refine uF (eY (p:=p) qd) ?_)
 refine aJ aC aI (α:=Nat × Ba) (λx=>⟨35,[(2,.c (.ptr 0 0)),(5,.c (.p (.s x.2)))],[.box [.p (.sl 5 (aP t)),.p (.sl 5 (aP w))]]⟩)
  (λx=>x.2.length<=x.1/\x.1<=p.length/\zFJ w (lK t w) x.1 x.2=HW w (lK t w) p) (λx=>x.1) (p.length,aU p) ⟨i,bg _,rfl⟩ (.inl (aB qj rfl rfl wkS)) ?_
 rintro⟨n,q⟩ ⟨y,z,a⟩;simp only at y z a;cases e:(q == [])
 .have j:(q != [])=true:=by rw[bne,e];rfl
  have d:q≠[]:=by simpa using e
  obtain⟨n,rfl⟩:∃m,n=m+1:=⟨n-1,by have:=o6.2 d;omega⟩
  have k:(aU q).length<=n:=by
   by_cases h:aU q=[]
   .rw[h];exact bc _
   .have:=uU h;omega
  rw[wW d,<- zR1 f d] at a;have g:=gF (t:=w) (p:=q) qd f.srt f.ne (λx A=>bj (f.dlen x A) qh);have l:=fZ (t:=w) (p:=q) qd f.srt;have o:=zCz (p:=q) u f qd;unfold zTC at a;generalize (aN w q).getD nd0=x at g;generalize (aN w q).isSome=B at g a;generalize aZ w q=r at l a;generalize wA t w q=C at o a;obtain⟨G,H,I,J⟩:=x;unfold Nd.cv at g;simp only at g;cases B<;>cases r<;>cases C
  all_goals simp only[bh,br,ej,dn,az,av,ax] at a
  case true.true.false =>
   have D:=PLift.up a;clear a
   repeat' (first|exact⟨⟩|refine sq ?_|refine uN g ?_|refine uF l ?_|refine uF o ?_|refine uF (eY (p:=q) qd) ?_)
   exact cW (n,aU q) ⟨k,qf,D.down⟩ qf (aB rfl rfl rfl wkS)
  all_goals rw[<- a]
  all_goals clear a
  all_goals repeat' (first|exact⟨⟩|refine sq ?_|refine uN g ?_|refine uF l ?_|refine uF o ?_)
 .have j:(q != [])=false:=by rw[bne,e];rfl
  have d:q=[]:=eq_of_beq e;subst d;rw[NP] at a;rw[<- a];clear a
  repeat' (first|exact⟨⟩|refine sp ?_)
def zHv{h:aF}{n:Nat}(q:n<=1000000000):
  aA prog 356 [.c (.p .nil),.c (.p (.i .i64 n))] h λd b=>d=.c (.own h.length 0 0)/\b=h++[.arr 1 [] false]:=by
 have:=qA (n:=n) (h:=h) (e:=9) aC (by rw[tab9];exactλh=>by cases h) (by rw[tab9];decide) (iX func356 rfl rfl)
  (λw=>Any8.slices_Grow_room Tryz.growStr none 0 0 0 w (bg _) qh qh (bg _))
  (λf z n w g j k r l m=>by
   have:=Any8.slices_Grow_grow Tryz.growStr f z g j k none 0 0 n [] w (bg _) qd (by simpa using l) (by simpa using m) ql (λ_=>rfl) (λa o=>by cases o)
   simp only[fm,kx] at this;exact this)
  (by rw[tab9];simp only;omega) qd
 rw[tab9] at this;exact this
def zDM{h:aF}{n:Nat}(q:n<=1000000000):
  aA prog 312 [.c (.p .nil),.c (.p (.i .i64 n))] h λd b=>d=.c (.own h.length 0 0)/\b=h++[.arr 1 [] false]:=by
 have:=qA (n:=n) (h:=h) (e:=5) aC (by rw[tab5];exactλh=>by cases h) (by rw[tab5];decide) (iX func312 rfl rfl)
  (λw=>Any8.slices_Grow_room Tryz.growByte none 0 0 0 w (bg _) qh qh (bg _))
  (λf z n w g j k r l m=>by
   have:=Any8.slices_Grow_grow Tryz.growByte f z g j k none 0 0 n [] w (bg _) qd (by simpa using l) (by simpa using m) ql (λ_=>rfl) (λa o=>by cases o)
   simp only[fm,kx] at this;exact this)
  (by rw[tab5];simp only;omega) qd
 rw[tab5] at this;exact this
def zHw{h:aF}{n:Nat}{K:Bd}(a:n<=1000000000)(b:K (.c (.own h.length 0 0)) (h++[.arr 1 [] false])):
  aA prog 356 [.c (.p .nil),.c (.p (.i .i64 n))] h K:=(zHv a).mono (by rintro _ _ ⟨rfl,rfl⟩;exact b)
def zDN{h:aF}{n:Nat}{K:Bd}(a:n<=1000000000)(b:K (.c (.own h.length 0 0)) (h++[.arr 1 [] false])):
  aA prog 312 [.c (.p .nil),.c (.p (.i .i64 n))] h K:=(zDM a).mono (by rintro _ _ ⟨rfl,rfl⟩;exact b)
def zFI{a b:List Ba}(d:a.length<=100000)(e:b.length<=100000):
  ag 305 [.c (.p (.sl 1 [[.sl 1 (Go.Dm.encS a)],[.sl 1 (Go.Dm.encS b)]]))] (.c (.p (.sl 1 (Go.Dm.encS (a++b))))):=by
 have f:IntKind.i64.wrap ((a.length:Int))=a.length:=wrap_i64 qd qd;have g:IntKind.i64.wrap ((a.length:Int)+b.length)=((a.length+b.length:Nat):Int):=by rw[wrap_i64 qd qd];omega
 have h:=aj a.length 0;have i:decide (((a.length+b.length:Nat):Int)<0)=false:=er qd;refine aa func305 λj k=>?_
 repeat' (first|simp only[*,go_sem,Nat.reduceLT,Nat.reduceLeDiff,Nat.reduceEqDiff,↓reduceIte,Nat.reduceAdd,Int.reduceLT,Int.reduceLE,Int.reduceAdd,Int.reduceNeg,Int.reduceToNat,lj]|refine eH aC aI 3 ?_|refine zHw (n:=a.length+b.length) qd ?_|refine ai ?_)
 all_goals rw[bu ql]
def zD3{d s:Ba}(a:d.length<=1000000)(b:s.length<=1000000):ag 230 [.c (.p (.s d)),.c (.p (.s s))] (.c (.p (.s (jP d s)))):=by
 unfold jP;refine aa func230 λe f=>?_
 repeat' (first|exact⟨⟩|refine sp ?_|refine aH (λ_=>?_) (λ_=>?_)|refine ai ?_)
 all_goals simp_all
def zNU(s:Ba):(s.all λb=>!(b==0))=s.all λb=>!((b.toNat:Int)==0):=by
 congr 1;funext b
 congr 1
 rw[gi,dq,dq];constructor
 .rintro rfl;rfl
 .intro h;exact kl.1 (by have:(0:UInt8).toNat=0:=rfl;omega)
def FO{s:Ba}(F:s.length<=9223372036854775807):ag 171 [.c (.p (.s s))] (.tup [.c (.p (.sl 1 (Go.Dm.encS (fP s).1))),.c (.p (.i .i64 (fP s).2))]):=by
 have u:decide (0<=Lib.indexByte s (Nat.toUInt8 0)) = !(s.all λb=>!((b.toNat:Int)==0)):=by
  have:=indexByte_none 0 s;rw[<- zNU,<- this,<- lp];exact nj.2 (by rw[Int.not_lt];exact Iff.rfl)
 refine aG ?_;unfold fP;cases w:decide ((120:Int)<s.length)
 .rw [au qh];have z:¬ (120:Int)<s.length:=jt w;generalize (s.all λb=>!((b.toNat:Int)==0))=A at u ⊢;cases A
  ·
   rw[aw rp];refine aa func171 λv hX=>?_
   repeat' (first|exact⟨⟩|refine sp ?_|refine uF (vQ qd) ?_)
   all_goals exact .inr ⟨_,rfl⟩
  .rw [au qh];have q:(rL s).length<=s.length+1:=pY s [];have h:=zJD (a:=s) qd;generalize rL s=P at q h ⊢;refine aa func171 λv hX=>?_
   repeat' (first|exact⟨⟩|refine sp ?_|refine uF (vQ qd) ?_|refine uN h ?_)
   clear h u;refine dM aC aI 4 1 rfl ?_;refine aJ aC aI (α:=Nat × List Ba) (λx=>⟨33,[(16,.c (.p (.sl 1 (Go.Dm.encS P)))),(17,.c (.p (.i .i64 P.length))),(18,.c (.p (.i .i64 x.1))),(4,.c (.own 0 0 x.2.length))],[.arr 1 (Go.Dm.encS x.2) false]⟩)
    (λx=>x.1<=P.length/\((P.take x.1).all λy=>!decide ((24:Int)<y.length))=true/\((P.take x.1).filter λy=>!(y == []))=x.2) (λx=>P.length-x.1) (0,[]) ⟨bc _,rfl,rfl⟩ (.inl (aB qj rfl rfl wkS)) ?_
   rintro⟨k,j⟩ ⟨B,f,d⟩;simp only at B f d;have C:j.length<=k:=by rw[<- d];exact bj (ei ..) (jh ..)
   by_cases n:k<P.length
   .have r:=ay n;have D:=encS_at r;obtain⟨E,G,-,H⟩:=lk k P.length;have e:=dm (l:=P) (i:=k);have g:P[k]∈P:=ch n;rw[r] at e;generalize P[k]=x at r D e g
    repeat' (first|exact⟨⟩|refine sp ?_|refine aH (λ_=>?_) (λ_=>?_)|((with_reducible refine And.intro ?_ ?_);((first|omega|decide))))
    .rename_i o;have:(P.all λy=>!decide ((24:Int)<y.length))=false:=by
      rw[nw];exact⟨x,g,by rw[o];decide⟩
     rw[this];exact⟨.inr ⟨_,rfl⟩,rfl⟩
    .rename_i o t;have m:x≠[]:=by simpa using t
     exact dN (k+1,j++[x]) 0 2 ⟨qd,by rw[e];simp[f,o],by rw[e,fq,d];simp[m]⟩ qf rfl rfl (aB rfl rfl rfl wkS)
    .rename_i o t;have m:x=[]:=by simpa using t
     exact cW (k+1,j) ⟨qd,by rw[e];simp[f,o],by rw[e,fq,d];simp[m]⟩ qf (aB rfl rfl rfl wkS)
   .have E:=aj k P.length;rw[bu qd] at f d;rw[f,aw rfl,d]
    repeat' (first|exact⟨⟩|refine sp ?_)
    all_goals first|exact .inl rfl|rw[bu qd]
 .rw[aw rp];refine aa func171 λv hX=>?_
  repeat' (first|exact⟨⟩|refine sp ?_)
  all_goals exact .inr ⟨_,rfl⟩
abbrev zTa(t:Bl)(c:Ba)(ps:List Ba)(hops:Nat):DB:=.box [.p (.sl 5 (aP t)),.p (.s c),.p (.sl 1 (Go.Dm.encS ps)),.p (.i .i64 hops)]
def zJQ{t:Bl}{c:Ba}{ps:List Ba}{hops:Nat}{d:Ba}(w:d.length<=1000000)(q:ps.length<=50000)(x:hops<=1000):
  aA prog 231 [.c (.ptr 0 0),.c (.p (.sl 1 (bS d)))] [zTa t c ps hops] λr h=>r=.c (.p (.i .i64 (zTp d hops)))/\h=[zTa t (zTo d hops c) (zTq d hops ps) (hops+1)]:=by
 have y:IntKind.i64.wrap ((hops:Int)+1)=((hops+1:Nat):Int):=by rw[wrap_i64 qd qd];omega
 have f:=FO (s:=d) qd;have j:=pN (s:=d);unfold zTp zTo zTq;cases m:decide (8<=hops)
 .have u:decide ((8:Int)<((hops+1:Nat):Int))=false:=er (by simp at m;omega);generalize fP d=S at f j ⊢;obtain⟨more,e⟩:=S;simp only at f j ⊢;cases n:(e==0)
  .have z:(e != 0)=true:=by rw[bne,n];rfl
   refine aa func231 λk l=>?_
   repeat' (first|exact⟨⟩|refine sp ?_|refine uN f ?_)
  .have v:e=0:=eq_of_beq n;subst v;have g:=zFI (a:=more) (b:=ps) qd qd;cases d with
   | nil =>
    refine aa func231 λk l=>?_
    repeat' (first|simp only[*,go_sem,Nat.reduceLT,Nat.reduceLeDiff,Nat.reduceEqDiff,↓reduceIte,Nat.reduceAdd,Int.reduceLT,lx,DH]|refine uN f ?_|refine uN g ?_|((with_reducible apply aA.frz);exact rfl;exact rfl)|refine ai ?_)
    all_goals rfl
   | cons b d =>
    have A:(bS (b::d)).getD 0 []=[.i .u8 b.toNat]:=rfl;have B:decide ((0:Int)<((d.length+1:Nat):Int))=true:=df qd;have C:(0:Int)<((d.length+1:Nat):Int):=qd
    cases o:((b.toNat:Int)==47)
    ·
     refine aa func231 λk l=>?_
     repeat' (first|exact⟨⟩|refine sp ?_|refine uN f ?_|refine uN g ?_|((with_reducible apply aA.frz);exact rfl;exact rfl)|refine ai ?_)
     all_goals (simp only[zX,o];rfl)
    ·
     refine aa func231 λk l=>?_
     repeat' (first|exact⟨⟩|refine sp ?_|refine uN f ?_|refine uN g ?_|((with_reducible apply aA.frz);exact rfl;exact rfl)|refine ai ?_)
     all_goals (simp only[zX,o];rfl)
 .have u:decide ((8:Int)<((hops+1:Nat):Int))=true:=df (by simp at m;omega);refine aa func231 λk l=>?_
  repeat' (first|exact⟨⟩|refine sp ?_)
def zRO{t:Bl}{c s:Ba}{ps:List Ba}{hops:Nat}{fo:Bool}(h:OkT t)(G:c.length<=1000)(H:s.length<=1000)(w:ps.length<=50000)(D:hops<=1000):
  aA prog 173 [.c (.ptr 0 0),.c (.p (.s s)),.c (.p (.b fo))] [zTa t c ps hops] λr h =>
   r=.tup [.c (.p (.b (yY t fo c s ps hops).1.1)),.c (.p (.i .i64 (yY t fo c s ps hops).1.2))]/\h=[zTa t (yY t fo c s ps hops).2.1 (yY t fo c s ps hops).2.2.1 (yY t fo c s ps hops).2.2.2]:=by
 have f:=zD3 (d:=c) (s:=s) qd qd;have E:=h.len;have e:=fZ (t:=t) (p:=c) qd h.srt;have a:=gF (t:=t) (p:=jP c s) qd h.srt h.ne λx F=>bj (h.dlen x F) qh;have g:=h.getd (jP c s);have u:(ps == [])=true∨(ps == [])=false:=by cases (ps == [])<;>simp
 have y:decide ((0:Int)<(ps.length:Int)) = !(ps == []):=by
  cases ps with
  | nil=>rfl
  | cons p l=>exact df rj
 unfold yY;have z:(jP c s).length<=2001:=by
  unfold jP;split
  .omega
  .simp only[bo,bw];omega
 generalize jP c s=q at f a g z ⊢;generalize (ps == [])=A at u y ⊢;cases B:aZ t c
 .rw[B] at e;refine aa func173 λj o=>?_
  repeat' (first|exact⟨⟩|refine sq ?_|refine uF f ?_|refine uF e ?_|refine dG (id:=2) aC aI [] [0,1,2,3,4,5,6,7,8,9,10] ?_|refine aM ?_|refine d1 ?_ ?_ ?_|with_reducible exact rfl)
 .rw [B] at e;cases I:decide ((120:Int)<(q.length:Int))
  .cases C:aN t q with
   | none =>
    rw[C] at a;simp only[ke,gm,nd0] at a;cases A
    ·
     refine aa func173 λj o=>?_
     repeat' (first|exact⟨⟩|refine sq ?_|refine uF f ?_|refine uN a ?_|refine uF e ?_|refine dG (id:=2) aC aI [] [0,1,2,3,4,5,6,7,8,9,10] ?_|refine aM ?_|refine d1 ?_ ?_ ?_|with_reducible exact rfl)
    ·
     refine aa func173 λj o=>?_
     repeat' (first|exact⟨⟩|refine sq ?_|refine uF f ?_|refine uN a ?_|refine uF e ?_|refine dG (id:=2) aC aI [] [0,1,2,3,4,5,6,7,8,9,10] ?_|refine aM ?_|refine d1 ?_ ?_ ?_|with_reducible exact rfl)
   | some n =>
    rw[C] at a g;simp only[fe,gy] at a g;have v:=zJQ (t:=t) (c:=c) (ps:=ps) (hops:=hops) (d:=n.d) qd w D;obtain⟨k,m,J,d⟩:=n;cases K:(k==3)
    ·
     refine aa func173 λj o=>?_
     repeat' (first|exact⟨⟩|refine sq ?_|refine uF f ?_|refine uN a ?_|refine uF e ?_|refine dG (id:=2) aC aI [] [0,1,2,3,4,5,6,7,8,9,10] ?_|refine aM ?_|refine d1 ?_ ?_ ?_|with_reducible exact rfl)
    .cases A
     ·
      refine aa func173 λj o=>?_
      repeat' (first|exact⟨⟩|refine sq ?_|refine uF f ?_|refine uN a ?_|((with_reducible refine zSS v ?_ ?_ ?_);exact rfl;exact rfl)|refine uF e ?_|refine dG (id:=2) aC aI [] [0,1,2,3,4,5,6,7,8,9,10] ?_|refine aM ?_|refine d1 ?_ ?_ ?_|with_reducible exact rfl)
     .cases fo
      ·
       refine aa func173 λj o=>?_
       repeat' (first|exact⟨⟩|refine sq ?_|refine uF f ?_|refine uN a ?_|refine uF e ?_|refine dG (id:=2) aC aI [] [0,1,2,3,4,5,6,7,8,9,10] ?_|refine aM ?_|refine d1 ?_ ?_ ?_|with_reducible exact rfl)
      ·
       refine aa func173 λj o=>?_
       repeat' (first|exact⟨⟩|refine sq ?_|refine uF f ?_|refine uN a ?_|((with_reducible refine zSS v ?_ ?_ ?_);exact rfl;exact rfl)|refine uF e ?_|refine dG (id:=2) aC aI [] [0,1,2,3,4,5,6,7,8,9,10] ?_|refine aM ?_|refine d1 ?_ ?_ ?_|with_reducible exact rfl)
  ·
   refine aa func173 λj o=>?_
   repeat' (first|exact⟨⟩|refine sq ?_|refine uF f ?_|refine uF e ?_|refine dG (id:=2) aC aI [] [0,1,2,3,4,5,6,7,8,9,10] ?_|refine aM ?_|refine d1 ?_ ?_ ?_|with_reducible exact rfl)
def zOB{t:Bl}{s:Ba}{fo:Bool}(h:OkT t)(B:s.length<=9223372036854775807):
  ag 97 [.c (.p (.sl 5 (aP t))),.c (.p (.s s)),.c (.p (.b fo))] (.tup [.c (.p (.s (cQ t s fo).1)),.c (.p (.b (cQ t s fo).2.1)),.c (.p (.i .i64 (cQ t s fo).2.2))]):=by
 have d:=FO (s:=s) B;have j:=pN (s:=s);have g:=uE (s:=s);unfold cQ;generalize fP s=S at d j g ⊢;obtain⟨P,e⟩:=S;simp only at d j g ⊢;generalize o:(if (e==0)=true then kM t fo 1400 [] P 0 else ([],false,e))=W
 refine aa func97 λO hX=>?_
 repeat' (first|exact⟨⟩|refine sp ?_|refine uN d ?_)
 refine aJ aC aI (α:=Nat × Ba × List Ba × Nat × Bool × Int) (λx=>⟨75,[(2,.c (.p (.b fo))),(10,.c (.p (.i .i64 x.2.2.2.2.2))),(11,.c (.ptr 0 0)),(12,.c (.p (.b x.2.2.2.2.1)))],[zTa t x.2.1 x.2.2.1 x.2.2.2.1]⟩)
  (λx=>WI t fo W x.1 x.2.1 x.2.2.1 x.2.2.2.1 x.2.2.2.2.1 x.2.2.2.2.2) (λx=>x.1) (1400,[],P,0,true,e) ⟨ql,g,ql,ql,λq=>?_,λq=>?_⟩ (.inl (aB qj rfl rfl wkS)) ?_
 .subst q;refine⟨ql,qf,λ_=>⟨rfl,o⟩,λq=>?_⟩
  subst q;exact o.symm
 .rw[au (by simpa using q)] at o;exact o.symm
 rintro⟨f,c,ps,hops,u,e⟩ a;simp only at a;clear o d j g;cases v:(e==0)
 .have w:e≠0:=by simpa using v
  have y:=a.no w;rw[y];have r:(e != 0)=true:=by rw[bne,v];rfl
  have C:decide ((0:Int)<(ps.length:Int))=true∨decide ((0:Int)<(ps.length:Int))=false:=by cases decide ((0:Int)<(ps.length:Int))<;>simp
  generalize decide ((0:Int)<(ps.length:Int))=b at C
  repeat' (first|exact⟨⟩|refine sp ?_|refine aY (λ_=>?_) (λ_=>?_))
 .have w:e=0:=eq_of_beq v;subst w;cases ps with
  | nil =>
   obtain⟨_,_,_,y⟩:=a.go rfl;rw[y rfl]
   repeat' (first|exact⟨⟩|refine sp ?_)
  | cons p ps =>
   obtain⟨k,rfl⟩:∃k,f=k+1:=⟨f-1,by have:=(a.go rfl).2.1;omega⟩
   have E:=a.fl;obtain rfl:=a.there_true;obtain⟨F,G,_,_⟩:=a.go rfl;simp only[bw] at G;have Q:decide ((0:Int)<((ps.length+1:Nat):Int))=true:=df qd;have R:(0:Int)<((ps.length+1:Nat):Int):=qd
   have T:(1:Int)<=((ps.length+1:Nat):Int):=qd
   have U:(Go.Dm.encS (p::ps)).getD 0 []=[.s p]:=rfl;have H:(Go.Dm.encS (p::ps)).drop 1=Go.Dm.encS ps:=rfl;have I:=a.pl p cz;have J:=a.cl;cases r:(p == [46])
   .cases A:(p == [46,46])
    .have l:=a.down r A;have m:=zRO (t:=t) (c:=c) (s:=p) (ps:=ps) (hops:=hops) (fo:=fo) h qd qd qd qd;generalize yY t fo c p ps hops=D at l m;obtain⟨⟨K,L⟩,M,z,N⟩:=D;simp only at l m;clear a
     repeat' (first|exact⟨⟩|refine sp ?_|refine zT4 m rfl rfl ?_|refine ai ?_)
     exact cW (k,M,z,N,K,L) l qf (aB rfl rfl rfl wkS)
    .have n:=a.dots r A;clear a
     repeat' (first|exact⟨⟩|refine sp ?_|refine uF (eY (p:=c) qd) ?_|refine ai ?_)
     exact cW (k,aU c,ps,hops,true,0) n qf (aB rfl rfl rfl wkS)
   .have n:=a.dot r;clear a
    repeat' (first|exact⟨⟩|refine sp ?_|refine ai ?_)
    exact cW (k,c,ps,hops,true,0) n qf (aB rfl rfl rfl wkS)
def zAc(a b:Ba)(t:Bl)(k:Nat):Bl:=(t.take k).map (wK a b)++t.drop k
def zMt(a b:Ba)(t:Bl)(k:Nat):(zAc a b t k).length=t.length:=by
 simp only[zAc,bo,di,cr,fh];omega
def zIg{a b:Ba}{t:Bl}{k:Nat}{x:It}(c:t[k]?=some x):(zAc a b t k)[k]?=some x:=by
 have e:=(bz.1 c).1;have d:((t.take k).map (wK a b)).length=k:=by rw[di,cr];omega
 unfold zAc;rw[gv qd,d,jg,gu,je];exact c
def zMu{a b:Ba}{t:Bl}{k:Nat}{x:It}(c:t[k]?=some x):(zAc a b t k).set k (wK a b x)=zAc a b t (k+1):=by
 have e:=(bz.1 c).1;have d:((t.take k).map (wK a b)).length=k:=by rw[di,cr];omega
 unfold zAc;rw[lr _ _ qd,d,jg,drop_at c,i7,dm,c,gh];simp
def zJw{l:Bc}{k:Nat}{e:List PV}(h:k<l.length):(l.set k e).getD k []=e:=by
 rw[ed,j6 h];rfl
def zSm{t:Bl}{a b:Ba}(h:OkT t)(Q:a.length<=1000000000)(U:b.length<=1000000000):
  ag 240 [.c (.p (.sl 5 (aP t))),.c (.p (.s a)),.c (.p (.s b))] (.tup [.c (.p (.sl 5 (aP (mA t a b).1))),.c (.p (.i .i64 (mA t a b).2))]):=by
 have htl:=h.len;have V:∀x∈t,x.n.d.length<=140737488355328:=λx B=>bj (h.dlen x B) qh;have w:=zIa (t:=t) (a:=a) (b:=b) qd h.srt Q U;refine aG ?_;by_cases g:zMr t a b=0
 .have G:a≠[]/\b≠[]/\bZ b=true/\(aN t b).isSome=false/\mA t a b=fW a b (bU t a) t:=by
   unfold zMr at g;unfold mA;split at g
   .cases g
   .rename_i y;rw[au y];split at g
    .cases g
    .rename_i H;rw[au H];split at g
     .cases g
     .rename_i W;rw[au W];split at g
      .cases g
      .rename_i S;rw[au S];split at g
       .cases g
       .rename_i X;rw[au X];simp only[fj,jo,dq,dg,l9] at y;exact⟨y.1.1.1,y.1.1.2,y.2,by simpa using S,rfl⟩
  obtain⟨p1,Y,p3,Z,p5⟩:=G;rw[p5,zPY h p1 Y p3 Z];have I:=FL h p1 Y Z;rw[g] at w;have J:=h.plen;have hle0:t.length<=(aP t).length:=my (cV t).symm;clear p5 Y p3 Z g;have K:∃R,(if (SH t a b).all gL then (iW (SH t a b),0) else (([],12):Bl × Int))=R:=⟨_,rfl⟩
  obtain⟨R,K⟩:=K;rw[K];have F:=PLift.up K;clear K;refine aa func240 λX0 hX=>?_
  repeat' (first|exact⟨⟩|refine sp ?_|refine uF w ?_|refine DN qd V ?_)
  refine aJ aC aI (α:=Nat) (λk=>⟨60,[(1,.c (.p (.s a))),(2,.c (.p (.s b))),(9,.c (.own 0 0 t.length)),(21,.c (.own 0 0 t.length)),(22,.c (.p (.i .i64 t.length))),(23,.c (.p (.i .i64 k)))],[.arr 5 (aP (zAc a b t k)) false]⟩)
   (λk=>k<=t.length/\((t.take k).map (wK a b)).all gL=true) (λk=>t.length-k) 0 ⟨bc _,rfl⟩ (.inl (aB qj rfl rfl wkS)) ?_
  rintro k ⟨hk,T⟩;by_cases z:k<t.length
  .have B:=ay z;have hg:=bX (zIg (a:=a) (b:=b) B);have r:=zMu (a:=a) (b:=b) B;have u:=zMt a b t k;obtain⟨y,-,-,w1⟩:=lk k t.length;have hxl:=J _ (ch z);have o:((t.take (k+1)).map (wK a b)).all gL=gL (wK a b t[k]):=by
    rw[dm,B,gh,ly,T,cy];simp
   have m:gL (wK a b t[k])=false->(SH t a b).all gL=false:=λU=>by
    rw[lh];intro H;have:=fb.1 H _ (List.mem_map_of_mem (f:=wK a b) (ch z));rw[U] at this;cases this
   generalize t[k]=x at B hg r hxl o m;cases q1:(x.p==a)<;>cases q2:aT a x.p
   case false.false =>
    have v:wK a b x=x:=by unfold wK mvd;rw[q1,q2];rfl
    have L:gL x=true:=by
     simp only[gL,dg,ik];omega
    have hx120:decide ((120:Int)<(x.p.length:Int))=false:=by simpa[gL] using L
    rw [v] at r o;have C:zAc a b t k=zAc a b t (k+1):=by
     rw [<- r];exact(ir λj=>by
      rw[mh];split
      .rename_i e;subst e;rw[zIg B];split
       .rfl
       .rename_i hh;rw[u] at hh;exact absurd z hh
      .rfl)
    have hJ:k+1<=t.length/\((t.take (k+1)).map (wK a b)).all gL=true:=⟨qd,by rw[o];exact L⟩
    have hS:=PLift.up C;have M:k<(zAc a b t k).length:=qd
    clear m v r o B C u
    repeat' (first|exact⟨⟩|refine sp ?_|refine uF (dE Q) ?_|refine ai ?_)
    exact cW (k+1) hJ qd (aB rfl (by rw[hS.down];rfl) rfl wkS)
   all_goals
    have v:wK a b x=⟨b++x.p.drop a.length,x.n⟩:=by unfold wK mvd;rw[q1,q2];rfl
    rw [v] at r o m;have hla:a.length<=x.p.length:=by
     first|(rw[eq_of_beq q1];exact bg _)|exact eR q2
    cases q3:gL ⟨b++x.p.drop a.length,x.n⟩
   all_goals have M:k<(zAc a b t k).length:=qd
   all_goals have A:=xD (zAc a b t k) k ⟨b++x.p.drop a.length,x.n⟩
   all_goals simp only at A
   all_goals rw[r] at A
   all_goals have hS:=PLift.up A
   all_goals have D:k<(aP (zAc a b t k)).length:=by rw[cV];exact M
   all_goals have hdp:b.length+(x.p.drop a.length).length<=9223372036854775807:=by rw[fh];omega
   all_goals have hki:(k:Int)<(t.length:Int):=qd
   all_goals have hk0:(0:Int)<=(k:Int):=qd
   all_goals have hq:decide ((120:Int)<((b.length+(x.p.drop a.length).length:Nat):Int)) = !(gL ⟨b++x.p.drop a.length,x.n⟩):=by unfold gL;rw[ki,bo]
   all_goals rw[q3] at hq o
   all_goals simp only[bh,br] at hq
   case' false.true.false|true.false.false|true.true.false =>
    obtain rfl:(([],12):Bl × Int)=R:=by rw[<- F.down,m q3];rfl
    clear m v r o B u A
    repeat' (first|simp only[*,go_sem,Nat.reduceLT,Nat.reduceLeDiff,Nat.reduceEqDiff,↓reduceIte,Nat.reduceAdd,zJw D,ff,bo]|refine uF (dE Q) ?_|refine ai ?_)
   case' false.true.true|true.false.true|true.true.true =>
    have hJ:k+1<=t.length/\((t.take (k+1)).map (wK a b)).all gL=true:=⟨qd,o⟩
    clear m v r o B u A
    repeat' (first|simp only[*,go_sem,Nat.reduceLT,Nat.reduceLeDiff,Nat.reduceEqDiff,↓reduceIte,Nat.reduceAdd,zJw D,ff,bo]|refine uF (dE Q) ?_|refine ai ?_)
   all_goals first|exact .inr ⟨_,rfl⟩|exact cW (k+1) hJ qd (aB rfl (by rw[<- hS.down];rfl) rfl wkS)
  .have y:=aj k t.length;have hk2:k=t.length:=qd
   subst hk2;have N:zAc a b t t.length=SH t a b:=by
    unfold zAc SH;rw[dj,ma,dh]
   rw [dj] at T;obtain rfl:(iW (SH t a b),(0:Int))=R:=by
    rw[<- F.down];have:(SH t a b).all gL=true:=T;rw[this];rfl
   rw[N];have u:(SH t a b).length=t.length:=di _;have hu:=sC I;rw[<- u];have O:(SH t a b).length<4611686018427387904:=qd
   have E:=HE (SH t a b);clear F T I J N z u;clear y;generalize SH t a b=q at hu O E ⊢;have y:=nlt q.length
   repeat' (first|simp only[*,go_sem,Nat.reduceLT,Nat.reduceEqDiff,↓reduceIte,i7]|refine zQE (id:=0) (l:=q) hu O rfl ?_)
   all_goals rw[bu (by rw[E];exact bg _)]
 .have hne:(zMr t a b==0)=false:=by simpa using g
  have P:mA t a b=([],zMr t a b):=by
   unfold zMr at g ⊢;unfold mA;split
   .rfl
   .rename_i y;rw[au y] at g;split
    .rfl
    .rename_i H;rw[au H] at g;split
     .rfl
     .rename_i W;rw[au W] at g;split
      .rfl
      .rename_i S;rw[au S] at g;split
       .rfl
       .rename_i X;rw[au X] at g;exact absurd rfl g
  rw[P];have hne2:(zMr t a b != 0)=true:=by rw[bne,hne];rfl
  generalize zMr t a b=e at *;clear P;refine aa func240 λX0 hX=>?_
  repeat' (first|exact⟨⟩|refine sp ?_|refine uF w ?_)
  all_goals exact .inr ⟨_,rfl⟩
end Go.Proofs.YtfcindonokhbeaaGreatDoor
end
