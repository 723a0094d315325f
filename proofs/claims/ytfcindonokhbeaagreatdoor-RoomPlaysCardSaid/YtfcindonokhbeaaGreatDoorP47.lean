/- Part 48 of roomPlays_card. No condition. -/
import Derived.Test.YtfcindonokhbeaaGreatDoorP42
import Derived.Test.YtfcindonokhbeaaGreatDoorP39
import Derived.Test.YtfcindonokhbeaaGreatDoorP44
set_option linter.all false
set_option maxRecDepth 100000
set_option maxHeartbeats 0
section
namespace Go.Proofs.YtfcindonokhbeaaGreatDoor
open Go Go.Dm Go.Proofs Go.Proofs.Tryz
def zPt{h:aF}{i n:Nat}{l:Bm}{a:Int}{K:Bd}(e:l.length<=1000000)(f:n=l.length)(g:h[i]?=some (.arr 4 (cZ l) false))(j:K (.tup [.agg ((fQ l a).getD ly0).cv,.c (.p (.b (fQ l a).isSome))]) h):
  aA prog 94 [.c (.own i 0 n),.c (.p (.i .i64 a))] h K :=
 zNB rfl (by rw[f,<- kO,dj]) (PF e) g (λd k=>by subst k;exact⟨rfl,j⟩)
def kK{r:Rm}{s:Ba}(f:OkR r):aA prog 50 [.c (.ptr 0 0),.c (.p (.s s))] (bC r) λd h=>d=.tup [.agg (cF r s).1.cv,.c (.p (.i .i64 (cF r s).2))]/\h=bC r:=by
 have g:=uB (r:=r) (s:=s) (bj f.nl qh) f.srt;have v:=f.ll;rcases zBb f.srt (s:=s) with⟨a,e⟩|⟨x,a,e,j,n⟩
 .rw[a] at g;rw[show cF r s=(ly0,6) by unfold cF;rw[e]]
  clear a e;refine aa func50 λo q=>?_
  repeat' (first|exact⟨⟩|refine sq ?_|refine uS [0,1,2,3] g ?_)
  all_goals simp[ly0]
 .rw[a] at g;rw[show cF r s=((fQ r.L x.l).getD ly0,0) by unfold cF;rw[e]]
  have t:=(bz.1 j).1;have w:=kQ j;have z:(0:Int)<=(nP r.N s:Int):=qd
  have A:(nP r.N s:Int)<(r.N.length:Int):=qd
  clear a e j n;obtain⟨y,k⟩:∃y,(fQ r.L x.l).getD ly0=y:=⟨_,rfl⟩;have m:∀{h:aF} {i:Nat} {K:Bd},h[i]?=some (.arr 4 (cZ r.L) false)->K (.tup [.agg y.cv,.c (.p (.b (fQ r.L x.l).isSome))]) h->aA prog 94 [.c (.own i 0 r.L.length),.c (.p (.i .i64 x.l))] h K:=λu m=>zPt qd rfl u (by rw[k];exact m);rw[k];clear k;refine aa func50 λo q=>?_
  repeat' (first|exact⟨⟩|refine sq ?_|refine uS [0,1,2,3] g ?_|((refine aK (id:=4) aC aI [16,17] [16,0,1,2,3,4,5,6,7,8,9,10,11,12,13,14,17,15,18] qi ?_);(repeat' (first|(refine aM ?_)|((refine bJ ?_ ?_ rfl rfl rfl ?_ ?_);(rotate_left 2);(focus ((repeat' (first|exact⟨⟩|refine sp ?_));((refine And.intro ?_ ?_<;>exact rfl))));(simp only[aD,aQ]))|((refine bI ?_ rfl rfl rfl ?_ ?_);(rotate_left 1);(focus ((repeat' (first|exact aS|refine aL ?_ ?_));(all_goals ((repeat' (first|exact⟨⟩|refine sp ?_|refine m rfl ?_));(try (exact rfl))))));(simp only[aD]))))))
def zOQ{l:Bm}{a:Int}(A:l.length<=100000):aA prog 92 [.c (.p (.sl 4 (cZ l))),.c (.p (.i .i64 a))] [] λr h=>r=.c (.own 0 0 (cU (cA l a)).length)/\h=[.arr 1 (cU (cA l a)) false]:=by
 refine aA.rowR ?_;refine VN aC aI func92 rfl rfl λB hX=>?_;simp only[f92,go_sem]
 repeat' (first|exact⟨⟩|refine sp ?_|refine uF (PF (l:=l) qd) ?_)
 refine bG aC aI (α:=List Int × Int) (λx=>⟨38,[(0,.c (.p (.sl 4 (cZ l)))),(5,.c (.own 1 0 x.1.length)),(6,.c (.ptr 0 0)),(7,.c (.p (.b (fQ l x.2).isSome)))],[.box ((fQ l x.2).getD ly0).cv,.arr 1 (cU x.1) false]⟩)
  (λx=>x.1.length<=l.length+1/\x.1++eP l (l.length+1-x.1.length) x.2=eP l (l.length+1) a) (λx=>l.length+1-x.1.length) ([],a) ⟨bc _,rfl⟩ ((gS 5 1 rfl).trans (aV (aB qj rfl rfl wkS))) ?_
 rintro⟨d,id⟩ ⟨t,f⟩;simp only at t f ⊢;cases u:fQ l id with
 | none =>
  have e:eP l (l.length+1-d.length) id=[]:=by cases (l.length+1-d.length)<;>simp[eP,u]
  rw[e,dh] at f;have m:cA l a=d.reverse:=by unfold cA;rw[<- f]
  have g:=MC (l:=d) qd;rw[m];clear m f e
  repeat' (first|simp only[*,go_sem,Nat.reduceLT,Nat.reduceEqDiff,↓reduceIte,Nat.reduceAdd,gm]|refine uS [1] g ?_)
  exact .inr ⟨1,by rw[pk],rfl⟩
 | some y =>
  by_cases v:d.length<=l.length
  .have n:=PF (l:=l) (a:=y.p) qd;have w:decide ((d.length:Int)<=(l.length:Int))=true:=df qd;obtain⟨z,o⟩:∃z,(fQ l y.p).getD ly0=z:=⟨_,rfl⟩;rw[o] at n;have q:(d++[y.i]).length<=l.length+1/\(d++[y.i])++eP l (l.length+1-(d++[y.i]).length) y.p=eP l (l.length+1) a:=by
    refine⟨qk,?_⟩
    rw[<- f,show l.length+1-d.length=(l.length+1-(d++[y.i]).length)+1 by simp;omega,eP,u]
    simp
   have s:l.length+1-(d++[y.i]).length<l.length+1-d.length:=by simp;omega
   have q:=PLift.up q;have s:=PLift.up s;have o:=PLift.up o;have j:(d++[y.i]).length=d.length+1:=ql
   have j:=PLift.up j;clear t f
   repeat' (first|simp only[*,go_sem,Nat.reduceLT,Nat.reduceLeDiff,Nat.reduceEqDiff,↓reduceIte,Nat.reduceAdd,Nat.reduceBEq,gy,fe]|refine uF n ?_|((with_reducible refine And.intro ?_ ?_);((first|omega|decide))))
   exact eO (d++[y.i],y.p) q.down s.down (by rw[o.down,j.down];exact cK (dV [4,3] rfl hpK rfl wpK))
  .have k:d.length=l.length+1:=qd
   have w:decide (((l.length+1:Nat):Int)<=(l.length:Int))=false:=er qd;have e:eP l (l.length+1-d.length) id=[]:=by rw[k,jg];rfl
   rw[e,dh] at f;have m:cA l a=d.reverse:=by unfold cA;rw[<- f]
   have g:=MC (l:=d) qd;rw[m];rw[k] at g;clear m f e
   repeat' (first|simp only[*,go_sem,Nat.reduceLT,Nat.reduceEqDiff,↓reduceIte,Nat.reduceAdd,gy,fe]|refine uS [1] g ?_)
   exact .inr ⟨1,by rw[pk,k],rfl⟩
def RJ{r:Rm}{s:Ba}(b:OkR r):aA prog 45 [.c (.ptr 0 0),.c (.p (.s s))] (bC r) λd h=>d=.tup [.agg (wsP r s).1.cv,.c (.p (.i .i64 (wsP r s).2))]/\h=bC r:=by
 have a:=kK (s:=s) b;unfold wsP;generalize cF r s=f at a ⊢;obtain⟨⟨j,k,l,g⟩,e⟩:=f;simp only at a ⊢;cases m:(e==0)<;>cases g
 all_goals simp only[dp,cy,az,av,ax]
 all_goals
  refine aa func45 λn o=>?_
  repeat' (first|exact⟨⟩|refine sp ?_|refine uS [0,1,2,3] a ?_)
 all_goals simp[ly0]
def zCM{r:Rm}{s:Ba}(b:OkR r):aA prog 78 [.c (.ptr 0 0),.c (.p (.s s))] (bC r) λd h=>d=.tup [.agg (snP r s).1.cv,.c (.p (.i .i64 (snP r s).2))]/\h=bC r:=by
 have a:=kK (s:=s) b;unfold snP;generalize cF r s=f at a ⊢;obtain⟨⟨j,k,l,g⟩,e⟩:=f;simp only at a ⊢;cases m:(e==0)<;>cases g
 all_goals simp only[dp,cy,bh,br,az,av,ax]
 all_goals
  refine aa func78 λn o=>?_
  repeat' (first|exact⟨⟩|refine sq ?_|refine uS [0,1,2,3] a ?_)
 all_goals simp[ly0]
def zFB{h:aF}{i n:Nat}{l:Bm}{a:Int}{K:Bd}(b:l.length<=100000)(d:n=l.length)(e:h[i]?=some (.arr 4 (cZ l) false))(f:K (.c (.own h.length 0 (cA l a).length)) (h++[.arr 1 (cU (cA l a)) false])):
  aA prog 92 [.c (.own i 0 n),.c (.p (.i .i64 a))] h K:=by
 refine zOx rfl (by rw[d,<- kO,dj]) (zOQ b) e (by simp[xS,sL,lR,cU,yF]) ?_;simpa[DV.sh,CV.sh,DB.sh,fV] using f
def uA{r:Rm}{a:Int}(e:OkR r):aA prog 47 [.c (.ptr 0 0),.c (.p (.i .i64 a))] (bC r) λd h=>d=.c (.p (.i .i64 (jU r a)))/\h=bC r:=by
 have g:=e.ll;have b:∀{h:aF} {i:Nat} {K:Bd},h[i]?=some (.arr 4 (cZ r.L) false)->K (.c (.own h.length 0 (cA r.L a).length)) (h++[.arr 1 (cU (cA r.L a)) false])->aA prog 92 [.c (.own i 0 r.L.length),.c (.p (.i .i64 a))] h K:=λf b=>zFB qd rfl f b;unfold jU;generalize cA r.L a=C at b ⊢;cases j:decide (12<=(C.length:Int))
 all_goals simp only[az,av,ax]
 all_goals
  refine aa func47 λk l=>?_
  repeat' (first|exact⟨⟩|refine sp ?_)
def wI{r:Rm}{s:Ba}(e:OkR r)(l:s.length<=1000000000):aA prog 46 [.c (.ptr 0 0),.c (.p (.s s))] (bC r) λd h=>d=.c (.p (.i .i64 (jN r s)))/\h=bC r:=by
 have f:=uB (r:=r) (s:=s) (by have:=e.nl;omega) e.srt;have g:=vY l;have m:=e.nl;have n:=e.ll;unfold jN;generalize bB s=a at g ⊢;generalize zAa r.N s=b at f ⊢;cases a
 .simp only[br,az];refine aa func46 λj k=>?_
  repeat' (first|exact⟨⟩|refine sq ?_|refine uS [0,1,2,3] f ?_|refine uF g ?_)
 .cases b
  .simp only[bh,av,ax];cases o:decide (20<=(r.N.length:Int))<;>cases q:decide (40<=(r.L.length:Int))<;>cases t:decide (2147483647<=r.x)
   all_goals simp only[ej,dn,az,av,ax]
   all_goals
    refine aa func46 λj k=>?_
    repeat' (first|exact⟨⟩|refine sq ?_|refine uS [0,1,2,3] f ?_|refine uF g ?_)
  .simp only[bh,av,ax,az];refine aa func46 λj k=>?_
   repeat' (first|exact⟨⟩|refine sq ?_|refine uS [0,1,2,3] f ?_|refine uF g ?_)
def zEG{r:Rm}{a:Int}(q:OkR r):aA prog 95 [.c (.ptr 0 0),.c (.p (.i .i64 a))] (bC r) λd h=>d=.tup [.c (.p (.sl 5 (aP (PI r a).1))),.c (.p (.b (PI r a).2))]/\h=bC r:=by
 have z:=q.ll;have f:∀{h:aF} {i:Nat} {K:Bd},h[i]?=some (.arr 4 (cZ r.L) false)->K (.c (.own h.length 0 (cA r.L a).length)) (h++[.arr 1 (cU (cA r.L a)) false])->aA prog 92 [.c (.own i 0 r.L.length),.c (.p (.i .i64 a))] h K:=λs f=>zFB qd rfl s f;have l:=JT r.L a;have e:=zAj (ls:=qL r a) (by unfold qL;rw[di];omega) (q.layers a);rw[show PI r a=rZ [] (qL r a) from rfl]
 generalize rZ [] (qL r a)=T at e ⊢;obtain⟨A,B⟩:=T;unfold qL at e;simp only at e ⊢;generalize cA r.L a=C at f l e ⊢;refine aa func95 λD hX=>?_
 repeat' (first|exact⟨⟩|refine sp ?_|refine f rfl ?_)
 refine bG aC aI (α:=Nat) (λk=>⟨34,[(0,.c (.ptr 0 0)),(14,.c (.own 4 0 C.length)),(15,.c (.p (.i .i64 C.length))),(16,.c (.p (.i .i64 k))),(6,.c (.own 5 0 k))],[.box [.own 1 0 r.N.length,.own 2 0 r.L.length,.mp 3,.p (.i .i64 r.x)],.arr 2 (bW r.N) false,.arr 4 (cZ r.L) false,.mp (uV r.E),.arr 1 (cU C) false,.arr 1 (EG ((C.take k).map (nM r.E))) false]⟩)
  (λk=>k<=C.length) (λk=>C.length-k) 0 (bc _) ((gS 6 1 rfl).trans (aV (aB qj rfl rfl wkK))) ?_
 intro k t;by_cases m:k<C.length
 .have g:=ay m;have u:=mU g;obtain⟨v,F,G,H⟩:=lk k C.length;have j:(C.take (k+1)).map (nM r.E)=(C.take k).map (nM r.E)++[nM r.E C[k]]:=by rw[dm,g,gh];rfl
  have n:((C.take k).map (nM r.E)).length=k:=by rw[di,cr];omega
  have j:=PLift.up j;have w:(EG ((C.take k).map (nM r.E))).length=k:=by rw[zCb,n]
  generalize C[k]=c at g u j;clear g f e
  repeat' (first|exact⟨⟩|refine sp ?_|((with_reducible refine And.intro ?_ ?_);((first|omega|decide))))
  exact eO (k+1) qd qd (by rw[j.down];exact cK (dV [0,1,2,3,4,7] rfl hpK rfl wpK))
 .have o:k=C.length:=qd
  subst o;rw[dj];have v:=nlt C.length;have y:(C.map (nM r.E)).take C.length=C.map (nM r.E):=bu (by rw[di];exact bg _)
  repeat' (first|exact⟨⟩|refine sp ?_|refine uN e ?_|((with_reducible apply aA.frz);exact rfl;exact rfl))
def eB{r:Rm}{a:Int}(e:OkR r):aA prog 52 [.c (.ptr 0 0),.c (.p (.i .i64 a))] (bC r) λd h=>d=.c (.p (.sl 5 (aP (treeR r a))))/\h=bC r:=by
 have b:=zEG (a:=a) e;unfold treeR;generalize PI r a=T at b ⊢;obtain⟨f,g⟩:=T;simp only at b ⊢;refine aa func52 λj k=>?_
 repeat' (first|exact⟨⟩|refine sp ?_|refine uS [0,1,2,3] b ?_)
def zQF{h:aF}{id n:Nat}{ss:List Int}{K:Bd}(hid:h[id]?=some (.arr 1 (cU ss) false))(b:ss.length<4611686018427387904)(g:n=ss.length)
  (i:K (.tup []) (h.set id (.arr 1 (cU (ss.mergeSort λx y=>decide (x<=y))) false))):aA prog 218 [.c (.own id 0 n)] h K:=by
 subst g;exact aA.mono (TH (iX Tryz.func218 rfl rfl) (λe f a ss w j k l=>Tryz.slices_Sort_int e f a ss w j k l) (λp a w=>Tryz.slices_Sort_int_none p a w) hid b) (by rintro d m ⟨rfl,rfl⟩;exact i)
def zEM(O:List Int):List (Int × PV):=O.map λa=>(a,.b true)
def zU:∀(O:List Int) (a:Int),rI (zEM O) a (.b false)=.b (O.contains a)
 | [],_=>rfl
 | x::O,a=>by
  simp only[zEM,dt,rI,ku];by_cases h:x=a
  .subst h;simp
  .have c:(a==x)=false:=by simpa using λe=>h e.symm
   rw[au h,c,dw];exact zU O a
def ZD:∀(O:List Int) (a:Int),O.contains a=false->MP (zEM O) a (.b true)=zEM (O++[a])
 | [],_,_=>rfl
 | x::O,a,h=>by
  simp only[ku,ij] at h;have c:x≠a:=λe=>by subst e;simp at h
  simp only[zEM,dt,MP,gn];rw[au c];exact congrArg _ (ZD O a h.2)
def zLv(t:List Int)(a b:Int):cU t++[[.i .i64 a],[.i .i64 b]]=cU (t++[a,b]):=by simp[cU]
def vE{l:Bm}{a:Int}(H:l.length<=100000)(n:OkG l):aA prog 147 [.c (.p (.sl 4 (cZ l))),.c (.p (.i .i64 a))] [] λr h=>r=.c (.own 0 0 (cU (lT l a)).length)/\h=[.arr 1 (cU (lT l a)) false]:=by
 refine aA.rowR ?_;refine VN aC aI func147 rfl rfl λI hX=>?_;simp only[f147,go_sem]
 repeat' (first|exact⟨⟩|refine sp ?_|refine ai ?_)
 refine bG aC aI (α:=List Int × List Int) (λx=>⟨52,[(0,.c (.p (.sl 4 (cZ l)))),(5,.c (.mp 0)),(6,.c (.own 1 0 x.1.length)),(7,.c (.own 2 0 x.2.length))],[.mp (zEM x.2),.arr 1 (cU x.1) false,.arr 1 (cU x.2) false]⟩)
  (λx=>Bfs l a x.1 x.2/\x.2.length<=l.length) (λx=>3*(l.length-x.2.length)+x.1.length) ([a],[]) ⟨Bfs.start,bc _⟩ ((gS 7 1 rfl).trans (aV (aB qj rfl rfl wkK))) ?_
 rintro⟨T,O⟩ ⟨f,u⟩;simp only at f u ⊢;have k:=f.len;cases T with
 | nil =>
  have v:=f.done n;have w:(O.mergeSort λx y=>decide (x<=y)).length=O.length:=iq ..;have z:∀{h:aF} {i:Nat} {K:Bd},h[i]?=some (.arr 1 (cU O) false)->K (.tup []) (h.set i (.arr 1 (cU (lT l a)) false))->aA prog 218 [.c (.own i 0 O.length)] h K:=λD z=>zQF D qd rfl (by rw[v];exact z)
  rw[v] at w;clear v k u f
  repeat' (first|exact⟨⟩|refine sp ?_|refine z rfl ?_)
  exact .inr ⟨2,rfl,rfl⟩
 | cons t T =>
  simp only[bw] at k ⊢;have J:decide ((0:Int)<((T.length+1:Nat):Int))=true:=df qd;have d:=PF (l:=l) (a:=t) qd;have E:(cU (t::T)).getD 0 []=[.i .i64 t]:=rfl;have g:((cU (t::T)).drop 1).take T.length=cU T:=by rw[show (cU (t::T)).drop 1=cU T from rfl,<- fV T,dj]
  have g:=PLift.up g;cases j:fQ l t with
  | none =>
   have b:=f.skip (.inl j);rw[j] at d;clear f j;have b:=PLift.up b
   repeat' (first|simp only[*,go_sem,Nat.reduceLT,Nat.reduceLeDiff,Nat.reduceEqDiff,↓reduceIte,Nat.reduceAdd,Int.reduceLE,Int.reduceToNat,gm,ke]|refine uF d ?_|refine ai ?_)
   exact eO (T,O) ⟨b.down,u⟩ rj (SE.trans (FD 6 1 1 T.length rfl rfl) (by rw[g.down];exact cK (dV [0,4,2] rfl hpK rfl wpK)))
  | some x =>
   rw[j] at d;cases o:O.contains x.i
   .have q:t ∉ O:=by
     have e:=(oW j).2;rw[<- e];simpa using o
    obtain⟨A,F,L⟩:=f.more n j q;have m:=zU O x.i;have G:=ZD O x.i o;rw[o] at m;clear f j q F;have A:=PLift.up A;have B:(T++[x.p,x.s]).length=T.length+1-1+2:=ql
    have C:(O++[x.i]).length=O.length+1:=ql
    have B:=PLift.up B;have C:=PLift.up C
    repeat' (first|simp only[*,go_sem,Nat.reduceLT,Nat.reduceLeDiff,Nat.reduceEqDiff,↓reduceIte,Nat.reduceAdd,Int.reduceLE,Int.reduceToNat,Nat.reduceBEq,gy,fe,zLv,oz,j9]|refine uF d ?_|((with_reducible refine And.intro ?_ ?_);((first|omega|decide))))
    exact eO (T++[x.p,x.s],O++[x.i]) ⟨A.down,qk⟩ qk (by rw[B.down,C.down];exact cK (dV [0,7,5] rfl hpK rfl wpK))
   .have q:t∈O:=by
     have e:=(oW j).2;rw[<- e];simpa using o
    have b:=f.skip (.inr q);have m:=zU O x.i;rw[o] at m;clear f j q;have b:=PLift.up b
    repeat' (first|simp only[*,go_sem,Nat.reduceLT,Nat.reduceLeDiff,Nat.reduceEqDiff,↓reduceIte,Nat.reduceAdd,Int.reduceLE,Int.reduceToNat,gy,fe]|refine uF d ?_|refine ai ?_)
    exact eO (T,O) ⟨b.down,u⟩ rj (SE.trans (FD 6 1 1 T.length rfl rfl) (by rw[g.down];exact cK (dV [0,4,2] rfl hpK rfl wpK)))
def vH{h:aF}{i n:Nat}{l:List Int}{a:Int}{K:Bd}(e:l.length<=1000000)(f:n=l.length)(g:h[i]?=some (.arr 1 (cU l) false))(j:K (.c (.p (.b (l.contains a)))) h):
  aA prog 148 [.c (.own i 0 n),.c (.p (.i .i64 a))] h K :=
 zNB rfl (by rw[f,<- fV,dj]) (zAo e) g (λd k=>by subst k;exact⟨rfl,j⟩)
def zRm{l:Bm}{a b:Int}(r:l.length<=100000)(f:OkG l):ag 83 [.c (.p (.sl 4 (cZ l))),.c (.p (.i .i64 a)),.c (.p (.i .i64 b))] (.c (.p (.i .i64 (rE l a b)))):=by
 have g:=vE (a:=a) r f;have j:=vE (a:=b) r f;have u:=pW l a;have v:=pW l b;unfold rE;rw[fV] at g j;generalize lT l a=A at g u ⊢;generalize lT l b=B at j v ⊢;refine aa func83 λC hX=>?_
 repeat' (first|exact⟨⟩|refine sp ?_|refine uS [] j ?_|refine uS [] g ?_)
 refine aJ aC aI (α:=Nat) (λk=>⟨28,[(8,.c (.own 0 0 B.length)),(16,.c (.own 1 0 A.length)),(17,.c (.p (.i .i64 A.length))),(18,.c (.p (.i .i64 k))),(7,.c (.p (.i .i64 ((((A.take k).filter λx=>B.contains x).getLast?).getD 0))))],[.arr 1 (cU B) false,.arr 1 (cU A) false]⟩)
  (λk=>k<=A.length) (λk=>A.length-k) 0 (bc _) (.inl (aB qj rfl rfl wkK)) ?_
 intro k s;by_cases n:k<A.length
 .have m:=ay n;have w:=mU m;obtain⟨y,D,E,F⟩:=lk k A.length;have d:((A.take (k+1)).filter λx=>B.contains x)=((A.take k).filter λx=>B.contains x)++(if B.contains A[k] then [A[k]] else []):=by
   rw[dm,m,fq];show _++List.filter _ [A[k]]=_;rw[fc,mn]
  generalize A[k]=x at m w d;have e:∀{h:aF} {i:Nat} {K:Bd},h[i]?=some (.arr 1 (cU B) false)->K (.c (.p (.b (B.contains x)))) h->aA prog 148 [.c (.own i 0 B.length),.c (.p (.i .i64 x))] h K:=λz s=>vH qd rfl z s;clear m g j;cases t:B.contains x
  .rw[t] at e d;rw[au qh,dh] at d;have d:=PLift.up d
   repeat' (first|exact⟨⟩|refine sp ?_|refine e rfl ?_)
   exact cW (k+1) qd qd (by rw[d.down];exact aB rfl rfl rfl wkK)
  .rw[t] at e d;rw[aw rfl] at d;have o:((((A.take (k+1)).filter λx=>B.contains x).getLast?).getD 0)=x:=by rw[d,List.getLast?_append];rfl
   have o:=PLift.up o;clear d
   repeat' (first|exact⟨⟩|refine sp ?_|refine e rfl ?_)
   exact cW (k+1) qd qd (by rw[o.down];exact aB rfl rfl rfl wkK)
 .have q:k=A.length:=qd
  subst q;rw[dj];have y:=nlt A.length;clear g j
  repeat' (first|exact⟨⟩|refine sp ?_)
def goK(S:List Int)(x:Ly):Bool:=!S.contains x.i
def zHO{S:List Int}{es:Bc}{i p s:Int}{f:Bool}(a:S.length<=1000000):
  aA prog 223 [.agg [.p (.i .i64 i),.p (.i .i64 p),.p (.i .i64 s),.p (.b f)],.c (.ptr 0 0)] [.box [.own 1 0 S.length],.arr 1 (cU S) false,.arr 4 es false]
   λr h=>r=.c (.p (.b (!S.contains i)))/\h=[.box [.own 1 0 S.length],.arr 1 (cU S) false,.arr 4 es false]:=by
 have d:∀{h:aF} {j:Nat} {K:Bd},h[j]?=some (.arr 1 (cU S) false)->K (.c (.p (.b (S.contains i)))) h->aA prog 148 [.c (.own j 0 S.length),.c (.p (.i .i64 i))] h K:=λe g=>vH a rfl e g;refine aa func223 λk l=>?_
 repeat' (simp only[*,go_sem,Nat.reduceLT,Nat.reduceEqDiff,↓reduceIte,Nat.reduceAdd,cG,aX])
def zHP{S:List Int}{es:Bc}{i p s:Int}{f:Bool}(a:S.length<=1000000):
  aA prog 223 [.agg [.p (.i .i64 i),.p (.i .i64 p),.p (.i .i64 s),.p (.b f)],.c (.ptr 0 0)] [.box [.own 1 0 S.length],.arr 1 (cU S) false,.arr 4 es false,.box [.p (.i .i64 i),.p (.i .i64 p),.p (.i .i64 s),.p (.b f)]]
   λr h=>r=.c (.p (.b (!S.contains i)))/\h=[.box [.own 1 0 S.length],.arr 1 (cU S) false,.arr 4 es false,.box [.p (.i .i64 i),.p (.i .i64 p),.p (.i .i64 s),.p (.b f)]]:=by
 have d:∀{h:aF} {j:Nat} {K:Bd},h[j]?=some (.arr 1 (cU S) false)->K (.c (.p (.b (S.contains i)))) h->aA prog 148 [.c (.own j 0 S.length),.c (.p (.i .i64 i))] h K:=λe g=>vH a rfl e g;refine aa func223 λk l=>?_
 repeat' (simp only[*,go_sem,Nat.reduceLT,Nat.reduceEqDiff,↓reduceIte,Nat.reduceAdd,cG,aX])
def zL8{t:Bm}{S:List Int}(n:S.length<=1000000)(v:t.length<=1000000):
  aA prog 168 [.c (.own 2 0 t.length),.c (.clo 223 [.ptr 0 0])] [.box [.own 1 0 S.length],.arr 1 (cU S) false,.arr 4 (cZ t) false]
   λr h=>(∃i:Nat,i<=t.length/\(∀j x,t[j]?=some x->j<i->goK S x=false)/\((∃x,t[i]?=some x/\goK S x=true/\r=.c (.p (.i .i64 i)))∨(i=t.length/\r=.c (.p (.i .i64 (-1))))))/\h=[.box [.own 1 0 S.length],.arr 1 (cU S) false,.arr 4 (cZ t) false]:=by
 refine aa func168 λw hX=>?_
 repeat' (first|exact⟨⟩|refine sp ?_)
 refine aJ aC aI (α:=Nat) (λk=>⟨19,[(0,.c (.own 2 0 t.length)),(1,.c (.clo 223 [.ptr 0 0])),(7,.c (.p (.i .i64 t.length))),(8,.c (.p (.i .i64 k)))],[.box [.own 1 0 S.length],.arr 1 (cU S) false,.arr 4 (cZ t) false]⟩)
  (λk=>k<=t.length/\∀j x,t[j]?=some x->j<k->goK S x=false) (λk=>t.length-k) 0 ⟨bc _,λj x _ h=>by omega⟩ (.inl (aB qj rfl rfl wkS)) ?_
 rintro k ⟨o,e⟩;by_cases f:k<t.length
 .have b:=ay f;have q:=iG b;obtain⟨s,u,-,z⟩:=lk k t.length;generalize t[k]=x at b q;cases d:goK S x
  .have g:k+1<=t.length/\∀j y,t[j]?=some y->j<k+1->goK S y=false:=⟨qd,λj y l A=>by
    rcases cc j k with h|h
    .exact e j y l h
    .have:j=k:=qd
     subst this;rw[b] at l;cases l;exact d⟩
   have a:(!S.contains x.i)=false:=d;clear e b d
   repeat' (first|exact⟨⟩|refine sp ?_|refine ai ?_)
   refine aA.mono (zHO n) ?_;rintro _ _ ⟨rfl,rfl⟩;rw[a]
   repeat' (first|exact⟨⟩|refine sp ?_)
   exact cW (k+1) g qd (aB rfl rfl rfl wkS)
  .have a:(!S.contains x.i)=true:=d
   repeat' (first|exact⟨⟩|refine sp ?_|refine ai ?_)
   refine aA.mono (zHO n) ?_;rintro _ _ ⟨rfl,rfl⟩;rw[a];clear a
   repeat' (simp only[*,go_sem,Nat.reduceLT,Nat.reduceEqDiff,↓reduceIte,Int.reduceNeg,cG,aX])
   exact⟨k,o,e,.inl ⟨x,b,d,rfl⟩⟩
 .have s:=aj k t.length;have m:k=t.length:=qd
  subst m
  repeat' (simp only[*,go_sem,Nat.reduceLT,Nat.reduceEqDiff,↓reduceIte,Nat.reduceAdd,Int.reduceNeg,cG,aX])
  refine⟨t.length,bg _,e,.inr ?_⟩
  first|exact⟨rfl,rfl⟩|rfl
def zFX{t:Bm}{S:List Int}{K:Bd}(F:S.length<=1000000)(O:t.length<=1000000)
  (A:∀es:Bc,es.take (t.filter λx=>!goK S x).length=cZ (t.filter λx=>!goK S x)->K (.c (.own 2 0 (t.filter λx=>!goK S x).length)) [.box [.own 1 0 S.length],.arr 1 (cU S) false,.arr 4 es false]):
  aA prog 222 [.c (.own 2 0 t.length),.c (.clo 223 [.ptr 0 0])] [.box [.own 1 0 S.length],.arr 1 (cU S) false,.arr 4 (cZ t) false] K:=by
 refine VN aC aI func222 rfl rfl λW hX=>?_;simp only[f222,go_sem]
 repeat' (first|exact⟨⟩|refine sp ?_)
 refine aA.mono (zL8 F O) ?_;rintro _ _ ⟨⟨i0,B,h,r⟩,rfl⟩;rcases r with⟨X,s,C,rfl⟩|⟨rfl,rfl⟩
 .have m:i0<t.length:=(bz.1 s).1;have q:((i0:Int) == -1)=false:=by rw[ji];omega
  have P:IntKind.i64.wrap ((i0:Int)+1)=(i0+1:Nat):=wrap_i64 qd qd
  repeat' (first|exact⟨⟩|refine sp ?_)
  have a:(t.take i0).filter (λx=>!goK S x)=t.take i0:=fw.2 λx n=>by
   obtain⟨j,w,rfl⟩:=ie.1 n;rw[km];have G:j<i0:=by simp at w;omega
   rw[h j _ (ay qd) G];rfl
  have M:(t.take (i0+1)).filter (λx=>!goK S x)=t.take i0:=by
   rw[fC s,a,C];simp
  refine aJ aC aI (α:=Nat × Nat × Bm) (λx=>⟨42,[(0,.c (.own 2 0 t.length)),(1,.c (.clo 223 [.ptr 0 0])),(5,.c (.p (.i .i64 x.2.1))),(6,.c (.p (.i .i64 x.1)))],[.box [.own 1 0 S.length],.arr 1 (cU S) false,.arr 4 (cZ x.2.2) false]⟩)
   (λx=>x.1<=t.length/\x.2.1<x.1/\x.2.2.length=t.length/\x.2.2.take x.2.1=(t.take x.1).filter (λx=>!goK S x)/\x.2.2.drop x.1=t.drop x.1) (λx=>t.length-x.1) (i0+1,i0,t)
   ⟨qd,ql,rfl,by rw[M],rfl⟩ (.inl (aB qj rfl rfl wkS)) ?_
  clear a M h s C q P m B;rintro⟨j,i,R⟩ ⟨w,D,u,b,f⟩;simp only at w D u b f;by_cases H:j<t.length
  .have n:=ay H;have o:R[j]?=some t[j]:=by
    have Q:R[j]?=t[j]? := by
     have:=congrArg (·[0]?) f
     simpa[gu] using this
    exact Q.trans n
   have T:=iG o;obtain⟨U,I,-⟩:=lk3 j t.length;have N:(i:Int)<(t.length:Int):=qd
   have Y:IntKind.i64.wrap ((j:Int)+1)=(j+1:Nat):=wrap_i64 qd qd;have Z:IntKind.i64.wrap ((i:Int)+1)=(i+1:Nat):=wrap_i64 qd qd;have d:=fC (g:=λx=>!goK S x) n;generalize t[j]=x at n o T d;have e:R.drop (j+1)=t.drop (j+1):=by rw[<- kv,<- kv,f]
   cases z:goK S x
   .rw [z] at d;have J:j+1<=t.length/\i+1<j+1/\(R.set i x).length=t.length/\(R.set i x).take (i+1)=(t.take (j+1)).filter (λx=>!goK S x)/\(R.set i x).drop (j+1)=t.drop (j+1):=by
     refine⟨qd,qd,by simp[u],?_,?_⟩
     .rw[d,dm,j6 qd,od,pf ri,b];rfl
     .rw[List.drop_set,aw qd,e]
    have v:(!S.contains x.i)=false:=z;have L:=iG (l:=R) (k:=i) (ay qd);generalize (R[i]' qd)=y at L;clear d b f e n o z
    repeat' (first|exact⟨⟩|refine sp ?_|refine ai ?_)
    refine aA.mono (zHP F) ?_;rintro _ _ ⟨rfl,rfl⟩;rw[v]
    repeat' (first|exact⟨⟩|refine sp ?_|refine ai ?_)
    exact cW (j+1,i+1,R.set i x) J qf (aB rfl (by simp only[<- zCa];rfl) rfl wkS)
   .rw[z] at d;have J:j+1<=t.length/\i<j+1/\R.length=t.length/\R.take i=(t.take (j+1)).filter (λx=>!goK S x)/\R.drop (j+1)=t.drop (j+1):=⟨qd,qd,u,by rw[d,b];simp,e⟩
    have v:(!S.contains x.i)=true:=z;clear d b f e n o z
    repeat' (first|exact⟨⟩|refine sp ?_|refine ai ?_)
    refine aA.mono (zHP F) ?_;rintro _ _ ⟨rfl,rfl⟩;rw[v]
    repeat' (first|exact⟨⟩|refine sp ?_)
    exact cW (j+1,i,R) J qf (aB rfl rfl rfl wkS)
  .have U:=aj j t.length;have E:t.take j=t:=bu qd;rw[E] at b;have m:(t.filter λx=>!goK S x).length=i:=by
    rw[<- b,cr];omega
   have I:(i:Int)<=(t.length:Int):=qd
   have B:(0:Int)<=i:=qd
   have V:i+(t.length-i)=R.length:=qd
   rw[m] at A;clear E f D
   repeat' (first|exact⟨⟩|refine sp ?_|refine ai ?_)
   all_goals first|refine A _ ?_|refine⟨qd,A _ ?_⟩
   all_goals exact ka (by simp[cZ,m])
 .have a:t.filter (λx=>!goK S x)=t:=fw.2 λx n=>by
   obtain⟨j,w,rfl⟩:=ie.1 n;rw[h j _ (ay w) w];rfl
  rw[a] at A;clear a
  repeat' (first|exact⟨⟩|refine sp ?_)
  all_goals exact A _ (bu ql)
def SG(l:Bm)(ids:List Int):List Int:=ids.flatMap (lT l)
def zBO{l:Bm}:∀(ids:List Int),(SG l ids).length<=ids.length*l.length
 | []=>by simp[SG]
 | a::ids=>by
  have c:=pW l a;have b:=zBO (l:=l) ids;simp only[SG,jq,bo,bw,Nat.succ_mul] at b ⊢;omega
def zMf(l:Bm)(ids:List Int):(l.filter λx=>!goK (SG l ids) x)=jV l ids:=by
 unfold jV
 congr 1
 funext x
 simp only[goK,ki,SG];rw[gi];simp[jc]
def zSb{l:Bm}{ids:List Int}(E:l.length<=900)(hi:ids.length<=900)(t:OkG l):aA prog 155 [.c (.p (.sl 4 (cZ l))),.c (.p (.sl 1 (cU ids)))] [] λr h=>r=.c (.own 0 0 (cZ (jV l ids)).length)/\h=[.arr 4 (cZ (jV l ids)) false]:=by
 refine aA.rowP ?_;have m:=zBU (l:=l) qd;rw[kO] at m;have u:=λa=>vE (l:=l) (a:=a) qd t;have g:∀k,(SG l (ids.take k)).length<=810000:=λk=>by
  have v:(ids.take k).length<=900:=by rw[cr];omega
  have F:=zBO (l:=l) (ids.take k);have H:(ids.take k).length*l.length<=900*900:=Nat.mul_le_mul v E;omega
 have b:∀{K:Bd},(∀j:Bc,j.take (jV l ids).length=cZ (jV l ids)->K (.c (.own 2 0 (jV l ids).length)) [.box [.own 1 0 (SG l ids).length],.arr 1 (cU (SG l ids)) false,.arr 4 j false]) ->
   aA prog 222 [.c (.own 2 0 l.length),.c (.clo 223 [.ptr 0 0])] [.box [.own 1 0 (SG l ids).length],.arr 1 (cU (SG l ids)) false,.arr 4 (cZ l) false] K:=λw=>by
  have I:=g ids.length;rw[dj] at I;refine zFX qd qd ?_;rw[zMf];exact w
 generalize jV l ids=G at b ⊢;refine VN aC aI func155 rfl rfl λN hX=>?_;simp only[f155,go_sem]
 repeat' (first|exact⟨⟩|refine sp ?_)
 refine bG aC aI (α:=Nat) (λk=>⟨24,[(0,.c (.p (.sl 4 (cZ l)))),(5,.c (.ptr 0 0)),(8,.c (.p (.sl 1 (cU ids)))),(9,.c (.p (.i .i64 ids.length))),(10,.c (.p (.i .i64 k)))],[.box [.own 1 0 (SG l (ids.take k)).length],.arr 1 (cU (SG l (ids.take k))) false]⟩)
  (λk=>k<=ids.length) (λk=>ids.length-k) 0 (bc _) ((zDZ 0 0 1 rfl rfl (by rw[hX];exact bg _)).trans (aV (aB qj rfl rfl wkK))) ?_
 intro k J;have n:=g k;by_cases y:k<ids.length
 .have s:=ay y;have L:=mU s;obtain⟨v,F,H,O⟩:=lk k ids.length;have o:SG l (ids.take (k+1))=SG l (ids.take k)++lT l ids[k]:=by
   unfold SG;rw[dm,s,List.flatMap_append];simp
  have e:=u ids[k];have q:=pW l ids[k];rw[fV] at e;generalize ids[k]=x at s L o e q;generalize lT l x=A at e o q;generalize SG l (ids.take k)=S at n o;have f:(SG l (ids.take (k+1))).length=S.length+A.length:=by rw[o,bo]
  have o:=PLift.up o;have f:=PLift.up f;have M:(cU A).take A.length=cU A:=by rw[<- fV A,dj]
  have z:∀{h:aF} {K:Bd},K (.c (.own h.length 0 A.length)) (h++[.arr 1 (cU A) false])->aA prog 147 [.c (.p (.sl 4 (cZ l))),.c (.p (.i .i64 x))] h K:=λ{h K} w=>zOy [] e rfl rfl (by simp only[go_sem]) (by simpa[DV.rn,CV.rn,Dm.rn,nB,DB.rn] using w);clear s u b g m e
  repeat' (first|exact⟨⟩|refine sp ?_|((refine aK (id:=5) aC aI [3,4,5] [1,2,3,0,4,5] qi ?_);(repeat' (first|(refine aM ?_)|((refine bJ ?_ ?_ rfl rfl rfl ?_ ?_);(rotate_left 2);(focus ((repeat' (first|exact⟨⟩|refine sp ?_|refine z ?_|refine ai ?_));((refine And.intro ?_ ?_<;>exact rfl))));(simp only[aD,aQ]))|((refine bI ?_ rfl rfl rfl ?_ ?_);(rotate_left 1);(focus ((repeat' (first|exact aS|refine aL ?_ ?_));(all_goals ((repeat' (first|exact⟨⟩|refine sp ?_));(try (exact rfl))))));(simp only[aD]))))))
  exact eO (k+1) qd qd (by rw[f.down,o.down];exact cK (dV [0,3] rfl hpK rfl wpK))
 .have B:k=ids.length:=qd
  subst B;rw[dj] at n ⊢;have v:=nlt ids.length;clear u g;generalize SG l ids=S at n b
  repeat' (first|exact⟨⟩|refine sp ?_|refine uS [] m ?_)
  refine aA.sub [0,1,2] (b (K:=λd D=>∃j:Bc,j.take G.length=cZ G/\d=.c (.own 2 0 G.length)/\D=[.box [.own 1 0 S.length],.arr 1 (cU S) false,.arr 4 j false]) λj C=>⟨j,C,rfl,rfl⟩) rfl (by simp only[go_sem];done) ?_;rintro d D - ⟨j,C,rfl,rfl⟩;simp only[go_sem]
  repeat' (first|exact⟨⟩|refine sp ?_)
  exact .inr ⟨2,0,j,rfl,rfl,C⟩
def zTE{r:Rm}(m:OkR r):aA prog 156 [.c (.ptr 0 0)] (bC r) λd h=>d=.c (.own 4 0 (qK r.N).length)/\h=bC r++[.arr 1 (cU (qK r.N)) false]:=by
 have n:=m.nl;have e:(qK r.N).length=r.N.length:=by simp[qK]
 rw[e];refine VN aC aI func156 rfl rfl λt hX=>?_;simp only[f156,go_sem]
 repeat' (first|exact⟨⟩|refine sp ?_)
 refine bG aC aI (α:=Nat) (λk=>⟨22,[(9,.c (.own 1 0 r.N.length)),(10,.c (.p (.i .i64 r.N.length))),(11,.c (.p (.i .i64 k))),(3,.c (.own 4 0 k))],[.box [.own 1 0 r.N.length,.own 2 0 r.L.length,.mp 3,.p (.i .i64 r.x)],.arr 2 (bW r.N) false,.arr 4 (cZ r.L) false,.mp (uV r.E),.arr 1 (cU (qK (r.N.take k))) false]⟩)
  (λk=>k<=r.N.length) (λk=>r.N.length-k) 0 (bc _) ((gS 3 1 rfl).trans (aV (aB qj rfl rfl wkK))) ?_
 intro k o;by_cases f:k<r.N.length
 .have b:=ay f;have q:=kQ b;obtain⟨s,u,v,w⟩:=lk k r.N.length;have a:qK (r.N.take (k+1))=qK (r.N.take k)++[r.N[k].l]:=by unfold qK;rw[dm,b,gh];rfl
  have g:(qK (r.N.take k)).length=k:=by unfold qK;rw[di,cr];omega
  generalize r.N[k]=x at b q a;generalize qK (r.N.take k)=S at a g;have a:=PLift.up a;clear b
  repeat' (first|exact⟨⟩|refine sp ?_|((with_reducible refine And.intro ?_ ?_);((first|omega|decide))))
  exact eO (k+1) qd qd (by rw[a.down];exact cK (dV [0,1,2,3,7] rfl hpK rfl wpK))
 .have j:k=r.N.length:=qd
  subst j;rw[dj];have s:=nlt r.N.length
  repeat' (first|exact⟨⟩|refine sp ?_)
def zSc{h:aF}{i j n m:Nat}{l:Bm}{ids:List Int}{K:Bd}(e:l.length<=900)(hi:ids.length<=900)(a:OkG l)(f:n=l.length)(g:m=ids.length)(b:i≠j)(k:h[i]?=some (.arr 4 (cZ l) false))(h1:h[j]?=some (.arr 1 (cU ids) false))
  (o:K (.c (.own h.length 0 (jV l ids).length)) (h.set j (.arr 1 (cU ids) true)++[.arr 4 (cZ (jV l ids)) false])):aA prog 155 [.c (.own i 0 n),.c (.own j 0 m)] h K:=by
 have d:(cU ids).take m=cU ids:=by rw[g,<- fV ids,dj]
 refine aA.frzB (a':=.c (.p (.sl 1 (cU ids)))) rfl (by simp[jI,zAC,zAp,XW,h1,d]) ?_;have q:uM h (nN [.c (.own j 0 m)])=h.set j (.arr 1 (cU ids) true):=by simp[nN,zRz,zHy,uM,zKn,h1]
 rw[q];refine zOx rfl (by rw[f,<- kO,dj]) (zSb e hi a) (by rw[il (Ne.symm b)];exact k) (by simp[xS,sL,lR,cZ,yF,Ly.cs]) ?_;simpa[DV.sh,CV.sh,DB.sh,kO] using o
def zFC{r:Rm}(n:OkR r)(o:OkG r.L):aA prog 87 [.c (.ptr 0 0)] (bC r) λd h=>d=.tup []/\h=dP (JX r):=by
 have v:=n.nl;have f:=n.ll;have g:(qK r.N).length=r.N.length:=by simp[qK]
 have e:=zTE n;have a:∀{K:Bd},K (.c (.own 4 0 r.N.length)) (bC r++[.arr 1 (cU (qK r.N)) false])->aA prog 156 [.c (.ptr 0 0)] (bC r) K:=λq=>aA.mono e (by rintro d A ⟨rfl,rfl⟩;rw[g];exact q);unfold bC at a;have b:∀{h:aF} {K:Bd},h[2]?=some (.arr 4 (cZ r.L) false)->h[4]?=some (.arr 1 (cU (qK r.N)) false)->K (.c (.own h.length 0 (jV r.L (qK r.N)).length)) (h.set 4 (.arr 1 (cU (qK r.N)) true)++[.arr 4 (cZ (jV r.L (qK r.N))) false])->aA prog 155 [.c (.own 2 0 r.L.length),.c (.own 4 0 r.N.length)] h K:=λw h1 q=>zSc f qd o rfl g.symm qh w h1 q
 unfold JX SQ;have s:(jV r.L (qK r.N)).length<=900:=bj (ei ..) f;generalize jV r.L (qK r.N)=G at b s ⊢;generalize qK r.N=I at a b;refine aA.perm [0,2,3,4,1,5,6] (d1:=.tup []) (h1:=[.box [.own 1 0 r.N.length,.own 5 0 G.length,.mp 6,.p (.i .i64 r.x)],.arr 2 (bW r.N) false,.arr 4 (cZ r.L) false,.mp (uV r.E),.arr 1 (cU I) true,.arr 4 (cZ G) false,.mp (uV (G.foldl (λk l=>rK k l.i (nM r.E l.i)) []))]) ?_ rfl rfl qq;clear e;refine qC aC aI func87 rfl rfl λB hX=>?_;simp only[f87,go_sem]
 repeat' (first|exact⟨⟩|refine sp ?_|((refine aK (id:=0) aC aI [6,7,10] [5,6,1,2,3,4,7,0,8,9,10] qi ?_);(repeat' (first|(refine aM ?_)|((refine bJ ?_ ?_ rfl rfl rfl ?_ ?_);(rotate_left 2);(focus ((repeat' (first|exact⟨⟩|refine sp ?_|refine a ?_|refine b rfl rfl ?_));((refine And.intro ?_ ?_<;>exact rfl))));(simp only[aD,aQ]))|((refine bI ?_ rfl rfl rfl ?_ ?_);(rotate_left 1);(focus ((repeat' (first|exact aS|refine aL ?_ ?_));(all_goals ((repeat' (first|exact⟨⟩|refine sp ?_));(try (exact rfl))))));(simp only[aD]))))))
 clear a b;refine bG aC aI (α:=Nat) (λk=>⟨40,[(0,.c (.ptr 0 0)),(2,.c (.mp 6)),(19,.c (.own 5 0 G.length)),(20,.c (.p (.i .i64 G.length))),(21,.c (.p (.i .i64 k)))],[.box [.own 1 0 r.N.length,.own 5 0 G.length,.mp 3,.p (.i .i64 r.x)],.arr 2 (bW r.N) false,.arr 4 (cZ r.L) false,.mp (uV r.E),.arr 1 (cU I) true,.arr 4 (cZ G) false,.mp (uV ((G.take k).foldl (λk l=>rK k l.i (nM r.E l.i)) []))]⟩)
  (λk=>k<=G.length) (λk=>G.length-k) 0 (bc _) (aV (aB qj rfl rfl wkK)) ?_
 intro k y;by_cases t:k<G.length
 .have m:=ay t;have z:=iG m;obtain⟨h1,C,D,F⟩:=lk k G.length;have j:(G.take (k+1)).foldl (λk l=>rK k l.i (nM r.E l.i)) []=rK ((G.take k).foldl (λk l=>rK k l.i (nM r.E l.i)) []) G[k].i (nM r.E G[k].i):=by rw[dm,m,nc];rfl
  generalize G[k]=x at m z j;generalize (G.take k).foldl (λk l=>rK k l.i (nM r.E l.i)) []=M at j;have j:=PLift.up j;clear m
  repeat' (first|exact⟨⟩|refine sp ?_|refine dR (id:=5) aC aI [10] [0,1,2,3,4,5,6,7,8,9,10] ?_)
  exact eO (k+1) qd qd (by rw[j.down];exact aV (aB rfl rfl rfl wkK))
 .have u:k=G.length:=qd
  subst u;rw[dj];have h1:=nlt G.length
  repeat' (first|exact⟨⟩|refine sp ?_)
def YV{r:Rm}{i p q:Int}{f:Bool}{t:Bl}(j:OkR r)(l:OkT t)(k:OkT (treeR r p)):
  aA prog 55 [.c (.ptr 0 0),.agg [.p (.i .i64 i),.p (.i .i64 p),.p (.i .i64 q),.p (.b f)],.c (.p (.sl 5 (aP t)))] (bC r) λd h=>d=.tup []/\h=bC ⟨r.N,r.L,rK r.E i (eW (treeR r p) t),r.x⟩:=by
 have e:=eB (a:=p) j;have g:=vX k l;unfold bC at e;generalize treeR r p=w at e g ⊢;clear j k;refine aa func55 λm n=>?_
 repeat' (first|exact⟨⟩|refine sp ?_|((refine aK (id:=1) aC aI [12] [0,1,2,3,4,5,6,7,8,9,10,11,12] qi ?_);(repeat' (first|(refine aM ?_)|((refine bJ ?_ ?_ rfl rfl rfl ?_ ?_);(rotate_left 2);(focus ((repeat' (first|exact⟨⟩|refine sp ?_));((refine And.intro ?_ ?_<;>exact rfl))));(simp only[aQ]))|((refine bI ?_ rfl rfl rfl ?_ ?_);(rotate_left 1);(focus ((repeat' (first|exact aS|refine aL ?_ ?_));(all_goals ((repeat' (first|exact⟨⟩|refine sp ?_|refine uS [0,1,2,3] e ?_|refine uN g ?_));(try (exact rfl))))));(simp only[aD]))))))
def zEI(r:Rm):aF:=[.box [.own 4 0 r.N.length,.own 2 0 r.L.length,.mp 3,.p (.i .i64 r.x)],.dead,.arr 4 (cZ r.L) false,.mp (uV r.E),.arr 2 (bW r.N) false]
attribute [go_sem] zEI
def zPI{h:aF}{id a n i:Nat}{es:Bc}{x:List PV}{K:Bd}(hid:h[id]?=some (.arr 2 es false))(b:h[a]?=some (.arr 2 [x] false))(d:id≠a)(g:n<=es.length)(e:i<=n)(f:n<=1000000)
  (j:K (.c (.own (h.length+1) 0 (n+1))) (h.set id .dead++[.dead,.arr 2 (iH i x (es.take n)) false])):
  aA prog 93 [.c (.own id 0 n),.c (.p (.i .i64 i)),.c (.own a 0 1)] h K :=
 aA.mono (zPH hid b d g e f) (by rintro _ _ ⟨rfl,rfl⟩;exact j)
def zIr(N:Bn)(s:Ba):nP N s<=N.length:=by
 unfold nP;exact(og _).length_le
def YT{r:Rm}{s:Ba}{n:Int}(v:r.N.length<=1000)(m:DC r.N):aA prog 48 [.c (.ptr 0 0),.c (.p (.s s)),.c (.p (.i .i64 n))] (bC r) λd h=>d=.tup []/\h=zEI ⟨bY r.N s n,r.L,r.E,r.x⟩:=by
 have g:=uB (r:=r) (s:=s) (bj v qh) m;rcases zBb m (s:=s) with⟨h1,o⟩|⟨x,h1,o,l,w⟩
 .rw [h1] at g;have j:=zIr r.N s;have e:=jL r.N;have a:iH (nP r.N s) [.s s,.i .i64 n] ((bW r.N).take r.N.length)=bW (bY r.N s n):=by
   rw[SO h1,<- e,dj];simp[iH,bW,List.map_take,List.map_drop]
  have k:(bY r.N s n).length=r.N.length+1:=by
   have:=congrArg List.length a;rw[jL,<- e,dj,EX qd] at this;omega
  have b:∀{h:aF} {q:Nat} {K:Bd},h[1]?=some (.arr 2 (bW r.N) false)->h[q]?=some (.arr 2 [[.s s,.i .i64 n]] false)->1≠q->K (.c (.own (h.length+1) 0 (r.N.length+1))) (h.set 1 .dead++[.dead,.arr 2 (bW (bY r.N s n)) false])->aA prog 93 [.c (.own 1 0 r.N.length),.c (.p (.i .i64 (nP r.N s))),.c (.own q 0 1)] h K:=λy h1 t z=>zPI y h1 t qd j qd (by rw[a];exact z)
  rw[<- k] at b;generalize bY r.N s n=M at b k ⊢;generalize nP r.N s=i at g j b;clear a h1 o;refine aA.perm [0,1,2,3,6] (d1:=.tup []) (h1:=[.box [.own 6 0 M.length,.own 2 0 r.L.length,.mp 3,.p (.i .i64 r.x)],.dead,.arr 4 (cZ r.L) false,.mp (uV r.E),.arr 2 [[.s s,.i .i64 n]] false,.dead,.arr 2 (bW M) false]) ?_ rfl rfl (by unfold zEI;exact hpK);refine qC aC aI func48 rfl rfl λA B=>?_;simp only[f48,go_sem]
  repeat' (first|exact⟨⟩|refine sp ?_|refine uS [0,1,2,3] g ?_|refine b rfl rfl qh ?_|refine ai ?_)
 .rw [h1] at g;have u:=(bz.1 l).1;have C:=kQ l;have D:(0:Int)<=(nP r.N s:Int):=qd
  have F:(nP r.N s:Int)<(r.N.length:Int):=qd
  have f:bY r.N s n=r.N.set (nP r.N s) ⟨x.n,n⟩:=by
   have:=rP m (dr l) n;rw[w] at this ⊢;exact this
  rw[f];generalize nP r.N s=i at g u C D F ⊢;clear h1 o l f;refine aA.perm [0,4,2,3,1] (d1:=.tup []) (h1:=bC ⟨r.N.set i ⟨x.n,n⟩,r.L,r.E,r.x⟩) ?_ rfl rfl (by unfold zEI bC;exact hpK)
  have G:(r.N.set i ⟨x.n,n⟩).length=r.N.length:=ff
  refine qC aC aI func48 rfl rfl λA B=>?_;simp only[f48,go_sem]
  repeat' (first|exact⟨⟩|refine sp ?_|refine uS [0,1,2,3] g ?_)
  all_goals rw[ff]
def zNf{r:Rm}{s:Ba}{ck:Int}{cp cq:Ba}{cm:Int}{ct:Nat}{ca cn:Int}{cd:Ba}(u:OkR r)(D:ct<18446744073709551616)(E:cp.length<=9223372036854775807)
  (F:cd.length<=140737488355328)(G:cq.length<=9223372036854775807)(H:-9223372036854775808<=ca/\ca<=9223372036854775807)
  (z:((cF r s).2==0)=true->OkT (treeR r (cF r s).1.i)/\OkT (treeR r (cF r s).1.p)/\OkT (doP (treeR r (cF r s).1.i) ⟨ck,cp,cq,cm,ct,ca,cn,cd⟩).1):
  aA prog 13 [.c (.ptr 0 0),.c (.p (.s s)),.agg (clc ck cp cq cm ct ca cn cd)] (bC r) λd h=>d=.agg (anv (zAz r s ⟨ck,cp,cq,cm,ct,ca,cn,cd⟩).2)/\h=bC (zAz r s ⟨ck,cp,cq,cm,ct,ca,cn,cd⟩).1:=by
 have l:=kK (s:=s) u;have m:=eB (a:=(cF r s).1.i) u;have j:=zFa (k:=ck);unfold zAz;generalize P:cF r s=y at *;obtain⟨⟨v,K,L,A⟩,e⟩:=y;simp only[Ly.cv] at *;cases I:(e==0)
 .have M:(e != 0)=true:=by rw[bne,I];rfl
  simp only[br,az];clear z m j u;refine aG ?_;refine aa func13 λw x=>?_
  repeat' (first|exact⟨⟩|refine sp ?_|refine uS [0,1,2,3] l ?_)
  exact⟨rfl,rfl,rfl,rfl,.inr ⟨1,rfl⟩,.inr ⟨1,rfl⟩,.inr ⟨1,rfl⟩⟩
 .have M:(e != 0)=false:=by rw[bne,I];rfl
  simp only[bh,av,ax];obtain⟨B,J,C⟩:=z I;cases g:(A && jX ck)
  .simp only[av,ax];have n:=do_c (cn:=cn) (cm:=cm) (ck:=ck) B D E F G H;have o:=MU (a:=treeR r v) (b:=(doP (treeR r v) ⟨ck,cp,cq,cm,ct,ca,cn,cd⟩).1) (by have:=B.len;omega) (by have:=C.len;omega);have t:=YV (i:=v) (p:=K) (q:=L) (f:=A) u C J;unfold zEO;simp only;generalize eW (treeR r K) (doP (treeR r v) ⟨ck,cp,cq,cm,ct,ca,cn,cd⟩).1=Q at t ⊢;generalize doP (treeR r v) ⟨ck,cp,cq,cm,ct,ca,cn,cd⟩=T at *;obtain⟨N,a⟩:=T;obtain⟨R,⟨S,U,at_,V⟩,W,X⟩:=a;simp only at *;generalize treeR r v=O at *;clear z B J C u;cases Y:jB O N
   .simp only[av,ax];cases A
    ·
     refine aa func13 λw x=>?_
     repeat' (first|exact⟨⟩|refine sq ?_|refine uS [0,1,2,3] l ?_|refine uS [0,1,2,3] m ?_|refine uN n ?_|refine uN o ?_|refine uS [0,1,2,3] t ?_)
    .rw[cy] at g;rw[g] at j;refine aa func13 λw x=>?_
     repeat' (first|exact⟨⟩|refine sq ?_|refine uS [0,1,2,3] l ?_|refine uS [0,1,2,3] m ?_|refine uF j ?_|refine uN n ?_|refine uN o ?_|refine uS [0,1,2,3] t ?_)
   .simp only[az];cases A
    ·
     refine aa func13 λw x=>?_
     repeat' (first|exact⟨⟩|refine sq ?_|refine uS [0,1,2,3] l ?_|refine uS [0,1,2,3] m ?_|refine uN n ?_|refine uN o ?_)
    .rw[cy] at g;rw[g] at j;refine aa func13 λw x=>?_
     repeat' (first|exact⟨⟩|refine sq ?_|refine uS [0,1,2,3] l ?_|refine uS [0,1,2,3] m ?_|refine uF j ?_|refine uN n ?_|refine uN o ?_)
  .simp only[az];rw[bn] at g;obtain⟨rfl,g⟩:=g;rw[g] at j;clear z B J C u m;refine aG ?_;refine aa func13 λw x=>?_
   repeat' (first|exact⟨⟩|refine sp ?_|refine uS [0,1,2,3] l ?_|refine uF j ?_)
   exact⟨rfl,rfl,rfl,rfl,.inr ⟨1,rfl⟩,.inr ⟨1,rfl⟩,.inr ⟨1,rfl⟩⟩
def yA{r:Rm}{s:Ba}{i0 p q:Int}{es:Bk}(f:OkR r)(j:OkR ⟨bY r.N s r.x,r.L++[⟨r.x,p,q,false⟩],rK r.E r.x es,r.x+1⟩)(k:OkG (r.L++[⟨r.x,p,q,false⟩])):
  aA prog 49 [.c (.ptr 0 0),.c (.p (.s s)),.agg [.p (.i .i64 i0),.p (.i .i64 p),.p (.i .i64 q),.p (.b false)],.c (.p (.sl 7 (fG es)))] (bC r) λd h=>d=.tup []/\h=dP (zE1 r s p q es):=by
 have e:=YT (r:=⟨r.N,r.L++[⟨r.x,p,q,false⟩],rK r.E r.x es,r.x+1⟩) (s:=s) (n:=r.x) (by have:=f.nl;simp only;omega) f.srt;have a:=zFC j k;have m:=f.x;have l:=f.ll;have o:IntKind.i64.wrap (r.x+1)=r.x+1:=wrap_i64 qd qd;unfold zE1;generalize JX ⟨bY r.N s r.x,r.L++[⟨r.x,p,q,false⟩],rK r.E r.x es,r.x+1⟩=c at a ⊢;have g:(r.L++[(⟨r.x,p,q,false⟩:Ly)]).length=r.L.length+1:=ql
 generalize bY r.N s r.x=M at e a;unfold zEI bC at e;unfold bC at a;simp only[g] at e a;refine aA.perm [0,1,2,3,8,9,10] (d1:=.tup []) (h1:=[.box [.own 8 0 c.N.length,.own 9 0 c.L.length,.mp 10,.p (.i .i64 c.x)],.dead,.dead,.dead,.box [.p (.i .i64 r.x),.p (.i .i64 p),.p (.i .i64 q),.p (.b false)],.arr 4 [[.i .i64 r.x,.i .i64 p,.i .i64 q,.b false]] false,.dead,.dead,.arr 2 (bW c.N) false,.arr 4 (cZ c.L) false,.mp (uV c.E)]) ?_ rfl rfl qq;clear j k f;refine qC aC aI func49 rfl rfl λt u=>?_;simp only[f49,go_sem]
 repeat' (first|exact⟨⟩|refine sp ?_|refine uS [0,1,6,3] e ?_|refine uS [0,7,6,3] a ?_|((refine aK (id:=3) aC aI [6,7,10] [5,6,1,2,3,4,7,0,8,9,10] qi ?_);(repeat' (first|(refine aM ?_)|((refine bJ ?_ ?_ rfl rfl rfl ?_ ?_);(rotate_left 2);(focus ((repeat' (first|exact⟨⟩|refine sp ?_|((with_reducible refine And.intro ?_ ?_);((first|omega|decide)))));((refine And.intro ?_ ?_<;>exact rfl))));(simp only[aD,aQ]))|((refine bI ?_ rfl rfl rfl ?_ ?_);(rotate_left 1);(focus ((repeat' (first|exact aS|refine aL ?_ ?_));(all_goals ((repeat' (first|exact⟨⟩|refine sp ?_));(try (exact rfl))))));(simp only[aD])))))|refine dR (id:=4) aC aI [7] [0,1,2,3,4,5,6,7] ?_)
def zEH{r:Rm}{sn s:Ba}(v:OkR r)(M:s.length<=1000000000)
  (u:((snP r sn).2==0)=true->(jN r s==0)=true->(jU r (snP r sn).1.i==0)=true->OkR ⟨bY r.N s r.x,r.L++[⟨r.x,(snP r sn).1.i,0,false⟩],rK r.E r.x [],r.x+1⟩/\OkG (r.L++[⟨r.x,(snP r sn).1.i,0,false⟩])):
  aA prog 32 [.c (.ptr 0 0),.c (.p (.s sn)),.c (.p (.s s))] (bC r) λd h=>d=.c (.p (.i .i64 (JB r sn s).2))/\h=dP (JB r sn s).1:=by
 have g:=zCM (s:=sn) v;have j:=wI (s:=s) v M;have k:=uA (a:=(snP r sn).1.i) v;have f:=λh1 O=>yA (s:=s) (i0:=0) (p:=(snP r sn).1.i) (q:=0) (es:=[]) v h1 O;unfold JB;generalize snP r sn=y at *;obtain⟨⟨l,w,z,A⟩,e⟩:=y;simp only[Ly.cv] at *;generalize jN r s=B at *;generalize jU r l=C at *;have n:∀{c:Bf} {e:Int},aA prog 32 [.c (.ptr 0 0),.c (.p (.s sn)),.c (.p (.s s))] (bC r) (λd h=>d=.c (.p (.i .i64 e))/\h=bC r++[.box c])->aA prog 32 [.c (.ptr 0 0),.c (.p (.s sn)),.c (.p (.s s))] (bC r) (λd h=>d=.c (.p (.i .i64 e))/\h=dP r):=λ{c e} P =>
  aA.perm [0,5,6,7,1,2,3] P rfl rfl qt
 cases D:(e==0)
 .have Q:(e != 0)=true:=by rw[bne,D];rfl
  simp only[br,az];refine n (c:=[.p (.i .i64 l),.p (.i .i64 w),.p (.i .i64 z),.p (.b A)]) ?_;clear f u j k;refine qC aC aI func32 rfl rfl λF G=>?_;simp only[f32,go_sem]
  repeat' (first|exact⟨⟩|refine sp ?_|refine uS [0,1,2,3] g ?_)
 .have Q:(e != 0)=false:=by rw[bne,D];rfl
  simp only[bh,av,ax];cases o:(B==0)
  .have H:(B != 0)=true:=by rw[bne,o];rfl
   simp only[br,az];refine n (c:=[.p (.i .i64 l),.p (.i .i64 w),.p (.i .i64 z),.p (.b A)]) ?_;clear f u k;refine qC aC aI func32 rfl rfl λF G=>?_;simp only[f32,go_sem]
   repeat' (first|exact⟨⟩|refine sp ?_|refine uS [0,1,2,3] g ?_|refine uS [0,1,2,3] j ?_)
  .have H:(B != 0)=false:=by rw[bne,o];rfl
   simp only[bh,av,ax];cases t:(C==0)
   .have I:(C != 0)=true:=by rw[bne,t];rfl
    simp only[br,az];refine n (c:=[.p (.i .i64 l),.p (.i .i64 w),.p (.i .i64 z),.p (.b A)]) ?_;clear f u;refine qC aC aI func32 rfl rfl λF G=>?_;simp only[f32,go_sem]
    repeat' (first|exact⟨⟩|refine sp ?_|refine uS [0,1,2,3] g ?_|refine uS [0,1,2,3] j ?_|refine uS [0,1,2,3] k ?_)
   .have I:(C != 0)=false:=by rw[bne,t];rfl
    simp only[bh,av,ax];obtain⟨J,K⟩:=u D o t;have m:=aA.wkA (args:=[.c (.ptr 0 0),.c (.p (.s s)),.agg [.p (.i .i64 0),.p (.i .i64 l),.p (.i .i64 0),.p (.b false)],.c (.p .nil)]) (args':=[.c (.ptr 0 0),.c (.p (.s s)),.agg [.p (.i .i64 0),.p (.i .i64 l),.p (.i .i64 0),.p (.b false)],.c (.p (.sl 7 (fG [])))]) ⟨rfl,zKg,⟨wkP.rfl,wkP.rfl,wkP.rfl,wkP.rfl,True.intro⟩,zKf,True.intro⟩ (f J K);clear f u J K;generalize zE1 r s l 0 []=c at m ⊢;refine aA.perm [0,1,2,3,5,6,7] (d1:=.c (.p (.i .i64 0))) (h1:=[.box [.own 5 0 c.N.length,.own 6 0 c.L.length,.mp 7,.p (.i .i64 c.x)],.dead,.dead,.dead,.box [.p (.i .i64 l),.p (.i .i64 w),.p (.i .i64 z),.p (.b A)],.arr 2 (bW c.N) false,.arr 4 (cZ c.L) false,.mp (uV c.E)]) ?_ rfl rfl qq;refine qC aC aI func32 rfl rfl λF G=>?_;simp only[f32,go_sem]
    repeat' (first|exact⟨⟩|refine sp ?_|refine uS [0,1,2,3] g ?_|refine uS [0,1,2,3] j ?_|refine uS [0,1,2,3] k ?_|refine uS [0,1,2,3] m ?_)
def MG{r:Rm}:aA prog 16 [.c (.ptr 0 0)] (bC r) λd h=>d=.c (.p (.i .i64 r.x))/\h=bC r:=by
 refine aa func16 λa b=>?_
 repeat' (first|exact⟨⟩|refine sp ?_)
def SS{h:aF}{i n:Nat}{l:Bn}{K:Bd}(a:l.length<=1000000)(b:n=l.length)(d:h[i]?=some (.arr 2 (bW l) false))(e:K (.c (.own h.length 0 l.length)) (h++[.arr 2 (bW l) false])):
  aA prog 56 [.c (.own i 0 n)] h K:=by
 refine zOw (by rw[b,<- jL,dj]) (zFE a) d (by simp[xS,sL,lR,bW,yF]) ?_;simpa[DV.sh,CV.sh,DB.sh,jL] using e
def zKF{h:aF}{i n:Nat}{l:Bm}{K:Bd}(a:l.length<=1000000)(b:n=l.length)(d:h[i]?=some (.arr 4 (cZ l) false))(e:K (.c (.own h.length 0 l.length)) (h++[.arr 4 (cZ l) false])):
  aA prog 88 [.c (.own i 0 n)] h K:=by
 refine zOw (by rw[b,<- kO,dj]) (zBU a) d (by simp[xS,sL,lR,cZ,yF,Ly.cs]) ?_;simpa[DV.sh,CV.sh,DB.sh,kO] using e
def GU{r:Rm}(b:OkR r):aA prog 15 [.c (.ptr 0 0)] (bC r) λd h=>d=.c (.own 4 0 r.N.length)/\h=bC r++[.arr 2 (bW r.N) false]:=by
 have e:=b.nl;have a:∀{h:aF} {K:Bd},h[1]?=some (.arr 2 (bW r.N) false)->K (.c (.own h.length 0 r.N.length)) (h++[.arr 2 (bW r.N) false])->aA prog 56 [.c (.own 1 0 r.N.length)] h K:=λf a=>SS qd rfl f a;refine qC aC aI func15 rfl rfl λg i=>?_;simp only[f15,go_sem]
 repeat' (first|exact⟨⟩|refine sp ?_)
def YI{r:Rm}(b:OkR r):aA prog 38 [.c (.ptr 0 0)] (bC r) λd h=>d=.c (.own 4 0 r.L.length)/\h=bC r++[.arr 4 (cZ r.L) false]:=by
 have e:=b.ll;have a:∀{h:aF} {K:Bd},h[2]?=some (.arr 4 (cZ r.L) false)->K (.c (.own h.length 0 r.L.length)) (h++[.arr 4 (cZ r.L) false])->aA prog 88 [.c (.own 2 0 r.L.length)] h K:=λf a=>zKF qd rfl f a;refine qC aC aI func38 rfl rfl λg i=>?_;simp only[f38,go_sem]
 repeat' (first|exact⟨⟩|refine sp ?_)
def zT{r:Rm}{s:Ba}(f:OkR r):aA prog 39 [.c (.ptr 0 0),.c (.p (.s s))] (bC r) λd h=>d=.tup [.c (.p (.sl 5 (aP (dS r s).1))),.c (.p (.i .i64 (dS r s).2))]/\h=bC r:=by
 have b:=kK (s:=s) f;have g:=eB (a:=(cF r s).1.i) f;unfold dS;generalize cF r s=y at *;obtain⟨⟨k,o,q,t⟩,e⟩:=y;simp only[Ly.cv] at *;generalize treeR r k=T at *;clear f;refine aG ?_;cases j:(e==0)
 .have l:(e != 0)=true:=by rw[bne,j];rfl
  simp only[br,az];refine aa func39 λm n=>?_
  repeat' (first|exact⟨⟩|refine sp ?_|refine uS [0,1,2,3] b ?_)
  all_goals exact .inr ⟨5,rfl⟩
 .have l:(e != 0)=false:=by rw[bne,j];rfl
  simp only[bh,av,ax];refine aa func39 λm n=>?_
  repeat' (first|exact⟨⟩|refine sp ?_|refine uS [0,1,2,3] b ?_|refine uS [0,1,2,3] g ?_)
def zED{r:Rm}{o t:Ba}(a:OkR r):aA prog 81 [.c (.ptr 0 0),.c (.p (.s o)),.c (.p (.s t))] (bC r) λd h=>d=.tup [.agg (fU r o t).1.cv,.agg (fU r o t).2.1.cv,.c (.p (.i .i64 (fU r o t).2.2))]/\h=bC r:=by
 have e:=kK (s:=o) a;have f:=kK (s:=t) a;unfold fU;generalize cF r o=y1 at *;generalize cF r t=y2 at *;obtain⟨⟨ai,v,w,j⟩,b⟩:=y1;obtain⟨⟨x,y,z,k⟩,l⟩:=y2;simp only[Ly.cv] at *;clear a;cases g:(b==0)
 .have m:(b != 0)=true:=by rw[bne,g];rfl
  simp only[br,az];clear f;refine aa func81 λn q=>?_
  repeat' (first|exact⟨⟩|refine sp ?_|refine uS [0,1,2,3] e ?_|refine dR (id:=3) aC aI [3,4] [0,3,1,4,2,5] ?_)
 .have m:(b != 0)=false:=by rw[bne,g];rfl
  simp only[bh,av,ax];cases u:(l==0)<;>cases j<;>cases k
  all_goals simp only[bh,br,ej,dn,gp,gz,av,ax,az]
  all_goals
   refine aa func81 λn q=>?_
   repeat' (first|exact⟨⟩|refine sq ?_|refine uS [0,1,2,3] e ?_|refine uS [0,1,2,3] f ?_|refine dR (id:=7) aC aI [3,4] [0,3,1,4,2,5] ?_)
def zRn{h:aF}{i n:Nat}{l:Bm}{a b:Int}{K:Bd}(e:l.length<=100000)(d:OkG l)(f:n=l.length)(g:h[i]?=some (.arr 4 (cZ l) false))(j:K (.c (.p (.i .i64 (rE l a b)))) h):
  aA prog 83 [.c (.own i 0 n),.c (.p (.i .i64 a)),.c (.p (.i .i64 b))] h K:=by
 refine zSU rfl rfl (by rw[f,<- kO,dj]) (zRm e d) g rfl ?_;simpa[DV.sh,CV.sh] using j
def zBt{r:Rm}{o t s:Ba}(k:OkR r)(hgr:OkG r.L)(hs:s.length<=1000000000)(A:∀i,OkT (treeR r i))
  (C:((fU r o t).2.2==0)=true->(jN r s==0)=true->(jU r (fU r o t).1.i==0)=true->∀w,OkT w->∀q,q=(if (fU r o t).1.i==(fU r o t).2.1.i then 0 else (fU r o t).2.1.i) ->
   OkR ⟨bY r.N s r.x,r.L++[⟨r.x,(fU r o t).1.i,q,false⟩],rK r.E r.x (eW (treeR r (fU r o t).1.i) w),r.x+1⟩/\OkG (r.L++[⟨r.x,(fU r o t).1.i,q,false⟩]))
  (D:∀a b c,(gT (treeR r a) (treeR r b) (treeR r c)).2.2=0->OkT (gT (treeR r a) (treeR r b) (treeR r c)).1):
  aA prog 35 [.c (.ptr 0 0),.c (.p (.s o)),.c (.p (.s t)),.c (.p (.s s))] (bC r) λd h=>d=.tup [.c (.p (.sl 2 (eI (lI r o t s).2.1))),.c (.p (.i .i64 (lI r o t s).2.2))]/\h=dP (lI r o t s).1:=by
 have l:=zED (o:=o) (t:=t) k;have n:=wI (s:=s) k hs;have u:=uA (a:=(fU r o t).1.i) k;unfold lI;generalize fU r o t=y at *;obtain⟨⟨ai,Q,R,S⟩,⟨j,T,U,V⟩,e⟩:=y;simp only[Ly.cv] at *;generalize jN r s=e2 at *;have g:∀{c1 c2:Bf} {F:Bg} {e:Int},aA prog 35 [.c (.ptr 0 0),.c (.p (.s o)),.c (.p (.s t)),.c (.p (.s s))] (bC r) (λd h=>d=.tup [.c (.p (.sl 2 (eI F))),.c (.p (.i .i64 e))]/\h=bC r++[.box c1,.box c2])->aA prog 35 [.c (.ptr 0 0),.c (.p (.s o)),.c (.p (.s t)),.c (.p (.s s))] (bC r) (λd h=>d=.tup [.c (.p (.sl 2 (eI F))),.c (.p (.i .i64 e))]/\h=dP r):=λ{c1 c2 F e} hc =>
  aA.perm [0,6,7,8,1,2,3] hc rfl rfl qt
 cases he:(e==0)
 .have hb:(e != 0)=true:=by rw[bne,he];rfl
  simp only[br,az];refine g (c1:=[.p (.i .i64 ai),.p (.i .i64 Q),.p (.i .i64 R),.p (.b S)]) (c2:=[.p (.i .i64 j),.p (.i .i64 T),.p (.i .i64 U),.p (.b V)]) (aG ?_);clear C D n u g A k;refine qC aC aI func35 rfl rfl λX Y=>?_;simp only[f35,go_sem]
  repeat' (first|exact⟨⟩|refine sp ?_|refine uS [0,1,2,3] l ?_)
  all_goals exact .inr ⟨2,rfl⟩
 .have hb:(e != 0)=false:=by rw[bne,he];rfl
  simp only[bh,av,ax];cases G:(e2==0)
  .have hb2:(e2 != 0)=true:=by rw[bne,G];rfl
   simp only[br,az];refine g (c1:=[.p (.i .i64 ai),.p (.i .i64 Q),.p (.i .i64 R),.p (.b S)]) (c2:=[.p (.i .i64 j),.p (.i .i64 T),.p (.i .i64 U),.p (.b V)]) (aG ?_);clear C D u g A k;refine qC aC aI func35 rfl rfl λX Y=>?_;simp only[f35,go_sem]
   repeat' (first|exact⟨⟩|refine sp ?_|refine uS [0,1,2,3] l ?_|refine uS [0,1,2,3] n ?_)
   all_goals exact .inr ⟨2,rfl⟩
  .have hb2:(e2 != 0)=false:=by rw[bne,G];rfl
   simp only[bh,av,ax];generalize jU r ai=e3 at *;cases H:(e3==0)
   .have hb3:(e3 != 0)=true:=by rw[bne,H];rfl
    simp only[br,az];refine g (c1:=[.p (.i .i64 ai),.p (.i .i64 Q),.p (.i .i64 R),.p (.b S)]) (c2:=[.p (.i .i64 j),.p (.i .i64 T),.p (.i .i64 U),.p (.b V)]) (aG ?_);clear C D g A k;refine qC aC aI func35 rfl rfl λX Y=>?_;simp only[f35,go_sem]
    repeat' (first|exact⟨⟩|refine sp ?_|refine uS [0,1,2,3] l ?_|refine uS [0,1,2,3] n ?_|refine uS [0,1,2,3] u ?_)
    all_goals exact .inr ⟨2,rfl⟩
   .have hb3:(e3 != 0)=false:=by rw[bne,H];rfl
    simp only[bh,av,ax];have I:∀{h:aF} {K:Bd},h[2]?=some (.arr 4 (cZ r.L) false)->K (.c (.p (.i .i64 (rE r.L ai j)))) h->aA prog 83 [.c (.own 2 0 r.L.length),.c (.p (.i .i64 ai)),.c (.p (.i .i64 j))] h K:=λh0 hk=>zRn (by have:=k.ll;omega) hgr rfl h0 hk;generalize rE r.L ai j=B at *;have t1:=eB (a:=B) k;have t2:=eB (a:=ai) k;have t3:=eB (a:=j) k;have J:=zCp (A B).s (A ai).s (A j).s;have M:=D B ai j;have O:=A ai;have C:=λw q hw hq=>C he G H w hw q hq;have f:=λw q h1 h2=>yA (s:=s) (i0:=0) (p:=ai) (q:=q) (es:=eW (treeR r ai) w) k h1 h2;generalize treeR r B=TB at *;generalize treeR r ai=TA at *;generalize treeR r j=TC at *;generalize gT TB TA TC=m at *;obtain⟨W,F,e4⟩:=m;simp only at *;cases P:(e4==0)
    .have hb4:(e4 != 0)=true:=by rw[bne,P];rfl
     simp only[br,az];refine g (c1:=[.p (.i .i64 ai),.p (.i .i64 Q),.p (.i .i64 R),.p (.b S)]) (c2:=[.p (.i .i64 j),.p (.i .i64 T),.p (.i .i64 U),.p (.b V)]) ?_;clear C D g A k f;refine qC aC aI func35 rfl rfl λX Y=>?_;simp only[f35,go_sem]
     repeat' (first|exact⟨⟩|refine sp ?_|refine uS [0,1,2,3] l ?_|refine uS [0,1,2,3] n ?_|refine uS [0,1,2,3] u ?_|refine I rfl ?_|refine uS [0,1,2,3] t1 ?_|refine uS [0,1,2,3] t2 ?_|refine uS [0,1,2,3] t3 ?_|refine uN J ?_|refine dG (id:=10) aC aI [] [0,1,2,3,4,5,6,7,8,9,10,11,12,13,14,15,16,17,18,19,20,21,22,23,24,25,26] ?_|refine aM ?_|refine d1 ?_ ?_ ?_|with_reducible exact rfl)
    .have hb4:(e4 != 0)=false:=by rw[bne,P];rfl
     simp only[bh,av,ax];obtain rfl:e4=0:=by simpa using P
     have v:=M rfl;have Z:=vX O v;cases hac:(ai==j)
     all_goals simp only[av,ax,az]
     .obtain⟨k1,k2⟩:=C W j v (by rw[hac];rfl);have z:=f W j k1 k2;clear C f D g A M v O k1 k2;generalize eW TA W=E1 at *;generalize zE1 r s ai j E1=c at *;clear k;refine aA.perm [0,1,2,3,7,8,9] (d1:=.tup [.c (.p (.sl 2 (eI []))),.c (.p (.i .i64 0))]) (h1:=[.box [.own 7 0 c.N.length,.own 8 0 c.L.length,.mp 9,.p (.i .i64 c.x)],.dead,.dead,.dead,.box [.p (.i .i64 ai),.p (.i .i64 Q),.p (.i .i64 R),.p (.b S)],.box [.p (.i .i64 j),.p (.i .i64 T),.p (.i .i64 U),.p (.b V)],.box [.p (.i .i64 0),.p (.i .i64 ai),.p (.i .i64 j),.p (.b false)],.arr 2 (bW c.N) false,.arr 4 (cZ c.L) false,.mp (uV c.E)]) (aG ?_) rfl rfl qq;refine qC aC aI func35 rfl rfl λX Y=>?_;simp only[f35,go_sem]
      repeat' (first|exact⟨⟩|refine sp ?_|refine uS [0,1,2,3] l ?_|refine uS [0,1,2,3] n ?_|refine uS [0,1,2,3] u ?_|refine I rfl ?_|refine uS [0,1,2,3] t1 ?_|refine uS [0,1,2,3] t2 ?_|refine uS [0,1,2,3] t3 ?_|refine uN J ?_|refine dG (id:=10) aC aI [] [0,1,2,3,4,5,6,7,8,9,10,11,12,13,14,15,16,17,18,19,20,21,22,23,24,25,26] ?_|refine aM ?_|refine d1 ?_ ?_ ?_|refine uS [0,1,2,3] z ?_|refine uN Z ?_|refine dG (id:=16) aC aI [9] [0,1,2,3,4,5,6,7,8,9] ?_|refine dC ?_ ?_ ?_ ?_|refine dL ?_ ?_ ?_|exact aS|refine aL ?_ ?_|with_reducible exact rfl|with_reducible exact eE)
      all_goals exact .inr ⟨2,rfl⟩
     .obtain⟨k1,k2⟩:=C W 0 v (by rw[hac];rfl);have z:=f W 0 k1 k2;clear C f D g A M v O k1 k2;generalize eW TA W=E1 at *;generalize zE1 r s ai 0 E1=c at *;clear k;refine aA.perm [0,1,2,3,7,8,9] (d1:=.tup [.c (.p (.sl 2 (eI []))),.c (.p (.i .i64 0))]) (h1:=[.box [.own 7 0 c.N.length,.own 8 0 c.L.length,.mp 9,.p (.i .i64 c.x)],.dead,.dead,.dead,.box [.p (.i .i64 ai),.p (.i .i64 Q),.p (.i .i64 R),.p (.b S)],.box [.p (.i .i64 j),.p (.i .i64 T),.p (.i .i64 U),.p (.b V)],.box [.p (.i .i64 0),.p (.i .i64 ai),.p (.i .i64 0),.p (.b false)],.arr 2 (bW c.N) false,.arr 4 (cZ c.L) false,.mp (uV c.E)]) (aG ?_) rfl rfl qq;refine qC aC aI func35 rfl rfl λX Y=>?_;simp only[f35,go_sem]
      repeat' (first|exact⟨⟩|refine sp ?_|refine uS [0,1,2,3] l ?_|refine uS [0,1,2,3] n ?_|refine uS [0,1,2,3] u ?_|refine I rfl ?_|refine uS [0,1,2,3] t1 ?_|refine uS [0,1,2,3] t2 ?_|refine uS [0,1,2,3] t3 ?_|refine uN J ?_|refine dG (id:=10) aC aI [] [0,1,2,3,4,5,6,7,8,9,10,11,12,13,14,15,16,17,18,19,20,21,22,23,24,25,26] ?_|refine aM ?_|refine d1 ?_ ?_ ?_|refine uS [0,1,2,3] z ?_|refine uN Z ?_|refine dG (id:=16) aC aI [9] [0,1,2,3,4,5,6,7,8,9] ?_|refine dC ?_ ?_ ?_ ?_|refine dL ?_ ?_ ?_|exact aS|refine aL ?_ ?_|with_reducible exact rfl|with_reducible exact eE)
      all_goals exact .inr ⟨2,rfl⟩
def zBs{r:Rm}{s:Ba}{l:Bh}(w:OkR r)(K:l.length<=100000)(L:∀x∈l,x.p.length<=1000000000/\x.o.t<18446744073709551616/\x.n.t<18446744073709551616)(M:∀x∈l,x.n.d.length<=140737488355328)
  (A:((wsP r s).2==0)=true->OkT (treeR r (wsP r s).1.i)/\OkT (treeR r (wsP r s).1.p)/\(((gP (treeR r (wsP r s).1.i) l).2==0)=true->OkT (gP (treeR r (wsP r s).1.i) l).1)):
  aA prog 34 [.c (.ptr 0 0),.c (.p (.s s)),.c (.p (.sl 10 (jD l)))] (bC r) λd h=>d=.c (.p (.i .i64 (jY r s l).2))/\h=bC (jY r s l).1:=by
 have k:=RJ (s:=s) w;have m:=eB (a:=(wsP r s).1.i) w;unfold jY;generalize S:wsP r s=y at *;obtain⟨⟨u,I,N,O⟩,e⟩:=y;simp only[Ly.cv] at *;cases C:(e==0)
 .have P:(e != 0)=true:=by rw[bne,C];rfl
  simp only[br,az];clear A m w;refine aa func34 λD E=>?_
  repeat' (first|exact⟨⟩|refine sp ?_|refine uS [0,1,2,3] k ?_)
 .have P:(e != 0)=false:=by rw[bne,C];rfl
  simp only[bh,av,ax];obtain⟨B,F,G⟩:=A C;have v:=zKu B K L M;have g:=λh=>YV (i:=u) (p:=I) (q:=N) (f:=O) (t:=(gP (treeR r u) l).1) w h F;have j:=λh=>MU (a:=treeR r u) (b:=(gP (treeR r u) l).1) (by have:=B.len;omega) h;unfold zEO;simp only;generalize eW (treeR r I) (gP (treeR r u) l).1=U at g ⊢;generalize gP (treeR r u) l=T at *;obtain⟨Q,J⟩:=T;simp only at *;generalize treeR r u=R at *;cases z:(J==0)
  .simp only[br,az];clear A B F G w g j;refine aa func34 λD E=>?_
   repeat' (first|exact⟨⟩|refine sp ?_|refine uS [0,1,2,3] k ?_|refine uS [0,1,2,3] m ?_|refine uN v ?_)
  .have H:=G z;have g:=g H;have j:=j (by have:=H.len;omega);obtain rfl:J=0:=by simpa using z
   simp only[bh,av,ax];clear A B F G H w;cases V:jB R Q
   .simp only[av,ax];refine aa func34 λD E=>?_
    repeat' (first|exact⟨⟩|refine sq ?_|refine uS [0,1,2,3] k ?_|refine uS [0,1,2,3] m ?_|refine uN v ?_|refine uN j ?_|refine uS [0,1,2,3] g ?_)
   .simp only[az];refine aa func34 λD E=>?_
    repeat' (first|exact⟨⟩|refine sq ?_|refine uS [0,1,2,3] k ?_|refine uS [0,1,2,3] m ?_|refine uN v ?_|refine uN j ?_)
end Go.Proofs.YtfcindonokhbeaaGreatDoor
end
