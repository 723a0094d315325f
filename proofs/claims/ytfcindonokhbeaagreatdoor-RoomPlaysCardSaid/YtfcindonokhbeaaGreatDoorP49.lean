/- Part 50 of roomPlays_card. No condition. -/
import Derived.Test.YtfcindonokhbeaaGreatDoorP47
import Derived.Test.YtfcindonokhbeaaGreatDoorP45
set_option linter.all false
set_option maxRecDepth 100000
set_option maxHeartbeats 0
section
namespace Go.Proofs.YtfcindonokhbeaaGreatDoor
open Go Go.Dm Go.Proofs Go.Proofs.Tryz
def YU{r:Rm}{s o:Ba}(l:OkR r)(v:∀i,OkT (treeR r i))
  (z:((wsP r s).2==0)=true->((snP r o).2==0)=true->(jU r (snP r o).1.i==0)=true->∀w,OkT w->r.x<2147483647 ->
   OkR ⟨bY r.N s r.x,r.L++[⟨r.x,(snP r o).1.i,0,false⟩],rK r.E r.x (eW (treeR r (snP r o).1.i) w),r.x+1⟩/\OkG (r.L++[⟨r.x,(snP r o).1.i,0,false⟩]))
  (A:∀a b c,(gT (treeR r a) (treeR r b) (treeR r c)).2.2=0->OkT (gT (treeR r a) (treeR r b) (treeR r c)).1):
  aA prog 36 [.c (.ptr 0 0),.c (.p (.s s)),.c (.p (.s o))] (bC r) λd h=>d=.tup [.c (.p (.sl 2 (eI (iO r s o).2.1))),.c (.p (.i .i64 (iO r s o).2.2))]/\h=dP (iO r s o).1:=by
 have n:=RJ (s:=s) l;have t:=zCM (s:=o) l;have u:=uA (a:=(snP r o).1.i) l;unfold iO;generalize wsP r s=y1 at *;generalize snP r o=y2 at *;obtain⟨⟨ai,y,I,J⟩,e⟩:=y1;obtain⟨⟨k,K,M,O⟩,V⟩:=y2;simp only[Ly.cv] at *;have g:∀{c1 c2:Bf} {F:Bg} {e:Int},aA prog 36 [.c (.ptr 0 0),.c (.p (.s s)),.c (.p (.s o))] (bC r) (λd h=>d=.tup [.c (.p (.sl 2 (eI F))),.c (.p (.i .i64 e))]/\h=bC r++[.box c1,.box c2])->aA prog 36 [.c (.ptr 0 0),.c (.p (.s s)),.c (.p (.s o))] (bC r) (λd h=>d=.tup [.c (.p (.sl 2 (eI F))),.c (.p (.i .i64 e))]/\h=dP r):=λ{c1 c2 F e} W =>
  aA.perm [0,6,7,8,1,2,3] W rfl rfl qt
 have f:∀{c1:Bf} {F:Bg} {e:Int},aA prog 36 [.c (.ptr 0 0),.c (.p (.s s)),.c (.p (.s o))] (bC r) (λd h=>d=.tup [.c (.p (.sl 2 (eI F))),.c (.p (.i .i64 e))]/\h=bC r++[.box c1])->aA prog 36 [.c (.ptr 0 0),.c (.p (.s s)),.c (.p (.s o))] (bC r) (λd h=>d=.tup [.c (.p (.sl 2 (eI F))),.c (.p (.i .i64 e))]/\h=dP r):=λ{c1 F e} W =>
  aA.perm [0,6,7,8,1,2,3] W rfl rfl qt
 cases X:(e==0)
 .have hb:(e != 0)=true:=by rw[bne,X];rfl
  simp only[br,az];refine f (c1:=[.p (.i .i64 ai),.p (.i .i64 y),.p (.i .i64 I),.p (.b J)]) (aG ?_);clear z A t u g f v l;refine qC aC aI func36 rfl rfl λP Q=>?_;simp only[f36,go_sem]
  repeat' (first|exact⟨⟩|refine sp ?_|refine uS [0,1,2,3] n ?_)
  all_goals exact .inr ⟨2,rfl⟩
 .have hb:(e != 0)=false:=by rw[bne,X];rfl
  simp only[bh,av,ax];cases B:(V==0)
  .have Y:(V != 0)=true:=by rw[bne,B];rfl
   simp only[br,az];refine g (c1:=[.p (.i .i64 ai),.p (.i .i64 y),.p (.i .i64 I),.p (.b J)]) (c2:=[.p (.i .i64 k),.p (.i .i64 K),.p (.i .i64 M),.p (.b O)]) (aG ?_);clear z A u g f v l;refine qC aC aI func36 rfl rfl λP Q=>?_;simp only[f36,go_sem]
   repeat' (first|exact⟨⟩|refine sp ?_|refine uS [0,1,2,3] n ?_|refine uS [0,1,2,3] t ?_)
   all_goals exact .inr ⟨2,rfl⟩
  .have Y:(V != 0)=false:=by rw[bne,B];rfl
   simp only[bh,av,ax];generalize jU r k=Z at *;cases C:(Z==0)
   .have hb3:(Z != 0)=true:=by rw[bne,C];rfl
    simp only[br,az];refine g (c1:=[.p (.i .i64 ai),.p (.i .i64 y),.p (.i .i64 I),.p (.b J)]) (c2:=[.p (.i .i64 k),.p (.i .i64 K),.p (.i .i64 M),.p (.b O)]) (aG ?_);clear z A g f v l;refine qC aC aI func36 rfl rfl λP Q=>?_;simp only[f36,go_sem]
    repeat' (first|exact⟨⟩|refine sp ?_|refine uS [0,1,2,3] n ?_|refine uS [0,1,2,3] t ?_|refine uS [0,1,2,3] u ?_)
    all_goals exact .inr ⟨2,rfl⟩
   .have hb3:(Z != 0)=false:=by rw[bne,C];rfl
    simp only[bh,av,ax];have t1:=eB (a:=y) l;have t2:=eB (a:=k) l;have t3:=eB (a:=ai) l;have D:=zCp (v y).s (v k).s (v ai).s;have R:=A y k ai;have S:=v k;have z:=λw hw=>z X B C w hw;have j:=λw q h1 h2=>yA (s:=s) (i0:=0) (p:=k) (q:=q) (es:=eW (treeR r k) w) l h1 h2;generalize treeR r y=TP at *;generalize treeR r k=TC at *;generalize treeR r ai=TA at *;generalize gT TP TC TA=m at *;obtain⟨m1,F,U⟩:=m;simp only at *;cases G:(U==0)
    .have hb4:(U != 0)=true:=by rw[bne,G];rfl
     simp only[br,az];refine g (c1:=[.p (.i .i64 ai),.p (.i .i64 y),.p (.i .i64 I),.p (.b J)]) (c2:=[.p (.i .i64 k),.p (.i .i64 K),.p (.i .i64 M),.p (.b O)]) ?_;clear z A g f v l j;refine qC aC aI func36 rfl rfl λP Q=>?_;simp only[f36,go_sem]
     repeat' (first|exact⟨⟩|refine sp ?_|refine uS [0,1,2,3] n ?_|refine uS [0,1,2,3] t ?_|refine uS [0,1,2,3] u ?_|refine uS [0,1,2,3] t1 ?_|refine uS [0,1,2,3] t2 ?_|refine uS [0,1,2,3] t3 ?_|refine uN D ?_|refine dG (id:=10) aC aI [] [0,1,2,3,4,5,6,7,8,9,10,11,12,13,14,15,16,17,18,19] ?_|refine aM ?_|refine d1 ?_ ?_ ?_|with_reducible exact rfl)
    .have hb4:(U != 0)=false:=by rw[bne,G];rfl
     simp only[bh,av,ax];obtain rfl:U=0:=by simpa using G
     have H:=R rfl;have hmk:=vX S H;cases hx:decide (2147483647<=r.x)
     all_goals simp only[av,ax,az]
     .obtain⟨k1,k2⟩:=z m1 H (by have:=jt hx;omega);have T:=j m1 0 k1 k2;clear z j A g f v R H S k1 k2;generalize eW TC m1=E1 at *;generalize zE1 r s k 0 E1=c at *;clear l;refine aA.perm [0,1,2,3,6,7,8] (d1:=.tup [.c (.p (.sl 2 (eI []))),.c (.p (.i .i64 0))]) (h1:=[.box [.own 6 0 c.N.length,.own 7 0 c.L.length,.mp 8,.p (.i .i64 c.x)],.dead,.dead,.dead,.box [.p (.i .i64 ai),.p (.i .i64 y),.p (.i .i64 I),.p (.b J)],.box [.p (.i .i64 k),.p (.i .i64 K),.p (.i .i64 M),.p (.b O)],.arr 2 (bW c.N) false,.arr 4 (cZ c.L) false,.mp (uV c.E)]) (aG ?_) rfl rfl qq;refine qC aC aI func36 rfl rfl λP Q=>?_;simp only[f36,go_sem]
      repeat' (first|exact⟨⟩|refine sp ?_|refine uS [0,1,2,3] n ?_|refine uS [0,1,2,3] t ?_|refine uS [0,1,2,3] u ?_|refine uS [0,1,2,3] t1 ?_|refine uS [0,1,2,3] t2 ?_|refine uS [0,1,2,3] t3 ?_|refine uN D ?_|refine dG (id:=10) aC aI [] [0,1,2,3,4,5,6,7,8,9,10,11,12,13,14,15,16,17,18,19] ?_|refine aM ?_|refine d1 ?_ ?_ ?_|refine uS [0,1,2,3] T ?_|refine uN hmk ?_|refine dG (id:=15) aC aI [11] [0,1,2,3,4,5,6,7,8,9,10,11] ?_|refine dC ?_ ?_ ?_ ?_|refine dL ?_ ?_ ?_|exact aS|refine aL ?_ ?_|with_reducible exact rfl|with_reducible exact eE)
      all_goals exact .inr ⟨2,rfl⟩
     .refine g (c1:=[.p (.i .i64 ai),.p (.i .i64 y),.p (.i .i64 I),.p (.b J)]) (c2:=[.p (.i .i64 k),.p (.i .i64 K),.p (.i .i64 M),.p (.b O)]) (aG ?_);clear z A g f v l j;refine qC aC aI func36 rfl rfl λP Q=>?_;simp only[f36,go_sem]
      repeat' (first|exact⟨⟩|refine sp ?_|refine uS [0,1,2,3] n ?_|refine uS [0,1,2,3] t ?_|refine uS [0,1,2,3] u ?_|refine uS [0,1,2,3] t1 ?_|refine uS [0,1,2,3] t2 ?_|refine uS [0,1,2,3] t3 ?_|refine uN D ?_|refine dG (id:=10) aC aI [] [0,1,2,3,4,5,6,7,8,9,10,11,12,13,14,15,16,17,18,19] ?_|refine aM ?_|refine d1 ?_ ?_ ?_|with_reducible exact rfl)
      all_goals exact .inr ⟨2,rfl⟩
def zDJ(id:Int)(l:Bm)(k:Nat):Bm:=(l.take k).map (HQ id)++l.drop k
def zHr(id:Int)(l:Bm):zDJ id l 0=l:=by simp[zDJ]
def zLV(id:Int)(l:Bm):zDJ id l l.length=sA l id:=by simp[zDJ,sA]
def zLW(id:Int)(l:Bm)(k:Nat):(zDJ id l k).length=l.length:=by simp[zDJ];omega
def zPx{id:Int}{l:Bm}{k:Nat}{x:Ly}(h:l[k]?=some x):(zDJ id l k)[k]?=some x:=by
 have a:=(bz.1 h).1;unfold zDJ;rw[gv qk];simp[lq (Nat.le_of_lt a),h]
def zLX{id:Int}{l:Bm}{k:Nat}{x:Ly}(h:l[k]?=some x):(zDJ id l k).set k (HQ id x)=zDJ id l (k+1):=by
 have a:=(bz.1 h).1;have b:l.drop k=x::l.drop (k+1):=by
  rw[ib a,(bz.1 h).2]
 unfold zDJ;rw[b,lr _ _ qk,dm,h];simp[lq (Nat.le_of_lt a)]
def YH{r:Rm}{s sn:Ba}(B:OkR r)(hs:sn.length<=1000000000)
  (C:((wsP r s).2==0)=true->(jN r sn==0)=true->(jU r (wsP r s).1.i==0)=true->OkR ⟨bY r.N sn (wsP r s).1.i,sA r.L (wsP r s).1.i,r.E,r.x⟩ /\
   OkR ⟨bY (bY r.N sn (wsP r s).1.i) s r.x,sA r.L (wsP r s).1.i++[⟨r.x,(wsP r s).1.i,0,false⟩],rK r.E r.x [],r.x+1⟩/\OkG (sA r.L (wsP r s).1.i++[⟨r.x,(wsP r s).1.i,0,false⟩])):
  aA prog 12 [.c (.ptr 0 0),.c (.p (.s s)),.c (.p (.s sn))] (bC r) λd h=>d=.c (.p (.i .i64 (lG r s sn).2))/\h=dP (lG r s sn).1:=by
 have m:=RJ (s:=s) B;have o:=wI (s:=sn) B hs;have t:=uA (a:=(wsP r s).1.i) B;have l:=YT (r:=⟨r.N,sA r.L (wsP r s).1.i,r.E,r.x⟩) (s:=sn) (n:=(wsP r s).1.i) (by have:=B.nl;simp only;omega) B.srt;have u:=λh0 h1 W=>yA (r:=⟨bY r.N sn (wsP r s).1.i,sA r.L (wsP r s).1.i,r.E,r.x⟩) (s:=s) (i0:=0) (p:=(wsP r s).1.i) (q:=0) (es:=[]) h0 h1 W;have hll:=B.ll;unfold lG;generalize wsP r s=y at *;obtain⟨⟨j,D,F,H⟩,e⟩:=y;simp only[Ly.cv] at *;generalize jN r sn=J at *;generalize jU r j=K at *;have v:∀{c:Bf} {e:Int},aA prog 12 [.c (.ptr 0 0),.c (.p (.s s)),.c (.p (.s sn))] (bC r) (λd h=>d=.c (.p (.i .i64 e))/\h=bC r++[.box c])->aA prog 12 [.c (.ptr 0 0),.c (.p (.s s)),.c (.p (.s sn))] (bC r) (λd h=>d=.c (.p (.i .i64 e))/\h=dP r):=λ{c e} hc =>
  aA.perm [0,5,6,7,1,2,3] hc rfl rfl qt
 cases O:(e==0)
 .have hb:(e != 0)=true:=by rw[bne,O];rfl
  simp only[br,az];refine v (c:=[.p (.i .i64 j),.p (.i .i64 D),.p (.i .i64 F),.p (.b H)]) ?_;clear u C o t l;refine qC aC aI func12 rfl rfl λP hX=>?_;simp only[f12,go_sem]
  repeat' (first|exact⟨⟩|refine sp ?_|refine uS [0,1,2,3] m ?_)
 .have hb:(e != 0)=false:=by rw[bne,O];rfl
  simp only[bh,av,ax];cases w:(J==0)
  .have Q:(J != 0)=true:=by rw[bne,w];rfl
   simp only[br,az];refine v (c:=[.p (.i .i64 j),.p (.i .i64 D),.p (.i .i64 F),.p (.b H)]) ?_;clear u C t l;refine qC aC aI func12 rfl rfl λP hX=>?_;simp only[f12,go_sem]
   repeat' (first|exact⟨⟩|refine sp ?_|refine uS [0,1,2,3] m ?_|refine uS [0,1,2,3] o ?_)
  .have Q:(J != 0)=false:=by rw[bne,w];rfl
   simp only[bh,av,ax];cases z:(K==0)
   .have R:(K != 0)=true:=by rw[bne,z];rfl
    simp only[br,az];refine v (c:=[.p (.i .i64 j),.p (.i .i64 D),.p (.i .i64 F),.p (.b H)]) ?_;clear u C l;refine qC aC aI func12 rfl rfl λP hX=>?_;simp only[f12,go_sem]
    repeat' (first|exact⟨⟩|refine sp ?_|refine uS [0,1,2,3] m ?_|refine uS [0,1,2,3] o ?_|refine uS [0,1,2,3] t ?_)
   .have R:(K != 0)=false:=by rw[bne,z];rfl
    simp only[bh,av,ax];obtain⟨X,Y,Z⟩:=C O w z;have f:=aA.wkA (args:=[.c (.ptr 0 0),.c (.p (.s s)),.agg [.p (.i .i64 0),.p (.i .i64 j),.p (.i .i64 0),.p (.b false)],.c (.p .nil)]) (args':=[.c (.ptr 0 0),.c (.p (.s s)),.agg [.p (.i .i64 0),.p (.i .i64 j),.p (.i .i64 0),.p (.b false)],.c (.p (.sl 7 (fG [])))]) ⟨rfl,zKg,⟨wkP.rfl,wkP.rfl,wkP.rfl,wkP.rfl,True.intro⟩,zKf,True.intro⟩ (u X Y Z);clear u C X Y Z;have S:(sA r.L j).length=r.L.length:=by simp[sA]
    unfold zEI bC at l;unfold bC at f;simp only[S] at l f;generalize zE1 ⟨bY r.N sn j,sA r.L j,r.E,r.x⟩ s j 0 []=c at f ⊢;generalize bY r.N sn j=M at l f;refine aA.perm [0,1,2,3,6,7,8] (d1:=.c (.p (.i .i64 0))) (h1:=[.box [.own 6 0 c.N.length,.own 7 0 c.L.length,.mp 8,.p (.i .i64 c.x)],.dead,.dead,.dead,.box [.p (.i .i64 j),.p (.i .i64 D),.p (.i .i64 F),.p (.b H)],.dead,.arr 2 (bW c.N) false,.arr 4 (cZ c.L) false,.mp (uV c.E)]) ?_ rfl rfl qq;have A:=zHr j r.L;refine qC aC aI func12 rfl rfl λP hX=>?_;simp only[f12,go_sem]
    repeat' (first|exact⟨⟩|refine sp ?_|refine uS [0,1,2,3] m ?_|refine uS [0,1,2,3] o ?_|refine uS [0,1,2,3] t ?_)
    refine bG aC aI (α:=Nat) (λk=>⟨82,[(0,.c (.ptr 0 0)),(1,.c (.p (.s s))),(2,.c (.p (.s sn))),(7,.c (.ptr 4 0)),(38,.c (.p (.i .i64 r.L.length))),(39,.c (.p (.i .i64 k)))],[.box [.own 1 0 r.N.length,.own 2 0 r.L.length,.mp 3,.p (.i .i64 r.x)],.arr 2 (bW r.N) false,.arr 4 (cZ (zDJ j r.L k)) false,.mp (uV r.E),.box [.p (.i .i64 j),.p (.i .i64 D),.p (.i .i64 F),.p (.b H)]]⟩)
     (λk=>k<=r.L.length) (λk=>r.L.length-k) 0 (bc _) (aV (by rw[A];exact aB qj rfl rfl wkK)) ?_
    intro k hk;have T:=zLW j r.L k;by_cases U:k<r.L.length
    .have I:=ay U;have hg:=iG (zPx (id:=j) I);have g:=zLX (id:=j) I;obtain⟨h1,W,h4,w1⟩:=lk k r.L.length;generalize r.L[k]=x at I hg g;obtain⟨xi,xp,xs,xf⟩:=x;simp only[HQ] at hg g;clear I l f m o t A;have b1:k<(zDJ j r.L k).length:=qd
     cases xf
     .cases hq:(xi==j)
      all_goals rw[hq] at g
      all_goals simp only[dn,dw] at g
      all_goals have g:=PLift.up g
      all_goals clear b1
      all_goals repeat' (first|exact⟨⟩|refine sp ?_|refine dR (id:=13) aC aI [28] [0,1,2,3,4,5,6,7,8,9,10,11,12,13,14,15,16,17,18,19,20,21,22,23,24,25,26,27,28] ?_)
      all_goals exact eO (k+1) qd qd (by rw[<- g.down];exact aV (aB rfl rfl rfl wkK))
     .simp only[e8] at g;have g:=PLift.up g;clear b1
      repeat' (first|exact⟨⟩|refine sp ?_|refine dR (id:=13) aC aI [28] [0,1,2,3,4,5,6,7,8,9,10,11,12,13,14,15,16,17,18,19,20,21,22,23,24,25,26,27,28] ?_)
      exact eO (k+1) qd qd (by rw[<- g.down];exact aV (aB rfl rfl rfl wkK))
    .have V:k=r.L.length:=qd
     subst V;rw[zLV];have h1:=nlt r.L.length;clear m o t T A;generalize sA r.L j=G at l f
     repeat' (first|exact⟨⟩|refine sp ?_|refine uS [0,1,2,3] l ?_|refine uS [0,5,2,3] f ?_)
def jH(r:Rm)(a b:Ba):Bh × Int :=
 if !((dS r a).2==0) then ([],(dS r a).2) else if !((dS r b).2==0) then ([],(dS r b).2) else (dB (dS r a).1 (dS r b).1,0)
def zEE{r:Rm}{a b:Ba}(f:OkR r)(g:((dS r a).2==0)=true->((dS r b).2==0)=true->OkT (dS r a).1/\OkT (dS r b).1):
  aA prog 33 [.c (.ptr 0 0),.c (.p (.s a)),.c (.p (.s b))] (bC r) λd h=>d=.tup [.c (.p (.sl 10 (jD (jH r a b).1))),.c (.p (.i .i64 (jH r a b).2))]/\h=bC r:=by
 have j:=zT (s:=a) f;have k:=zT (s:=b) f;unfold jH;generalize dS r a=y1 at *;generalize dS r b=y2 at *;obtain⟨y,l⟩:=y1;obtain⟨z,m⟩:=y2;simp only at *;refine aG ?_;cases n:(l==0)
 .have x:(l != 0)=true:=by rw[bne,n];rfl
  simp only[br,az];clear k g f;refine aa func33 λt u=>?_
  repeat' (first|exact⟨⟩|refine sp ?_|refine uS [0,1,2,3] j ?_)
  all_goals exact .inr ⟨10,rfl⟩
 .have x:(l != 0)=false:=by rw[bne,n];rfl
  simp only[bh,av,ax];cases e:(m==0)
  .have o:(m != 0)=true:=by rw[bne,e];rfl
   simp only[br,az];clear g f;refine aa func33 λt u=>?_
   repeat' (first|exact⟨⟩|refine sp ?_|refine uS [0,1,2,3] j ?_|refine uS [0,1,2,3] k ?_)
   all_goals exact .inr ⟨10,rfl⟩
  .have o:(m != 0)=false:=by rw[bne,e];rfl
   simp only[bh,av,ax];obtain⟨v,w⟩:=g n e;have q:=zRB v w;clear g f v w;refine aa func33 λt u=>?_
   repeat' (first|exact⟨⟩|refine sp ?_|refine uS [0,1,2,3] j ?_|refine uS [0,1,2,3] k ?_|refine uN q ?_)
section
section
variable {r r':Rm}{d:Dr}{e:Int}
theorem zCh{s sn:Ba}(h:Sim r d)(f:sn.length<=1000000000)(g:lG r s sn=(r',e)):aA prog 12 [.c (.ptr 0 0),.c (.p (.s s)),.c (.p (.s sn))] (bC r) λd h=>d=.c (.p (.i .i64 e))/\h=dP r':=by
 have:=YH (s:=s) h.okR f λa b c=>zDI h a b c;rw[g] at this;exact this
theorem zRY{sn s:Ba}(h:Sim r d)(f:s.length<=1000000000)(g:JB r sn s=(r',e)):aA prog 32 [.c (.ptr 0 0),.c (.p (.s sn)),.c (.p (.s s))] (bC r) λd h=>d=.c (.p (.i .i64 e))/\h=dP r':=by
 have:=zEH (sn:=sn) h.okR f λa b c=>zLT h a b c;rw[g] at this;exact this
theorem zOH{s:Ba}{l:Bh}(h:Sim r d)(b:l.length<=100000)(a:∀x∈l,x.p.length<=1000000000/\x.o.t<18446744073709551616/\x.n.t<18446744073709551616)(f:∀x∈l,x.n.d.length<=140737488355328)(g:jY r s l=(r',e)):
  aA prog 34 [.c (.ptr 0 0),.c (.p (.s s)),.c (.p (.sl 10 (jD l)))] (bC r) λd h=>d=.c (.p (.i .i64 e))/\h=bC r':=by
 have:=zBs (s:=s) h.okR b a f λ_=>zFf h s λx j=>(a x j).2.2;rw[g] at this;exact this
theorem zUj{s:Ba}{ck:Int}{cp cq:Ba}{cm:Int}{ct:Nat}{ca cn:Int}{cd:Ba}{a:An}(h:Sim r d)(b:ct<18446744073709551616)(f:cp.length<=9223372036854775807)
  (g:cd.length<=140737488355328)(i:cq.length<=9223372036854775807)(j:-9223372036854775808<=ca/\ca<=9223372036854775807)(k:zAz r s ⟨ck,cp,cq,cm,ct,ca,cn,cd⟩=(r',a)):
  aA prog 13 [.c (.ptr 0 0),.c (.p (.s s)),.agg (clc ck cp cq cm ct ca cn cd)] (bC r) λd h=>d=.agg (anv a)/\h=bC r':=by
 have:=zNf (s:=s) (ck:=ck) (cm:=cm) (cn:=cn) h.okR b f g i j λ_=>zRN h s (c:=⟨ck,cp,cq,cm,ct,ca,cn,cd⟩) b;rw[k] at this;exact this
theorem zSQ{s:Ba}{t:Bl}(h:Sim r d)(a:dS r s=(t,e)):aA prog 39 [.c (.ptr 0 0),.c (.p (.s s))] (bC r) λd h=>d=.tup [.c (.p (.sl 5 (aP t))),.c (.p (.i .i64 e))]/\h=bC r:=by
 have:=zT (s:=s) h.okR;rw[a] at this;exact this
theorem zF3{a b:Ba}{l:Bh}(h:Sim r d)(f:jH r a b=(l,e)):aA prog 33 [.c (.ptr 0 0),.c (.p (.s a)),.c (.p (.s b))] (bC r) λd h=>d=.tup [.c (.p (.sl 10 (jD l))),.c (.p (.i .i64 e))]/\h=bC r:=by
 have:=zEE (a:=a) (b:=b) h.okR λ_ _=>⟨uI h a,uI h b⟩;rw[f] at this;exact this
theorem zPV{o t s:Ba}{F:Bg}(h:Sim r d)(f:s.length<=1000000000)(g:lI r o t s=(r',F,e)):aA prog 35 [.c (.ptr 0 0),.c (.p (.s o)),.c (.p (.s t)),.c (.p (.s s))] (bC r) λd h=>d=.tup [.c (.p (.sl 2 (eI F))),.c (.p (.i .i64 e))]/\h=dP r':=by
 have:=zBt (o:=o) (t:=t) h.okR h.okG f h.okT (λa b c w j q k=>zIb h a b c j k) λa b c=>KW h a b c;rw[g] at this;exact this
theorem zM5{s o:Ba}{F:Bg}(h:Sim r d)(f:iO r s o=(r',F,e)):aA prog 36 [.c (.ptr 0 0),.c (.p (.s s)),.c (.p (.s o))] (bC r) λd h=>d=.tup [.c (.p (.sl 2 (eI F))),.c (.p (.i .i64 e))]/\h=dP r':=by
 have:=YU (s:=s) (o:=o) h.okR h.okT (λa b c w g j=>zEg h a b c g j) λa b c=>KW h a b c;rw[f] at this;exact this
end
end
end Go.Proofs.YtfcindonokhbeaaGreatDoor
end
section
namespace Go.Proofs.YtfcindonokhbeaaGreatDoor
open Go Go.Dm Go.Proofs
def zRA{a b:Bl}(f:OkT a)(c:OkT b):(dB a b).length<=100000/\(∀x∈dB a b,x.p.length<=1000000000/\x.o.t<18446744073709551616/\x.n.t<18446744073709551616)/\∀x∈dB a b,x.n.d.length<=140737488355328:=by
 have g:=f.len;have h:=c.len;have i:=jG a b;refine⟨qd,λx e=>⟨?_,xA f c e⟩,λx e=>by rw[(iQ e).2];exact bj (c.getd _) qh⟩
 have:=zF1 f c x e;unfold zMp at this;simp only[bn] at this;exact bj (vS this.1.1.1.1.1.1.2) qh
def zEj{a b:Bl}(d:OkT a)(e:OkT b):ag 71 [.c (.p (.sl 5 (aP a))),.c (.p (.sl 5 (aP b)))] (.c (.p (.sl 10 (jD (dB a b))))):=by
 have:=GI d e;rw[zO d e] at this;exact this
end Go.Proofs.YtfcindonokhbeaaGreatDoor
end
section
namespace Go.Proofs.YtfcindonokhbeaaGreatDoor
open Go Go.Dm Go.Proofs Go.Proofs.Tryz
def zEF{r:Rm}{s:Ba}(g:OkR r)(j:OkG r.L)(n:OkR ⟨kC r.N s,r.L,r.E,r.x⟩):
  aA prog 37 [.c (.ptr 0 0),.c (.p (.s s))] (bC r) λd h=>d=.c (.p (.i .i64 (HZ r s).2))/\h=dP (HZ r s).1:=by
 have k:=uB (r:=r) (s:=s) (by have:=g.nl;omega) g.srt;have y:=g.nl;unfold HZ;rcases zBb g.srt (s:=s) with⟨h1,o⟩|⟨x,h1,o,q,w⟩
 .rw[h1] at k ⊢;simp only[br,az];refine aA.perm [0,4,5,6,1,2,3] (d1:=.c (.p (.i .i64 6))) (h1:=bC r) ?_ rfl rfl qt;clear h1 o n;refine qC aC aI func37 rfl rfl λz A=>?_;simp only[f37,go_sem]
  repeat' (first|exact⟨⟩|refine sq ?_|refine uS [0,1,2,3] k ?_)
 .rw[h1] at k ⊢;simp only[bh,av,ax];have a:=zFC n j;have l:=(bz.1 q).1;have B:IntKind.i64.wrap ((nP r.N s:Int)+1)=(nP r.N s:Int)+1:=wrap_i64 qd qd;have b:=zAD g.srt (dr q);rw[w] at b;have m:(bW r.N).take (nP r.N s)++(bW r.N).drop (nP r.N s+1)=bW (kC r.N s):=by rw[b];simp[bW,List.map_take,List.map_drop]
  have e:r.N.length-1=(kC r.N s).length:=by rw[b,bo,cr,fh];omega
  have t:∀{h:aF} {K:Bd},h[1]?=some (.arr 2 (bW r.N) false)->K (.c (.own h.length 0 r.N.length)) (h++[.arr 2 (bW r.N) false])->aA prog 56 [.c (.own 1 0 r.N.length)] h K:=λu v=>SS qd rfl u v;have f:∀{h:aF} {K:Bd},h[4]?=some (.arr 2 (bW r.N) false)->K (.c (.own h.length 0 (kC r.N s).length)) (h.set 4 .dead++[.arr 2 (bW (kC r.N s)) false])->aA prog 86 [.c (.own 4 0 r.N.length),.c (.p (.i .i64 (nP r.N s))),.c (.p (.i .i64 ((nP r.N s:Int)+1)))] h K:=λu v=>aA.mono (zOY u (jL _) l) (by rintro _ _ ⟨rfl,rfl⟩;rw[m,e];exact v)
  generalize JX ⟨kC r.N s,r.L,r.E,r.x⟩=c at a ⊢;generalize nP r.N s=i at k B f;generalize kC r.N s=M at a f;unfold bC at a;simp only at a;clear h1 o n q w b m e l j;refine aA.perm [0,2,3,4,6,7,8] (d1:=.c (.p (.i .i64 0))) (h1:=[.box [.own 6 0 c.N.length,.own 7 0 c.L.length,.mp 8,.p (.i .i64 c.x)],.arr 2 (bW r.N) false,.dead,.dead,.dead,.dead,.arr 2 (bW c.N) false,.arr 4 (cZ c.L) false,.mp (uV c.E)]) ?_ rfl rfl qq;refine qC aC aI func37 rfl rfl λz A=>?_;simp only[f37,go_sem]
  repeat' (first|exact⟨⟩|refine sq ?_|refine uS [0,1,2,3] k ?_|refine t rfl ?_|refine f rfl ?_|refine uS [0,5,2,3] a ?_)
def zRP{r r':Rm}{d:Dr}{e:Int}{s:Ba}(h:Sim r d)(a:HZ r s=(r',e)):aA prog 37 [.c (.ptr 0 0),.c (.p (.s s))] (bC r) λd h=>d=.c (.p (.i .i64 e))/\h=dP r':=by
 have:=zEF (s:=s) h.okR h.okG (zK4 h s);rw[a] at this;exact this
def HI{d:Dr}(a:∀y∈d.L,OkT y.2)(i:Int):OkT (cB d i):=by
 unfold cB;cases b:lX d i with
 | none=>exact OkT.nil
 | some y=>exact a y (lY b).1
def HJ{d:Dr}(a:∀y∈d.L,OkT y.2)(s:Ba):OkT (gA d s).1:=by
 unfold gA;split
 .exact OkT.nil
 .exact HI a _
def zAq{d:Dr}{a b:Ba}(t:d.L.length<=10000)(u:d.N.length<=10000)(m:∀y∈d.L,OkT y.2):
  ag 24 [.agg (drv d),.c (.p (.s a)),.c (.p (.s b))] (.tup [.c (.p (.sl 10 (jD (gM d a b).1))),.c (.p (.i .i64 (gM d a b).2))]):=by
 have g:=zFR (d:=d) (s:=a) qd qd;have h:=zFR (d:=d) (s:=b) qd qd;have j:=zEj (HJ m a) (HJ m b);unfold gM;generalize gA d a=x at *;generalize gA d b=y at *;obtain⟨x,e⟩:=x;obtain⟨y,f⟩:=y;simp only at *;generalize dB x y=z at *;refine aG ?_;cases n:(e==0)
 .have k:(e != 0)=true:=by rw[bne,n];rfl
  simp only[br,az];clear h j;refine aa func24 λo q=>?_
  repeat' (first|exact⟨⟩|refine sp ?_|refine uN g ?_)
  all_goals (repeat' (exact .inr ⟨_,rfl⟩))
 .have k:(e != 0)=false:=by rw[bne,n];rfl
  simp only[bh,av,ax];cases r:(f==0)
  .have l:(f != 0)=true:=by rw[bne,r];rfl
   simp only[br,az];clear j;refine aa func24 λo q=>?_
   repeat' (first|exact⟨⟩|refine sp ?_|refine uN g ?_|refine uN h ?_)
   all_goals (repeat' (exact .inr ⟨_,rfl⟩))
  .have l:(f != 0)=false:=by rw[bne,r];rfl
   simp only[bh,av,ax];refine aa func24 λo q=>?_
   repeat' (first|exact⟨⟩|refine sp ?_|refine uN g ?_|refine uN h ?_|refine uN j ?_)
   all_goals (repeat' (first|exact rfl|exact .inr ⟨_,rfl⟩|refine And.intro ?_ ?_))
section
abbrev evc(k:Int)(n t m:Ba)(c:Cl)(q:Int)(b:Ba):Bf:=[.p (.i .i64 k),.p (.s n),.p (.s t),.p (.s m),.p (.i .i64 c.k),.p (.s c.p),.p (.s c.to'),.p (.i .i64 c.m),.p (.f c.t),.p (.i .i64 c.at'),.p (.i .i64 c.n),.p (.sl 1 (bS c.d)),.p (.i .i64 q),.p (.sl 1 (bS b))]
abbrev evv(e:Ev):Bf:=evc e.k e.n e.t e.m e.c e.q e.b
abbrev rwv(w:Rw):Bf:=[.p (.i .i64 w.e),.p (.i .i64 w.a.e),.p (.i .i64 w.a.n.k),.p (.i .i64 w.a.n.m),.p (.f w.a.n.t),.p (.sl 1 (bS w.a.n.d)),.p (.sl 1 (bS w.a.d)),.p (.sl 1 (Go.Dm.encS w.a.l)),.p (.sl 10 (jD w.c)),.p (.sl 2 (eI w.f))]
abbrev rwe(e:Int)(c f:PV):Bf:=[.p (.i .i64 e),.p (.i .i64 0),.p (.i .i64 0),.p (.i .i64 0),.p (.f 0),.p .nil,.p .nil,.p .nil,.p c,.p f]
abbrev rwx(e:Int)(c:Bh)(f:Bg):Rw:=⟨e,⟨0,⟨0,0,0,[]⟩,[],[]⟩,c,f⟩
section
variable {r r':Rm}{d:Dr}{n t m:Ba}{c:Cl}{q e:Int}{b:Ba}
theorem zIR{a:An}(h:Sim r d)(g:OkC c)(v:zAz r n c=(r',a)):
  aA prog 10 [.c (.ptr 0 0),.agg (evc 1 n t m c q b)] (bC r) λx w=>x=.agg (rwv ⟨a.e,a,[],[]⟩)/\w=dP r':=by
 obtain⟨y,z,A,B,C,D,E,F⟩:=c;have h1:=zUj h g.t g.p g.d g.q g.a v;obtain⟨j,⟨k,l,at_,o⟩,s,u⟩:=a;clear g v;refine aA.perm [0,7,8,9,1,2,3] (d1:=.agg (rwv ⟨j,⟨j,⟨k,l,at_,o⟩,s,u⟩,[],[]⟩)) (h1:=bC r'++[.box (evc 1 n t m ⟨y,z,A,B,C,D,E,F⟩ q b),.box ([.p (.i .i64 j),.p (.i .i64 j),.p (.i .i64 k),.p (.i .i64 l),.p (.f at_),.p (.sl 1 (bS o)),.p (.sl 1 (bS s)),.p (.sl 1 (Go.Dm.encS u)),.p .nil,.p .nil]),.box ([.p (.i .i64 j),.p (.i .i64 j),.p (.i .i64 k),.p (.i .i64 l),.p (.f at_),.p (.sl 1 (bS o)),.p (.sl 1 (bS s)),.p (.sl 1 (Go.Dm.encS u)),.p .nil,.p .nil])]) (aG ?_) rfl rfl qt;clear h;refine qC aC aI func10 rfl rfl λG H=>?_;simp only[f10,go_sem]
 repeat' (first|exact⟨⟩|refine sp ?_|refine uS [0,1,2,3] h1 ?_)
 all_goals (repeat' (first|exact .inr ⟨_,rfl⟩|refine And.intro ?_ ?_))
theorem zIS(h:Sim r d)(f:t.length<=1000000000)(a:lG r n t=(r',e)):
  aA prog 10 [.c (.ptr 0 0),.agg (evc 2 n t m c q b)] (bC r) λx g=>x=.agg (rwv (rwx e [] []))/\g=dP r':=by
 have h1:=zCh h f a;clear a;refine aA.perm [0,1,2,3,7,8,9] (d1:=.agg (rwv (rwx e [] []))) (h1:=[.box [.own 7 0 r'.N.length,.own 8 0 r'.L.length,.mp 9,.p (.i .i64 r'.x)],.dead,.dead,.dead,.box (evc 2 n t m c q b),.box (rwe e .nil .nil),.box (rwe e .nil .nil),.arr 2 (bW r'.N) false,.arr 4 (cZ r'.L) false,.mp (uV r'.E)]) (aG ?_) rfl rfl qq;clear h;refine qC aC aI func10 rfl rfl λj k=>?_;simp only[f10,go_sem]
 repeat' (first|exact⟨⟩|refine sp ?_|refine uS [0,1,2,3] h1 ?_)
 all_goals (repeat' (first|exact .inr ⟨_,rfl⟩|refine And.intro ?_ ?_))
theorem zIT(h:Sim r d)(f:t.length<=1000000000)(a:JB r n t=(r',e)):
  aA prog 10 [.c (.ptr 0 0),.agg (evc 3 n t m c q b)] (bC r) λx g=>x=.agg (rwv (rwx e [] []))/\g=dP r':=by
 have h1:=zRY h f a;clear a;refine aA.perm [0,1,2,3,7,8,9] (d1:=.agg (rwv (rwx e [] []))) (h1:=[.box [.own 7 0 r'.N.length,.own 8 0 r'.L.length,.mp 9,.p (.i .i64 r'.x)],.dead,.dead,.dead,.box (evc 3 n t m c q b),.box (rwe e .nil .nil),.box (rwe e .nil .nil),.arr 2 (bW r'.N) false,.arr 4 (cZ r'.L) false,.mp (uV r'.E)]) (aG ?_) rfl rfl qq;clear h;refine qC aC aI func10 rfl rfl λj k=>?_;simp only[f10,go_sem]
 repeat' (first|exact⟨⟩|refine sp ?_|refine uS [0,1,2,3] h1 ?_)
 all_goals (repeat' (first|exact .inr ⟨_,rfl⟩|refine And.intro ?_ ?_))
theorem zIU{l:Bh}(h:Sim r' d)(f:r'=r)(a:jH r n t=(l,e)):
  aA prog 10 [.c (.ptr 0 0),.agg (evc 4 n t m c q b)] (bC r) λx g=>x=.agg (rwv (rwx e l []))/\g=dP r':=by
 subst f;have h1:=zF3 h a;clear a;refine aA.perm [0,7,8,9,1,2,3] (d1:=.agg (rwv (rwx e l []))) (h1:=bC r'++[.box (evc 4 n t m c q b),.box (rwe e (.sl 10 (jD l)) .nil),.box (rwe e (.sl 10 (jD l)) .nil)]) (aG ?_) rfl rfl qt;clear h;refine qC aC aI func10 rfl rfl λi j=>?_;simp only[f10,go_sem]
 repeat' (first|exact⟨⟩|refine sp ?_|refine uS [0,1,2,3] h1 ?_)
 all_goals (repeat' (first|exact .inr ⟨_,rfl⟩|refine And.intro ?_ ?_))
theorem zIV{l:Bh}(h:Sim r d)(f:l.length<=100000)(g:∀x∈l,x.p.length<=1000000000/\x.o.t<18446744073709551616/\x.n.t<18446744073709551616)(i:∀x∈l,x.n.d.length<=140737488355328)(a:jH r t m=(l,0))(j:jY r n l=(r',e)):
  aA prog 10 [.c (.ptr 0 0),.agg (evc 5 n t m c q b)] (bC r) λx k=>x=.agg (rwv (rwx e [] []))/\k=dP r':=by
 have h1:=zF3 h a;have s:=zOH h f g i j;clear j a f g i;refine aA.perm [0,7,8,9,1,2,3] (d1:=.agg (rwv (rwx e [] []))) (h1:=bC r'++[.box (evc 5 n t m c q b),.box (rwe e .nil .nil),.box (rwe e .nil .nil)]) (aG ?_) rfl rfl qt;clear h;refine qC aC aI func10 rfl rfl λu v=>?_;simp only[f10,go_sem]
 repeat' (first|exact⟨⟩|refine sp ?_|refine uS [0,1,2,3] h1 ?_|refine uS [0,1,2,3] s ?_)
 all_goals (repeat' (first|exact .inr ⟨_,rfl⟩|refine And.intro ?_ ?_))
theorem zEe{l:Bh}(h:Sim r' d)(f:r'=r)(i:(e==0)=false)(a:jH r t m=(l,e)):
  aA prog 10 [.c (.ptr 0 0),.agg (evc 5 n t m c q b)] (bC r) λx g=>x=.agg (rwv (rwx e [] []))/\g=dP r':=by
 subst f;have h1:=zF3 h a;clear a;refine aA.perm [0,7,8,9,1,2,3] (d1:=.agg (rwv (rwx e [] []))) (h1:=bC r'++[.box (evc 5 n t m c q b),.box (rwe e .nil .nil),.box (rwe e .nil .nil)]) (aG ?_) rfl rfl qt;clear h;refine qC aC aI func10 rfl rfl λj k=>?_;simp only[f10,go_sem]
 repeat' (first|exact⟨⟩|refine sp ?_|refine uS [0,1,2,3] h1 ?_)
 all_goals (repeat' (first|exact .inr ⟨_,rfl⟩|refine And.intro ?_ ?_))
theorem zIW{F:Bg}(h:Sim r d)(f:m.length<=1000000000)(a:lI r n t m=(r',F,e)):
  aA prog 10 [.c (.ptr 0 0),.agg (evc 6 n t m c q b)] (bC r) λx g=>x=.agg (rwv (rwx e [] F))/\g=dP r':=by
 have h1:=zPV h f a;clear a;refine aA.perm [0,1,2,3,7,8,9] (d1:=.agg (rwv (rwx e [] F))) (h1:=[.box [.own 7 0 r'.N.length,.own 8 0 r'.L.length,.mp 9,.p (.i .i64 r'.x)],.dead,.dead,.dead,.box (evc 6 n t m c q b),.box (rwe e .nil (.sl 2 (eI F))),.box (rwe e .nil (.sl 2 (eI F))),.arr 2 (bW r'.N) false,.arr 4 (cZ r'.L) false,.mp (uV r'.E)]) (aG ?_) rfl rfl qq;clear h;refine qC aC aI func10 rfl rfl λj k=>?_;simp only[f10,go_sem]
 repeat' (first|exact⟨⟩|refine sp ?_|refine uS [0,1,2,3] h1 ?_)
 all_goals (repeat' (first|exact .inr ⟨_,rfl⟩|refine And.intro ?_ ?_))
theorem zIX{F:Bg}(h:Sim r d)(a:iO r n t=(r',F,e)):
  aA prog 10 [.c (.ptr 0 0),.agg (evc 7 n t m c q b)] (bC r) λx f=>x=.agg (rwv (rwx e [] F))/\f=dP r':=by
 have h1:=zM5 h a;clear a;refine aA.perm [0,1,2,3,7,8,9] (d1:=.agg (rwv (rwx e [] F))) (h1:=[.box [.own 7 0 r'.N.length,.own 8 0 r'.L.length,.mp 9,.p (.i .i64 r'.x)],.dead,.dead,.dead,.box (evc 7 n t m c q b),.box (rwe e .nil (.sl 2 (eI F))),.box (rwe e .nil (.sl 2 (eI F))),.arr 2 (bW r'.N) false,.arr 4 (cZ r'.L) false,.mp (uV r'.E)]) (aG ?_) rfl rfl qq;clear h;refine qC aC aI func10 rfl rfl λg j=>?_;simp only[f10,go_sem]
 repeat' (first|exact⟨⟩|refine sp ?_|refine uS [0,1,2,3] h1 ?_)
 all_goals (repeat' (first|exact .inr ⟨_,rfl⟩|refine And.intro ?_ ?_))
theorem zIY(h:Sim r d)(a:HZ r n=(r',e)):
  aA prog 10 [.c (.ptr 0 0),.agg (evc 8 n t m c q b)] (bC r) λx f=>x=.agg (rwv (rwx e [] []))/\f=dP r':=by
 have h1:=zRP h a;clear a;refine aA.perm [0,1,2,3,7,8,9] (d1:=.agg (rwv (rwx e [] []))) (h1:=[.box [.own 7 0 r'.N.length,.own 8 0 r'.L.length,.mp 9,.p (.i .i64 r'.x)],.dead,.dead,.dead,.box (evc 8 n t m c q b),.box (rwe e .nil .nil),.box (rwe e .nil .nil),.arr 2 (bW r'.N) false,.arr 4 (cZ r'.L) false,.mp (uV r'.E)]) (aG ?_) rfl rfl qq;clear h;refine qC aC aI func10 rfl rfl λg j=>?_;simp only[f10,go_sem]
 repeat' (first|exact⟨⟩|refine sp ?_|refine uS [0,1,2,3] h1 ?_)
 all_goals (repeat' (first|exact .inr ⟨_,rfl⟩|refine And.intro ?_ ?_))
theorem zIQ{k:Int}(h:Sim r' d)(a:r'=r)(k1:(k==1)=false)(k2:(k==2)=false)(g:(k==3)=false)(i:(k==4)=false)(j:(k==5)=false)(l:(k==6)=false)(o:(k==7)=false)(p:(k==8)=false):
  aA prog 10 [.c (.ptr 0 0),.agg (evc k n t m c q b)] (bC r) λx f=>x=.agg (rwv (rwx 0 [] []))/\f=dP r':=by
 subst a;refine aA.perm [0,7,8,9,1,2,3] (d1:=.agg (rwv (rwx 0 [] []))) (h1:=bC r'++[.box (evc k n t m c q b),.box (rwe 0 .nil .nil),.box (rwe 0 .nil .nil)]) (aG ?_) rfl rfl qt;clear h;refine qC aC aI func10 rfl rfl λs u=>?_;simp only[f10,go_sem]
 repeat' (first|exact⟨⟩|refine sp ?_)
 all_goals (repeat' (first|exact .inr ⟨_,rfl⟩|refine And.intro ?_ ?_))
end
def zKQ{r:Rm}{d:Dr}(h:Sim r d)(a b:Ba):(jH r a b).1.length<=100000/\(∀x∈(jH r a b).1,x.p.length<=1000000000/\x.o.t<18446744073709551616/\x.n.t<18446744073709551616)/\∀x∈(jH r a b).1,x.n.d.length<=140737488355328:=by
 have f:=uI h a;have g:=uI h b;unfold jH;split
 .exact⟨ql,ql,ql⟩
 .split
  .exact⟨ql,ql,ql⟩
  .exact zRA f g
def zMY{r:Rm}{d:Dr}{e:Ev}(h:Sim r d)(f:OkEv e):aA prog 10 [.c (.ptr 0 0),.agg (evv e)] (bC r) λx J=>x=.agg (rwv (JJ r e).2)/\J=dP (JJ r e).1:=by
 obtain⟨k,n,t,m,c,q,b⟩:=e;have j:=f.c;have K:=f.n;have g:=f.t;have l:=f.m;simp only at j K g l;by_cases o:k=1
 .subst o;exact zIR h j rfl
 by_cases p:k=2
 .subst p;exact zIS h g rfl
 by_cases s:k=3
 .subst s;exact zIT h g rfl
 by_cases u:k=4
 .subst u;exact zIU h rfl rfl
 by_cases v:k=5
 .subst v;obtain⟨L,M,N⟩:=zKQ h t m;by_cases i:(jH r t m).2=0
  .have:=zIV (q:=q) (b:=b) (c:=c) (n:=n) (e:=(jY r n (jH r t m).1).2) h L M N (kq rfl i) rfl;have a:JJ r ⟨5,n,t,m,c,q,b⟩=((jY r n (jH r t m).1).1,rwx (jY r n (jH r t m).1).2 [] []):=by
    show (if (jH r t m).2==0 then _ else _)=_
    rw[i];rfl
   rw[a];exact this
  .have w:((jH r t m).2==0)=false:=by simpa using i
   have:=zEe (q:=q) (b:=b) (c:=c) (n:=n) (t:=t) (m:=m) h rfl w rfl;have a:JJ r ⟨5,n,t,m,c,q,b⟩=(r,rwx (jH r t m).2 [] []):=by
    show (if (jH r t m).2==0 then _ else _)=_
    rw[w];rfl
   rw[a];exact this
 by_cases y:k=6
 .subst y;exact zIW h l rfl
 by_cases z:k=7
 .subst z;exact zIX h rfl
 by_cases A:k=8
 .subst A;exact zIY h rfl
 have B:(k==1)=false:=by simpa using o
 have C:(k==2)=false:=by simpa using p
 have D:(k==3)=false:=by simpa using s
 have E:(k==4)=false:=by simpa using u
 have F:(k==5)=false:=by simpa using v
 have G:(k==6)=false:=by simpa using y
 have H:(k==7)=false:=by simpa using z
 have I:(k==8)=false:=by simpa using A
 have:=zIQ (n:=n) (t:=t) (m:=m) (q:=q) (b:=b) (c:=c) h rfl B C D E F G H I;have a:JJ r ⟨k,n,t,m,c,q,b⟩=(r,rwx 0 [] []):=by
  unfold JJ;simp only[B,C,D,E,F,G,H,I,av,ax];rfl
 rw[a];exact this
end
def zKN{d:Dr}{o t s:Ba}(h:OkW d)(hl:d.L.length<=100)(V:s.length<=1000000000):
  ag 26 [.agg (drv d),.c (.p (.s o)),.c (.p (.s t)),.c (.p (.s s))] (.tup [.agg (drv (lQ d o t s).1),.c (.p (.sl 2 (eI (lQ d o t s).2.1))),.c (.p (.i .i64 (lQ d o t s).2.2))]):=by
 have O:=h.ln;have k:=mR (d:=d) (s:=o) qd;have m:=mR (d:=d) (s:=t) qd;have I:=λa=>oS (d:=d) (a:=a) qd;have n:=NR (d:=d) (s:=s) qd qd V;have r:=NQ (d:=d) (a:=aW d.N o) qd;have u:=DP (d:=d) qd;have P:d.G.length=d.L.length:=by simp[Dr.G]
 have v:=zOM (l:=d.G) (a:=aW d.N o) (b:=aW d.N t) qd h.g;have B:=λa=>jF (d:=d) (a:=a) qd;have j:=LS (h.tree (rE d.G (aW d.N o) (aW d.N t))) (h.tree (aW d.N o)) (h.tree (aW d.N t));have Q:=FJ (h.tree (rE d.G (aW d.N o) (aW d.N t))) (h.tree (aW d.N o)) (h.tree (aW d.N t));have S:=tU (h.tree (rE d.G (aW d.N o) (aW d.N t))) (h.tree (aW d.N o)) (h.tree (aW d.N t));have f:=λ(W:iE d s=0) q x=>NS (d:=d) (s:=s) (p:=aW d.N o) (q:=q) (t:=x) qd qd (zF h W);have w:=I (aW d.N o);have C:=I (aW d.N t);have y:=B (aW d.N o);have z:=B (aW d.N t);have A:=B (rE d.G (aW d.N o) (aW d.N t));unfold lQ;simp only;clear h O P I B;generalize aW d.N o=no at *;generalize aW d.N t=H at *;generalize cB d (rE d.G no H)=Y at *;generalize cB d no=Z at *;generalize cB d H=TT at *;generalize rE d.G no H=ba at *;generalize d.G=G at *;generalize fN d no=f1 at *;generalize fN d H=f2 at *;generalize rF d no=p at *;generalize iE d s=e at *;generalize eX Y Z TT=M at *;obtain⟨X,F⟩:=M;simp only at j Q S ⊢;refine aG ?_;cases hb:(no==0);rotate_left 1
 .simp only[e8,az];clear w C n r u v j f y z A;refine aa func26 λD E=>?_
  repeat' (first|exact⟨⟩|refine sp ?_|refine uF k ?_|refine uF m ?_)
  all_goals (repeat' (exact .inr ⟨_,rfl⟩))
 cases hb2:(H==0);rotate_left 1
 .simp only[ej,az];clear w C n r u v j f y z A;refine aa func26 λD E=>?_
  repeat' (first|exact⟨⟩|refine sp ?_|refine uF k ?_|refine uF m ?_)
  all_goals (repeat' (exact .inr ⟨_,rfl⟩))
 simp only[dn,av,ax];cases f1
 .simp only[br,e8,az];clear n r u v j f y z A;refine aa func26 λD E=>?_
  repeat' (first|exact⟨⟩|refine sq ?_|refine uF k ?_|refine uF m ?_|refine uF w ?_)
  all_goals (repeat' (exact .inr ⟨_,rfl⟩))
 cases f2
 .simp only[br,bh,ej,az];clear n r u v j f y z A;refine aa func26 λD E=>?_
  repeat' (first|exact⟨⟩|refine sq ?_|refine uF k ?_|refine uF m ?_|refine uF w ?_|refine uF C ?_)
  all_goals (repeat' (exact .inr ⟨_,rfl⟩))
 simp only[bh,dn,av,ax];cases T:(e==0)
 .have U:(e != 0)=true:=by rw[bne,T];rfl
  simp only[br,az];clear r u v j f y z A;refine aa func26 λD E=>?_
  repeat' (first|exact⟨⟩|refine sq ?_|refine uF k ?_|refine uF m ?_|refine uF w ?_|refine uF C ?_|refine uF n ?_)
  all_goals (repeat' (exact .inr ⟨_,rfl⟩))
 have U:(e != 0)=false:=by rw[bne,T];rfl
 have f:=f (by simpa using T);simp only[bh,av,ax];cases p;rotate_left 1
 .simp only[az];clear u v j f y z A;refine aa func26 λD E=>?_
  repeat' (first|exact⟨⟩|refine sq ?_|refine uF k ?_|refine uF m ?_|refine uF w ?_|refine uF C ?_|refine uF n ?_|refine uF r ?_)
  all_goals (repeat' (exact .inr ⟨_,rfl⟩))
 simp only[av,ax];by_cases g1:0<F.length
 .have k1:decide ((F.length:Int) > 0)=true:=df qd;have J:=ah 0 F.length;simp only[J,az];clear f;refine aa func26 λD E=>?_
  repeat' (first|exact⟨⟩|refine sq ?_|refine uF k ?_|refine uF m ?_|refine uF w ?_|refine uF C ?_|refine uF n ?_|refine uF r ?_|refine uN u ?_|refine uF v ?_|refine uN y ?_|refine uN z ?_|refine uN A ?_|refine uN j ?_|refine dG (id:=13) aC aI [] [0,1,2,3,4,5,6,7,8,9,10,11,12,13,14] ?_|refine aM ?_|refine d1 ?_ ?_ ?_|with_reducible exact rfl)
  all_goals (repeat' (first|exact rfl|exact .inr ⟨_,rfl⟩|refine And.intro ?_ ?_))
 have k1:decide ((F.length:Int) > 0)=false:=er qd;have J:=aj 0 F.length;simp only[J,av,ax];by_cases g2:120<X.length
 .have k2:decide ((X.length:Int) > 120)=true:=df qd;have K:=ah 120 X.length;simp only[K,az];clear f;refine aa func26 λD E=>?_
  repeat' (first|exact⟨⟩|refine sq ?_|refine uF k ?_|refine uF m ?_|refine uF w ?_|refine uF C ?_|refine uF n ?_|refine uF r ?_|refine uN u ?_|refine uF v ?_|refine uN y ?_|refine uN z ?_|refine uN A ?_|refine uN j ?_|refine dG (id:=13) aC aI [] [0,1,2,3,4,5,6,7,8,9,10,11,12,13,14] ?_|refine aM ?_|refine d1 ?_ ?_ ?_|with_reducible exact rfl)
  all_goals (repeat' (exact .inr ⟨_,rfl⟩))
 have k2:decide ((X.length:Int) > 120)=false:=er qd;have K:=aj 120 X.length;simp only[K,av,ax];cases hq:(H==no)
 .have f:=f H X;simp only[av,ax];generalize vP d s no H X=R at *;refine aa func26 λD E=>?_
  repeat' (first|exact⟨⟩|refine sq ?_|refine uF k ?_|refine uF m ?_|refine uF w ?_|refine uF C ?_|refine uF n ?_|refine uF r ?_|refine uN u ?_|refine uF v ?_|refine uN f ?_|refine uN y ?_|refine uN z ?_|refine uN A ?_|refine uN j ?_|refine dG (id:=13) aC aI [] [0,1,2,3,4,5,6,7,8,9,10,11,12,13,14] ?_|refine aM ?_|refine d1 ?_ ?_ ?_|with_reducible exact rfl)
  all_goals (repeat' (exact .inr ⟨_,rfl⟩))
 .have f:=f 0 X;simp only[az];generalize vP d s no 0 X=R at *;refine aa func26 λD E=>?_
  repeat' (first|exact⟨⟩|refine sq ?_|refine uF k ?_|refine uF m ?_|refine uF w ?_|refine uF C ?_|refine uF n ?_|refine uF r ?_|refine uN u ?_|refine uF v ?_|refine uN f ?_|refine uN y ?_|refine uN z ?_|refine uN A ?_|refine uN j ?_|refine dG (id:=13) aC aI [] [0,1,2,3,4,5,6,7,8,9,10,11,12,13,14] ?_|refine aM ?_|refine d1 ?_ ?_ ?_|with_reducible exact rfl)
  all_goals (repeat' (exact .inr ⟨_,rfl⟩))
def zFQ{d:Dr}{s o:Ba}(h:OkW d)(hl:d.L.length<=100):
  ag 27 [.agg (drv d),.c (.p (.s s)),.c (.p (.s o))] (.tup [.agg (drv (iI d s o).1),.c (.p (.sl 2 (eI (iI d s o).2.1))),.c (.p (.i .i64 (iI d s o).2.2))]):=by
 have O:=h.ln;have j:=mR (d:=d) (s:=s) qd;have l:=mR (d:=d) (s:=o) qd;have E:=λa=>oS (d:=d) (a:=a) qd;have m:=NQ (d:=d) (a:=aW d.N o) qd;have e:=DO (d:=d) (a:=aW d.N s) qd;have u:=λa=>jF (d:=d) (a:=a) qd;have f:=LS (h.tree (zE4 d (aW d.N s))) (h.tree (aW d.N o)) (h.tree (aW d.N s));have P:=FJ (h.tree (zE4 d (aW d.N s))) (h.tree (aW d.N o)) (h.tree (aW d.N s));have Q:=tU (h.tree (zE4 d (aW d.N s))) (h.tree (aW d.N o)) (h.tree (aW d.N s));have b:=λ(h0:IntKind.i64.wrap (d.x+1)=d.x+1) x=>NS (d:=d) (s:=s) (p:=aW d.N o) (q:=0) (t:=x) qd qd h0;have V:=h.nx.2.1;have g:=QG h s;have r:=vW d (aW d.N s);have v:=E (aW d.N s);have w:=E (aW d.N o);have z:=u (aW d.N s);have A:=u (aW d.N o);have B:=u (zE4 d (aW d.N s));have n:∀y,lX d (aW d.N s)=some y->zE4 d (aW d.N s)=y.1.p:=λy W=>by unfold zE4;rw[W]
 unfold iI;simp only;clear h O E u;generalize aW d.N s=J at *;generalize aW d.N o=no at *;generalize cB d (zE4 d J)=Y at *;generalize zE4 d J=pa at *;generalize cB d no=Z at *;generalize cB d J=TS at *;generalize fN d J=f1 at *;generalize fN d no=f2 at *;generalize rF d no=p at *;generalize eX Y Z TS=M at *;obtain⟨X,F⟩:=M;simp only at f P Q ⊢;refine aG ?_;cases hb:(J==0);rotate_left 1
 .simp only[az];clear l v w m e f b z A B r n g;refine aa func27 λC D=>?_
  repeat' (first|exact⟨⟩|refine sp ?_|refine uF j ?_)
  all_goals (repeat' (exact .inr ⟨_,rfl⟩))
 have g:=g hb;simp only[av,ax];cases f1;rotate_left 1
 .simp only[az];clear l w m e f b z A B r n g;refine aa func27 λC D=>?_
  repeat' (first|exact⟨⟩|refine sp ?_|refine uF j ?_|refine uF v ?_)
  all_goals (repeat' (exact .inr ⟨_,rfl⟩))
 simp only[av,ax];cases hb2:(no==0);rotate_left 1
 .simp only[az];clear w m e f b z A B r n g;refine aa func27 λC D=>?_
  repeat' (first|exact⟨⟩|refine sp ?_|refine uF j ?_|refine uF v ?_|refine uF l ?_)
  all_goals (repeat' (exact .inr ⟨_,rfl⟩))
 simp only[av,ax];cases f2
 .simp only[br,az];clear m e f b z A B r n g;refine aa func27 λC D=>?_
  repeat' (first|exact⟨⟩|refine sp ?_|refine uF j ?_|refine uF v ?_|refine uF l ?_|refine uF w ?_)
  all_goals (repeat' (exact .inr ⟨_,rfl⟩))
 simp only[bh,av,ax];cases p;rotate_left 1
 .simp only[az];clear e f b z A B r n g;refine aa func27 λC D=>?_
  repeat' (first|exact⟨⟩|refine sp ?_|refine uF j ?_|refine uF v ?_|refine uF l ?_|refine uF w ?_|refine uF m ?_)
  all_goals (repeat' (exact .inr ⟨_,rfl⟩))
 simp only[av,ax];rcases r with⟨K,S⟩|⟨k,y,K,S,T⟩
 .rw[K] at g;cases g
 rw[S] at e;have U:=n y K;have hg:=oI T;have hlt:=(bz.1 T).1;have j2:(k:Int)<(d.L.length:Int):=qd
 have j3:(0:Int)<=k:=qd
 obtain⟨⟨yi,yp,ys,yf⟩,yt⟩:=y;simp only at U hg;subst U;clear K S T g n;by_cases g1:0<F.length
 .have k1:decide ((F.length:Int) > 0)=true:=df qd;have G:=ah 0 F.length;simp only[G,az];clear b;refine aa func27 λC D=>?_
  repeat' (first|exact⟨⟩|refine sp ?_|refine uF j ?_|refine uF v ?_|refine uF l ?_|refine uF w ?_|refine uF m ?_|refine uF e ?_|refine dG (id:=13) aC aI [] [0,1,2,3,4,5,6,7,8,9] ?_|refine aM ?_|refine d1 ?_ ?_ ?_|refine uN z ?_|refine uN A ?_|refine uN B ?_|refine uN f ?_|refine dG (id:=14) aC aI [] [0,1,2,3,4,5,6,7,8,9,10,11,12,13,14] ?_|with_reducible exact rfl)
  all_goals (repeat' (first|exact rfl|exact .inr ⟨_,rfl⟩|refine And.intro ?_ ?_))
 have k1:decide ((F.length:Int) > 0)=false:=er qd;have G:=aj 0 F.length;simp only[G,av,ax];by_cases g2:120<X.length
 .have k2:decide ((X.length:Int) > 120)=true:=df qd;have H:=ah 120 X.length;simp only[H,e8,az];clear b;refine aa func27 λC D=>?_
  repeat' (first|exact⟨⟩|refine sp ?_|refine uF j ?_|refine uF v ?_|refine uF l ?_|refine uF w ?_|refine uF m ?_|refine uF e ?_|refine dG (id:=13) aC aI [] [0,1,2,3,4,5,6,7,8,9] ?_|refine aM ?_|refine d1 ?_ ?_ ?_|refine uN z ?_|refine uN A ?_|refine uN B ?_|refine uN f ?_|refine dG (id:=14) aC aI [] [0,1,2,3,4,5,6,7,8,9,10,11,12,13,14] ?_|with_reducible exact rfl)
  all_goals (repeat' (exact .inr ⟨_,rfl⟩))
 have k2:decide ((X.length:Int) > 120)=false:=er qd;have H:=aj 120 X.length;simp only[H,dw,];by_cases g3:2147483647<=d.x
 .have k3:decide (d.x>=2147483647)=true:=df qd;have I:decide (2147483647<=d.x)=true:=df qd;simp only[I,az];clear b;refine aa func27 λC D=>?_
  repeat' (first|exact⟨⟩|refine sp ?_|refine uF j ?_|refine uF v ?_|refine uF l ?_|refine uF w ?_|refine uF m ?_|refine uF e ?_|refine dG (id:=13) aC aI [] [0,1,2,3,4,5,6,7,8,9] ?_|refine aM ?_|refine d1 ?_ ?_ ?_|refine uN z ?_|refine uN A ?_|refine uN B ?_|refine uN f ?_|refine dG (id:=14) aC aI [] [0,1,2,3,4,5,6,7,8,9,10,11,12,13,14] ?_|with_reducible exact rfl)
  all_goals (repeat' (exact .inr ⟨_,rfl⟩))
 have k3:decide (d.x>=2147483647)=false:=er qd;have I:decide (2147483647<=d.x)=false:=er qd;have b:=b (wrap_i64 qd qd) X;simp only[I,av,ax];generalize vP d s no 0 X=R at *;refine aa func27 λC D=>?_
 repeat' (first|exact⟨⟩|refine sp ?_|refine uF j ?_|refine uF v ?_|refine uF l ?_|refine uF w ?_|refine uF m ?_|refine uN b ?_|refine uF e ?_|refine dG (id:=13) aC aI [] [0,1,2,3,4,5,6,7,8,9] ?_|refine aM ?_|refine d1 ?_ ?_ ?_|refine uN z ?_|refine uN A ?_|refine uN B ?_|refine uN f ?_|refine dG (id:=14) aC aI [] [0,1,2,3,4,5,6,7,8,9,10,11,12,13,14] ?_|with_reducible exact rfl)
 all_goals (repeat' (exact .inr ⟨_,rfl⟩))
end Go.Proofs.YtfcindonokhbeaaGreatDoor
end
