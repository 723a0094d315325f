/- Part 51 of roomPlays_card. No condition. -/
import Derived.Test.YtfcindonokhbeaaGreatDoorP49
import Derived.Test.YtfcindonokhbeaaGreatDoorP48
import Derived.Test.YtfcindonokhbeaaGreatDoorP43
import Derived.Test.YtfcindonokhbeaaGreatDoorP46
set_option linter.all false
set_option maxRecDepth 100000
set_option maxHeartbeats 0
section
namespace Go.Proofs.YtfcindonokhbeaaGreatDoor
open Go Go.Dm Go.Proofs Go.Proofs.Tryz
def zTu{d:Dr}{s:Ba}{c:Cl}(h:OkW d)(K:d.L.length<=100)(v:OkC c):
  ag 21 [.agg (drv d),.c (.p (.s s)),.agg (clv c)] (.tup [.agg (drv (doD d s c).1),.agg (anv (doD d s c).2)]):=by
 obtain⟨ck,D,E,cm,ct,F,cn,G⟩:=c;have y:=h.ln;have i:=mR (d:=d) (s:=s) qd;have j:=oS (d:=d) (a:=aW d.N s) qd;have l:=jF (d:=d) (a:=aW d.N s) qd;have m:=zEq (k:=ck);have g:=zQh (ck:=ck) (cm:=cm) (ct:=ct) (cn:=cn) (h.tree (aW d.N s)) v.p v.d v.q v.a;have e:=λt=>zFS (d:=d) (a:=aW d.N s) (t:=t) qd;have o:=QG h s;unfold doD;simp only;generalize aW d.N s=n at *;generalize fN d n=f at *;generalize jX ck=u at *;generalize cB d n=T at *;generalize H:doR T ⟨ck,D,E,cm,ct,F,cn,G⟩=A at *;obtain⟨A,⟨z,⟨M,O,at_,P⟩,Q,S⟩⟩:=A;simp only at g ⊢;clear h y H v;refine aG ?_;cases I:(n==0)
 .simp only[av,ax];have e:=e A (o I);clear o;cases r:(f && u)
  .simp only[av,ax];have b:f=true->u=false:=λJ=>by subst J;simpa using r
   cases C:(z==0)
   .have B:(z != 0)=true:=by rw[bne,C];rfl
    simp only[br,az];clear e;cases f
    .clear m b;refine aa func21 λw x=>?_
     repeat' (first|exact⟨⟩|refine sp ?_|refine uF i ?_|refine uF j ?_|((refine aK (id:=6) aC aI [8,10] [8,0,1,2,3,4,5,6,7,9,10] qi ?_);(repeat' (first|(refine aM ?_)|((refine bJ ?_ ?_ rfl rfl rfl ?_ ?_);(rotate_left 2);(focus ((repeat' (first|exact⟨⟩|refine sp ?_));((refine And.intro ?_ ?_<;>exact rfl))));(simp only[aD,aQ]))|((refine bI ?_ rfl rfl rfl ?_ ?_);(rotate_left 1);(focus ((repeat' (first|exact aS|refine aL ?_ ?_));(all_goals ((repeat' (first|exact⟨⟩|refine sp ?_|refine uN l ?_|refine uN g ?_));(try (exact rfl))))));(simp only[aD])))))|refine dR (id:=8) aC aI [2,3] [0,2,1,3] ?_)
     all_goals (repeat' (first|exact rfl|exact .inr ⟨_,rfl⟩|refine And.intro ?_ ?_))
    .obtain rfl:=b rfl;clear b;refine aa func21 λw x=>?_
     repeat' (first|exact⟨⟩|refine sp ?_|refine uF i ?_|refine uF j ?_|refine uF m ?_|((refine aK (id:=6) aC aI [8,10] [8,0,1,2,3,4,5,6,7,9,10] qi ?_);(repeat' (first|(refine aM ?_)|((refine bJ ?_ ?_ rfl rfl rfl ?_ ?_);(rotate_left 2);(focus ((repeat' (first|exact⟨⟩|refine sp ?_));((refine And.intro ?_ ?_<;>exact rfl))));(simp only[aD,aQ]))|((refine bI ?_ rfl rfl rfl ?_ ?_);(rotate_left 1);(focus ((repeat' (first|exact aS|refine aL ?_ ?_));(all_goals ((repeat' (first|exact⟨⟩|refine sp ?_|refine uN l ?_|refine uN g ?_));(try (exact rfl))))));(simp only[aD])))))|refine dR (id:=8) aC aI [2,3] [0,2,1,3] ?_)
     all_goals (repeat' (first|exact rfl|exact .inr ⟨_,rfl⟩|refine And.intro ?_ ?_))
   .have B:(z != 0)=false:=by rw[bne,C];rfl
    simp only[bh,av,ax];generalize oN d n A=R at e ⊢;cases f
    .clear m b;refine aa func21 λw x=>?_
     repeat' (first|exact⟨⟩|refine sp ?_|refine uF i ?_|refine uF j ?_|((refine aK (id:=6) aC aI [8,10] [8,0,1,2,3,4,5,6,7,9,10] qi ?_);(repeat' (first|(refine aM ?_)|((refine bJ ?_ ?_ rfl rfl rfl ?_ ?_);(rotate_left 2);(focus ((repeat' (first|exact⟨⟩|refine sp ?_));((refine And.intro ?_ ?_<;>exact rfl))));(simp only[aD,aQ]))|((refine bI ?_ rfl rfl rfl ?_ ?_);(rotate_left 1);(focus ((repeat' (first|exact aS|refine aL ?_ ?_));(all_goals ((repeat' (first|exact⟨⟩|refine sp ?_|refine uN l ?_|refine uN g ?_));(try (exact rfl))))));(simp only[aD])))))|((refine aK (id:=9) aC aI [5,6] [0,1,2,3,5,4,6] qi ?_);(repeat' (first|(refine aM ?_)|((refine bJ ?_ ?_ rfl rfl rfl ?_ ?_);(rotate_left 2);(focus ((repeat' (first|exact⟨⟩|refine sp ?_));((refine And.intro ?_ ?_<;>exact rfl))));(simp only[aQ]))|((refine bI ?_ rfl rfl rfl ?_ ?_);(rotate_left 1);(focus ((repeat' (first|exact aS|refine aL ?_ ?_));(all_goals ((repeat' (first|exact⟨⟩|refine sp ?_|refine uN e ?_));(try (exact rfl))))));(simp only[aD]))))))
     all_goals (repeat' (first|exact rfl|exact .inr ⟨_,rfl⟩|refine And.intro ?_ ?_))
    .obtain rfl:=b rfl;clear b;refine aa func21 λw x=>?_
     repeat' (first|exact⟨⟩|refine sp ?_|refine uF i ?_|refine uF j ?_|refine uF m ?_|((refine aK (id:=6) aC aI [8,10] [8,0,1,2,3,4,5,6,7,9,10] qi ?_);(repeat' (first|(refine aM ?_)|((refine bJ ?_ ?_ rfl rfl rfl ?_ ?_);(rotate_left 2);(focus ((repeat' (first|exact⟨⟩|refine sp ?_));((refine And.intro ?_ ?_<;>exact rfl))));(simp only[aD,aQ]))|((refine bI ?_ rfl rfl rfl ?_ ?_);(rotate_left 1);(focus ((repeat' (first|exact aS|refine aL ?_ ?_));(all_goals ((repeat' (first|exact⟨⟩|refine sp ?_|refine uN l ?_|refine uN g ?_));(try (exact rfl))))));(simp only[aD])))))|((refine aK (id:=9) aC aI [5,6] [0,1,2,3,5,4,6] qi ?_);(repeat' (first|(refine aM ?_)|((refine bJ ?_ ?_ rfl rfl rfl ?_ ?_);(rotate_left 2);(focus ((repeat' (first|exact⟨⟩|refine sp ?_));((refine And.intro ?_ ?_<;>exact rfl))));(simp only[aQ]))|((refine bI ?_ rfl rfl rfl ?_ ?_);(rotate_left 1);(focus ((repeat' (first|exact aS|refine aL ?_ ?_));(all_goals ((repeat' (first|exact⟨⟩|refine sp ?_|refine uN e ?_));(try (exact rfl))))));(simp only[aD]))))))
     all_goals (repeat' (first|exact rfl|exact .inr ⟨_,rfl⟩|refine And.intro ?_ ?_))
  .rw[bn] at r;obtain⟨rfl,rfl⟩:=r;simp only[az];clear l g e;refine aa func21 λw x=>?_
   repeat' (first|exact⟨⟩|refine sp ?_|refine uF i ?_|refine uF j ?_|refine uF m ?_)
   all_goals (repeat' (first|exact rfl|exact .inr ⟨_,rfl⟩|refine And.intro ?_ ?_))
 .simp only[az];clear j l m g e o;refine aa func21 λw x=>?_
  repeat' (first|exact⟨⟩|refine sp ?_|refine uF i ?_)
  all_goals (repeat' (first|exact rfl|exact .inr ⟨_,rfl⟩|refine And.intro ?_ ?_))
theorem sv_s(l:Ba):(SV.s l).pv=.s l:=rfl
def zQI(l:List Ba){n:Nat}(h:n<l.length):∃s∈l,(l.map SV.s).getD n (.i 0)=.s s:=by
 rw[ed,dv,ay h];exact⟨_,ch h,rfl⟩
def QO(n:Int):∃s:Ba,s.length<=100/\ag 17 [.c (.p (.i .i64 n))] (.c (.p (.s s))):=by
 have a:=nR (n:=n) (m:=7) qh qh;have k:=fy n (show (7:Int)≠0 by decide)
 have f:=gl n (show (0:Int)<7 by decide)
 obtain⟨s,b,d⟩:=zQI zCP (n:=(n % 7).toNat) (by show _<7;omega);have e:∀s∈zCP,s.length<=100:=qh
 have d:(zCO 0).getD (n % 7).toNat (.i 0)=.s s:=d;have l:n % 7<((zCO 0).length:Int):=f;cases g:(n.tmod 53==52)
 .refine⟨s,e s b,?_⟩;generalize n % 7=q at *;clear b e;refine aa func17 λh j=>?_
  repeat' (first|simp only[*,go_sem,Nat.reduceLT,Nat.reduceEqDiff,↓reduceIte,Int.reduceEq,sv_s]|refine uF a ?_)
 .refine⟨[110,111,47,110,97,109,101],qh,?_⟩
  refine aa func17 λh j=>?_
  repeat' (first|exact⟨⟩|refine sp ?_)
abbrev rwcv(k a b c n:Int)(x:RC)(m:Ba):Bf:=[.p (.i .i64 k),.p (.i .i64 a),.p (.i .i64 b),.p (.i .i64 c),.p (.i .i64 n),.p (.i .i64 x.k),.p (.i .i64 x.p),.p (.i .i64 x.to'),.p (.i .i64 x.m),.p (.i .i64 x.t),.p (.i .i64 x.at'),.p (.i .i64 x.n),.p (.i .i64 x.how),.p (.f x.x),.p (.sl 1 (bS x.d)),.p (.s x.s),.p (.sl 1 (bS m))]
def zMl{x:RW}(X:zRc x):∃e:Ev,OkEv e/\ag 7 [.agg (rwcv x.k x.a x.b x.c x.n x.r x.m),.c (.p (.b false))] (.agg (evv e)):=by
 obtain⟨k,a,b,c,n,x,m⟩:=x;obtain⟨⟨F,E,C⟩,Y⟩:=X;simp only at F E C Y ⊢;obtain⟨G,l⟩:=zRq (x:=x) E F;have g:=zKB (k:=G) (x:=x) E C;have d:OkC ⟨0,[],[],0,0,0,0,[]⟩:=⟨ql,ql,qh,ql,qh⟩
 obtain⟨w,y,o⟩:=QO a;obtain⟨z,A,B⟩:=QO b;obtain⟨H,I,J⟩:=QO c;have i:=nR (n:=k) (m:=25) qh qh;have Z:=fy k (show (25:Int)≠0 by decide)
 have b2:=gl k (show (0:Int)<25 by decide)
 have D:(lH).length<=100:=qh
 have f:([]:Ba).length<=100:=qh
 have j:∀{s:Ba},s.length<=100->s.length<=1000000000:=λh=>bj h qh;generalize NK G x=cl at l g;obtain⟨K,L,M,N,O,P,Q,R⟩:=cl;generalize k % 25=q at i Z b2;have ok:∀{k:Int} {n t m:Ba} {c:Cl} {q:Int} {b:Ba},OkC c->n.length<=100->t.length<=100->m.length<=100->OkEv ⟨k,n,t,m,c,q,b⟩:=λh1 h2 h3 h4=>⟨h1,j h2,j h3,j h4⟩;by_cases S:q<12
 .have d1:decide (q<12)=true:=df S;cases T:decide (a.tmod 3 > 0)
  .refine⟨⟨1,w,[],[],⟨K,L,M,N,O,P,Q,R⟩,0,[]⟩,ok g y f f,aG ?_⟩;clear g d ok j;refine aa func7 λu v=>?_
   repeat' (first|exact⟨⟩|refine sp ?_|refine uF o ?_|refine uF i ?_|refine uN l ?_)
   all_goals (repeat' (exact .inr ⟨_,rfl⟩))
  .refine⟨⟨1,lH,[],[],⟨K,L,M,N,O,P,Q,R⟩,0,[]⟩,ok g D f f,aG ?_⟩;clear g d ok j;refine aa func7 λu v=>?_
   repeat' (first|exact⟨⟩|refine sp ?_|refine uF o ?_|refine uF i ?_|refine uN l ?_)
   all_goals (repeat' (first|exact rfl|exact .inr ⟨_,rfl⟩|refine And.intro ?_ ?_))
 have d1:decide (q<12)=false:=er S;by_cases U:q<14
 .have d2:decide (q<14)=true:=df U;cases T:(a.tmod 2==0)
  .refine⟨⟨2,w,z,[],⟨0,[],[],0,0,0,0,[]⟩,0,[]⟩,ok d y A f,aG ?_⟩;clear g d ok j;refine aa func7 λu v=>?_
   repeat' (first|exact⟨⟩|refine sp ?_|refine uF o ?_|refine uF B ?_|refine uF i ?_)
   all_goals (repeat' (first|exact .inr ⟨_,rfl⟩|refine And.intro ?_ ?_))
  .refine⟨⟨2,lH,z,[],⟨0,[],[],0,0,0,0,[]⟩,0,[]⟩,ok d D A f,aG ?_⟩;clear g d ok j;refine aa func7 λu v=>?_
   repeat' (first|exact⟨⟩|refine sp ?_|refine uF o ?_|refine uF B ?_|refine uF i ?_)
   all_goals (repeat' (first|exact rfl|exact .inr ⟨_,rfl⟩|refine And.intro ?_ ?_))
 have d2:decide (q<14)=false:=er U;by_cases V:q<16
 .have d3:decide (q<16)=true:=df V;refine⟨⟨3,w,z,[],⟨0,[],[],0,0,0,0,[]⟩,0,[]⟩,ok d y A f,aG ?_⟩;clear g d ok j;refine aa func7 λu v=>?_
  repeat' (first|exact⟨⟩|refine sp ?_|refine uF o ?_|refine uF B ?_|refine uF i ?_)
  all_goals (repeat' (first|exact .inr ⟨_,rfl⟩|refine And.intro ?_ ?_))
 have d3:decide (q<16)=false:=er V;cases d4:(q==16);rotate_left 1
 .refine⟨⟨4,w,z,[],⟨0,[],[],0,0,0,0,[]⟩,0,[]⟩,ok d y A f,aG ?_⟩;clear g d ok j;refine aa func7 λu v=>?_
  repeat' (first|exact⟨⟩|refine sp ?_|refine uF o ?_|refine uF B ?_|refine uF i ?_)
  all_goals (repeat' (first|exact .inr ⟨_,rfl⟩|refine And.intro ?_ ?_))
 cases d5:(q==17);rotate_left 1
 .refine⟨⟨5,w,z,H,⟨0,[],[],0,0,0,0,[]⟩,0,[]⟩,ok d y A I,aG ?_⟩;clear g d ok j;refine aa func7 λu v=>?_
  repeat' (first|exact⟨⟩|refine sp ?_|refine uF o ?_|refine uF B ?_|refine uF J ?_|refine uF i ?_)
  all_goals (repeat' (first|exact .inr ⟨_,rfl⟩|refine And.intro ?_ ?_))
 by_cases W:q<20
 .have d6:decide (q<20)=true:=df W;refine⟨⟨6,w,z,H,⟨0,[],[],0,0,0,0,[]⟩,0,[]⟩,ok d y A I,aG ?_⟩;clear g d ok j;refine aa func7 λu v=>?_
  repeat' (first|exact⟨⟩|refine sp ?_|refine uF o ?_|refine uF B ?_|refine uF J ?_|refine uF i ?_)
  all_goals (repeat' (first|exact .inr ⟨_,rfl⟩|refine And.intro ?_ ?_))
 have d6:decide (q<20)=false:=er W;cases d7:(q==20);rotate_left 1
 .refine⟨⟨7,w,z,[],⟨0,[],[],0,0,0,0,[]⟩,0,[]⟩,ok d y A f,aG ?_⟩;clear g d ok j;refine aa func7 λu v=>?_
  repeat' (first|exact⟨⟩|refine sp ?_|refine uF o ?_|refine uF B ?_|refine uF i ?_)
  all_goals (repeat' (first|exact .inr ⟨_,rfl⟩|refine And.intro ?_ ?_))
 cases d8:(q==21);rotate_left 1
 .cases T:decide (b.tmod 3 > 0)
  .refine⟨⟨8,w,[],[],⟨0,[],[],0,0,0,0,[]⟩,0,[]⟩,ok d y f f,aG ?_⟩;clear g d ok j;refine aa func7 λu v=>?_
   repeat' (first|exact⟨⟩|refine sp ?_|refine uF o ?_|refine uF i ?_)
   all_goals (repeat' (first|exact .inr ⟨_,rfl⟩|refine And.intro ?_ ?_))
  .refine⟨⟨9,w,[],[],⟨0,[],[],0,0,0,0,[]⟩,0,[]⟩,ok d y f f,aG ?_⟩;clear g d ok j;refine aa func7 λu v=>?_
   repeat' (first|exact⟨⟩|refine sp ?_|refine uF o ?_|refine uF i ?_)
   all_goals (repeat' (first|exact .inr ⟨_,rfl⟩|refine And.intro ?_ ?_))
 cases d9:(q==22)
 .refine⟨⟨9,w,[],[],⟨0,[],[],0,0,0,0,[]⟩,0,[]⟩,ok d y f f,aG ?_⟩;clear g d ok j;refine aa func7 λu v=>?_
  repeat' (first|exact⟨⟩|refine sp ?_|refine uF o ?_|refine uF i ?_)
  all_goals (repeat' (first|exact .inr ⟨_,rfl⟩|refine And.intro ?_ ?_))
 .refine⟨⟨9,w,[],[],⟨0,[],[],0,0,0,0,[]⟩,0,[]⟩,ok d y f f,aG ?_⟩;clear g d ok j;refine aa func7 λu v=>?_
  repeat' (first|exact⟨⟩|refine sp ?_|refine uF o ?_|refine uF i ?_)
  all_goals (repeat' (first|exact .inr ⟨_,rfl⟩|refine And.intro ?_ ?_))
def zKM{d:Dr}{s:Ba}{l:Bh}(F:d.L.length<=10000)(G:d.N.length<=10000)(m:∀y∈d.L,OkT y.2)(hi:(aW d.N s==0)=false->(lX d (aW d.N s)).isSome=true)
  (v:l.length<=1000)(q:∀x∈l,x.p.length<=1000000000/\x.o.d.length<=1000000000/\x.n.d.length<=1000000000)(r:∀c∈l,c.o.wf/\c.n.wf):
  ag 25 [.agg (drv d),.c (.p (.s s)),.c (.p (.sl 10 (jD l)))] (.tup [.agg (drv (oQ d s l).1),.c (.p (.i .i64 (oQ d s l).2))]):=by
 have j:=mR (d:=d) (s:=s) qd;have h:=oS (d:=d) (a:=aW d.N s) qd;have k:=jF (d:=d) (a:=aW d.N s) qd;have g:=zEi (HI m (aW d.N s)) v q;rw[zBj (HI m (aW d.N s)) r] at g;have b:=λt=>zFS (d:=d) (a:=aW d.N s) (t:=t) qd;unfold oQ;generalize aW d.N s=n at *;refine aG ?_;cases E:(n==0)
 .have u:=hi E;simp only[av,ax];generalize fN d n=f at h ⊢;cases f
  .generalize cB d n=T at *;generalize C:gP T l=A at *;obtain⟨A,e⟩:=A;have b:=b A u;simp only[av,ax];simp only at g;cases D:(e==0)
   .have w:(e != 0)=true:=by rw[bne,D];rfl
    simp only[br,az];clear b C hi u m q r;refine aa func25 λz B=>?_
    repeat' (first|exact⟨⟩|refine sp ?_|refine uF j ?_|refine uF h ?_|refine uN k ?_|refine uN g ?_)
    all_goals (repeat' (first|exact rfl|exact .inr ⟨_,rfl⟩|refine And.intro ?_ ?_))
   .have w:(e != 0)=false:=by rw[bne,D];rfl
    simp only[bh,av,ax];generalize oN d n A=R at b ⊢;clear C hi u m q r;refine aa func25 λz B=>?_
    repeat' (first|exact⟨⟩|refine sp ?_|refine uF j ?_|refine uF h ?_|refine uN k ?_|refine uN g ?_|refine uN b ?_)
    all_goals (repeat' (first|exact rfl|exact .inr ⟨_,rfl⟩|refine And.intro ?_ ?_))
  .simp only[az];clear k g b hi u m q r;refine aa func25 λz B=>?_
   repeat' (first|exact⟨⟩|refine sp ?_|refine uF j ?_|refine uF h ?_)
   all_goals (repeat' (first|exact rfl|exact .inr ⟨_,rfl⟩|refine And.intro ?_ ?_))
 .simp only[az];clear k g b hi m q r h;refine aa func25 λz B=>?_
  repeat' (first|exact⟨⟩|refine sp ?_|refine uF j ?_)
  all_goals (repeat' (first|exact rfl|exact .inr ⟨_,rfl⟩|refine And.intro ?_ ?_))
section
def NX{d:Dr}(h:OkW d)(t m:Ba):(gM d t m).1.length<=1000/\(∀x∈(gM d t m).1,x.p.length<=1000000000/\x.o.d.length<=1000000000/\x.n.d.length<=1000000000)/\∀c∈(gM d t m).1,c.o.wf/\c.n.wf:=by
 have a:=pP h t;have e:=pP h m;have i:=a.len;have j:=e.len;unfold gM;split
 .exact⟨ql,ql,ql⟩
 .split
  .exact⟨ql,ql,ql⟩
  .refine⟨bj (jG _ _) qd,λx f=>⟨((zRA a e).2.1 x f).1,?_,?_⟩,λc g=>xA a e g⟩
   .rw[(iQ f).1];exact bj (a.getd _) qh
   .rw[(iQ f).2];exact bj (e.getd _) qh
section
variable {d:Dr}{n t m:Ba}{c:Cl}{q:Int}{b:Ba}
theorem zMQ(h:OkW d)(a:d.L.length<=100)(f:OkC c):
  ag 8 [.agg (drv d),.agg (evc 1 n t m c q b)] (.tup [.agg (drv (doD d n c).1),.agg (rwv ⟨(doD d n c).2.e,(doD d n c).2,[],[]⟩)]):=by
 have g:=zTu (s:=n) h a f;obtain⟨i,j,k,l,o,p,r,u⟩:=c;generalize doD d n ⟨i,j,k,l,o,p,r,u⟩=R at *;obtain⟨R,⟨v,⟨w,x,at_,y⟩,z,A⟩⟩:=R;simp only at g ⊢;clear h a f;refine aG ?_;refine aa func8 λB C=>?_
 repeat' (first|exact⟨⟩|refine sp ?_|refine uN g ?_|refine dR (id:=24) aC aI [2,3] [0,2,1,3] ?_)
 all_goals (repeat' (first|exact .inr ⟨_,rfl⟩|refine And.intro ?_ ?_))
theorem zMR(h:OkW d)(a:d.L.length<=100)(e:t.length<=1000000000):
  ag 8 [.agg (drv d),.agg (evc 2 n t m c q b)] (.tup [.agg (drv (gR d n t).1),.agg (rwv (rwx (gR d n t).2 [] []))]):=by
 have f:=zFO (s:=n) h a e;generalize gR d n t=R at *;clear h a;refine aG ?_;refine aa func8 λg i=>?_
 repeat' (first|exact⟨⟩|refine sp ?_|refine uN f ?_|refine dR (id:=24) aC aI [2,3] [0,2,1,3] ?_)
 all_goals (repeat' (first|exact .inr ⟨_,rfl⟩|refine And.intro ?_ ?_))
theorem zMS(h:OkW d)(a:d.L.length<=100)(e:t.length<=1000000000):
  ag 8 [.agg (drv d),.agg (evc 3 n t m c q b)] (.tup [.agg (drv (EN d n t).1),.agg (rwv (rwx (EN d n t).2 [] []))]):=by
 have f:=zOW (sn:=n) h a e;generalize EN d n t=R at *;clear h a;refine aG ?_;refine aa func8 λg i=>?_
 repeat' (first|exact⟨⟩|refine sp ?_|refine uN f ?_|refine dR (id:=24) aC aI [2,3] [0,2,1,3] ?_)
 all_goals (repeat' (first|exact .inr ⟨_,rfl⟩|refine And.intro ?_ ?_))
theorem zMT(h:OkW d)(e:d.L.length<=100):
  ag 8 [.agg (drv d),.agg (evc 4 n t m c q b)] (.tup [.agg (drv d),.agg (rwv (rwx (gM d n t).2 (gM d n t).1 []))]):=by
 have f:=zAq (d:=d) (a:=n) (b:=t) qd (by have:=h.ln;omega) h.t;generalize gM d n t=R at *;clear h e;refine aG ?_;refine aa func8 λg i=>?_
 repeat' (first|exact⟨⟩|refine sp ?_|refine uN f ?_|refine dR (id:=24) aC aI [2,3] [0,2,1,3] ?_)
 all_goals (repeat' (first|exact .inr ⟨_,rfl⟩|refine And.intro ?_ ?_))
theorem zMU(h:OkW d)(f:d.L.length<=100)(j:((gM d t m).2==0)=true):
  ag 8 [.agg (drv d),.agg (evc 5 n t m c q b)] (.tup [.agg (drv (oQ d n (gM d t m).1).1),.agg (rwv (rwx (oQ d n (gM d t m).1).2 [] []))]):=by
 have g:=zAq (d:=d) (a:=t) (b:=m) qd (by have:=h.ln;omega) h.t;have i:=zKM (d:=d) (s:=n) (l:=(gM d t m).1) qd (by have:=h.ln;omega) h.t (QG h n) (NX h t m).1 (NX h t m).2.1 (NX h t m).2.2;generalize gM d t m=D at *;generalize oQ d n D.1=R at *;obtain⟨D,e⟩:=D;simp only at *;clear h f;refine aG ?_;refine aa func8 λk o=>?_
 repeat' (first|exact⟨⟩|refine sp ?_|refine uN g ?_|refine uN i ?_|refine dR (id:=24) aC aI [2,3] [0,2,1,3] ?_)
 all_goals (repeat' (first|exact .inr ⟨_,rfl⟩|refine And.intro ?_ ?_))
theorem zIO(h:OkW d)(f:d.L.length<=100)(i:((gM d t m).2==0)=false):
  ag 8 [.agg (drv d),.agg (evc 5 n t m c q b)] (.tup [.agg (drv d),.agg (rwv (rwx (gM d t m).2 [] []))]):=by
 have g:=zAq (d:=d) (a:=t) (b:=m) qd (by have:=h.ln;omega) h.t;generalize gM d t m=D at *;obtain⟨D,e⟩:=D;simp only at *;clear h f;refine aG ?_;refine aa func8 λj k=>?_
 repeat' (first|exact⟨⟩|refine sp ?_|refine uN g ?_|refine dR (id:=24) aC aI [2,3] [0,2,1,3] ?_)
 all_goals (repeat' (first|exact .inr ⟨_,rfl⟩|refine And.intro ?_ ?_))
theorem zMV(h:OkW d)(a:d.L.length<=100)(e:m.length<=1000000000):
  ag 8 [.agg (drv d),.agg (evc 6 n t m c q b)] (.tup [.agg (drv (lQ d n t m).1),.agg (rwv (rwx (lQ d n t m).2.2 [] (lQ d n t m).2.1))]):=by
 have f:=zKN (o:=n) (t:=t) h a e;generalize lQ d n t m=R at *;clear h a;refine aG ?_;refine aa func8 λg i=>?_
 repeat' (first|exact⟨⟩|refine sp ?_|refine uN f ?_|refine dR (id:=24) aC aI [2,3] [0,2,1,3] ?_)
 all_goals (repeat' (first|exact .inr ⟨_,rfl⟩|refine And.intro ?_ ?_))
theorem zMW(h:OkW d)(a:d.L.length<=100):
  ag 8 [.agg (drv d),.agg (evc 7 n t m c q b)] (.tup [.agg (drv (iI d n t).1),.agg (rwv (rwx (iI d n t).2.2 [] (iI d n t).2.1))]):=by
 have e:=zFQ (s:=n) (o:=t) h a;generalize iI d n t=R at *;clear h a;refine aG ?_;refine aa func8 λf g=>?_
 repeat' (first|exact⟨⟩|refine sp ?_|refine uN e ?_|refine dR (id:=24) aC aI [2,3] [0,2,1,3] ?_)
 all_goals (repeat' (first|exact .inr ⟨_,rfl⟩|refine And.intro ?_ ?_))
theorem zMX(h:OkW d)(a:d.L.length<=100):
  ag 8 [.agg (drv d),.agg (evc 8 n t m c q b)] (.tup [.agg (drv (EC d n).1),.agg (rwv (rwx (EC d n).2 [] []))]):=by
 have e:=zOV (d:=d) (s:=n) qd (by have:=h.ln;omega);generalize EC d n=R at *;clear h a;refine aG ?_;refine aa func8 λf g=>?_
 repeat' (first|exact⟨⟩|refine sp ?_|refine uN e ?_|refine dR (id:=24) aC aI [2,3] [0,2,1,3] ?_)
 all_goals (repeat' (first|exact .inr ⟨_,rfl⟩|refine And.intro ?_ ?_))
theorem zMP{k:Int}(k1:(k==1)=false)(k2:(k==2)=false)(a:(k==3)=false)(e:(k==4)=false)(f:(k==5)=false)(g:(k==6)=false)(h:(k==7)=false)(i:(k==8)=false):
  ag 8 [.agg (drv d),.agg (evc k n t m c q b)] (.tup [.agg (drv d),.agg (rwv (rwx 0 [] []))]):=by
 refine aG ?_;refine aa func8 λj l=>?_
 repeat' (first|exact⟨⟩|refine sp ?_|refine dR (id:=24) aC aI [2,3] [0,2,1,3] ?_)
 all_goals (repeat' (first|exact .inr ⟨_,rfl⟩|refine And.intro ?_ ?_))
end
def zQf{d:Dr}{e:Ev}(h:OkW d)(a:d.L.length<=100)(i:OkEv e):ag 8 [.agg (drv d),.agg (evv e)] (.tup [.agg (drv (wF d e).1),.agg (rwv (wF d e).2)]):=by
 obtain⟨k,n,t,m,c,q,b⟩:=e;have l:=i.c;have j:=i.t;have o:=i.m;simp only at l j o;by_cases p:k=1
 .subst p;exact zMQ h a l
 by_cases r:k=2
 .subst r;exact zMR h a j
 by_cases s:k=3
 .subst s;exact zMS h a j
 by_cases u:k=4
 .subst u;exact zMT h a
 by_cases v:k=5
 .subst v;cases g:((gM d t m).2==0)
  .have f:wF d ⟨5,n,t,m,c,q,b⟩=(d,rwx (gM d t m).2 [] []):=by
    show (if (gM d t m).2==0 then _ else _)=_
    rw[g];rfl
   rw[f];exact zIO h a g
  .have f:wF d ⟨5,n,t,m,c,q,b⟩=((oQ d n (gM d t m).1).1,rwx (oQ d n (gM d t m).1).2 [] []):=by
    show (if (gM d t m).2==0 then _ else _)=_
    rw[g];rfl
   rw[f];exact zMU h a g
 by_cases w:k=6
 .subst w;exact zMV h a o
 by_cases x:k=7
 .subst x;exact zMW h a
 by_cases y:k=8
 .subst y;exact zMX h a
 have z:(k==1)=false:=by simpa using p
 have A:(k==2)=false:=by simpa using r
 have B:(k==3)=false:=by simpa using s
 have C:(k==4)=false:=by simpa using u
 have D:(k==5)=false:=by simpa using v
 have E:(k==6)=false:=by simpa using w
 have F:(k==7)=false:=by simpa using x
 have G:(k==8)=false:=by simpa using y
 have f:wF d ⟨k,n,t,m,c,q,b⟩=(d,rwx 0 [] []):=by
  unfold wF;simp only[z,A,B,C,D,E,F,G,av,ax];rfl
 rw[f];exact zMP z A B C D E F G
end
def YJ:aA prog 4 [] [] λd h=>d=.c (.ptr 0 0)/\h=bC zRf:=by
 refine aA.perm [3,0,1,2] (d1:=.c (.ptr 3 0)) (h1:=[.arr 2 (bW zRf.N) false,.arr 4 (cZ zRf.L) false,.mp [],.box [.own 0 0 1,.own 1 0 2,.mp 2,.p (.i .i64 3)]]) ?_ rfl rfl (by unfold bC;exact hpK);refine qC aC aI func4 rfl rfl λa b=>?_;simp only[Tryz.f4,go_sem]
 repeat' (first|exact⟨⟩|refine sp ?_|refine ai ?_)
 all_goals rfl
def zPW{p:Ba}:ag 14 [.c (.p (.s p))] (.agg (clc 1 p [] 493 0 0 0 [])):=by
 refine aG ?_;refine aa func14 λa b=>?_
 repeat' (first|exact⟨⟩|refine sp ?_)
 all_goals (repeat' (exact .inr ⟨_,rfl⟩))
def zUl{r b:Rm}{d:Dr}{s p:Ba}{a:An}(h:Sim r d)(f:p.length<=1000)(e:zAz r s (mkS p)=(b,a)):
  aA prog 13 [.c (.ptr 0 0),.c (.p (.s s)),.agg (clc 1 p [] 493 0 0 0 [])] (bC r) λd h=>d=.agg (anv a)/\h=bC b :=
 zUj h qh qd qh qh qh e
def zHS:ag 5 [] (.c (.p (.b true))):=by
 obtain⟨x,y,d,d1,d2,d3,a,b,e,f,g,h,i,j,k,l,n,o⟩:=zAZ;have t:=zCh (s:=lH) (sn:=v1S) zA9 qh e;have m:=zPW (p:=[97]);have u:=zUl (s:=v1S) f qh g;have v:=zUl (s:=lH) i qh j;have w:=GU l.okR;have q:=MG (r:=d);obtain⟨z,⟨A,B,at_,C⟩,D,E⟩:=a;obtain⟨F,⟨G,H,I,J⟩,K,L⟩:=b;simp only at h k;subst h k;rw[o] at q;have M:((d.N.length:Int)==2)=true:=by rw[n];rfl
 clear n o;clear e f g i j l;refine aa func5 λO P=>?_
 repeat' (first|exact⟨⟩|refine sp ?_|refine uS [] YJ ?_|refine uS [0,1,2,3] t ?_|refine uN m ?_|refine uS [0,4,5,6] u ?_|refine uS [0,4,5,6] v ?_|refine uS [0,4,5,6] w ?_|refine uS [0,4,5,6] q ?_)
def zJr{w:Rw}(h1:w.a.d.length<=2000/\w.a.l.length<=120)(g:w.c.length<=1000)(h:w.f.length<=2000):
  ag 9 [.agg (rwv w),.agg (rwv w)] (.c (.p (.b true))):=by
 obtain⟨e,⟨i,⟨j,k,at_,m⟩,r,s⟩,c,f⟩:=w;simp only at h1 g h;have n:=YY (e:=i) (nk:=j) (nm:=k) (nt:=at_) (nd:=m) (bj h1.2 qh) (bj h1.1 qh);have o:=RO (a:=c) qd;have q:=zQr (a:=f) qd;clear h1 g h;refine aa func9 λt u=>?_
 repeat' (first|exact⟨⟩|refine sp ?_|refine uF n ?_|refine uF o ?_|refine uF q ?_)
def zM8:ag 6 [] (.agg (drv SI)):=by
 refine aG ?_;refine zPp aC func6 rfl rfl λa b=>?_;simp only[Tryz.f6,go_sem];refine bE aC aI ?_
 repeat' (first|exact⟨⟩|refine sp ?_)
 refine bE aC aI ?_
 repeat' (first|exact⟨⟩|refine sp ?_|refine ai ?_)
 refine zJH 1 (uL SI.L) rfl ⟨⟨.inl rfl,.inl rfl,.inl rfl,.inl rfl,.inr ⟨rfl,5,rfl⟩,True.intro⟩,⟨.inl rfl,.inl rfl,.inl rfl,.inl rfl,.inr ⟨rfl,5,rfl⟩,True.intro⟩,True.intro⟩ ?_;refine gE aC aI ?_
 repeat' (first|exact⟨⟩|refine sp ?_)
 all_goals (repeat' (first|exact rfl|refine And.intro ?_ ?_))
def RG{r:Rm}{a:Int}(b:OkE (nM r.E a)):aA prog 43 [.c (.ptr 0 0),.c (.p (.i .i64 a))] (bC r) λd h=>d=.c (.p (.sl 7 (fG (nM r.E a))))/\h=bC r:=by
 have e:=zA0 (a:=nM r.E a) (bj b.len qh) (λx f=>bj (b.dlen x f) qh);clear b;refine aa func43 λg j=>?_
 repeat' (first|exact⟨⟩|refine sp ?_|refine uN e ?_)
def zEK{r:Rm}{d:Dr}(f:Sim r d):aA prog 11 [.c (.ptr 0 0),.agg (drv d)] (bC r) λx h=>x=.c (.p (.b true))/\h=bC r:=by
 have m:=f.okR;have F:=f.toOkW;have hll:=f.len;have hnl:=F.ln;have z:=MG (r:=r);have M:=GU m;have O:=YI m;have A:=λ{k:Nat} {n:Nm} (o:r.N[k]?=some n)=>zSQ f (zEQ f o);have B:=λa=>jF (d:=d) (a:=a) qd;have C:=λ(a:Int)=>zQs (a:=cB d a) (bj (F.tree a).len qh);have q:=λ{y:Ly × Bl} (j:y∈d.L)=>RG (r:=r) (a:=y.1.i) (m.ent y.1 (by rw[f.L];exact rN j));have s:=λa=>zDk (d:=d) (a:=a) qd F.t;have u:∀y∈d.L,nM r.E y.1.i=xE d y.1.i:=λy j=>by rw[f.e y j];unfold xE;rw[oK F.g.inc j]
 have v:=λ{y:Ly × Bl} (j:y∈d.L)=>zBu (a:=nM r.E y.1.i) (bj (m.ent y.1 (by rw[f.L];exact rN j)).len qh);have V:=f.N;have W:=f.L;have X:=f.x;obtain⟨N,L,E,x⟩:=r;simp only at V W X;subst V W X;have w:d.G.length=d.L.length:=by simp[Dr.G]
 have e1:(d.x != d.x)=false:=ql
 have e2:((d.N.length:Int) != (d.N.length:Int))=false:=ql
 have e3:((d.G.length:Int) != (d.L.length:Int))=false:=by rw[w];simp
 replace w:=PLift.up w
 unfold bC at *;simp only at *;clear f m F;refine aa func11 λX0 hX=>?_
 repeat' (first|exact⟨⟩|refine sp ?_|refine uS [0,1,2,3] M ?_|refine uS [0,1,2,3] O ?_|refine uS [0,1,2,3] z ?_|refine dG (id:=1) aC aI [] [0,1,2,3,4,5,6,7,8] ?_|refine aM ?_|refine d1 ?_ ?_ ?_|with_reducible exact rfl)
 refine bG aC aI (α:=Nat) (λk=>⟨115,[(0,.c (.ptr 0 0)),(3,.c (.ptr 4 0)),(5,.c (.own 5 0 d.N.length)),(6,.c (.own 6 0 d.G.length)),(7,.c (.p (.i .i64 k)))],[.box [.own 1 0 d.N.length,.own 2 0 d.G.length,.mp 3,.p (.i .i64 d.x)],.arr 2 (bW d.N) false,.arr 4 (cZ d.G) false,.mp (uV E),.box (drv d),.arr 2 (bW d.N) false,.arr 4 (cZ d.G) false]⟩)
  (λk=>k<=d.N.length) (λk=>d.N.length-k) 0 (bc _) (aV (aB qj rfl rfl wkK)) ?_
 intro k hk;by_cases H:k<d.N.length
 .have o:=ay H;have P:=kQ o;have Q:=A o;generalize d.N[k]=n at o P Q;have Y:=B n.l;have Z:=C n.l;have R:=ah k d.N.length;have u2:(k:Int)<(d.N.length:Int):=qd
  have u3:(0:Int)<=k:=qd
  have u4:=ar k;generalize cB d n.l=t at Q Y Z;obtain⟨nn,nl⟩:=n;clear o A B C q s u v z M O
  repeat' (first|exact⟨⟩|refine sq ?_|refine uS [0,1,2,3] Q ?_|refine uN Y ?_|refine uF Z ?_|refine zSs ?_|refine dG (id:=11) aC aI [] [0,1,2,3,4,5,6,7,8,9,10,11,12,13,14,15,16,17,18,19,20,21,22,23,24,25] ?_|refine aM ?_|refine d1 ?_ ?_ ?_|with_reducible exact rfl)
  exact eO (k+1) qd qd (aV (aB rfl rfl rfl wkK))
 have D:k=d.N.length:=qd
 subst D;have R:=aj d.N.length d.N.length;clear A B C z M O
 repeat' (first|exact⟨⟩|refine sp ?_)
 refine bG aC aI (α:=Nat) (λk=>⟨115,[(0,.c (.ptr 0 0)),(3,.c (.ptr 4 0)),(6,.c (.own 6 0 d.G.length)),(10,.c (.p (.i .i64 k)))],[.box [.own 1 0 d.N.length,.own 2 0 d.G.length,.mp 3,.p (.i .i64 d.x)],.arr 2 (bW d.N) false,.arr 4 (cZ d.G) false,.mp (uV E),.box (drv d),.arr 2 (bW d.N) false,.arr 4 (cZ d.G) false]⟩)
  (λk=>k<=d.G.length) (λk=>d.G.length-k) 0 (bc _) (aV (aB qj rfl rfl wkK)) ?_
 intro k hk;by_cases H:k<d.G.length
 .have S:k<d.L.length:=by have:=w.down;omega
  have o:=ay S;have j:d.L[k]∈d.L:=ch _;have I:=oI o;have J:=iG (l:=d.G) (k:=k) (x:=d.L[k].1) (by unfold Dr.G;rw[dv,o];rfl);have K:=q j;have cs:=v j;have T:=u _ j;generalize d.L[k]=y at o j I J K cs T;have U:=s y.1.i;rw[T] at K cs;generalize xE d y.1.i=es at K cs U;have R:=ah k d.G.length;have u2:(k:Int)<(d.G.length:Int):=qd
  have u5:(k:Int)<(d.L.length:Int):=qd
  have u3:(0:Int)<=k:=qd
  have u4:=ar k;obtain⟨⟨yi,yp,ys,yf⟩,yt⟩:=y;simp only at K cs U I J;clear o j T q s u v
  repeat' (first|exact⟨⟩|refine sq ?_|refine uS [0,1,2,3] K ?_|refine uN U ?_|refine uF cs ?_|refine zSi ?_|refine dG (id:=16) aC aI [] [0,1,2,3,4,5,6,7,8,9,10,11,12,13,14,15,16,17,18,19,20,21,22,23,24,25,26,27,28] ?_|refine aM ?_|refine d1 ?_ ?_ ?_|with_reducible exact rfl)
  exact eO (k+1) qd qd (aV (aB rfl rfl rfl wkK))
 have D:k=d.G.length:=qd
 subst D;have R:=aj d.G.length d.G.length;clear q s u v
 repeat' (first|exact⟨⟩|refine sp ?_)
def RH{l:List RW}(G:l.length<=9223372036854775807)(w:∀x∈l,zRc x):
  ag 3 [.c (.p (.sl 17 (VI l)))] (.c (.p (.b true))):=by
 refine aa func3 λH hX=>?_
 repeat' (first|exact⟨⟩|refine sq ?_|refine uS [] YJ ?_|refine uF zHS ?_|refine uN zM8 ?_)
 refine bG aC aI (α:=Nat × Rm × Dr) (λx=>⟨51,[(0,.c (.p (.sl 17 (VI l)))),(3,.c (.ptr 0 0)),(4,.c (.ptr 4 0)),(5,.c (.p (.i .i64 x.1)))],[.box [.own 1 0 x.2.1.N.length,.own 2 0 x.2.1.L.length,.mp 3,.p (.i .i64 x.2.1.x)],.arr 2 (bW x.2.1.N) false,.arr 4 (cZ x.2.1.L) false,.mp (uV x.2.1.E),.box (drv x.2.2)]⟩)
  (λx=>x.1<=30/\Sim x.2.1 x.2.2) (λx=>30-x.1) (0,zRf,SI) ⟨bc _,zA9⟩ (aV (aB qj rfl rfl wkK)) ?_
 rintro⟨i,r,d⟩ ⟨z,j⟩;simp only at z j ⊢;by_cases A:i<30;rotate_left 1
 .have B:=aj i 30;by_cases f:i<l.length
  .have q:=ah i l.length
   repeat' (first|exact⟨⟩|refine sp ?_)
  .have q:=aj i l.length
   repeat' (first|exact⟨⟩|refine sp ?_)
 have B:=ah i 30;have I:(0:Int)<=i:=qd
 have J:=ar i;by_cases f:i<l.length;rotate_left 1
 .have q:=aj i l.length
  repeat' (first|exact⟨⟩|refine sp ?_)
 have k:=ay f;have C:=zLE k;have q:=ah i l.length;have K:(i:Int)<(l.length:Int):=qd
 obtain⟨e,g,m⟩:=zMl (w _ (ch f));generalize l[i]=x at k C m;have s:=j.len;have n:=zMY j g;have t:=zQf j.toOkW qd g;obtain⟨y,a⟩:=zMZ j g;have h:=zIP j.toOkW e;have u:=zJr h.1 h.2.1 h.2.2;have v:=zEK a;rw[y] at n;have o:=PLift.up a;generalize wF d e=D at *;obtain⟨d2,⟨M,⟨O,⟨P,Q,at_,R⟩,S,T⟩,U,wf⟩⟩:=D;generalize (JJ r e).1=F at *;obtain⟨V,W,X,Y,Z,eq,eb⟩:=e;simp only at *;clear w j g a k f y h s
 repeat' (first|exact⟨⟩|refine sp ?_|refine uN m ?_|refine uN t ?_|((refine aK (id:=11) aC aI [2,9] [0,1,2,3,4,5,6,7,8,9,10,11] qi ?_);(repeat' (first|(refine aM ?_)|((refine bJ ?_ ?_ rfl rfl rfl ?_ ?_);(rotate_left 2);(focus ((repeat' (first|exact⟨⟩|refine sp ?_|refine uS [0,1,2,3] n ?_|refine uS [0,8,9,10] v ?_));((refine And.intro ?_ ?_<;>exact rfl))));(simp only[aD]))|((refine bI ?_ rfl rfl rfl ?_ ?_);(rotate_left 1);(focus ((repeat' (first|exact aS|refine aL ?_ ?_));(all_goals ((repeat' (first|exact⟨⟩|refine sq ?_|refine uF u ?_));(try (exact rfl))))));(simp only[aD]))))))
 exact eO (i+1,F,d2) ⟨qf,o.down⟩ qf (cK (dV [0,8,9,10,4] rfl hpK rfl wpK))
end Go.Proofs.YtfcindonokhbeaaGreatDoor
end
