/- Part 23 of the proof of roomMerges_card, set without needless blanks. No condition. -/
import Derived.Test.YtflcjdohmojepaaGreatDoorM21
set_option linter.all false
set_option maxRecDepth 100000
set_option maxHeartbeats 16000000
section
namespace Go.Dm
open Go
section
variable {N l:List Nm}{s:List UInt8}{x:Nm}{id:Int}{y:Ly × List It}
abbrev NJ(N:List Nm):Prop:=N.Pairwise λx y=>cD x.n y.n=true
def sX(N:List Nm)(s:List UInt8):Nat:=(N.takeWhile λx=>cD x.n s).length
def zAy(N:List Nm)(s:List UInt8):Bool:=N.any λx=>x.n==s
def vQ(N:List Nm)(s:List UInt8):Option Nm:=N.find? λx=>x.n==s
def cE(N:List Nm)(s:List UInt8)(id:Int):List Nm:=(N.takeWhile λx=>cD x.n s)++⟨s,id⟩::(N.dropWhile λx=>cD x.n s).filter λx=>!(x.n==s)
theorem fU(h:vQ N s=some x):x∈N/\x.n=s:=⟨List.mem_of_find?_eq_some h,eq_of_beq (List.find?_some (p:=λz:Nm=>z.n==s) h)⟩
theorem YD(N:List Nm)(s:List UInt8):(vQ N s).isSome=zAy N s:=by grind [vQ,zAy]
theorem zHm: ∀x∈N.takeWhile (λx=>cD x.n s),cD x.n s=true/\x∈N:=by
 induction N with
 | nil=>simp_all
 | cons y N ih =>
  grind [List.takeWhile_cons]
theorem zEg(h:NJ N):∀x∈N.dropWhile (λx=>cD x.n s),cD x.n s=false/\x∈N:=by
 induction N with
 | nil=>simp_all
 | cons y N ih =>
  grind [List.pairwise_cons.1,List.dropWhile_cons,cL]
theorem tX(h:NJ N):x∈cE N s id↔x=⟨s,id⟩∨(x∈N/\x.n≠s):=by
 unfold cE;have hsp:N=N.takeWhile (λx=>cD x.n s)++N.dropWhile (λx=>cD x.n s):=(List.takeWhile_append_dropWhile).symm;grind [zHm,cF]
theorem pC(h:NJ N)(s:List UInt8)(id:Int):NJ (cE N s id):=by
 unfold cE;refine List.pairwise_append.2 ⟨List.Pairwise.sublist (List.takeWhile_sublist _) h,List.pairwise_cons.2 ⟨λx hx=>?_,(List.Pairwise.sublist (List.dropWhile_sublist _) h).filter _⟩,λx hx y hy=>?_⟩
 .obtain⟨h1,h2⟩:=List.mem_filter.1 hx;have h3:=(zEg h x h1).1;grind [eI]
 .have h1:=(zHm x hx).1;rcases List.mem_cons.1 hy with rfl|hy
  .exact h1
  .obtain⟨h2,_⟩:=List.mem_filter.1 hy;have h3:=(zEg h y h2).1;grind [cL,eI]
theorem iT(N:List Nm)(s:List UInt8)(id:Int):(cE N s id).length<=N.length+1:=by grind [cE,List.takeWhile_append_dropWhile]
theorem zGc(N:List Nm)(s:List UInt8):sX N s<=N.length:=List.Sublist.length_le (List.takeWhile_sublist _)
theorem zLE(N:List Nm)(s:List UInt8):N.take (sX N s)=N.takeWhile λx=>cD x.n s:=by
 unfold sX
 induction N with
 | nil=>rfl
 | cons x N ih =>
  grind [List.takeWhile_cons]
theorem zEf(N:List Nm)(s:List UInt8):N.drop (sX N s)=N.dropWhile λx=>cD x.n s:=by
 unfold sX
 induction N with
 | nil=>rfl
 | cons x N ih =>
  grind [List.takeWhile_cons,List.dropWhile_cons]
theorem QE(h:∀x∈l,(x.n==s)=false):(l.filter λx=>!(x.n==s))=l:=by simp_all
theorem zQw{y:Nm}(h:∀x∈l,cD y.n x.n=true)(e:y.n=s):∀x∈l,(x.n==s)=false:=by grind [cF]
theorem zQG: ∀x∈N.takeWhile (λx=>cD x.n s),(x.n==s)=false:=λx hx=>jH (zHm x hx).1
theorem YC(h:NJ N)(hx:x∈N):N[sX N x.n]?=some x:=by
 have h1:x∈N.dropWhile (λy=>cD y.n x.n):=by
  have hsp:N=N.takeWhile (λy=>cD y.n x.n)++N.dropWhile (λy=>cD y.n x.n):=(List.takeWhile_append_dropWhile).symm;rw[hsp] at hx;rcases List.mem_append.1 hx with h2|h2
  .have:=zQG x h2;simp at this
  .exact h2
 have h2:(N.drop (sX N x.n))[0]?=some x:=by
  rw[zEf];cases hd:N.dropWhile (λy=>cD y.n x.n) with
  | nil=>rw[hd] at h1;cases h1
  | cons y r =>
   have hs:NJ (y::r):=by rw[<- hd];exact List.Pairwise.sublist (List.dropWhile_sublist _) h
   have hy:=(zEg h y (by rw[hd];exact List.mem_cons_self)).1;rw[hd] at h1;rcases List.mem_cons.1 h1 with e|h3
   .rw[e];rfl
   .have:=(List.pairwise_cons.1 hs).1 x h3;rw[this] at hy;cases hy
 rw[List.getElem?_drop] at h2;simpa using h2
theorem pB(h:NJ N)(hx:x∈N)(id:Int):cE N x.n id=N.set (sX N x.n) ⟨x.n,id⟩:=by
 have h1:=YC h hx;have hlt:=(List.getElem?_eq_some_iff.1 h1).1;rw[List.set_eq_take_append_cons_drop,if_pos hlt];unfold cE;rw[<- zLE,<- zEf];have hd:N.drop (sX N x.n)=x::N.drop (sX N x.n+1):=by grind [List.drop_eq_getElem_cons]
 have hs:NJ (N.drop (sX N x.n)):=List.Pairwise.sublist (List.drop_sublist _ _) h;rw[hd] at hs ⊢;rw[List.filter_cons,if_neg (by simp),QE (zQw (List.pairwise_cons.1 hs).1 rfl)]
theorem NR(hx:zAy N s=false)(id:Int):cE N s id=N.take (sX N s)++⟨s,id⟩::N.drop (sX N s):=by
 unfold cE;rw[zLE,zEf,QE λy hy=>?_];grind [zAy,List.dropWhile_sublist]
structure Dr where
 L:List (Ly × List It)
 N:List Nm
 x:Int
variable {d:Dr}
def Dr.G(d:Dr):List Ly:=d.L.map (·.1)
def sS(d:Dr)(id:Int):Option (Ly × List It):=d.L.find? λy=>y.1.i==id
def cY(d:Dr)(id:Int):List It:=match sS d id with
 | some y=>y.2
 | none=>[]
def cV(N:List Nm)(s:List UInt8):Int:=match vQ N s with
 | some x=>x.l
 | none=>0
def kH(d:Dr)(id:Int):Bool:=match sS d id with
 | some y=>y.1.f
 | none=>false
def EA(id:Int)(t:List It):List (Ly × List It)->List (Ly × List It)
 | []=>[]
 | y::l=>if y.1.i==id then (y.1,t)::l else y::EA id t l
def lH(d:Dr)(id:Int)(t:List It):Dr:=⟨EA id t d.L,d.N,d.x⟩
def BJ(id:Int):List (Ly × List It)->List (Ly × List It)
 | []=>[]
 | y::l=>if y.1.i==id then (⟨y.1.i,y.1.p,y.1.s,true⟩,y.2)::l else y::BJ id l
def mO(d:Dr)(s:List UInt8):Int:=if !aZ s then 1 else if !(cV d.N s==0) then 7 else if decide (20<=(d.N.length:Int)) || (decide (40<=(d.L.length:Int)) || decide (2147483647<=d.x)) then 16 else 0
def yF(d:Dr)(on:Int):Bool:=decide (12<(((bV d.G on).length:Int)+1))
def zB1(d:Dr):List (Ly × List It):=(kK d.G (d.N.map (·.l))).filterMap λy=>sS d y.i
def BQ(d:Dr):Dr:=⟨zB1 d,d.N,d.x⟩
def yI(d:Dr)(s:List UInt8)(p q:Int)(t:List It):Dr:=BQ ⟨d.L++[(⟨d.x,p,q,false⟩,t)],cE d.N s d.x,d.x+1⟩
def doD(d:Dr)(s:List UInt8)(c:Cl):Dr × An :=
 if cV d.N s==0 then (d,anE 6) else if kH d (cV d.N s) && nH c.k then (d,anE 14)
 else if !((doR (cY d (cV d.N s)) c).2.e==0) then (d,(doR (cY d (cV d.N s)) c).2) else (lH d (cV d.N s) (doR (cY d (cV d.N s)) c).1,(doR (cY d (cV d.N s)) c).2)
def zHo(d:Dr)(s:List UInt8):List It × Int:=if cV d.N s==0 then ([],6) else (cY d (cV d.N s),0)
def jB(d:Dr)(s sn:List UInt8):Dr × Int :=
 if cV d.N s==0 then (d,6) else if kH d (cV d.N s) then (d,14) else if !(mO d sn==0) then (d,mO d sn) else if yF d (cV d.N s) then (d,15)
 else (yI ⟨BJ (cV d.N s) d.L,cE d.N sn (cV d.N s),d.x⟩ s (cV d.N s) 0 (cY d (cV d.N s)),0)
def zBN(d:Dr)(sn s:List UInt8):Dr × Int :=
 if cV d.N sn==0 then (d,6) else if !kH d (cV d.N sn) then (d,13) else if !(mO d s==0) then (d,mO d s) else if yF d (cV d.N sn) then (d,15)
 else (yI d s (cV d.N sn) 0 (cY d (cV d.N sn)),0)
def VV: Dr:=⟨[(⟨1,0,0,true⟩,[]),(⟨2,1,0,false⟩,[])],[⟨[109,97,105,110],2⟩],3⟩
theorem rF(h:sS d id=some y):y∈d.L/\y.1.i=id:=⟨List.mem_of_find?_eq_some h,eq_of_beq (List.find?_some (p:=λz:Ly × List It=>z.1.i==id) h)⟩
theorem LC(h:sS d id=none):∀y∈d.L,y.1.i≠id:=λy hy e=>by
 have:=List.find?_eq_none.1 h y hy;simp[e] at this
theorem pR(hi:qO d.G)(hy:y∈d.L):sS d y.1.i=some y:=by
 have key:∀{l:List (Ly × List It)},qO (l.map (·.1))->y∈l->l.find? (λz=>z.1.i==y.1.i)=some y:=by
  intro l
  induction l with
  | nil=>intro _ h;cases h
  | cons z l ih =>
   intro hp hm;have h2:=List.pairwise_cons.1 hp;rw[List.find?_cons];rcases List.mem_cons.1 hm with rfl|hm
   .rw[show (y.1.i==y.1.i)=true by simp]
   .have:z.1.i<y.1.i:=h2.1 y.1 (List.mem_map.2 ⟨y,hm,rfl⟩);rw[show (z.1.i==y.1.i)=false by simp;omega]
    exact ih h2.2 hm
 exact key hi hy
theorem zLk(d:Dr)(id:Int):fF d.G id=(sS d id).map (·.1):=by
 unfold fF sS Dr.G
 induction d.L with
 | nil=>rfl
 | cons y l ih =>
  rw[List.map_cons,List.find?_cons,List.find?_cons];cases y.1.i==id
  .exact ih
  .rfl
attribute [go_sem] gC
end
section
variable {l:List Ly}{p:Int->Bool}{x z:Ly}{k:Nat}{id a:Int}
def JK(l:List Ly)(p:Int->Bool):Prop:=∀x∈l,p x.i=true->∀y∈l,(y.i=x.p∨y.i=x.s)->p y.i=true
def oX(l:List Ly)(p:Int->Bool):List Ly:=l.filter λx=>p x.i
theorem eO: x∈oX l p↔x∈l/\p x.i=true:=by grind [oX]
theorem zFr(h:qO l){y:Ly}(hx:x∈l)(hy:y∈l)(e:x.i=y.i):x=y:=by
 have h1:=nV h hx;grind [nV]
theorem tD(hi:qO l){q:Nat}(hx:l[k]?=some x)(hq:(oX l p)[q]?=some x)(hc:∀y∈l,y.i=id->p y.i=true)(h:fG l k id):fG (oX l p) q id:=by
 rcases h with h|⟨j,y,h1,h2,h3,h4⟩
 .exact .inl h
 .right;have hy:=List.mem_of_getElem? h2;have hm:y∈oX l p:=eO.2 ⟨hy,hc y hy h3⟩;obtain⟨j',hj'⟩:=List.mem_iff_getElem?.1 hm;refine⟨j',y,?_,hj',h3,h4⟩;have hlt:=zAu hi h2 hx h1;have hip:qO (oX l p):=List.Pairwise.sublist List.filter_sublist hi;rcases Nat.lt_trichotomy j' q with h|h|h
  .exact h
  .simp_all
  .have:=zAu hip hq hj' h;omega
theorem zCg(hg:OkG l)(hc:JK l p):∀(k:Nat) {x:Ly},l[k]?=some x->p x.i=true->bV (oX l p) x.i=bV l x.i:=by
 have hip:qO (oX l p):=List.Pairwise.sublist List.filter_sublist hg.inc;have hlo:∀x∈oX l p,1<=x.i:=λx hx=>hg.lo1 x (eO.1 hx).1;have hpar:∀q x,(oX l p)[q]?=some x->fG (oX l p) q x.p:=λq x hq=>by
  obtain⟨h1,h2⟩:=eO.1 (List.mem_of_getElem? hq);obtain⟨k,hk⟩:=List.mem_iff_getElem?.1 h1;exact tD hg.inc hk hq (λy hy e=>hc x h1 h2 y hy (.inl e)) (hg.par k x hk)
 intro k
 induction k using Nat.strongRecOn with
 | ind k ih =>
  intro x hx hp;have hm:=List.mem_of_getElem? hx;rw[vW hip hlo hpar (eO.2 ⟨hm,hp⟩),hg.step hm]
  congr 1
  rcases hg.par k x hx with h0|⟨j,y,h1,h2,h3,_⟩
  .rw[h0,qU hlo,qU hg.lo1]
  .rw[<- h3];exact ih j h1 h2 (hc x hm hp y (List.mem_of_getElem? h2) (.inl h3))
theorem YF(hg:OkG l)(hc:JK l p):OkG (oX l p):=by
 have at_:∀(q:Nat) (x:Ly),(oX l p)[q]?=some x->∃k,l[k]?=some x/\p x.i=true:=λq x hq=>by
  obtain⟨h1,h2⟩:=eO.1 (List.mem_of_getElem? hq);obtain⟨k,hk⟩:=List.mem_iff_getElem?.1 h1;exact⟨k,hk,h2⟩
 refine OkG.mk (List.Pairwise.sublist List.filter_sublist hg.inc) (λx hx=>hg.lo x (eO.1 hx).1) (λq x hq=>?_) (λq x hq=>?_) (λx hx=>hg.two x (eO.1 hx).1) (λx hx=>?_)
 .obtain⟨k,hk,hp⟩:=at_ q x hq;exact tD hg.inc hk hq (λy hy e=>hc x (List.mem_of_getElem? hk) hp y hy (.inl e)) (hg.par k x hk)
 .obtain⟨k,hk,hp⟩:=at_ q x hq;exact tD hg.inc hk hq (λy hy e=>hc x (List.mem_of_getElem? hk) hp y hy (.inr e)) (hg.sec k x hk)
 .obtain⟨h1,h2⟩:=eO.1 hx;obtain⟨k,hk⟩:=List.mem_iff_getElem?.1 h1;rw[zCg hg hc k hk h2];exact hg.chn x h1
theorem zJ4(hg:OkG l)(hc:JK l p)(hid:p id=true):rS (oX l p) id=rS l id:=by
 have hpg:=YF hg hc;refine XH (JM hpg.inc id) (JM hg.inc id) λa=>⟨λha=>?_,λha=>?_⟩
 .refine qP (l:=oX l p) (C:=(·∈rS l id)) (λx hx e=>?_) (λx hx hcx y hy hp=>JN hg (eO.1 hx).1 (eO.1 hy).1 hcx hp) a ha
  grind [tT,eO.1]
 .refine qP (l:=l) (C:=(·∈rS (oX l p) id)) (λx hx e=>?_) (λx hx hcx y hy hp=>?_) a ha
  .grind [tT,eO.2]
  .obtain⟨z,hz,e⟩:=zH0 hcx;obtain rfl:=zFr hg.inc (eO.1 hz).1 hx e;exact JN hpg hz (eO.2 ⟨hy,hc z hx (eO.1 hz).2 y hy hp⟩) hcx hp
theorem zBd(hg:OkG l)(h:a∈rS l id):a=id∨∃y∈l,y.i=a/\y.f=true:=by
 refine qP (l:=l) (C:=λa=>a=id∨∃y∈l,y.i=a/\y.f=true) (λx _ e=>.inl e) (λx hx _ y hy hp=>.inr ⟨y,hy,rfl,?_⟩) a h;obtain⟨k,hk⟩:=List.mem_iff_getElem?.1 hx;have st:∀q,fG l k q->y.i=q->y.f=true:=λq hq e=>by
  rcases hq with hq|⟨j,z,_,h2,h3,h4⟩
  .have:=hg.lo1 y hy;omega
  .rw[zFr hg.inc hy (List.mem_of_getElem? h2) (by omega)];exact h4
 rcases hp with hp|hp
 .exact st _ (hg.par k x hk) hp
 .exact st _ (hg.sec k x hk) hp
def wE(l:List Ly)(ids:List Int)(a:Int):Bool:=ids.any λid=>(rS l id).contains a
theorem zJ(l:List Ly)(ids:List Int):kK l ids=oX l (wE l ids):=rfl
theorem BR(hg:OkG l)(ids:List Int):JK l (wE l ids):=λx hx hp y hy h=>by
 grind [wE,JN]
def EE(id:Int)(x:Ly):Ly:=⟨x.i,x.p,x.s,x.f || x.i==id⟩
def pM(l:List Ly)(id:Int):List Ly:=l.map (EE id)
theorem zJl(l:List Ly)(id a:Int):fF (pM l id) a=(fF l a).map (EE id):=by
 unfold fF pM
 induction l with
 | nil=>rfl
 | cons x l ih =>
  show (match (x.i==a) with|true=>_|false=>_)=_
  grind
theorem FX(l:List Ly)(id:Int):∀(n:Nat) (a:Int),eU (pM l id) n a=eU l n a
 | 0,_=>rfl
 | n+1,a=>by
  simp only[eU,zJl];cases fF l a with
  | none=>rfl
  | some x=>simp only[Option.map_some,EE];rw[FX l id n x.p]
theorem BK(l:List Ly)(id a:Int):bV (pM l id) a=bV l a:=by grind [bV,FX,pM]
theorem FY(h:fG l k a):fG (pM l id) k a:=by
 rcases h with h|⟨j,y,h1,h2,h3,h4⟩
 .exact .inl h
 .exact .inr ⟨j,EE id y,h1,by unfold pM;rw[List.getElem?_map,h2];rfl,h3,by show (y.f || _)=true;rw[h4];rfl⟩
theorem zLm(h:(pM l id)[k]?=some x):∃y,l[k]?=some y/\x=EE id y:=by grind [pM]
theorem XA(h:x∈pM l id):∃y∈l,x=EE id y:=by grind [pM]
theorem zLn(hg:OkG l)(id:Int):OkG (pM l id):=by
 refine⟨?_,λx hx=>?_,λk x hx=>?_,λk x hx=>?_,λx hx=>?_,λx hx=>?_⟩
 .unfold qO pM;rw[List.pairwise_map];exact hg.inc
 .obtain⟨y,h1,rfl⟩:=XA hx;exact hg.lo y h1
 .obtain⟨y,h1,rfl⟩:=zLm hx;exact FY (hg.par k y h1)
 .obtain⟨y,h1,rfl⟩:=zLm hx;exact FY (hg.sec k y h1)
 .obtain⟨y,h1,rfl⟩:=XA hx;exact hg.two y h1
 .obtain⟨y,h1,rfl⟩:=XA hx;rw[BK];exact hg.chn y h1
theorem iJ(h:fG l k a):fG (l++[z]) k a:=by
 rcases h with h|⟨j,y,h1,h2,h3,h4⟩
 .exact .inl h
 .exact .inr ⟨j,y,h1,by rw[List.getElem?_append_left (List.getElem?_eq_some_iff.1 h2).1];exact h2,h3,h4⟩
theorem KR(h:qO l)(hz:∀x∈l,x.i<z.i):qO (l++[z]) :=
 List.pairwise_append.2 ⟨h,List.pairwise_singleton _ _,λa ha b hb=>by rw[List.mem_singleton] at hb;subst hb;exact hz a ha⟩
theorem GA(hg:OkG l)(hz:∀x∈l,x.i<z.i)(hz1:1<=z.i)(hzp:fG l l.length z.p)(hx:x∈l):bV (l++[z]) x.i=bV l x.i:=by
 obtain ⟨k,hk⟩:=List.mem_iff_getElem?.1 hx;have hlt:=(List.getElem?_eq_some_iff.1 hk).1;have hi:=KR hg.inc hz;have hlo:∀x∈l++[z],1<=x.i:=λx hx=>by
  rcases List.mem_append.1 hx with h|h
  .exact hg.lo1 x h
  .simp_all
 have hp:∀k x,(l++[z])[k]?=some x->fG (l++[z]) k x.p:=λk x hx=>by
  rcases Nat.lt_or_ge k l.length with h|h
  .rw[List.getElem?_append_left h] at hx;exact iJ (hg.par k x hx)
  .grind [iJ]
 have h1:=qT hi hlo hp k (j:=l.length) (n:=l.length+1) (m:=(l++[z]).length+1) (by rw[List.getElem?_append_left hlt];exact hk) hlt (by omega) (by simp;omega);grind [bV]
theorem zFk(hg:OkG l)(hz:∀x∈l,x.i<z.i)(hz1:1<=z.i/\z.i<=2147483647)(hzp:fG l l.length z.p)(hzs:fG l l.length z.s)(h2:z.s≠0->z.p≠0/\z.p≠z.s)(hc:(bV l z.p).length<=11):OkG (l++[z]):=by
 have at_:∀{k:Nat} {x:Ly},(l++[z])[k]?=some x->l[k]?=some x∨(k=l.length/\x=z):=λ{k x} hx=>by
  grind
 have hi:=KR hg.inc hz;have hlo:∀x∈l++[z],1<=x.i/\x.i<=2147483647:=λx hx=>by
  rcases List.mem_append.1 hx with h|h
  .exact hg.lo x h
  .simp_all
 have hp:∀k x,(l++[z])[k]?=some x->fG (l++[z]) k x.p:=λk x hx=>by
  rcases at_ hx with h|⟨rfl,rfl⟩
  .exact iJ (hg.par k x h)
  .grind [iJ]
 refine⟨hi,hlo,hp,λk x hx=>?_,λx hx=>?_,λx hx=>?_⟩
 .rcases at_ hx with h|⟨rfl,rfl⟩
  .exact iJ (hg.sec k x h)
  .grind [iJ]
 .rcases List.mem_append.1 hx with h|h
  .exact hg.two x h
  .simp_all
 .rcases List.mem_append.1 hx with h|h
  .rw[GA hg hz hz1.1 hzp h];exact hg.chn x h
  .rw [List.mem_singleton] at h;subst h;rw[vW hi (λx hx=>(hlo x hx).1) hp hx,List.length_append];have:(bV (l++[x]) x.p).length<=11:=by
    rcases hzp with h0|⟨j,y,_,h4,h5,_⟩
    .grind [qU]
    .rw[<- h5,GA hg hz hz1.1 (.inr ⟨j,y,(List.getElem?_eq_some_iff.1 h4).1,h4,h5,by assumption⟩) (List.mem_of_getElem? h4),h5];exact hc
   simp_all
end
section
variable {d:Dr}{x:Ly}{y:Ly × List It}{id a:Int}{r:Rm}{n:Nm}{t:List It}{l:List Ly}{N:List Nm}
structure OkW (d:Dr):Prop where
 g:OkG d.G
 t:∀y∈d.L,OkT y.2
 srt:NJ d.N
 nm:∀n∈d.N,aZ n.n=true/\∃y∈d.L,y.1.i=n.l
 one:∀n∈d.N,∀m∈d.N,n.l=m.l->(∀y∈d.L,y.1.i=n.l->y.1.f=false)->n=m
 nx:(∀y∈d.L,y.1.i<d.x)/\1<=d.x/\d.x<=2147483647
 ln:d.N.length<=20
structure SimW (r:Rm) (d:Dr):Prop extends OkW d where
 N:r.N=d.N
 L:r.L=d.G
 x:r.x=d.x
 e:∀y∈d.L,lF r.E y.1.i=eF (cY d y.1.p) y.2
structure Sim (r:Rm) (d:Dr):Prop extends SimW r d where
 kept:∀y∈d.L,∃n∈d.N,y.1.i∈rS d.G n.l
 len:d.L.length<=40
theorem LH: x∈d.G↔∃y∈d.L,y.1=x:=by grind [Dr.G]
theorem tR(h:y∈d.L):y.1∈d.G:=by grind [LH.2]
theorem jV(hi:qO d.G)(hy:y∈d.L):cY d y.1.i=y.2:=by grind [cY,pR]
theorem lW(h:∀y∈d.L,y.1.i≠id):cY d id=[]:=by grind [cY,sS]
theorem OkW.tree(h:OkW d)(id:Int):OkT (cY d id):=by
 unfold cY;cases hl:sS d id with
 | none=>exact OkT.nil
 | some y=>exact h.t y (rF hl).1
theorem OkW.zero(h:OkW d):cY d 0=[]:=lW λy hy e=>by have:=h.g.lo1 y.1 (tR hy);omega
theorem SimW.tree(h:SimW r d)(id:Int):KM r id=(cY d id,true):=by
 cases hl:sS d id with
 | none =>
  have hno:=LC hl;rw[lW hno];unfold KM oC bV;rw[h.L,jW]
  .rfl
  .rw[zLk,hl];rfl
 | some y =>
  obtain⟨h1,rfl⟩:=rF hl;have hm:y.1∈r.L:=by rw[h.L];exact tR h1
  obtain⟨k,hk⟩:=List.mem_iff_getElem?.1 hm;refine zBL (by rw[h.L];exact h.g) (cY d) h.toOkW.zero (λx _=>h.toOkW.tree x.i) (λx hx=>?_) k hk;rw[h.L] at hx;obtain⟨z,hz,rfl⟩:=LH.1 hx;rw[h.e z hz,jV h.g.inc hz]
theorem SimW.treeR(h:SimW r d)(id:Int):treeR r id=cY d id:=by unfold Dm.treeR;rw[h.tree]
theorem OkW.named(h:OkW d)(hn:n∈d.N):∃y,sS d n.l=some y/\y∈d.L/\y.1.i=n.l:=by
 obtain⟨_,y,h1,h2⟩:=h.nm n hn;exact⟨y,by rw[<- h2];exact pR h.g.inc h1,h1,h2⟩
theorem OkW.name0(h:OkW d)(s:List UInt8):(cV d.N s==0) = !(vQ d.N s).isSome:=by
 unfold cV;cases hn:vQ d.N s with
 | none=>rfl
 | some n =>
  obtain⟨h1,h2⟩:=fU hn;obtain⟨y,_,h3,h4⟩:=h.named h1;have:=h.g.lo1 y.1 (tR h3);grind
theorem zPX(d:Dr)(id:Int)(t:List It):(lH d id t).G=d.G:=by
 unfold lH Dr.G;have:∀l:List (Ly × List It),(EA id t l).map (·.1)=l.map (·.1):=by
  intro l
  induction l with
  | nil=>rfl
  | cons y l ih =>
   grind [EA]
 exact this d.L
theorem vP: ∀{l:List (Ly × List It)},y∈EA id t l->(y∈l)∨(y.1.i=id/\y.2=t/\∃z∈l,z.1=y.1)
 | [],h=>by cases h
 | z::l,h=>by
  simp only[EA] at h;split at h
  .grind
  .rcases List.mem_cons.1 h with rfl|h
   .simp_all
   .rcases vP h with h|⟨h1,h2,w,h3,h4⟩
    .simp_all
    .grind
theorem zBb(d:Dr)(id:Int)(t:List It)(a:Int):sS (lH d id t) a=if a=id then (sS d a).map (λy=>(y.1,t)) else sS d a:=by
 unfold sS lH;have:∀l:List (Ly × List It),(EA id t l).find? (λy=>y.1.i==a)=if a=id then (l.find? λy=>y.1.i==a).map (λy=>(y.1,t)) else l.find? λy=>y.1.i==a:=by
  intro l
  induction l with
  | nil=>simp[EA]
  | cons y l ih =>
   grind [EA]
 exact this d.L
theorem zHI(h:(sS d id).isSome=true)(a:Int):cY (lH d id t) a=if a=id then t else cY d a:=by
 unfold cY;rw[zBb];by_cases ha:a=id
 .subst ha;rw[if_pos rfl,if_pos rfl];obtain⟨y,hy⟩:=Option.isSome_iff_exists.1 h;rw[hy];rfl
 .simp_all
theorem VK(hi:qO d.G)(id:Int):lH d id (cY d id)=d:=by
 unfold lH;have key:∀(l:List (Ly × List It)) (t:List It),qO (l.map (·.1))->(∀y∈l,y.1.i=id->y.2=t)->EA id t l=l:=by
  intro l t
  induction l with
  | nil=>intro _ _;rfl
  | cons y l ih =>
   intro hp h;have h2:=List.pairwise_cons.1 hp;simp only[EA];split
   .grind
   .rw[ih h2.2 λz hz=>h z (List.mem_cons_of_mem _ hz)]
 rw[key d.L (cY d id) hi λy hy e=>by rw[<- e,jV hi hy]]
theorem OkW.below(h:OkW d)(hy:y∈d.L):y.1.p=0∨∃z∈d.L,z.1.i=y.1.p/\z.1.f=true/\z.1.i<y.1.i:=by
 obtain⟨k,hk⟩:=List.mem_iff_getElem?.1 (tR hy);rcases h.g.par k _ hk with h0|⟨j,x,h1,h2,h3,h4⟩
 .exact .inl h0
 .obtain⟨z,hz,rfl⟩:=LH.1 (List.mem_of_getElem? h2);exact .inr ⟨z,hz,h3,h4,zAu h.g.inc h2 hk h1⟩
theorem zJw(h:qO d.G){x:Ly × List It}(hx:x∈d.L)(hy:y∈d.L)(e:x.1.i=y.1.i):x=y:=by
 have h1:=pR h hx;grind [pR]
theorem zNr(h:Sim r d)(hy:y∈d.L)(hf:y.1.f=false)(ht:OkT t):
  Sim ⟨r.N,r.L,oY r.E y.1.i (eF (cY d y.1.p) t),r.x⟩ (lH d y.1.i t):=by
 have hG:=zPX d y.1.i t;have hso:(sS d y.1.i).isSome=true:=by rw[pR h.g.inc hy];rfl
 have frame:∀z∈(lH d y.1.i t).L,∃z0∈d.L,z0.1=z.1:=λz hz=>by
  rcases vP hz with h1|⟨_,_,w,h1,h2⟩
  .grind
  .grind
 have back:∀z0∈d.L,∃z∈(lH d y.1.i t).L,z.1=z0.1:=λz0 hz0=>by
  simp_all[tR,LH.1]
 refine { g:=by rw[hG];exact h.g,t:=λz hz=>?_,srt:=h.srt,nm:=λn hn=>?_,one:=λn hn m hm e hfz=>?_,nx:=⟨λz hz=>?_,h.nx.2⟩,ln:=h.ln,N:=h.N,L:=by rw[hG];exact h.L,x:=h.x,e:=λz hz=>?_,kept:=λz hz=>?_,len:=?_ }
 .rcases vP hz with h1|⟨_,h2,_⟩
  .exact h.t z h1
  .simp_all
 .obtain⟨h1,z0,h2,h3⟩:=h.nm n hn;grind
 .refine h.one n hn m hm e λz0 h2 h3=>?_;grind
 .obtain⟨z0,h1,h2⟩:=frame z hz;rw[<- h2];exact h.nx.1 z0 h1
 .obtain ⟨z0,h1,h2⟩:=frame z hz;have hp:cY (lH d y.1.i t) z.1.p=cY d z.1.p:=by
   rw[zHI hso,if_neg];intro e;rcases h.toOkW.below h1 with h3|⟨w,h3,h4,h5,_⟩
   .rw[h2,e] at h3;have:=h.g.lo1 y.1 (tR hy);omega
   .rw[h2,e] at h4;rw[zJw h.g.inc h3 hy h4,hf] at h5;cases h5
  rw[hp];by_cases hzi:z.1.i=y.1.i
  .show lF (oY r.E y.1.i _) z.1.i=_;have hz0y:z0=y:=zJw h.g.inc h1 hy (by rw[h2];exact hzi);subst hz0y;rw[hzi,uW,<- h2];rcases vP hz with h3|⟨_,h4,_⟩
   .have hlz:=pR (d:=lH d z0.1.i t) (by rw[hG];exact h.g.inc) hz;rw[zBb,if_pos hzi,hzi,pR h.g.inc hy] at hlz;grind
   .simp_all
  .show lF (oY r.E y.1.i _) z.1.i=_;rw[rK _ _ hzi];rcases vP hz with h3|⟨h4,_⟩
   .exact h.e z h3
   .omega
 .obtain⟨z0,h1,h2⟩:=frame z hz;rw[hG,<- h2];exact h.kept z0 h1
 .have:(lH d y.1.i t).L.length=d.L.length:=by
   have:=congrArg List.length hG;grind [Dr.G]
  rw[this];exact h.len
def NT(L:List Ly)(E:List (Int × List En)):List (Int × List En):=L.foldl (λk l=>oY k l.i (lF E l.i)) []
theorem NU(E:List (Int × List En)):∀(L:List Ly) (K:List (Int × List En)) (a:Int),lF (L.foldl (λk l=>oY k l.i (lF E l.i)) K) a=if L.any (λx=>x.i==a) then lF E a else lF K a
 | [],K,a=>rfl
 | x::L,K,a=>by
  rw[List.foldl_cons,NU E L,List.any_cons];grind [uW,rK]
theorem zBn{L:List Ly}{E:List (Int × List En)}(h:x∈L):lF (NT L E) x.i=lF E x.i:=by grind [NT,NU]
def nZ(N:List Nm):List Int:=N.map (·.l)
theorem zK(hi:qO d.G):zB1 d=d.L.filter λy=>wE d.G (nZ d.N) y.1.i:=by
 have key:∀(l:List (Ly × List It)) (p:Int->Bool),(∀y∈l,sS d y.1.i=some y)->((l.map (·.1)).filter λx=>p x.i).filterMap (λy=>sS d y.i)=l.filter λy=>p y.1.i:=by
  intro l p
  induction l with
  | nil=>simp_all
  | cons y l ih =>
   grind
 exact key d.L (wE d.G (nZ d.N)) λy hy=>pR hi hy
theorem zLo(hi:qO d.G):(BQ d).G=kK d.G (nZ d.N):=by
 show (zB1 d).map (·.1)=_
 rw[zK hi,zJ];unfold oX Dr.G;rw[List.filter_map];rfl
theorem KY(hi:qO d.G):y∈(BQ d).L↔y∈d.L/\wE d.G (nZ d.N) y.1.i=true:=by
 show y∈zB1 d↔_;rw[zK hi,List.mem_filter]
theorem zMS(hn:n∈N)(h:a∈rS l n.l):wE l (nZ N) a=true :=
 List.any_eq_true.2 ⟨n.l,List.mem_map.2 ⟨n,hn,rfl⟩,by rw[List.contains_iff_mem];exact h⟩
theorem zGi(h:wE l (nZ N) a=true):∃n∈N,a∈rS l n.l:=by
 obtain⟨id,h1,h2⟩:=List.any_eq_true.1 h;obtain⟨n,h3,rfl⟩:=List.mem_map.1 h1;grind
theorem zFD(hg:OkG d.G)(h:a=0∨wE d.G (nZ d.N) a=true):cY (BQ d) a=cY d a:=by
 have hk:qO (BQ d).G:=by rw[zLo hg.inc,zJ];exact(YF hg (BR hg _)).inc
 cases hl:sS d a with
 | none =>
  have hno:=LC hl;rw[lW hno,lW λy hy=>hno y ((KY hg.inc).1 hy).1]
 | some y =>
  obtain⟨h1,rfl⟩:=rF hl;rcases h with h|h
  .have:=hg.lo1 y.1 (tR h1);omega
  .rw[jV hg.inc h1,jV hk ((KY hg.inc).2 ⟨h1,h⟩)]
theorem zKy(h:SimW r d)(hl:(BQ d).L.length<=40):Sim ⟨r.N,kK r.L (nZ r.N),NT (kK r.L (nZ r.N)) r.E,r.x⟩ (BQ d):=by
 have hG:=zLo h.g.inc;have hcl:=BR h.g (nZ d.N);have hpg:OkG (BQ d).G:=by rw[hG,zJ];exact YF h.g hcl
 have hm:∀y,y∈(BQ d).L↔y∈d.L/\wE d.G (nZ d.N) y.1.i=true:=λy=>KY h.g.inc;have hnm:∀n∈d.N,wE d.G (nZ d.N) n.l=true:=λn hn=>by
  obtain⟨y,_,h1,h2⟩:=h.toOkW.named hn;grind [zMS,tT,tR]
 refine { g:=hpg,t:=λy hy=>h.t y ((hm y).1 hy).1,srt:=h.srt,nm:=λn hn=>?_,one:=λn hn m hmm e hfz=>?_,nx:=⟨λy hy=>h.nx.1 y ((hm y).1 hy).1,h.nx.2⟩,ln:=h.ln,N:=h.N,L:=?_,x:=h.x,e:=λy hy=>?_,kept:=λy hy=>?_,len:=hl }
 .obtain⟨h1,y,h2,h3⟩:=h.nm n hn;exact⟨h1,y,(hm y).2 ⟨h2,by rw[h3];exact hnm n hn⟩,h3⟩
 .exact h.one n hn m hmm e λy h2 h3=>hfz y ((hm y).2 ⟨h2,by rw[h3];exact hnm n hn⟩) h3
 .show kK r.L (nZ r.N)=_;rw[hG,h.L,h.N]
 .obtain ⟨h1,h2⟩:=(hm y).1 hy;have:y.1∈kK r.L (nZ r.N):=by
   rw[h.L,h.N,<- hG];exact tR hy
  rw[zBn this,h.e y h1]
  congr 1
  refine(zFD h.g ?_).symm;rcases h.toOkW.below h1 with h3|⟨z,h3,h4,_⟩
  .omega
  .exact .inr (by rw[<- h4];exact hcl y.1 (tR h1) h2 z.1 (tR h3) (.inl h4))
 .obtain⟨h1,h2⟩:=(hm y).1 hy;obtain⟨n,h3,h4⟩:=zGi h2;refine⟨n,h3,?_⟩;rw[hG,zJ,zJ4 h.g hcl (hnm n h3)];exact h4
end
theorem zDW{a p:List UInt8}(ha:a≠[])(h:aU p=a):aO a p=true:=eE ha (by rw[h];exact ha) (.inl h)
theorem zGj{t w:List It}{x:It}(ht:OkT t)(hx:x.p≠[])(h:zJY t w x=true):∃y∈t,aU y.p=x.p:=by
 unfold zJY at h;simp only[Bool.and_eq_true,Bool.not_eq_true',decide_eq_false_iff_not] at h;obtain⟨⟨_,_,h1⟩,_⟩:=h;have h2:0<(iG t x.p).length:=by omega
 rw[zB9] at h2;obtain⟨y,hy⟩:=List.exists_mem_of_length_pos h2;obtain⟨h3,h4⟩:=List.mem_filter.1 hy;exact⟨y,h3,eq_of_beq h4⟩
theorem pT{t:List It}(ht:OkT t):eF t t=[]:=by
 obtain⟨_,hm⟩:=oF ht ht;refine List.eq_nil_iff_forall_not_mem.2 λe he=>?_;rcases (hm e).1 he with h|⟨y,hy,_,h,_⟩
 .obtain ⟨x,hx,h⟩:=List.mem_flatMap.1 h;have hg:=cP ht.srt hx;unfold YG at h;split at h
  .rename_i hi;have hb:=LO ht hx hi;obtain⟨y,hy,hd⟩:=zGj ht (ht.ne x hx) hb;unfold zJY at hb;simp only[Bool.and_eq_true,Bool.not_eq_true'] at hb;have:VA t t x.p=true:=List.any_eq_true.2 ⟨y,hy,by rw[rD hy,zDW (ht.ne x hx) hd];rfl⟩
   rw[this] at hb;exact absurd hb.2 (by decide)
  .rw[hg] at h;simp only[Option.isSome_some,Option.getD_some,eQ,Bool.not_true,Bool.or_false,Bool.false_eq_true,if_false] at h;cases h
 .rw[rD hy] at h;cases h
end Go.Dm
end
