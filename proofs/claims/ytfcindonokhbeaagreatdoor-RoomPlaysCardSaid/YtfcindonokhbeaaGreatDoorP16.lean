/- Part 17 of roomPlays_card. No condition. -/
import Derived.Test.YtfcindonokhbeaaGreatDoorP15
set_option linter.all false
set_option maxRecDepth 100000
set_option maxHeartbeats 0
section
namespace Go.Dm
open Go
section
variable {N l:Bn}{s:Ba}{x:Nm}{id:Int}{y:Ly × Bl}
abbrev DC(N:Bn):Prop:=N.Pairwise λx y=>cC x.n y.n=true
def nP(N:Bn)(s:Ba):Nat:=(N.takeWhile λx=>cC x.n s).length
def zAa(N:Bn)(s:Ba):Bool:=N.any λx=>x.n==s
def pT(N:Bn)(s:Ba):Option Nm:=N.find? λx=>x.n==s
def bY(N:Bn)(s:Ba)(id:Int):Bn:=(N.takeWhile λx=>cC x.n s)++⟨s,id⟩::(N.dropWhile λx=>cC x.n s).filter λx=>!(x.n==s)
def kC(N:Bn)(s:Ba):Bn:=N.filter λx=>!(x.n==s)
theorem fJ(h:pT N s=some x):x∈N/\x.n=s:=⟨ml h,eq_of_beq (mj (p:=λz:Nm=>z.n==s) h)⟩
theorem zP3(h:pT N s=none):∀x∈N,(x.n==s)=false:=λx a=>by
 have:=kr.1 h x a;simp_all
theorem QL(N:Bn)(s:Ba):(pT N s).isSome=zAa N s:=by grind [pT,zAa]
theorem zNm(h:DC N):∀x∈N,∀y∈N,x.n=y.n->x=y:=by
 induction N<;>grind [List.pairwise_cons.1,cD]
theorem zP4(h:DC N)(a:x∈N):pT N x.n=some x:=by
 cases b:pT N x.n with
 | none=>grind [zP3]
 | some y=>obtain⟨c,e⟩:=fJ b;rw[zNm h y c x a e]
theorem zJS: ∀x∈N.takeWhile (λx=>cC x.n s),cC x.n s=true/\x∈N:=by
 induction N with
 | nil=>simp_all
 | cons y N a =>
  grind [List.takeWhile_cons]
theorem zGp(h:DC N):∀x∈N.dropWhile (λx=>cC x.n s),cC x.n s=false/\x∈N:=by
 induction N with
 | nil=>simp_all
 | cons y N a =>
  grind [List.pairwise_cons.1,List.dropWhile_cons,cO]
theorem wU(h:DC N):x∈bY N s id↔x=⟨s,id⟩∨(x∈N/\x.n≠s):=by
 unfold bY;have a:N=N.takeWhile (λx=>cC x.n s)++N.dropWhile (λx=>cC x.n s):=(qb).symm;grind [zJS,cD]
theorem rQ(h:DC N)(s:Ba)(id:Int):DC (bY N s id):=by
 unfold bY;refine ic.2 ⟨j7 (og _) h,dx.2 ⟨λx a=>?_,(j7 (List.dropWhile_sublist _) h).filter _⟩,λx a y b=>?_⟩
 .obtain⟨c,e⟩:=dy.1 a;have f:=(zGp h x c).1;grind [fM]
 .have c:=(zJS x a).1;rcases bx.1 b with rfl|b
  .exact c
  .obtain⟨e,_⟩:=dy.1 b;have f:=(zGp h y e).1;grind [cO,fM]
theorem gQ(N:Bn)(s:Ba)(id:Int):(bY N s id).length<=N.length+1:=by grind [bY,List.takeWhile_append_dropWhile]
theorem ED: x∈kC N s↔x∈N/\x.n≠s:=by grind [kC]
theorem VB(h:DC N)(s:Ba):DC (kC N s):=h.filter _
theorem VA(N:Bn)(s:Ba):(kC N s).length<=N.length:=ei _ _
theorem zIr(N:Bn)(s:Ba):nP N s<=N.length:=List.Sublist.length_le (og _)
theorem zJR(N:Bn)(s:Ba):N.take (nP N s)=N.takeWhile λx=>cC x.n s:=by
 unfold nP
 induction N with
 | nil=>rfl
 | cons x N a =>
  grind [List.takeWhile_cons]
theorem zGo(N:Bn)(s:Ba):N.drop (nP N s)=N.dropWhile λx=>cC x.n s:=by
 unfold nP
 induction N with
 | nil=>rfl
 | cons x N a =>
  grind [List.takeWhile_cons,List.dropWhile_cons]
theorem xF(h:∀x∈l,(x.n==s)=false):(l.filter λx=>!(x.n==s))=l:=qw
theorem zR0{y:Nm}(h:∀x∈l,cC y.n x.n=true)(e:y.n=s):∀x∈l,(x.n==s)=false:=by grind [cD]
theorem zSg: ∀x∈N.takeWhile (λx=>cC x.n s),(x.n==s)=false:=λx a=>mO (zJS x a).1
theorem QK(h:DC N)(g:x∈N):N[nP N x.n]?=some x:=by
 have b:x∈N.dropWhile (λy=>cC y.n x.n):=by
  have f:N=N.takeWhile (λy=>cC y.n x.n)++N.dropWhile (λy=>cC y.n x.n):=(qb).symm;rw[f] at g;rcases c9.1 g with a|a
  .have:=zSg x a;simp at this
  .exact a
 have a:(N.drop (nP N x.n))[0]?=some x:=by
  rw[zGo];cases c:N.dropWhile (λy=>cC y.n x.n) with
  | nil=>rw[c] at b;cases b
  | cons y r =>
   have j:DC (y::r):=by rw[<- c];exact j7 (List.dropWhile_sublist _) h
   have i:=(zGp h y (by rw[c];exact cz)).1;rw[c] at b;rcases bx.1 b with e|k
   .rw[e];rfl
   .have:=(dx.1 j).1 x k;rw[this] at i;cases i
 rw[gu] at a;simpa using a
theorem rP(h:DC N)(c:x∈N)(id:Int):bY N x.n id=N.set (nP N x.n) ⟨x.n,id⟩:=by
 have e:=QK h c;have a:=(bz.1 e).1;rw[qa,aw a];unfold bY;rw[<- zJR,<- zGo];have f:N.drop (nP N x.n)=x::N.drop (nP N x.n+1):=by grind [List.drop_eq_getElem_cons]
 have b:DC (N.drop (nP N x.n)):=j7 (oh _ _) h;rw[f] at b ⊢;rw[fc,au ql,xF (zR0 (dx.1 b).1 rfl)]
theorem SO(a:zAa N s=false)(id:Int):bY N s id=N.take (nP N s)++⟨s,id⟩::N.drop (nP N s):=by
 unfold bY;rw[zJR,zGo,xF λy b=>?_];grind [zAa,List.dropWhile_sublist]
theorem zAD(h:DC N)(f:x∈N):kC N x.n=N.take (nP N x.n)++N.drop (nP N x.n+1):=by
 have b:=QK h f;have a:=(bz.1 b).1;have g:N.drop (nP N x.n)=x::N.drop (nP N x.n+1):=by
  rw[ib a];rw[ay a,b0] at b;rw[b]
 have c:DC (N.drop (nP N x.n)):=j7 (oh _ _) h;have e:kC N x.n=(N.take (nP N x.n)++N.drop (nP N x.n)).filter λy=>!(y.n==x.n):=by rw[jv];rfl
 rw[e,fq];rw[g] at c ⊢;rw[fc,au ql,xF (zR0 (dx.1 c).1 rfl),xF (by rw[zJR];exact zSg)]
structure Dr where
 L:List (Ly × Bl)
 N:Bn
 x:Int
variable {d:Dr}
def Dr.G(d:Dr):Bm:=d.L.map (·.1)
def lX(d:Dr)(id:Int):Option (Ly × Bl):=d.L.find? λy=>y.1.i==id
def cB(d:Dr)(id:Int):Bl:=match lX d id with
 | some y=>y.2
 | none=>[]
def aW(N:Bn)(s:Ba):Int:=match pT N s with
 | some x=>x.l
 | none=>0
def fN(d:Dr)(id:Int):Bool:=match lX d id with
 | some y=>y.1.f
 | none=>false
def xE(d:Dr)(id:Int):Bk:=match lX d id with
 | some y=>eW (cB d y.1.p) y.2
 | none=>[]
def AG(id:Int)(t:Bl):List (Ly × Bl)->List (Ly × Bl)
 | []=>[]
 | y::l=>if y.1.i==id then (y.1,t)::l else y::AG id t l
def oN(d:Dr)(id:Int)(t:Bl):Dr:=⟨AG id t d.L,d.N,d.x⟩
def vM(id:Int):List (Ly × Bl)->List (Ly × Bl)
 | []=>[]
 | y::l=>if y.1.i==id then (⟨y.1.i,y.1.p,y.1.s,true⟩,y.2)::l else y::vM id l
def iE(d:Dr)(s:Ba):Int:=if !bB s then 1 else if !(aW d.N s==0) then 7 else if decide (20<=(d.N.length:Int)) || (decide (40<=(d.L.length:Int)) || decide (2147483647<=d.x)) then 16 else 0
def rF(d:Dr)(a:Int):Bool:=decide (12<(((cA d.G a).length:Int)+1))
def zDW(d:Dr):List (Ly × Bl):=(jV d.G (d.N.map (·.l))).filterMap λy=>lX d y.i
def uO(d:Dr):Dr:=⟨zDW d,d.N,d.x⟩
def vP(d:Dr)(s:Ba)(p q:Int)(t:Bl):Dr:=uO ⟨d.L++[(⟨d.x,p,q,false⟩,t)],bY d.N s d.x,d.x+1⟩
def doD(d:Dr)(s:Ba)(c:Cl):Dr × An :=
 if aW d.N s==0 then (d,anE 6) else if fN d (aW d.N s) && jX c.k then (d,anE 14)
 else if !((doR (cB d (aW d.N s)) c).2.e==0) then (d,(doR (cB d (aW d.N s)) c).2) else (oN d (aW d.N s) (doR (cB d (aW d.N s)) c).1,(doR (cB d (aW d.N s)) c).2)
def gA(d:Dr)(s:Ba):Bl × Int:=if aW d.N s==0 then ([],6) else (cB d (aW d.N s),0)
def gR(d:Dr)(s sn:Ba):Dr × Int :=
 if aW d.N s==0 then (d,6) else if fN d (aW d.N s) then (d,14) else if !(iE d sn==0) then (d,iE d sn) else if rF d (aW d.N s) then (d,15)
 else (vP ⟨vM (aW d.N s) d.L,bY d.N sn (aW d.N s),d.x⟩ s (aW d.N s) 0 (cB d (aW d.N s)),0)
def EN(d:Dr)(sn s:Ba):Dr × Int :=
 if aW d.N sn==0 then (d,6) else if !fN d (aW d.N sn) then (d,13) else if !(iE d s==0) then (d,iE d s) else if rF d (aW d.N sn) then (d,15)
 else (vP d s (aW d.N sn) 0 (cB d (aW d.N sn)),0)
def EC(d:Dr)(s:Ba):Dr × Int:=if aW d.N s==0 then (d,6) else (uO ⟨d.L,kC d.N s,d.x⟩,0)
def SI: Dr:=⟨[(⟨1,0,0,true⟩,[]),(⟨2,1,0,false⟩,[])],[⟨[109,97,105,110],2⟩],3⟩
theorem lY(h:lX d id=some y):y∈d.L/\y.1.i=id:=⟨ml h,eq_of_beq (mj (p:=λz:Ly × Bl=>z.1.i==id) h)⟩
theorem FB(h:lX d id=none):∀y∈d.L,y.1.i≠id:=λy a e=>by
 have:=kr.1 h y a;simp[e] at this
theorem oK(hi:tE d.G)(e:y∈d.L):lX d y.1.i=some y:=by
 have b:∀{l:List (Ly × Bl)},tE (l.map (·.1))->y∈l->l.find? (λz=>z.1.i==y.1.i)=some y:=by
  intro l
  induction l with
  | nil=>intro _ h;cases h
  | cons z l f =>
   intro g a;have c:=dx.1 g;rw[mz];rcases bx.1 a with rfl|a
   .rw[show (y.1.i==y.1.i)=true by simp]
   .have:z.1.i<y.1.i:=c.1 y.1 (cg.2 ⟨y,a,rfl⟩);rw[show (z.1.i==y.1.i)=false by simp;omega]
    exact f c.2 a
 exact b hi e
theorem zOb(d:Dr)(id:Int):fQ d.G id=(lX d id).map (·.1):=by
 unfold fQ lX Dr.G
 induction d.L with
 | nil=>rfl
 | cons y l a =>
  rw[dt,mz,mz];cases y.1.i==id
  .exact a
  .rfl
attribute [go_sem] jL
end
section
variable {l:Bm}{p:Int->Bool}{x z:Ly}{k:Nat}{id a:Int}
def NA(l:Bm)(p:Int->Bool):Prop:=∀x∈l,p x.i=true->∀y∈l,(y.i=x.p∨y.i=x.s)->p y.i=true
def rJ(l:Bm)(p:Int->Bool):Bm:=l.filter λx=>p x.i
theorem fX: x∈rJ l p↔x∈l/\p x.i=true:=by grind [rJ]
theorem zHD(h:tE l){y:Ly}(b:x∈l)(c:y∈l)(e:x.i=y.i):x=y:=by
 have d:=qH h b;grind [qH]
theorem wD(hi:tE l){q:Nat}(m:l[k]?=some x)(n:(rJ l p)[q]?=some x)(o:∀y∈l,y.i=id->p y.i=true)(h:gO l k id):gO (rJ l p) q id:=by
 rcases h with h|⟨j,y,r,d,e,s⟩
 .exact .inl h
 .right;have f:=dr d;have t:y∈rJ l p:=fX.2 ⟨f,o y f e⟩;obtain⟨g,b⟩:=eh.1 t;refine⟨g,y,?_,b,e,s⟩;have u:=zCm hi d m r;have c:tE (rJ l p):=j7 pt hi;rcases o0 g q with h|h|h
  .exact h
  .simp_all
  .have:=zCm c n b h;omega
theorem zD9(b:OkG l)(o:NA l p):∀(k:Nat) {x:Ly},l[k]?=some x->p x.i=true->cA (rJ l p) x.i=cA l x.i:=by
 have m:tE (rJ l p):=j7 pt b.inc;have c:∀x∈rJ l p,1<=x.i:=λx f=>b.lo1 x (fX.1 f).1;have d:∀q x,(rJ l p)[q]?=some x->gO (rJ l p) q x.p:=λq x r=>by
  obtain⟨g,h⟩:=fX.1 (dr r);obtain⟨k,s⟩:=eh.1 g;exact wD b.inc s r (λy v e=>o x g h y v (.inl e)) (b.par k x s)
 intro k
 induction k using Nat.strongRecOn with
 | ind k w =>
  intro x f t;have n:=dr f;rw[yU m c d (fX.2 ⟨n,t⟩),b.step n]
  congr 1
  rcases b.par k x f with A|⟨j,y,g,h,u,_⟩
  .rw[A,tL c,tL b.lo1]
  .rw[<- u];exact w j g h (o x n t y (dr h) (.inl u))
theorem zBd(c:OkG l)(h:NA l p):OkG (rJ l p):=by
 have at_:∀(q:Nat) (x:Ly),(rJ l p)[q]?=some x->∃k,l[k]?=some x/\p x.i=true:=λq x d=>by
  obtain⟨g,j⟩:=fX.1 (dr d);obtain⟨k,b⟩:=eh.1 g;exact⟨k,b,j⟩
 refine OkG.mk (j7 pt c.inc) (λx f=>c.lo x (fX.1 f).1) (λq x d=>?_) (λq x d=>?_) (λx f=>c.two x (fX.1 f).1) (λx f=>?_)
 .obtain⟨k,b,m⟩:=at_ q x d;exact wD c.inc b d (λy n e=>h x (dr b) m y n (.inl e)) (c.par k x b)
 .obtain⟨k,b,m⟩:=at_ q x d;exact wD c.inc b d (λy n e=>h x (dr b) m y n (.inr e)) (c.sec k x b)
 .obtain⟨g,j⟩:=fX.1 f;obtain⟨k,b⟩:=eh.1 g;rw[zD9 c h k b j];exact c.chn x g
theorem zMJ(f:OkG l)(m:NA l p)(hid:p id=true):lT (rJ l p) id=lT l id:=by
 have d:=zBd f m;refine zAU (BV d.inc id) (BV f.inc id) λa=>⟨λi=>?_,λi=>?_⟩
 .refine tG (l:=rJ l p) (C:=(·∈lT l id)) (λx c e=>?_) (λx c b y g h=>ND f (fX.1 c).1 (fX.1 g).1 b h) a i
  grind [wQ,fX.1]
 .refine tG (l:=l) (C:=(·∈lT (rJ l p) id)) (λx c e=>?_) (λx c b y g h=>?_) a i
  .grind [wQ,fX.2]
  .obtain⟨z,j,e⟩:=zBQ b;obtain rfl:=zHD f.inc (fX.1 j).1 c e;exact ND d j (fX.2 ⟨g,m z c (fX.1 j).2 y g h⟩) b h
theorem zC5(c:OkG l)(h:a∈lT l id):a=id∨∃y∈l,y.i=a/\y.f=true:=by
 refine tG (l:=l) (C:=λa=>a=id∨∃y∈l,y.i=a/\y.f=true) (λx _ e=>.inl e) (λx o _ y d b=>.inr ⟨y,d,rfl,?_⟩) a h;obtain⟨k,g⟩:=eh.1 o;have m:∀q,gO l k q->y.i=q->y.f=true:=λq n e=>by
  rcases n with n|⟨j,z,_,r,t,s⟩
  .have:=c.lo1 y d;omega
  .rw[zHD c.inc d (dr r) qd];exact s
 rcases b with b|b
 .exact m _ (c.par k x g) b
 .exact m _ (c.sec k x g) b
def zH(l:Bm)(ids:List Int)(a:Int):Bool:=ids.any λid=>(lT l id).contains a
theorem CK(l:Bm)(ids:List Int):jV l ids=rJ l (zH l ids):=rfl
theorem EZ(b:OkG l)(ids:List Int):NA l (zH l ids):=λx c d y e h=>by
 grind [zH,ND]
def HQ(id:Int)(x:Ly):Ly:=⟨x.i,x.p,x.s,x.f || x.i==id⟩
def sA(l:Bm)(id:Int):Bm:=l.map (HQ id)
theorem zLY(l:Bm)(id a:Int):fQ (sA l id) a=(fQ l a).map (HQ id):=by
 unfold fQ sA
 induction l with
 | nil=>rfl
 | cons x l b =>
  show (match (x.i==a) with|true=>_|false=>_)=_
  grind
theorem KK(l:Bm)(id:Int):∀(n:Nat) (a:Int),eP (sA l id) n a=eP l n a
 | 0,_=>rfl
 | n+1,a=>by
  simp only[eP,zLY];cases fQ l a with
  | none=>rfl
  | some x=>simp only[nf,HQ];rw[KK l id n x.p]
theorem EP(l:Bm)(id a:Int):cA (sA l id) a=cA l a:=by grind [cA,KK,sA]
theorem KL(h:gO l k a):gO (sA l id) k a:=by
 rcases h with h|⟨j,y,b,c,d,e⟩
 .exact .inl h
 .exact .inr ⟨j,HQ id y,b,by unfold sA;rw[dv,c];rfl,d,by show (y.f || _)=true;rw[e];rfl⟩
theorem zOc(h:(sA l id)[k]?=some x):∃y,l[k]?=some y/\x=HQ id y:=by grind [sA]
theorem zAM(h:x∈sA l id):∃y∈l,x=HQ id y:=by grind [sA]
theorem zOd(d:OkG l)(id:Int):OkG (sA l id):=by
 refine⟨?_,λx b=>?_,λk x b=>?_,λk x b=>?_,λx b=>?_,λx b=>?_⟩
 .unfold tE sA;rw[kp];exact d.inc
 .obtain⟨y,c,rfl⟩:=zAM b;exact d.lo y c
 .obtain⟨y,c,rfl⟩:=zOc b;exact KL (d.par k y c)
 .obtain⟨y,c,rfl⟩:=zOc b;exact KL (d.sec k y c)
 .obtain⟨y,c,rfl⟩:=zAM b;exact d.two y c
 .obtain⟨y,c,rfl⟩:=zAM b;rw[EP];exact d.chn y c
theorem kG(h:gO l k a):gO (l++[z]) k a:=by
 rcases h with h|⟨j,y,c,b,d,e⟩
 .exact .inl h
 .exact .inr ⟨j,y,c,by rw[fu (bz.1 b).1];exact b,d,e⟩
theorem PM(h:tE l)(d:∀x∈l,x.i<z.i):tE (l++[z]) :=
 ic.2 ⟨h,ky _ _,λa e b c=>by rw[ep] at c;subst c;exact d a e⟩
theorem KM(d:OkG l)(g:∀x∈l,x.i<z.i)(o:1<=z.i)(q:gO l l.length z.p)(b:x∈l):cA (l++[z]) x.i=cA l x.i:=by
 obtain ⟨k,f⟩:=eh.1 b;have c:=(bz.1 f).1;have r:=PM d.inc g;have e:∀x∈l++[z],1<=x.i:=λx b=>by
  rcases c9.1 b with h|h
  .exact d.lo1 x h
  .simp_all
 have s:∀k x,(l++[z])[k]?=some x->gO (l++[z]) k x.p:=λk x b=>by
  rcases cc k l.length with h|h
  .rw[fu h] at b;exact kG (d.par k x b)
  .grind [kG]
 have t:=tK r e s k (j:=l.length) (n:=l.length+1) (m:=(l++[z]).length+1) (by rw[fu c];exact f) c qd qk;grind [cA]
theorem zHx(c:OkG l)(g:∀x∈l,x.i<z.i)(d:1<=z.i/\z.i<=2147483647)(e:gO l l.length z.p)(r:gO l l.length z.s)(u:z.s≠0->z.p≠0/\z.p≠z.s)(t:(cA l z.p).length<=11):OkG (l++[z]):=by
 have at_:∀{k:Nat} {x:Ly},(l++[z])[k]?=some x->l[k]?=some x∨(k=l.length/\x=z):=λ{k x} b=>by
  grind
 have o:=PM c.inc g;have f:∀x∈l++[z],1<=x.i/\x.i<=2147483647:=λx b=>by
  rcases c9.1 b with h|h
  .exact c.lo x h
  .simp_all
 have q:∀k x,(l++[z])[k]?=some x->gO (l++[z]) k x.p:=λk x b=>by
  rcases at_ b with h|⟨rfl,rfl⟩
  .exact kG (c.par k x h)
  .grind [kG]
 refine⟨o,f,q,λk x b=>?_,λx b=>?_,λx b=>?_⟩
 .rcases at_ b with h|⟨rfl,rfl⟩
  .exact kG (c.sec k x h)
  .grind [kG]
 .rcases c9.1 b with h|h
  .exact c.two x h
  .simp_all
 .rcases c9.1 b with h|h
  .rw[KM c g d.1 e h];exact c.chn x h
  .rw [ep] at h;subst h;rw[yU o (λx b=>(f x b).1) q b,bo];have:(cA (l++[x]) x.p).length<=11:=by
    rcases e with v|⟨j,y,_,m,n,_⟩
    .grind [tL]
    .rw[<- n,KM c g d.1 (.inr ⟨j,y,(bz.1 m).1,m,n,by assumption⟩) (dr m),n];exact t
   simp_all
end
section
variable {d:Dr}{x:Ly}{y:Ly × Bl}{id a:Int}{r:Rm}{n:Nm}{t:Bl}{l:Bm}{N:Bn}
structure OkW (d:Dr):Prop where
 g:OkG d.G
 t:∀y∈d.L,OkT y.2
 srt:DC d.N
 nm:∀n∈d.N,bB n.n=true/\∃y∈d.L,y.1.i=n.l
 one:∀n∈d.N,∀m∈d.N,n.l=m.l->(∀y∈d.L,y.1.i=n.l->y.1.f=false)->n=m
 nx:(∀y∈d.L,y.1.i<d.x)/\1<=d.x/\d.x<=2147483647
 ln:d.N.length<=20
structure SimW (r:Rm) (d:Dr):Prop extends OkW d where
 N:r.N=d.N
 L:r.L=d.G
 x:r.x=d.x
 e:∀y∈d.L,nM r.E y.1.i=eW (cB d y.1.p) y.2
structure Sim (r:Rm) (d:Dr):Prop extends SimW r d where
 kept:∀y∈d.L,∃n∈d.N,y.1.i∈lT d.G n.l
 len:d.L.length<=40
theorem JH: x∈d.G↔∃y∈d.L,y.1=x:=by grind [Dr.G]
theorem rN(h:y∈d.L):y.1∈d.G:=by grind [JH.2]
theorem mH(hi:tE d.G)(b:y∈d.L):cB d y.1.i=y.2:=by grind [cB,oK]
theorem oE(h:∀y∈d.L,y.1.i≠id):cB d id=[]:=by grind [cB,lX]
theorem OkW.tree(h:OkW d)(id:Int):OkT (cB d id):=by
 unfold cB;cases b:lX d id with
 | none=>exact OkT.nil
 | some y=>exact h.t y (lY b).1
theorem OkW.zero(h:OkW d):cB d 0=[]:=oE λy b e=>by have:=h.g.lo1 y.1 (rN b);omega
theorem SimW.tree(h:SimW r d)(id:Int):PI r id=(cB d id,true):=by
 cases b:lX d id with
 | none =>
  have c:=FB b;rw[oE c];unfold PI qL cA;rw[h.L,mJ]
  .rfl
  .rw[zOb,b];rfl
 | some y =>
  obtain⟨m,rfl⟩:=lY b;have o:y.1∈r.L:=by rw[h.L];exact rN m
  obtain⟨k,p⟩:=eh.1 o;refine zDG (by rw[h.L];exact h.g) (cB d) h.toOkW.zero (λx _=>h.toOkW.tree x.i) (λx f=>?_) k p;rw[h.L] at f;obtain⟨z,j,rfl⟩:=JH.1 f;rw[h.e z j,mH h.g.inc j]
theorem SimW.treeR(h:SimW r d)(id:Int):treeR r id=cB d id:=by unfold Dm.treeR;rw[h.tree]
theorem OkW.named(h:OkW d)(e:n∈d.N):∃y,lX d n.l=some y/\y∈d.L/\y.1.i=n.l:=by
 obtain⟨_,y,b,c⟩:=h.nm n e;exact⟨y,by rw[<- c];exact oK h.g.inc b,b,c⟩
theorem OkW.name0(h:OkW d)(s:Ba):(aW d.N s==0) = !(pT d.N s).isSome:=by
 unfold aW;cases b:pT d.N s with
 | none=>rfl
 | some n =>
  obtain⟨c,f⟩:=fJ b;obtain⟨y,_,e,i⟩:=h.named c;have:=h.g.lo1 y.1 (rN e);grind
theorem zTc(d:Dr)(id:Int)(t:Bl):(oN d id t).G=d.G:=by
 unfold oN Dr.G;have:∀l:List (Ly × Bl),(AG id t l).map (·.1)=l.map (·.1):=by
  intro l
  induction l with
  | nil=>rfl
  | cons y l b =>
   grind [AG]
 exact this d.L
theorem yM: ∀{l:List (Ly × Bl)},y∈AG id t l->(y∈l)∨(y.1.i=id/\y.2=t/\∃z∈l,z.1=y.1)
 | [],h=>by cases h
 | z::l,h=>by
  simp only[AG] at h;split at h
  .grind
  .rcases bx.1 h with rfl|h
   .simp_all
   .rcases yM h with h|⟨b,c,w,e,f⟩
    .simp_all
    .grind
theorem zC1(d:Dr)(id:Int)(t:Bl)(a:Int):lX (oN d id t) a=if a=id then (lX d a).map (λy=>(y.1,t)) else lX d a:=by
 unfold lX oN;have:∀l:List (Ly × Bl),(AG id t l).find? (λy=>y.1.i==a)=if a=id then (l.find? λy=>y.1.i==a).map (λy=>(y.1,t)) else l.find? λy=>y.1.i==a:=by
  intro l
  induction l with
  | nil=>simp[AG]
  | cons y l b =>
   grind [AG]
 exact this d.L
theorem zKb(h:(lX d id).isSome=true)(a:Int):cB (oN d id t) a=if a=id then t else cB d a:=by
 unfold cB;rw[zC1];by_cases b:a=id
 .subst b;rw[aw rfl,aw rfl];obtain⟨y,c⟩:=l5.1 h;rw[c];rfl
 .simp_all
theorem ZU(hi:tE d.G)(id:Int):oN d id (cB d id)=d:=by
 unfold oN;have b:∀(l:List (Ly × Bl)) (t:Bl),tE (l.map (·.1))->(∀y∈l,y.1.i=id->y.2=t)->AG id t l=l:=by
  intro l t
  induction l with
  | nil=>intro _ _;rfl
  | cons y l c =>
   intro f h;have g:=dx.1 f;simp only[AG];split
   .grind
   .rw[c g.2 λz j=>h z (cu _ j)]
 rw[b d.L (cB d id) hi λy k e=>by rw[<- e,mH hi k]]
theorem OkW.below(h:OkW d)(e:y∈d.L):y.1.p=0∨∃z∈d.L,z.1.i=y.1.p/\z.1.f=true/\z.1.i<y.1.i:=by
 obtain⟨k,b⟩:=eh.1 (rN e);rcases h.g.par k _ b with m|⟨j,x,o,c,q,s⟩
 .exact .inl m
 .obtain⟨z,u,rfl⟩:=JH.1 (dr c);exact .inr ⟨z,u,q,s,zCm h.g.inc c b o⟩
theorem zMa(h:tE d.G){x:Ly × Bl}(b:x∈d.L)(c:y∈d.L)(e:x.1.i=y.1.i):x=y:=by
 have f:=oK h b;grind [oK]
theorem zQx(h:Sim r d)(s:y∈d.L)(I:y.1.f=false)(P:OkT t):
  Sim ⟨r.N,r.L,rK r.E y.1.i (eW (cB d y.1.p) t),r.x⟩ (oN d y.1.i t):=by
 have u:=zTc d y.1.i t;have B:(lX d y.1.i).isSome=true:=by rw[oK h.g.inc s];rfl
 have frame:∀z∈(oN d y.1.i t).L,∃b∈d.L,b.1=z.1:=λz c=>by
  rcases yM c with k|⟨_,_,w,k,j⟩
  .grind
  .grind
 have F:∀b∈d.L,∃z∈(oN d y.1.i t).L,z.1=b.1:=λb J=>by
  simp_all[rN,JH.1]
 refine { g:=by rw[u];exact h.g,t:=λz c=>?_,srt:=h.srt,nm:=λn C=>?_,one:=λn C m K e M=>?_,nx:=⟨λz c=>?_,h.nx.2⟩,ln:=h.ln,N:=h.N,L:=by rw[u];exact h.L,x:=h.x,e:=λz c=>?_,kept:=λz c=>?_,len:=?_ }
 .rcases yM c with k|⟨_,j,_⟩
  .exact h.t z k
  .simp_all
 .obtain⟨k,b,j,q⟩:=h.nm n C;grind
 .refine h.one n C m K e λb j q=>?_;grind
 .obtain⟨b,k,j⟩:=frame z c;rw[<- j];exact h.nx.1 b k
 .obtain ⟨b,k,j⟩:=frame z c;have O:cB (oN d y.1.i t) z.1.p=cB d z.1.p:=by
   rw[zKb B,au];intro e;rcases h.toOkW.below k with q|⟨w,q,A,H,_⟩
   .rw[j,e] at q;have:=h.g.lo1 y.1 (rN s);omega
   .rw[j,e] at A;rw[zMa h.g.inc q s A,I] at H;cases H
  rw[O];by_cases o:z.1.i=y.1.i
  .show nM (rK r.E y.1.i _) z.1.i=_;have v:b=y:=zMa h.g.inc k s (by rw[j];exact o);subst v;rw[o,xU,<- j];rcases yM c with q|⟨_,A,_⟩
   .have D:=oK (d:=oN d b.1.i t) (by rw[u];exact h.g.inc) c;rw[zC1,aw o,o,oK h.g.inc s] at D;grind
   .simp_all
  .show nM (rK r.E y.1.i _) z.1.i=_;rw[tX _ _ o];rcases yM c with q|⟨A,_⟩
   .exact h.e z q
   .omega
 .obtain⟨b,k,j⟩:=frame z c;rw[u,<- j];exact h.kept b k
 .have:(oN d y.1.i t).L.length=d.L.length:=by
   have:=congrArg List.length u;grind [Dr.G]
  rw[this];exact h.len
def SQ(L:Bm)(E:List (Int × Bk)):List (Int × Bk):=L.foldl (λk l=>rK k l.i (nM E l.i)) []
theorem SR(E:List (Int × Bk)):∀(L:Bm) (K:List (Int × Bk)) (a:Int),nM (L.foldl (λk l=>rK k l.i (nM E l.i)) K) a=if L.any (λx=>x.i==a) then nM E a else nM K a
 | [],K,a=>rfl
 | x::L,K,a=>by
  rw[gx,SR E L,kg];grind [xU,tX]
theorem zDf{L:Bm}{E:List (Int × Bk)}(h:x∈L):nM (SQ L E) x.i=nM E x.i:=by grind [SQ,SR]
def qK(N:Bn):List Int:=N.map (·.l)
theorem CM(hi:tE d.G):zDW d=d.L.filter λy=>zH d.G (qK d.N) y.1.i:=by
 have b:∀(l:List (Ly × Bl)) (p:Int->Bool),(∀y∈l,lX d y.1.i=some y)->((l.map (·.1)).filter λx=>p x.i).filterMap (λy=>lX d y.i)=l.filter λy=>p y.1.i:=by
  intro l p
  induction l with
  | nil=>simp_all
  | cons y l e =>
   grind
 exact b d.L (zH d.G (qK d.N)) λy c=>oK hi c
theorem zOf(hi:tE d.G):(uO d).G=jV d.G (qK d.N):=by
 show (zDW d).map (·.1)=_
 rw[CM hi,CK];unfold rJ Dr.G;rw[List.filter_map];rfl
theorem PW(hi:tE d.G):y∈(uO d).L↔y∈d.L/\zH d.G (qK d.N) y.1.i=true:=by
 show y∈zDW d↔_;rw[CM hi,dy]
theorem zPO(b:n∈N)(h:a∈lT l n.l):zH l (qK N) a=true :=
 jj.2 ⟨n.l,cg.2 ⟨n,b,rfl⟩,by rw[List.contains_iff_mem];exact h⟩
theorem zIv(h:zH l (qK N) a=true):∃n∈N,a∈lT l n.l:=by
 obtain⟨id,b,c⟩:=jj.1 h;obtain⟨n,e,rfl⟩:=cg.1 b;grind
theorem zHQ(b:OkG d.G)(h:a=0∨zH d.G (qK d.N) a=true):cB (uO d) a=cB d a:=by
 have g:tE (uO d).G:=by rw[zOf b.inc,CK];exact(zBd b (EZ b _)).inc
 cases f:lX d a with
 | none =>
  have c:=FB f;rw[oE c,oE λy i=>c y ((PW b.inc).1 i).1]
 | some y =>
  obtain⟨e,rfl⟩:=lY f;rcases h with h|h
  .have:=b.lo1 y.1 (rN e);omega
  .rw[mH b.inc e,mH g ((PW b.inc).2 ⟨e,h⟩)]
theorem zCT(h:SimW r d)(B:(uO d).L.length<=40):Sim ⟨r.N,jV r.L (qK r.N),SQ (jV r.L (qK r.N)) r.E,r.x⟩ (uO d):=by
 have s:=zOf h.g.inc;have j:=EZ h.g (qK d.N);have v:OkG (uO d).G:=by rw[s,CK];exact zBd h.g j
 have q:∀y,y∈(uO d).L↔y∈d.L/\zH d.G (qK d.N) y.1.i=true:=λy=>PW h.g.inc;have k:∀n∈d.N,zH d.G (qK d.N) n.l=true:=λn o=>by
  obtain⟨y,_,p,c⟩:=h.toOkW.named o;grind [zPO,wQ,rN]
 refine { g:=v,t:=λy f=>h.t y ((q y).1 f).1,srt:=h.srt,nm:=λn o=>?_,one:=λn o m w e A=>?_,nx:=⟨λy f=>h.nx.1 y ((q y).1 f).1,h.nx.2⟩,ln:=h.ln,N:=h.N,L:=?_,x:=h.x,e:=λy f=>?_,kept:=λy f=>?_,len:=B }
 .obtain⟨p,y,c,b⟩:=h.nm n o;exact⟨p,y,(q y).2 ⟨c,by rw[b];exact k n o⟩,b⟩
 .exact h.one n o m w e λy c b=>A y ((q y).2 ⟨c,by rw[b];exact k n o⟩) b
 .show jV r.L (qK r.N)=_;rw[s,h.L,h.N]
 .obtain ⟨p,c⟩:=(q y).1 f;have:y.1∈jV r.L (qK r.N):=by
   rw[h.L,h.N,<- s];exact rN f
  rw[zDf this,h.e y p]
  congr 1
  refine(zHQ h.g ?_).symm;rcases h.toOkW.below p with b|⟨z,b,u,_⟩
  .omega
  .exact .inr (by rw[<- u];exact j y.1 (rN p) c z.1 (rN b) (.inl u))
 .obtain⟨p,c⟩:=(q y).1 f;obtain⟨n,b,u⟩:=zIv c;refine⟨n,b,?_⟩;rw[s,CK,zMJ h.g j (k n b)];exact u
end
def zF5{a p:Ba}(b:a≠[])(h:aU p=a):aT a p=true:=gB b (by rw[h];exact b) (.inl h)
def zIx{t w:Bl}{x:It}(e:OkT t)(f:x.p≠[])(h:LC t w x=true):∃y∈t,aU y.p=x.p:=by
 unfold LC at h;simp only[bn,dg,ik] at h;obtain⟨⟨_,_,g⟩,_⟩:=h;have a:0<(eZ t x.p).length:=qd
 rw[KX] at a;obtain⟨y,b⟩:=List.exists_mem_of_length_pos a;obtain⟨c,d⟩:=dy.1 b;exact⟨y,c,eq_of_beq d⟩
def xL{t:Bl}(a:OkT t):eW t t=[]:=by
 obtain⟨_,f⟩:=qO a a;refine List.eq_nil_iff_forall_not_mem.2 λe g=>?_;rcases (f e).1 g with h|⟨y,c,_,h,_⟩
 .obtain ⟨x,d,h⟩:=jc.1 h;have i:=dI a.srt d;unfold zAd at h;split at h
  .rename_i j;have b:=QM a d j;obtain⟨y,c,k⟩:=zIx a (a.ne x d) b;unfold LC at b;simp only[bn,dg] at b;have:nJ t t x.p=true:=jj.2 ⟨y,c,by rw[tS c,zF5 (a.ne x d) k];rfl⟩
   rw[this] at b;exact absurd b.2 qh
  .rw[i] at h;simp only[gy,fe,dK,bh,dn,av,ax] at h;cases h
 .rw[tS c] at h;cases h
end Go.Dm
end
