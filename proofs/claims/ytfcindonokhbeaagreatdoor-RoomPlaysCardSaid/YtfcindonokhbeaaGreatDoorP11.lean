/- Part 12 of roomPlays_card. No condition. -/
import Derived.Test.YtfcindonokhbeaaGreatDoorP10
set_option linter.all false
set_option maxRecDepth 100000
set_option maxHeartbeats 0
section
namespace Go.Dm
open Go
section
variable {t:Bl}{a p:Ba}{l:Bk}
theorem xP{b:Ba}(h:Par t)(g:b≠[]):∀(n:Nat) (q:Ba),q.length<=n->(aN t q).isSome=true->aT b q=true->∃m,aN t b=some m/\(m.k==2)=true
 | 0,q,j,_,d=>by
  have c:q=[]:=qw
  have i:=eR d;simp_all
 | n+1,q,j,o,d=>by
  obtain⟨m,r⟩:=l5.1 o;obtain⟨x,s,rfl,_⟩:=cP r;have e:=h x s;rcases lU g d with c|c
  .grind [dF]
  .have f:aU x.p≠[]:=by
    intro f;have:=eR c;simp_all
   obtain⟨m,i,_⟩:=dF f e;have u:=uU f;exact xP h g n _ qd (by rw[i];rfl) c
theorem TD{w:Bl}{os:List Ba}(f:a≠[]):∀(n:Nat) (q:Ba),q.length<=n->zFJ w os n q=false->(q=a∨aT a q=true)->(∃m,aN w a=some m/\(m.k==2)=true)/\isB os a=false
 | 0,q,i,_,b=>by
  have d:q=[]:=qw
  rcases b with b|b
  .simp_all
  .have g:=eR b;simp_all
 | n+1,q,i,c,b=>by
  by_cases h:q=[]
  .subst h;rcases b with b|b
   .simp_all
   .have g:=eR b;simp_all
  .rw [wW h] at c;split at c
   .cases c
   .rename_i d;simp only[ny,ij] at d;obtain⟨g,o,j⟩:=d;rcases b with rfl|b
    .refine⟨?_,j⟩;cases r:aN w q with
     | none=>simp_all
     | some m=>simp_all
    .have e:(aU q).length<=n:=by
      grind [uU]
     exact TD f n _ e c (lU f b)
theorem zFL{w:Bl}{os:List Ba}(b:a≠[])(c:HW w os p=false)(d:aT a p=true):(∃m,aN w a=some m/\(m.k==2)=true)/\isB os a=false :=
 TD b _ _ (zB0 p) c (lU b d)
theorem nC{os:List Ba}{w:Bl}{e:En}(h:e∈iJ t os w):∃x∈w,e=⟨x.p,1,isB os x.p,x.n⟩:=by grind [iJ,zAd]
def zC3(l:Bk):Prop:=l.Pairwise λx y=>cC x.p y.p=true
theorem VL(y:En)(l:Bk)(e:En):zCe (y::l) e=if cC y.p e.p then y::zCe l e else e::y::l:=by grind [zCe,zAG,List.takeWhile_cons]
theorem zCg(e:En):zCe [] e=[e]:=rfl
theorem PE{e x:En}:x∈zCe l e↔x∈l∨x=e:=by
 induction l<;>grind [zCg,VL]
theorem zLL{e:En}(h:zC3 l)(c:∀x∈l,x.p≠e.p):zC3 (zCe l e):=by
 induction l with
 | nil=>rw[zCg];exact ky _ _
 | cons y l d =>
  obtain⟨j,f⟩:=dx.1 h;rw[VL];split
  .rename_i g;refine dx.2 ⟨λx b=>?_,d f λx b=>c x (cu _ b)⟩;grind [PE.1]
  .rename_i g;have i:cC e.p y.p=true:=by grind [fM]
   refine dx.2 ⟨λx b=>?_,h⟩;grind [cO]
theorem XV{os:List Ba}{w:Bl}(h:Srt w):zC3 (iJ t os w):=by
 induction w with
 | nil=>exact List.Pairwise.nil
 | cons x w b =>
  obtain⟨f,c⟩:=dx.1 h;have e:iJ t os (x::w)=zAd t os x++iJ t os w:=by grind [iJ]
  rw [e];have g:∀y∈zAd t os x,y.p=x.p:=λy d=>by
   have:y∈iJ t os [x]:=by grind [iJ]
   grind [nC]
  refine ic.2 ⟨?_,b c,λy d z i=>?_⟩
  .grind [zAd,List.Pairwise.nil]
  .grind [nC]
theorem PL{w:Bl}{os:List Ba}:∀{r:Bl} {out:Bk},Srt r->zC3 out->(∀e∈out,∀y∈r,(aN w y.p).isSome=false->e.p≠y.p) ->
  zC3 (r.foldl (ES w os) out)/\∀e,e∈r.foldl (ES w os) out↔e∈out∨∃y∈r,e=lW y.p/\(aN w y.p).isSome=false/\HW w os y.p=false
 | [],out,_,h,_=>by simp_all
 | y::r,out,k,h,f=>by
  obtain⟨o,g⟩:=dx.1 k;rw[gx];unfold ES;split
  .rename_i b;obtain⟨c,d⟩:=PL (w:=w) (os:=os) g h λe i z j=>f e i z (cu _ j);refine⟨c,λe=>(d e).trans ?_⟩;grind
  .rename_i b;simp only[ny,ij] at b;have m:=zLL (e:=lW y.p) h λx n=>f x n y cz b.1;obtain⟨c,d⟩:=PL (w:=w) (os:=os) (out:=zCe out (lW y.p)) g m λe i z j q=>by
    grind [PE.1,lW,cD]
   refine⟨c,λe=>(d e).trans ?_⟩;grind [PE]
theorem VY(w:Bl)(os:List Ba):∀(r:Bl) (out:Bk),(r.foldl (ES w os) out).length<=out.length+r.length
 | [],out=>by simp_all
 | y::r,out=>by
  have b:=zHu w os out y;have c:=VY w os r (ES w os out y);grind
theorem zAO{w:Bl}(h:(aN w p).isSome=false):∀x∈w,Srt w->x.p≠p:=by grind [dI]
theorem qO{w:Bl}(c:OkT t)(b:OkT w):zC3 (eW t w)/\∀e,e∈eW t w↔e∈iJ t (lK t w) w∨∃y∈t,e=lW y.p/\(aN w y.p).isSome=false/\HW w (lK t w) y.p=false :=
 PL c.srt (XV b.srt) λe d y _ f=>by
  obtain⟨x,g,rfl⟩:=nC d;exact zAO f x g b.srt
theorem QM{w:Bl}(c:OkT w){x:It}(g:x∈w)(h:isB (lK t w) x.p=true):LC t w x=true:=by
 unfold isB lK at h;rw[jj] at h;obtain⟨q,i,e⟩:=h;obtain⟨z,b,rfl⟩:=cg.1 i;obtain⟨b,k⟩:=dy.1 b;have e:=eq_of_beq e;have d:=dI c.srt b;have j:=dI c.srt g;rw[e,j] at d;have f:x.n=z.n:=fx d;have:x=z:=by cases x;cases z;simp only at e f;subst e;subst f;rfl
 simp_all
theorem zA3{w:Bl}(s:OkT t)(c:OkT w):OkE (eW t w):=by
 obtain ⟨D,I⟩:=qO s c;have u:∀e∈eW t w,(∃x∈w,e=⟨x.p,1,isB (lK t w) x.p,x.n⟩)∨∃y∈t,e=lW y.p/\(aN w y.p).isSome=false/\HW w (lK t w) y.p=false:=λe z=>by
  grind [nC]
 refine⟨λe z=>?_,D,gg.2 λi j E F _=>?_,λe z=>?_,?_⟩
 .rcases u e z with⟨x,f,rfl⟩|⟨y,h,rfl,_⟩
  .obtain⟨b,o,A,_⟩:=c.its x f;have b:(x.p == [])=false:=by simpa using b
   simp only[zOj,b,o,A,br,cy,show ((1:Int)==2)=false from rfl,show ((1:Int)==1)=true from rfl,av,ax]
   cases G:isB (lK t w) x.p
   .rfl
   .have:=QM c f G;grind [LC]
  .obtain⟨b,o,_⟩:=s.its y h;have b:(y.p == [])=false:=by simpa using b
   simp only[zOj,lW,b,o];rfl
 .have h:=u _ (ch E);have f:=u _ (ch F);generalize (eW t w)[i]=y at h;generalize (eW t w)[j]=x at f;cases g:lL y
  .rfl
  .cases B:aT y.p x.p
   .rfl
   .exfalso;have q:y.p≠[]:=by
     rcases h with⟨v,d,rfl⟩|⟨v,d,rfl,_⟩
     .exact c.ne v d
     .exact s.ne v d
    have r:∃m,aN w y.p=some m/\(m.k==2)=true:=by
     rcases f with⟨v,d,rfl⟩|⟨v,d,rfl,_,H⟩
     .exact xP c.par q _ _ (bg _) (by rw[dI c.srt d];rfl) B
     .exact(zFL q H B).1
    obtain⟨m,b,o⟩:=r;rcases h with⟨v,d,rfl⟩|⟨v,d,rfl,C,_⟩
    .rw[show (En.mk v.p 1 (isB (lK t w) v.p) v.n).p=v.p from rfl,dI c.srt d] at b
     have b:=fx b;unfold lL at g;simp only[b,bne,o] at g;cases g
    .rw[show (lW v.p).p=v.p from rfl] at b
     rw[b] at C;cases C
 .rcases u e z with⟨x,f,rfl⟩|⟨y,h,rfl,_⟩
  .exact c.tlen x f
  .show (0:Nat)<18446744073709551616;decide
 .have b:=VY w (lK t w) t (iJ t (lK t w) w);have o:=pE t (lK t w) w;have A:=s.len;have J:=c.len;unfold eW;omega
end
def MZ:En:=⟨[],0,false,nd0⟩
def En.cv(x:En):Bf:=[.p (.s x.p),.p (.i .i64 x.k),.p (.b x.o),.p (.i .i64 x.n.k),.p (.i .i64 x.n.m),.p (.f x.n.t),.p (.sl 1 (bS x.n.d))]
def lO(l:Bk)(p:Ba):Option En:=l.find? λx=>x.p==p
def shF(l:Bk):Nat->Ba->Bool
 | 0,_=>false
 | n+1,q=>if q == [] then false else if ((lO l q).isSome && (((lO l q).getD MZ).k==2 || (((lO l q).getD MZ).o || ((lO l q).getD MZ).n.k != 2))) then true else shF l n (aU q)
def zJx(l:Bk)(p:Ba):Bool:=shF l p.length (aU p)
def zNk{l:Bk}{n:Nat}{q:Ba}(h:q≠[]):shF l (n+1) q=if ((lO l q).isSome && (((lO l q).getD MZ).k==2 || (((lO l q).getD MZ).o || ((lO l q).getD MZ).n.k != 2))) then true else shF l n (aU q):=by
 rw[shF,au (by simpa using h)]
def zQv{l:Bk}:∀n:Nat,shF l n []=false
 | 0=>rfl
 | n+1=>by rw[shF];simp
def zPm(l:List (List RI)):Bc:=l.map λx=>[.sl 6 (encI x)]
def zPo(l:List (List RU)):Bc:=l.map λx=>[.sl 8 (zRV x)]
def zAF(l:List Bl):Bc:=l.map λx=>[.sl 5 (aP x)]
def zGN(l:List (List RI)):(zPm l).length=l.length:=by simp[zPm]
def zHb(l:List (List RU)):(zPo l).length=l.length:=by simp[zPo]
def zG8(l:List Bl):(zAF l).length=l.length:=by simp[zAF]
def zGO(t:List (List RI)):(∀x∈zPm t,x.length=1)=True:=fr λx a=>by
 obtain⟨y,_,rfl⟩:=cg.1 a;rfl
def zHc(t:List (List RU)):(∀x∈zPo t,x.length=1)=True:=fr λx a=>by
 obtain⟨y,_,rfl⟩:=cg.1 a;rfl
def zHa(t:List Bl):(∀x∈zAF t,x.length=1)=True:=fr λx a=>by
 obtain⟨y,_,rfl⟩:=cg.1 a;rfl
def zDD(t:List Bl)(l:Bl):zAF t++[[.sl 5 (aP l)]]=zAF (t++[l]):=by simp[zAF]
theorem zG9:zAF []=[]:=rfl
attribute [go_sem] zGN zHb zG8 zGO zHc zHa zDD zG9
section
variable {a p:Ba}{x e:En}{l:Bk}{t w:Bl}{os:List Ba}
theorem zDK(t:Bl)(x:En)(p:Ba):aN (rH t x) p=if ((p==x.p) || (wX t x && aT x.p p)) then none else aN t p:=by
 have:=iT (λq=>!((q==x.p) || (wX t x && aT x.p q))) p t;grind [rH,goE]
theorem mZ(t:Bl)(x:En)(p:Ba):aN (oL t x) p=if p==x.p then (if x.k==2 then none else some x.n) else if wX t x && aT x.p p then none else aN t p:=by grind [oL,zDK,sB]
theorem zFn(b:a≠[])(h:aT a p=true):cC a p=true:=by grind [jE,zFu]
theorem DF{b c:Ba}(d:a≠[])(h:aT a b=true)(k:aT b c=true):aT a c=true:=by
 obtain⟨r,rfl⟩:=jE d h;obtain⟨s,rfl⟩:=jE ql k;grind [pX]
theorem zFp(b:a≠[])(h:aT a p=true):a.length<p.length:=by grind [jE]
theorem BX(b:a≠[]):aT a []=false:=by grind [aT]
theorem pD(t:Bl)(x:En)(l:Bk):iC t (x::l)=iC (oL t x) l:=rfl
theorem LG: ∀{l:Bk} {t:Bl},(∀x∈l,(p==x.p)=false/\aT x.p p=false)->aN (iC t l) p=aN t p
 | [],_,_=>rfl
 | x::l,t,h=>by
  obtain⟨b,c⟩:=h x cz;rw[pD,LG λy d=>h y (cu _ d),mZ,b,c,gz];rfl
theorem LH: ∀{l:Bk} {t:Bl},(∀x∈l,(p==x.p)=false)->aN t p=none->aN (iC t l) p=none
 | [],_,_,h=>h
 | x::l,t,h,c=>by
  rw[pD];refine LH (λy b=>h y (cu _ b)) ?_;grind [mZ]
theorem FW: ∀{l:Bk} {t:Bl},zC3 l->(∀y∈l,y.p≠[])->x∈l->aN (iC t l) x.p=if x.k==2 then none else some x.n
 | [],_,_,_,h=>by grind
 | y::l,t,c,d,b=>by
  obtain⟨i,f⟩:=dx.1 c;rw[pD];rcases bx.1 b with rfl|b
  .grind [LG,mZ,zFn,fL]
  .exact FW f (λz g=>d z (cu _ g)) b
theorem LJ: ∀{l:Bk} {t:Bl},(∀x∈l,(p==x.p)=false)->e∈l->aT e.p p=true->(e.o || lL e)=true->aN (iC t l) p=none
 | [],_,_,h,_,_=>by grind
 | y::l,t,h,b,c,d=>by
  rw[pD];rcases bx.1 b with rfl|b
  .grind [LH,wX,mZ]
  .exact LJ (λx f=>h x (cu _ f)) b c d
theorem LI: ∀{l:Bk} {t:Bl},(∀x∈l,x.p≠[]/\(p==x.p)=false/\(aT x.p p=true->(x.o || lL x)=false))->(∀q,(aN t p).isSome=true->aT q p=true->q≠[]->aZ t q=true)->aN (iC t l) p=aN t p
 | [],_,_,_=>rfl
 | x::l,t,h,u=>by
  obtain ⟨v,z,A⟩:=h x cz;have b:aT x.p p=true->(aN t p).isSome=true->wX t x=false:=λc f=>by
   grind [wX]
  have j:aN (oL t x) p=aN t p:=by
   rw[mZ,z];cases c:aT x.p p
   .simp
   .cases f:aN t p with
    | none=>simp
    | some n=>rw[b c (by rw[f];rfl)];simp
  rw[pD,LI (λy B=>h y (cu _ B)) ?_,j];intro q f c k;rw[j] at f;obtain⟨m,r,C⟩:=dF k (u q f c k);cases d:q==x.p
  .refine iN (m:=m) ?_ C;rw[mZ,d];cases i:aT x.p q
   .simpa using r
   .rw[b (DF v i c) f];simpa using r
  .have e:=eq_of_beq d;rw[e] at c;have s:=A c;rw[ij] at s;have g:=s.2;unfold lL at g;rw[ij] at g;refine iN (m:=x.n) ?_ (by simpa using g.2);rw[mZ,d,aw rfl,g.1];rfl
theorem RR: ∀{l:Bk},zC3 l->∀x∈l,∀y∈l,x.p=y.p->x=y
 | [],_,x,b,_,_,_=>by grind
 | z::l,h,x,b,y,c,e=>by
  obtain⟨k,d⟩:=dx.1 h;rcases bx.1 b with f|g<;>rcases bx.1 c with i|j
  .rw[f,i]
  .grind [mO]
  .grind [mO]
  .exact RR d x g y j e
theorem zHf(h:zC3 l)(c:x∈l):lO l x.p=some x:=by
 cases b:lO l x.p with
 | none=>exact absurd (fa x.p) (by simpa using kr.1 b x c)
 | some y =>
  have d:=eq_of_beq (mj (p:=λz:En=>z.p==x.p) b);rw[RR h y (ml b) x c d]
theorem zB(h:lO l p=some x):x∈l/\x.p=p:=⟨ml h,eq_of_beq (mj (p:=λz:En=>z.p==p) h)⟩
theorem VO(h:lO l p=none):∀x∈l,(p==x.p)=false:=λx b=>by
 have c:=kr.1 h x b;grind
theorem zQu(s:zC3 l)(m:∀x∈l,x.p≠[]):∀(n:Nat) (q:Ba),q.length<=n->(shF l n q=true↔∃e∈l,(e.p=q∨aT e.p q=true)/\(e.o || lL e)=true):=by
 have g:¬ ∃e∈l,(e.p=[]∨aT e.p []=true)/\(e.o || lL e)=true:=by
  grind [BX]
 intro n
 induction n with
 | zero =>
  grind [shF]
 | succ n u =>
  intro q y;by_cases r:q=[]
  .subst r;exact⟨λh=>(by rw[zQv] at h;cases h),λh=>absurd h g⟩
  .have j:(aU q).length<=n:=by
    by_cases h:aU q=[]
    .rw[h];exact bc _
    .have:=uU h;omega
   have i:∀e:En,(e.k==2 || (e.o || e.n.k != 2))=(e.o || lL e):=λe=>by
    unfold lL;cases e.k==2<;>cases e.o<;>rfl
   rw[zNk r];split
   .rename_i d;refine⟨λ_=>?_,λ_=>rfl⟩;cases b:lO l q with
    | none=>rw[b] at d;cases d
    | some e =>
     rw[b,fe,i] at d;obtain⟨c,f⟩:=zB b;exact⟨e,c,.inl f,by simpa using d⟩
   .rename_i d;rw[u _ j];constructor
    .rintro⟨e,b,c,f⟩;refine⟨e,b,.inr ?_,f⟩;refine gB (m e b) (λv=>?_) (c.imp Eq.symm id);rw[v] at c;exact g ⟨e,b,c,f⟩
    .rintro⟨e,b,c,f⟩;rcases c with c|c
     .rw[<- c,zHf s b,fe,i,f] at d;exact absurd rfl d
     .exact⟨e,b,(lU (m e b) c).imp Eq.symm id,f⟩
theorem yH(b:zC3 l)(c:∀x∈l,x.p≠[])(p:Ba):zJx l p=true↔∃e∈l,aT e.p p=true/\(e.o || lL e)=true:=by grind [zJx,zQu,zB0,gB,BX,lU]
theorem zIE(u:Par t)(g:zC3 l)(f:∀x∈l,x.p≠[])(p:Ba):
  aN (iC t l) p=match lO l p with
   | some e=>if e.k==2 then none else some e.n
   | none=>if zJx l p then none else aN t p:=by
 cases s:lO l p with
 | some e =>
  obtain⟨c,rfl⟩:=zB s;exact FW g f c
 | none =>
  have d:=VO s;cases b:zJx l p
  .refine LI (λx i=>⟨f x i,d x i,λv=>?_⟩) λq c j r=>?_
   .cases h:(x.o || lL x)
    .rfl
    .rw[(yH g f p).2 ⟨x,i,v,h⟩] at b;cases b
   .obtain⟨m,y,z⟩:=xP u r _ _ (bg _) c j;exact iN y (by simpa using z)
  .obtain⟨e,c,j,r⟩:=(yH g f p).1 b;exact LJ d c j r
theorem OkE.ne(h:OkE l):∀x∈l,x.p≠[]:=λx b e=>by
 have:=h.may x b;grind [zOj]
theorem zEB{x y:Nd}(d:aO x=true)(b:x.t<18446744073709551616)(f:aO y=true)(c:y.t<18446744073709551616)(h:cH x y=true):x=y:=by
 have g:=(iV d b).2;have i:=(iV f c).2;simp only[cH,bn,dq] at h;cases x;cases y;simp_all
theorem SZ: ∀(n:Nat) (q:Ba),zFJ w os n q=true->∃a,a≠[]/\(q=a∨aT a q=true)/\(!(aN w a).isSome || (((aN w a).getD nd0).k != 2 || isB os a))=true
 | 0,_,h=>by cases h
 | n+1,q,h=>by
  by_cases b:q=[]
  .grind [NP]
  .rw[wW b] at h;split at h
   .grind
   .obtain⟨a,c,d,f⟩:=SZ n _ h;grind [gB,BX]
theorem zFK(h:HW w os p=true):∃a,a≠[]/\aT a p=true/\(!(aN w a).isSome || (((aN w a).getD nd0).k != 2 || isB os a))=true:=by
 obtain⟨a,b,c,d⟩:=SZ _ _ h;grind [gB,BX]
theorem QT{x:It}(b:x∈w)(c:e∈zAd t os x):e∈iJ t os w:=jc.2 ⟨x,b,c⟩
theorem zBW(f:OkT t)(h:OkT w):∀(n:Nat) (p:Ba),p.length<=n->(aN t p).isSome=true->HW w (lK t w) p=true->∃e∈eW t w,aT e.p p=true/\(e.o || lL e)=true
 | 0,p,u,_,i=>by
  have g:p=[]:=by simpa using u
  subst g;cases i
 | n+1,p,u,A,i=>by
  obtain⟨_,j⟩:=qO f h;obtain⟨a,g,b,c⟩:=zFK i;obtain⟨m,q,B⟩:=xP f.par g _ _ (bg _) A b;cases r:aN w a with
  | none =>
   cases d:HW w (lK t w) a
   .obtain⟨y,C,rfl,_⟩:=cP q;exact⟨lW y.p,(j _).2 (.inr ⟨y,C,rfl,by rw[r];rfl,d⟩),b,rfl⟩
   .have:=zFp g b;obtain⟨e,v,D,E⟩:=zBW f h n a qd (by rw[q];rfl) d;exact⟨e,v,DF ((zA3 f h).ne e v) D b,E⟩
  | some k =>
   obtain⟨x,z,rfl,rfl⟩:=cP r;rw[r,fe,gy,bh,dw] at c;cases s:isB (lK t w) x.p
   .rw [s,dn] at c;refine⟨⟨x.p,1,false,x.n⟩,(j _).2 (.inl (QT z ?_)),b,?_⟩
    .unfold zAd;rw[s,au qh,q,fe];have:cH m x.n=false:=by
      unfold cH;have:(m.k==x.n.k)=false:=by
       cases F:m.k==x.n.k
       .rfl
       .rw[<- eq_of_beq F,bne,B] at c;cases c
      rw[this];rfl
     rw[this];exact ep.2 rfl
    .unfold lL;rw[c];rfl
   .refine⟨⟨x.p,1,true,x.n⟩,(j _).2 (.inl (QT z ?_)),b,rfl⟩;unfold zAd;rw[s,aw rfl];exact ep.2 rfl
theorem zMn(j:OkT t)(c:OkT w)(p:Ba):aN (iC t (eW t w)) p=aN w p:=by
 obtain⟨J,s⟩:=qO j c;have D:=zA3 j c;have E:=D.ne;rw[zIE j.par J E];cases K:lO (eW t w) p with
 | some e =>
  obtain⟨d,rfl⟩:=zB K;rcases (s e).1 d with h|⟨y,o,rfl,C,_⟩
  .obtain⟨x,b,rfl⟩:=nC h;exact(dI c.srt b).symm
  .show none=aN w y.p;simp_all
 | none =>
  have i:=VO K;have f:∀x∈w,x.p=p->isB (lK t w) p=false/\∃m,aN t p=some m/\cH m x.n=true:=λx b N=>by
   subst N;cases L:isB (lK t w) x.p
   .refine ⟨rfl,?_⟩;cases q:(!(aN t x.p).isSome || !cH ((aN t x.p).getD nd0) x.n)
    .cases g:aN t x.p with
     | none=>rw[g] at q;cases q
     | some m =>
      simp_all
    .have:=i ⟨x.p,1,false,x.n⟩ ((s _).2 (.inl (QT b (by
      unfold zAd;rw[L,au qh,q];exact ep.2 rfl))))
     simp at this
   .have:=i ⟨x.p,1,true,x.n⟩ ((s _).2 (.inl (QT b (by
     unfold zAd;rw[L,aw rfl];exact ep.2 rfl))))
    simp at this
  cases F:zJx (eW t w) p
  .show aN t p=aN w p;cases g:aN w p with
   | some n =>
    obtain⟨x,b,rfl,rfl⟩:=cP g;obtain⟨_,m,d,u⟩:=f x b rfl;obtain⟨y,o,_,rfl⟩:=cP d;rw[d,zEB (j.its y o).2.2.1 (j.its y o).2.2.2 (c.its x b).2.2.1 (c.its x b).2.2.2 u]
   | none =>
    cases A:aN t p with
    | none=>rfl
    | some n =>
     exfalso;obtain⟨y,o,rfl,_⟩:=cP A;cases q:HW w (lK t w) y.p
     .have:=i (lW y.p) ((s _).2 (.inr ⟨y,o,rfl,by rw[g];rfl,q⟩))
      grind [lW]
     .obtain⟨e,d,u,C⟩:=zBW j c _ _ (bg _) (by rw[A];rfl) q;grind [yH]
  .show none=aN w p;cases g:aN w p with
   | none=>rfl
   | some n =>
    exfalso;obtain⟨e,d,u,C⟩:=(yH J E p).1 F;obtain⟨m,r,O⟩:=xP c.par (E e d) _ _ (bg _) (by rw[g];rfl) u;rcases (s e).1 d with h|⟨y,o,rfl,M,_⟩
    .obtain ⟨x,b,rfl⟩:=nC h;rw[show (En.mk x.p 1 (isB (lK t w) x.p) x.n).p=x.p from rfl,dI c.srt b] at r
     have r:=fx r;have G:lL ⟨x.p,1,isB (lK t w) x.p,x.n⟩=false:=by
      unfold lL;simp only[r,bne,O];rfl
     rw[G,dn] at C;have H:=QM c b C;unfold LC at H;simp only[bn,dg] at H;have B:=H.2;obtain⟨v,P,rfl,rfl⟩:=cP g;obtain⟨_,k,Q,_⟩:=f v P rfl;obtain⟨z,R,I,_⟩:=cP Q;have:nJ t w x.p=true:=jj.2 ⟨z,R,by rw[I,g];exact u⟩
     rw[this] at B;cases B
    .rw[show (lW y.p).p=y.p from rfl] at r
     rw[r] at M;cases M
theorem zQG{s:Bl}(m:Srt s)(n:Srt t)(h:∀p,aN s p=aN t p):s=t:=by
 have g:∀{a b:Bl},Srt a->(∀p,aN a p=aN b p)->∀x,x∈a->x∈b:=λi j x k=>by
  have c:=dI i k;rw[j] at c;obtain⟨y,o,d,f⟩:=cP c;have:y=x:=by cases y;cases x;simp only at d f;subst d;subst f;rfl
  simp_all
 grind [AB]
theorem zID(b:OkT t)(c:OkT w):wB t (eW t w)=(w,true):=by
 have e:iC t (eW t w)=w:=zQG (FY b.srt) c.srt (zMn b c);grind [wB,YG]
theorem KI: ∀{ls:List Bk} {t:Bl},rZ t (ls++[l])=if (rZ t ls).2 then (if (wB (rZ t ls).1 l).2 then ((wB (rZ t ls).1 l).1,true) else ([],false)) else ([],false)
 | [],_=>rfl
 | x::r,t=>by
  rw[gn,rZ,rZ];cases (wB t x).2
  .rfl
  .exact KI
end
end Go.Dm
end
