/- Part 11 of roomPlays_card. No condition. -/
import Derived.Test.YtfcindonokhbeaaGreatDoorP09
set_option linter.all false
set_option maxRecDepth 100000
set_option maxHeartbeats 0
section
namespace Go.Dm
open Go
section
variable {c p:Ba}{t:Bl}
theorem zMe{x:Ba}(h:x≠[]):jP c x≠[]:=by
 unfold jP;split
 .exact h
 .simp
theorem zIG{b:Ba}(h:Par t)(g:b≠[]):∀(n:Nat) (q:Ba),q.length<=n->(aN t q).isSome=true->aT b q=true->aZ t b=true
 | 0,q,j,_,d=>by
  have a:q=[]:=qw
  have i:=eR d;simp_all
 | n+1,q,j,k,d=>by
  obtain⟨m,l⟩:=l5.1 k;obtain⟨x,o,rfl,_⟩:=cP l;have e:=h x o;rcases lU g d with a|a
  .simp_all
  .have f:aU x.p≠[]:=by
    intro f;have:=eR a;simp_all
   obtain⟨m,i,_⟩:=dF f e;have r:=uU f;exact zIG h g n _ qd (by rw[i];rfl) a
theorem KY(h:OkT t)(a:p≠[])(e:aZ t p=false):bN t p=t:=by
 unfold bN;refine fw.2 λx b=>?_;cases d:aT p x.p
 .rfl
 .have:=zIG h.par a _ x.p (bg _) (by rw[dI h.srt b];rfl) d;simp_all
theorem sD(a:p≠[]):aZ t p=match aN t p with|some n=>n.k==2|none=>false:=by grind [aZ]
theorem zPh(h:aN t p=none):oV t p=t:=by
 unfold oV;refine fw.2 λx b=>?_;cases d:x.p==p
 .rfl
 .exfalso;have:∀{t:Bl},x∈t->aN t p≠none:=by
   intro t a
   induction t with
   | nil=>simp at a
   | cons y r e =>
    grind [aN]
  simp_all
theorem zJg(h:OkT t)(a:p≠[])(b:aN t p=none):bU t p=t:=by grind [bU,KY,sD,zPh]
def nT(t:Bl)(fo:Bool)(r:Ba × Bool × Int):Prop :=
 r.2.2=0->(r.2.1=true->r.1=[]∨∃n,aN t r.1=some n/\(fo=true->(n.k==3)=false))/\(r.2.1=false->r.1≠[]/\aN t r.1=none)
def InT(t:Bl)(c:Ba):Prop:=c=[]∨∃n,aN t c=some n
theorem ZM{s:Ba}:∀x∈(fP s).1,x≠[]:=by grind [fP]
theorem TV(h:OkT t)(a:InT t c):aZ t (aU c)=true:=by
 rcases a with rfl|⟨n,b⟩
 .rfl
 .obtain⟨x,d,rfl,_⟩:=cP b;exact h.par x d
theorem zN6(h:aZ t c=true):c=[]∨∃n,aN t c=some n/\(n.k==3)=false:=by grind [dF]
theorem nK(h:OkT t){fo:Bool}:∀(f:Nat) (c:Ba) (ps:List Ba) (hops:Nat),(c=[]∨∃n,aN t c=some n/\(fo=true->(n.k==3)=false))->(∀x∈ps,x≠[])->nT t fo (kM t fo f c ps hops)
 | 0,c,ps,hops,j,g=>by intro m;simp[kM] at m
 | f+1,c,[],hops,j,g=>by
  intro _;simp only[kM];exact⟨λ_=>j,λh=>by cases h⟩
 | f+1,c,p::ps,hops,j,g=>by
  have o:=g p cz;have a:∀x∈ps,x≠[]:=λx i=>g x (cu _ i);have b:∀e:Int,e≠0->nT t fo ([],false,e):=λe q m=>absurd m q;simp only[kM];split
  .exact nK h f c ps hops j a
  .split
   .refine nK h f _ ps hops ?_ a;have v:aZ t (aU c)=true:=TV h (j.imp id λ⟨n,w,_⟩=>⟨n,w⟩);exact(zN6 v).imp id λ⟨n,r,s⟩=>⟨n,r,λ_=>s⟩
   .split
    .exact b 9 qh
    .split
     .exact b 12 qh
     .rename_i d _;have d:aZ t c=true:=by simpa using d
      split
      .rename_i u;split
       .refineλ_=>⟨λh=>?_,λ_=>⟨zMe o,u⟩⟩;cases h
       .exact b 6 qh
      .rename_i n u;split
       .split
        .exact b 11 qh
        .split
         .refine nK h f _ _ _ ?_ ?_
          .split
           .exact .inl rfl
           .exact(zN6 d).imp id λ⟨n,r,s⟩=>⟨n,r,λ_=>s⟩
          .intro x i;rcases c9.1 i with i|i
           .exact ZM x i
           .exact a x i
         .rename_i q;exact b _ (by simpa using q)
       .rename_i l;refine nK h f _ ps hops (.inr ⟨n,u,λy=>?_⟩) a;rw[y,ej,gp] at l;simpa using l
theorem HN(h:OkT t)(s:Ba)(fo:Bool):nT t fo (cQ t s fo):=by
 unfold cQ;split
 .grind [nK,ZM]
 .rename_i a;exactλb=>absurd b (by simpa using a)
end
section
def zTp(d:Ba)(hops:Nat):Int:=if decide (8<=hops) then 11 else (fP d).2
def zTo(d:Ba)(hops:Nat)(c:Ba):Ba:=if decide (8<=hops) then c else if (fP d).2==0 then (if zX d then [] else c) else c
def zTq(d:Ba)(hops:Nat)(ps:List Ba):List Ba:=if decide (8<=hops) then ps else if (fP d).2==0 then (fP d).1++ps else ps
def yY(t:Bl)(fo:Bool)(c s:Ba)(ps:List Ba)(hops:Nat):(Bool × Int) × (Ba × List Ba × Nat) :=
 if !aZ t c then ((false,9),(c,ps,hops)) else if decide ((120:Int)<(jP c s).length) then ((false,12),(c,ps,hops))
 else match aN t (jP c s) with
 | none=>if ps == [] then ((false,0),(jP c s,ps,hops)) else ((false,6),(c,ps,hops))
 | some n=>if n.k==3 && (!(ps == []) || fo) then ((true,zTp n.d hops),(zTo n.d hops c,zTq n.d hops ps,hops+1)) else ((true,0),(jP c s,ps,hops))
def pN{s:Ba}:(fP s).1.length<=121:=by
 unfold fP;split
 .simp
 .split
  .simp
  .split
   .rename_i h _ _;have h:¬ (120:Int)<s.length:=by simpa using h
    refine bj (ei ..) (bj (pY s []) ?_);omega
   .simp
def uE{s:Ba}:∀p∈(fP s).1,p.length<=120:=by grind [fP]
structure WI (t:Bl) (fo:Bool) (W:Ba × Bool × Int) (f:Nat) (c:Ba) (ps:List Ba) (hops:Nat) (there:Bool) (e:Int):Prop where
 cl:c.length<=120
 pl:∀p∈ps,p.length<=120
 fl:f<=1400
 hl:hops<=9
 go:e=0->hops<=8/\(9-hops)*130+ps.length<f/\(ps≠[]->there=true/\kM t fo f c ps hops=W)/\(ps=[]->W=(c,there,0))
 no:e≠0->W=([],false,e)
def DZ(c:Ba):(aU c).length<=c.length:=by grind [uU]
section
variable {t:Bl}{fo:Bool}{W:Ba × Bool × Int}{f:Nat}{c p:Ba}{ps:List Ba}{hops:Nat}{there:Bool}
theorem WI.next{a:Ba}(h:WI t fo W (f+1) c (p::ps) hops there 0)(e:a.length<=120)(g:kM t fo (f+1) c (p::ps) hops=kM t fo f a ps hops):WI t fo W f a ps hops true 0:=by
 obtain⟨i,j,l,_⟩:=h.go rfl;obtain⟨o,b⟩:=l ql;rw[g] at b;have m:=h.fl;simp only[bw] at j;refine⟨e,λq n=>h.pl q (cu _ n),qd,qd,λ_=>⟨i,qd,λ_=>⟨rfl,b⟩,λd=>?_⟩,λd=>absurd rfl d⟩
 subst d;obtain⟨k,rfl⟩:∃k,f=k+1:=⟨f-1,qd⟩
 rw[<- b];rfl
theorem WI.there_true(h:WI t fo W f c (p::ps) hops there 0):there=true:=((h.go rfl).2.2.1 ql).1
theorem WI.dot(h:WI t fo W (f+1) c (p::ps) hops there 0)(a:(p == [46])=true):WI t fo W f c ps hops there 0:=by
 rw[h.there_true];exact h.next h.cl (by simp only[kM,a,az])
theorem WI.dots(h:WI t fo W (f+1) c (p::ps) hops there 0)(a:(p == [46])=false)(b:(p == [46,46])=true):WI t fo W f (aU c) ps hops there 0:=by
 rw[h.there_true];exact h.next (bj (DZ c) h.cl) (by simp only[kM,a,b,az,av,ax])
theorem WI.down(h:WI t fo W (f+1) c (p::ps) hops there 0)(H:(p == [46])=false)(r:(p == [46,46])=false):
  WI t fo W f (yY t fo c p ps hops).2.1 (yY t fo c p ps hops).2.2.1 (yY t fo c p ps hops).2.2.2 (yY t fo c p ps hops).1.1 (yY t fo c p ps hops).1.2:=by
 obtain ⟨B,C,I,_⟩:=h.go rfl;obtain⟨N,i⟩:=I ql;have J:=h.fl;simp only[bw] at C;have j:∀q∈ps,q.length<=120:=λq r=>h.pl q (cu _ r);have o:∀{e:Int} {D:Ba} {w:List Ba} {E:Nat} {K:Bool},e≠0->W=([],false,e)->D.length<=120->(∀q∈w,q.length<=120)->E<=9->WI t fo W f D w E K e :=
  λu L a b g=>⟨a,b,qd,g,λl=>absurd l u,λ_=>L⟩
 simp only[kM,H,r,av,ax] at i;unfold yY;split
 .rename_i F;grind [WI]
 .rename_i F;rw[au F] at i;split
  .rename_i z;grind [WI]
  .rename_i z;rw[au z] at i;have x:(jP c p).length<=120:=by simp only[ew] at z;omega
   cases G:aN t (jP c p) with
   | none =>
    rw[G] at i;simp only at i ⊢;split
    .rename_i m;rw[aw m] at i;have m:=eq_of_beq m;subst m;simp only;exact⟨x,j,qd,qd,λ_=>⟨B,by simp only[da] at C ⊢;omega,λl=>absurd rfl l,λ_=>i.symm⟩,λl=>absurd rfl l⟩
    .rename_i m;rw[au m] at i;show WI t fo W f c ps hops false 6;exact o qh i.symm h.cl j qd
   | some n =>
    rw[G] at i;simp only at i ⊢;split
    .rename_i v;rw[aw v] at i;unfold zTp zTo zTq;simp only at i ⊢;split
     .rename_i y;rw[aw y] at i;exact o qh i.symm h.cl j qd
     .rename_i y;rw[au y] at i;simp only[ew] at y;have M:=pN (s:=n.d);have A:=uE (s:=n.d);cases u:((fP n.d).2==0)
      .rw[u] at i;simp only[av,ax] at i ⊢;exact o (by simpa using u) i.symm h.cl j qd
      .rw [u] at i;simp only[az] at i ⊢;have u:=eq_of_beq u;rw[u];refine⟨by split;simp;exact h.cl,λq r=>?_,qd,qd,λ_=>⟨qd,by rw[bo];omega,λ_=>⟨rfl,i⟩,λl=>?_⟩,λl=>absurd rfl l⟩
       .rcases c9.1 r with r|r
        .exact A q r
        .exact j q r
       .rw[l] at i;obtain⟨k,rfl⟩:∃k,f=k+1:=⟨f-1,qd⟩
        rw[<- i];rfl
    .rename_i v;rw[au v] at i;simp only;refine⟨x,j,qd,qd,λ_=>⟨B,qd,λ_=>⟨rfl,i⟩,λl=>?_⟩,λl=>absurd rfl l⟩
     subst l;obtain⟨k,rfl⟩:∃k,f=k+1:=⟨f-1,qd⟩
     rw[<- i];rfl
end
def tD{t:Bl}{fo:Bool}:∀(f:Nat) (c:Ba) (ps:List Ba) (hops:Nat),c.length<=120->(kM t fo f c ps hops).1.length<=120
 | 0,_,_,_,_=>by simp[kM]
 | _+1,_,[],_,h=>h
 | f+1,c,p::ps,hops,h=>by
  simp only[kM];split
  .exact tD f _ _ _ h
  .split
   .exact tD f _ _ _ (bj (DZ c) h)
   .split
    .simp
    .split
     .simp
     .rename_i b;have a:(jP c p).length<=120:=by simp only[ew] at b;omega
      split
      .split
       .exact a
       .simp
      .split
       .split
        .simp
        .split
         .refine tD f _ _ _ ?_;split
          .simp
          .exact h
         .simp
       .exact tD f _ _ _ a
def yL{t:Bl}{s:Ba}{fo:Bool}:(cQ t s fo).1.length<=120:=by
 unfold cQ;split
 .exact tD _ _ _ _ ql
 .simp
end
structure RC where
 k:Int
 p:Int
 to':Int
 m:Int
 t:Int
 at':Int
 n:Int
 how:Int
 x:Nat
 d:Ba
 s:Ba
def RC.cs(x:RC):List PV:=[.i .i64 x.k,.i .i64 x.p,.i .i64 x.to',.i .i64 x.m,.i .i64 x.t,.i .i64 x.at',.i .i64 x.n,.i .i64 x.how,.f x.x,.sl 1 (bS x.d),.s x.s]
def zRU(l:List RC):Bc:=l.map RC.cs
def zG1(l:List RC):(zRU l).length=l.length:=by simp[zRU]
attribute [go_sem] zG1
def YW(n how:Int)(s:Ba):Ba :=
 if how % 24==0 then 47::xQ n else if how % 24==1 then xQ n++[47] else if how % 24==2 then 46::47::xQ n
 else if how % 24==3 then xQ n++[47,46,46] else if how % 24==4 then xQ n++[47,46,46,47]++BN n else if how % 24==5 then xQ n++[47,46]
 else if how % 24==6 then s else if how % 24==7 then [47] else if how % 24==8 then BN n++[47,47]++BN (IntKind.i64.wrap (n.tdiv 6)) else xQ n
def YX{n how:Int}{s:Ba}{b:Nat}(a:100<=b)(c:s.length<=b):(YW n how s).length<=b:=by
 have d:=xR n;have e:=jQ n;have f:=jQ (IntKind.i64.wrap (n.tdiv 6));unfold YW
 repeat' split
 all_goals first|(simp only[bo,bw,da];omega)|omega
def NK(k:Int)(x:RC):Cl where
 k:=k
 p:=YW x.p x.how x.s
 to':=if k==9 then YW x.to' (IntKind.i64.wrap (x.how.tdiv 24)) x.s else []
 m:=if k==1 || k==2 || k==10 then x.m % 4099-1 else 0
 t:=if k==1 || k==2 || k==7 || k==11 then HF x.t x.x else 0
 at':=if k==3 || k==14 then x.at' % 30-1 else 0
 n:=if k==4 || k==14 then x.n % 40-1 else 0
 d:=if k==2 || k==3 then (if x.n.tmod 67==66 then List.replicate (1980+(x.at' % 40).toNat) 0 else x.d.take 60) else if k==7 then (if x.n.tmod 17==16 then x.d.take 200 else QC x.to') else []
structure OkC (c:Cl):Prop where
 p:c.p.length<=9223372036854775807
 q:c.to'.length<=9223372036854775807
 t:c.t<18446744073709551616
 d:c.d.length<=140737488355328
 a:-9223372036854775808<=c.at'/\c.at'<=9223372036854775807
def zKB{k:Int}{x:RC}(a:x.s.length<=9223372036854775807)(b:x.x<18446744073709551616):OkC (NK k x):=by
 have c:=fy x.at' (show (30:Int)≠0 by decide)
 have d:=gl x.at' (show (0:Int)<30 by decide)
 have e:=fy x.at' (show (40:Int)≠0 by decide)
 have f:=gl x.at' (show (0:Int)<40 by decide)
 refine⟨YX qd a,?_,?_,?_,?_⟩
 .simp only[NK];split
  .exact YX qd a
  .simp
 .simp only[NK];split
  .exact zNy b
  .omega
 .have:=zH4 x.to';simp only[NK]
  repeat' split
  all_goals first|(simp only[lz];omega)|(simp only[cr];omega)|omega|simp
 .simp only[NK];split<;>omega
def zOe(k:Int):k=1∨k=2∨k=3∨k=4∨k=7∨k=9∨k=10∨k=11∨k=14 ∨
  ((k==1)=false/\(k==2)=false/\(k==3)=false/\(k==4)=false/\(k==7)=false/\(k==9)=false/\(k==10)=false/\(k==11)=false/\(k==14)=false):=by
 simp only[ji];omega
section
variable {k:Nat}{id:Int}{C:Int->Prop}
structure Ly where
 i:Int
 p:Int
 s:Int
 f:Bool
abbrev Bm:=List Ly
variable {l:Bm}{x y:Ly}
def Ly.cs(x:Ly):List PV:=[.i .i64 x.i,.i .i64 x.p,.i .i64 x.s,.b x.f]
def Ly.cv(x:Ly):Bf:=[.p (.i .i64 x.i),.p (.i .i64 x.p),.p (.i .i64 x.s),.p (.b x.f)]
def ly0: Ly:=⟨0,0,0,false⟩
def cZ(l:Bm):Bc:=l.map Ly.cs
theorem kO(l:Bm):(cZ l).length=l.length:=by simp[cZ]
theorem zLk: cZ []=[]:=rfl
theorem iG(h:l[k]?=some x):(cZ l).getD k []=[.i .i64 x.i,.i .i64 x.p,.i .i64 x.s,.b x.f]:=by
 simp only[cZ,ed,dv,h];rfl
theorem zB9(l:Bm):(∀x∈cZ l,x.length=4)=True:=fr λx a=>by
 obtain⟨y,_,rfl⟩:=cg.1 a;rfl
theorem zGM(a:Bm)(n:Nat):(cZ a).take n=cZ (a.take n):=by simp[cZ]
theorem zGK(a:Bm)(n:Nat):(cZ a).drop n=cZ (a.drop n):=by simp[cZ]
theorem zLj(a b:Bm):cZ a++cZ b=cZ (a++b):=by simp[cZ]
theorem zGL(t:Bm)(i p s:Int)(f:Bool):cZ t++[[.i .i64 i,.i .i64 p,.i .i64 s,.b f]]=cZ (t++[⟨i,p,s,f⟩]):=by simp[cZ,Ly.cs]
theorem zCa(t:Bm)(k:Nat)(i p s:Int)(f:Bool):(cZ t).set k [.i .i64 i,.i .i64 p,.i .i64 s,.b f]=cZ (t.set k ⟨i,p,s,f⟩):=by simp[cZ,Ly.cs,jn]
theorem zSh(x:Ly):Ly.mk x.i x.p x.s x.f=x:=rfl
def cU(l:List Int):Bc:=l.map λn=>[.i .i64 n]
theorem fV(l:List Int):(cU l).length=l.length:=by simp[cU]
theorem zLs: cU []=[]:=rfl
theorem mU{l:List Int}{x:Int}(h:l[k]?=some x):(cU l).getD k []=[.i .i64 x]:=by grind [cU]
theorem zLt(l:List Int):(∀x∈cU l,x.length=1)=True:=fr λx a=>by
 obtain⟨y,_,rfl⟩:=cg.1 a;rfl
theorem zGU(a:List Int)(n:Nat):(cU a).take n=cU (a.take n):=by simp[cU]
theorem zGS(a:List Int)(n:Nat):(cU a).drop n=cU (a.drop n):=by simp[cU]
theorem zLr(a b:List Int):cU a++cU b=cU (a++b):=by simp[cU]
theorem zGT(t:List Int)(i:Int):cU t++[[.i .i64 i]]=cU (t++[i]):=by simp[cU]
def fQ(l:Bm)(id:Int):Option Ly:=l.find? λx=>x.i==id
theorem oW(h:fQ l id=some x):x∈l/\x.i=id:=⟨ml h,eq_of_beq (mj (p:=λz:Ly=>z.i==id) h)⟩
theorem zLQ(h:fQ l id=none):∀x∈l,x.i≠id:=λx a e=>by
 have:=kr.1 h x a;simp_all
theorem tP(x:Ly)(l:Bm)(id:Int):fQ (x::l) id=if x.i==id then some x else fQ l id:=by grind [fQ]
def eP(l:Bm):Nat->Int->List Int
 | 0,_=>[]
 | n+1,id=>match fQ l id with
  | some x=>x.i::eP l n x.p
  | none=>[]
def cA(l:Bm)(id:Int):List Int:=(eP l (l.length+1) id).reverse
theorem JU(l:Bm):∀(n:Nat) (id:Int),(eP l n id).length<=n
 | 0,_=>bg _
 | n+1,id=>by
  simp only[eP];split
  .simp only[bw];have:=JU l n;exact Nat.succ_le_succ (this _)
  .simp_all
theorem JT(l:Bm)(id:Int):(cA l id).length<=l.length+1:=by grind [cA,JU]
def tE(l:Bm):Prop:=l.Pairwise λx y=>x.i<y.i
theorem qH(h:tE l)(a:x∈l):fQ l x.i=some x:=by
 induction l with
 | nil=>cases a
 | cons y l c =>
  rw[tP];have b:=dx.1 h;rcases bx.1 a with rfl|a
  .simp_all
  .rw[au (by have:=b.1 x a;simp;omega)];exact c b.2 a
def gO(l:Bm)(k:Nat)(id:Int):Prop:=id=0∨∃j y,j<k/\l[j]?=some y/\y.i=id/\y.f=true
structure OkG (l:Bm):Prop where
 inc:tE l
 lo:∀x∈l,1<=x.i/\x.i<=2147483647
 par:∀k x,l[k]?=some x->gO l k x.p
 sec:∀k x,l[k]?=some x->gO l k x.s
 two:∀x∈l,x.s≠0->x.p≠0/\x.p≠x.s
 chn:∀x∈l,(cA l x.i).length<=12
theorem zCm(h:tE l){j:Nat}(b:l[j]?=some x)(c:l[k]?=some y)(a:j<k):x.i<y.i:=by
 obtain⟨d,f⟩:=bz.1 b;obtain⟨e,g⟩:=bz.1 c;have:=gg.1 h j k d e a;simp_all
def BW: Bm->List Int->List Int
 | [],_=>[]
 | x::r,W=>if W.contains x.i then BW r (x.p::x.s::W)++[x.i] else BW r W
def lT(l:Bm)(id:Int):List Int:=BW l.reverse [id]
def jV(l:Bm)(ids:List Int):Bm:=l.filter λx=>ids.any λid=>(lT l id).contains x.i
def rE(l:Bm)(a b:Int):Int:=(((lT l a).filter λx=>(lT l b).contains x).getLast?).getD 0
theorem NG: ∀(r:Bm) (W:List Int),(BW r W).length<=r.length
 | [],_=>bg _
 | x::r,W=>by
  simp only[BW];split
  .rw[bo];have:=NG r (x.p::x.s::W);simp only[bw,da];omega
  .have:=NG r W;simp only[bw];omega
theorem pW(l:Bm)(id:Int):(lT l id).length<=l.length:=by
 have:=NG l.reverse [id]
 rwa[pk] at this
theorem wR: ∀{r:Bm} {W:List Int} {a:Int},a∈BW r W->∃x∈r,x.i=a
 | [],_,_,h=>by cases h
 | x::r,W,a,h=>by
  simp only[BW] at h;split at h
  .rcases c9.1 h with h|h
   .obtain⟨y,b,c⟩:=wR h;grind
   .simp_all
  .obtain⟨y,b,c⟩:=wR h;grind
theorem NF: ∀{r:Bm} {W:List Int},r.Pairwise (λx y=>y.i<x.i)->(BW r W).Pairwise (· < ·)
 | [],_,_=>List.Pairwise.nil
 | x::r,W,h=>by
  have c:=dx.1 h;simp only[BW];split
  .refine ic.2 ⟨NF c.2,ky _ _,λa e b d=>?_⟩;rw[ep] at d;subst d;obtain⟨y,f,rfl⟩:=wR e;exact c.1 y f
  .exact NF c.2
theorem BV(h:tE l)(id:Int):(lT l id).Pairwise (· < ·):=by
 refine NF ?_;rw[List.pairwise_reverse];exact h
theorem wS: ∀{r:Bm} {W:List Int} {x:Ly},x∈r->x.i∈W->x.i∈BW r W
 | [],_,_,h,_=>by cases h
 | y::r,W,x,h,a=>by
  simp only[BW];rcases bx.1 h with rfl|h
  .rw[aw (by simpa using a)];exact jy _ (ep.2 rfl)
  .split
   .exact fg _ (wS h (cu _ (cu _ a)))
   .exact wS h a
theorem DD: ∀{r:Bm} {W:List Int} {pre post:Bm} {x y:Ly},r.Pairwise (λx y=>y.i<x.i)->r=pre++x::post->y∈post->x.i∈BW r W->(y.i=x.p∨y.i=x.s)->y.i∈BW r W
 | [],_,pre,_,_,_,_,e,_,_,_=>by simp at e
 | z::r,W,[],post,x,y,f,e,d,a,h=>by
  simp only[e9,fk] at e;obtain⟨rfl,rfl⟩:=e;simp only[BW] at a ⊢;split
  .refine fg _ (wS d ?_);rcases h with h|h<;>simp[h]
  .rename_i c;rw[au c] at a;obtain⟨u,j,m⟩:=wR a;have:=(dx.1 f).1 u j;omega
 | z::r,W,q::pre,post,x,y,f,e,d,a,h=>by
  simp only[gn,fk] at e;obtain⟨rfl,rfl⟩:=e;have b:=dx.1 f;have g:x∈pre++x::post:=jy _ cz;simp only[BW] at a ⊢;split
  .rename_i c;rw[aw c] at a;rcases c9.1 a with a|a
   .exact fg _ (DD b.2 rfl d a h)
   .rw[ep] at a;have:=b.1 x g;omega
  .rename_i c;rw[au c] at a;exact DD b.2 rfl d a h
theorem yR: ∀{r:Bm} {W:List Int},(∀x∈r,x.i∈W->C x.i)->(∀x∈r,C x.i->∀y∈r,(y.i=x.p∨y.i=x.s)->C y.i)->∀a∈BW r W,C a
 | [],_,_,_,a,h=>by cases h
 | x::r,W,f,d,a,h=>by
  simp only[BW] at h;split at h
  .rename_i n;have g:C x.i:=f x cz (by simpa using n);rcases c9.1 h with h|h
   .refine yR (λy c b=>?_) (λy c j z m=>d y (cu _ c) j z (cu _ m)) a h;rcases bx.1 b with e|b
    .exact d x cz g y (cu _ c) (.inl e)
    .rcases bx.1 b with e|b
     .exact d x cz g y (cu _ c) (.inr e)
     .exact f y (cu _ c) b
   .rw[ep] at h;subst h;exact g
  .exact yR (λy c=>f y (cu _ c)) (λy c j z m=>d y (cu _ c) j z (cu _ m)) a h
theorem zBQ{a:Int}(h:a∈lT l id):∃x∈l,x.i=a:=by
 obtain⟨x,b,c⟩:=wR h;grind
theorem wQ(h:x∈l):x.i∈lT l x.i:=wS (kz.2 h) (ep.2 rfl)
theorem ND(a:OkG l)(d:x∈l)(f:y∈l)(h:x.i∈lT l id)(b:y.i=x.p∨y.i=x.s):y.i∈lT l id:=by
 have g:(l.reverse).Pairwise λx y=>y.i<x.i:=by rw[List.pairwise_reverse];exact a.inc
 have r:y.i<x.i:=by
  obtain ⟨k,c⟩:=eh.1 d;have m:∀q,gO l k q->y.i=q->y.i<x.i:=λq n e=>by
   rcases n with n|⟨j,z,t,u,A,_⟩
   .have:=(a.lo y f).1;omega
   .have:=zCm a.inc u c t;omega
  rcases b with b|b
  .exact m _ (a.par k x c) b
  .exact m _ (a.sec k x c) b
 obtain⟨v,o,e⟩:=jr (kz.2 d);have w:y∈l.reverse:=kz.2 f;grind [List.mem_cons_self,lT,DD]
theorem tG(h1:∀x∈l,x.i=id->C x.i)(c:∀x∈l,C x.i->∀y∈l,(y.i=x.p∨y.i=x.s)->C y.i):∀a∈lT l id,C a:=by
 refine yR (λx b d=>h1 x (kz.1 b) (ep.1 d)) λx b e y f=>c x (kz.1 b) e y (kz.1 f)
theorem zAU: ∀{a b:List Int},a.Pairwise (· < ·)->b.Pairwise (· < ·)->(∀x,x∈a↔x∈b)->a=b
 | [],[],_,_,_=>rfl
 | [],y::b,_,_,h=>by have:=(h y).2 cz;cases this
 | x::a,[],_,_,h=>by have:=(h x).1 cz;cases this
 | x::a,y::b,j,m,h=>by
  have d:=dx.1 j;have e:=dx.1 m;have g:x=y:=by
   rcases bx.1 ((h x).1 cz) with c|c
   .exact c
   .rcases bx.1 ((h y).2 cz) with i|i
    .exact i.symm
    .have:=e.1 x c;have:=d.1 y i;omega
  subst g;rw[zAU d.2 e.2 λz=>⟨λf=>?_,λf=>?_⟩]
  .rcases bx.1 ((h z).1 (cu _ f)) with c|c
   .have:=d.1 z f;omega
   .exact c
  .rcases bx.1 ((h z).2 (cu _ f)) with c|c
   .have:=e.1 z f;omega
   .exact c
attribute [go_sem] kO zLk zB9 zGM zGK zLj zGL zCa zSh fV zLs zLt zGU zGS zLr zGT Ly.cv
end
section
variable {l:Bm}{id:Int}{x:Ly}
def zTk(l:Bm)(id:Int):Bool:=id==0 || (match fQ l id with
 | some y=>y.f
 | none=>false)
def zTl(l:Bm)(k:Nat)(x:Ly):Bool :=
 !(decide (x.i<1) || (decide (2147483647<x.i) || (decide ((0:Int)<(k:Int)) && decide (x.i<=((l[k-1]?).getD ly0).i)))) && ((zTk (l.take k) x.p && zTk (l.take k) x.s) &&
 (!((x.s != 0) && ((x.p==0) || (x.p==x.s))) && decide (((cA (l.take (k+1)) x.i).length:Int)<=12)))
def zMC(l:Bm):Nat->Bool
 | 0=>true
 | k+1=>zMC l k && (match l[k]? with
  | some x=>zTl l k x
  | none=>true)
def zOp(l:Bm):Bool:=zMC l l.length && decide ((l.length:Int)<=40)
theorem zCy: ∀{n k:Nat} {x:Ly},zMC l n=true->k<n->l[k]?=some x->zTl l k x=true
 | 0,_,_,_,h,_=>by omega
 | n+1,k,x,h,b,a=>by
  simp only[zMC,bn] at h;by_cases e:k=n
  .simp_all
  .exact zCy h.1 qd a
theorem zR5(h:∀k x y,l[k]?=some x->l[k+1]?=some y->x.i<y.i):tE l:=by
 have a:∀(d k:Nat) (x y:Ly),l[k]?=some x->l[k+d+1]?=some y->x.i<y.i:=by
  intro d
  induction d with
  | zero=>omega
  | succ d e =>
   grind
 refine gg.2 λi j b f c=>a (j-i-1) i _ _ (ay b) ?_;rw[show i+(j-i-1)+1=j by omega]
 simp_all
theorem zHl(h:tE l){j n:Nat}{y:Ly}(a:l[j]?=some y)(b:j<n):fQ (l.take n) y.i=some y:=by
 refine qH (j7 (mi n l) h) (eh.2 ⟨j,?_⟩);simp_all
theorem rY(h:∀x∈l,1<=x.i):fQ l 0=none:=by
 refine kr.2 λx a=>?_;grind
theorem mJ(h:fQ l id=none)(n:Nat):eP l n id=[]:=by
 cases n with
 | zero=>rfl
 | succ n=>grind [eP]
theorem tK(hi:tE l)(a:∀x∈l,1<=x.i)(e:∀k x,l[k]?=some x->gO l k x.p):∀(k:Nat) {x:Ly} {j n m:Nat},l[k]?=some x->k<j->k+1<=n->k+1<=m->eP (l.take j) n x.i=eP l m x.i:=by
 intro k
 induction k using Nat.strongRecOn with
 | ind k f =>
  intro x j n m b g u v;obtain⟨c,rfl⟩:∃c,n=c+1:=⟨n-1,qd⟩
  obtain⟨d,rfl⟩:∃d,m=d+1:=⟨m-1,qd⟩
  simp only[eP,zHl hi b g,qH hi (dr b)]
  congr 1
  rcases e k x b with h|⟨q,y,o,r,s,_⟩
  .rw[h,mJ (rY λz t=>a z (lg t)),mJ (rY a)]
  .rw[<- s];exact f q o r qd qd qd
theorem yU(hi:tE l)(a:∀x∈l,1<=x.i)(b:∀k x,l[k]?=some x->gO l k x.p)(c:x∈l):cA l x.i=cA l x.p++[x.i]:=by
 obtain⟨k,d⟩:=eh.1 c;have f:=(bz.1 d).1;unfold cA;rw[show eP l (l.length+1) x.i=x.i::eP l l.length x.p by simp only[eP,qH hi c],List.reverse_cons]
 congr 2
 rcases b k x d with g|⟨q,y,o,e,h,_⟩
 .rw[g,mJ (rY a),mJ (rY a)]
 .rw[<- h,<- tK hi a b q e (j:=l.length) (n:=l.length) (m:=l.length) qd qd qd,<- tK hi a b q e (j:=l.length) (n:=l.length) (m:=l.length+1) qd qd qd]
theorem tL(a:∀x∈l,1<=x.i):cA l 0=[]:=by grind [cA,mJ,rY]
theorem OkG.lo1(h:OkG l):∀x∈l,1<=x.i:=λx a=>(h.lo x a).1
theorem OkG.step(h:OkG l)(a:x∈l):cA l x.i=cA l x.p++[x.i]:=yU h.inc h.lo1 h.par a
theorem zJF(k:Nat)(h:zTk (l.take k) id=true):gO l k id:=by
 unfold zTk at h;rw[fj] at h;rcases h with h|h
 .exact .inl (by simpa using h)
 .split at h
  .rename_i y c;obtain⟨d,e⟩:=oW c;obtain⟨j,a⟩:=eh.1 d;rw[gq] at a;split at a
   .rename_i b;exact .inr ⟨j,y,b,a,e,h⟩
   .cases a
  .cases h
theorem zJn(h:zOp l=true):OkG l/\l.length<=40:=by
 unfold zOp at h;simp only[bn,ew] at h;obtain⟨q,u⟩:=h;have g:∀k x,l[k]?=some x->zTl l k x=true:=λk x a=>zCy q (bz.1 a).1 a;have b:∀k x,l[k]?=some x->(1<=x.i/\x.i<=2147483647)/\(0<k->((l[k-1]?).getD ly0).i<x.i)/\gO l k x.p/\gO l k x.s/\(x.s≠0->x.p≠0/\x.p≠x.s)/\(cA (l.take (k+1)) x.i).length<=12:=λk x a=>by
  have:=g k x a;unfold zTl at this;grind [zJF]
 have c:tE l:=zR5 λk x y a v=>by
  grind
 have e:∀x∈l,1<=x.i/\x.i<=2147483647:=λx a=>by
  grind [List.mem_iff_getElem?.1]
 have d:∀k x,l[k]?=some x->gO l k x.p:=λk x a=>(b k x a).2.2.1;refine⟨⟨c,e,d,λk x a=>(b k x a).2.2.2.1,λx a=>?_,λx a=>?_⟩,qd⟩
 .obtain⟨k,f⟩:=eh.1 a;exact(b k x f).2.2.2.2.1
 .obtain⟨k,f⟩:=eh.1 a;have o:=(b k x f).2.2.2.2.2;have r:=(bz.1 f).1;unfold cA at o ⊢;rw[<- tK c (λz t=>(e z t).1) d k f (j:=k+1) (n:=(l.take (k+1)).length+1) (m:=l.length+1) qd ri qd];exact o
end
end Go.Dm
end
section
namespace Go.Dm
open Go
structure En where
 p:Ba
 k:Int
 o:Bool
 n:Nd
abbrev Bk:=List En
def En.cs(x:En):List PV:=[.s x.p,.i .i64 x.k,.b x.o,.i .i64 x.n.k,.i .i64 x.n.m,.f x.n.t,.sl 1 (bS x.n.d)]
def fG(l:Bk):Bc:=l.map En.cs
def tM(l:Bk):(fG l).length=l.length:=by simp[fG]
theorem zB6:fG []=[]:=rfl
def rX{t:Bk}{k:Nat}{x:En}(h:t[k]?=some x):(fG t).getD k []=[.s x.p,.i .i64 x.k,.b x.o,.i .i64 x.n.k,.i .i64 x.n.m,.f x.n.t,.sl 1 (bS x.n.d)]:=by
 simp only[fG,ed,dv,h];rfl
def zB7(t:Bk):(∀x∈fG t,x.length=7)=True:=fr λx a=>by
 obtain⟨y,_,rfl⟩:=cg.1 a;rfl
def zGF(a:Bk)(n:Nat):(fG a).take n=fG (a.take n):=by simp[fG]
def zGC(a:Bk)(n:Nat):(fG a).drop n=fG (a.drop n):=by simp[fG]
def zB5(a b:Bk):fG a++fG b=fG (a++b):=by simp[fG]
def zGD(t:Bk)(p:Ba)(k:Int)(o:Bool)(nk nm:Int)(nt:Nat)(d:Ba):fG t++[[.s p,.i .i64 k,.b o,.i .i64 nk,.i .i64 nm,.f nt,.sl 1 (bS d)]]=fG (t++[⟨p,k,o,⟨nk,nm,nt,d⟩⟩]):=by simp[fG,En.cs]
theorem zRT(x:En):En.mk x.p x.k x.o x.n=x:=rfl
attribute [go_sem] tM zB6 zB7 zGF zGC zB5 zGD zRT
def lL(x:En):Bool:=x.k==2 || x.n.k != 2
def wX(t:Bl)(x:En):Bool:=x.o || (lL x || !aZ t x.p)
def goE(t:Bl)(x:En)(y:It):Bool:=y.p==x.p || (wX t x && aT x.p y.p)
def rH(t:Bl)(x:En):Bl:=t.filter λy=>!goE t x y
def oL(t:Bl)(x:En):Bl:=if x.k==2 then rH t x else wL (rH t x) x.p x.n
def iC(t:Bl)(l:Bk):Bl:=l.foldl oL t
def wB(t:Bl)(l:Bk):Bl × Bool:=if lC (iC t l) then (iC t l,true) else ([],false)
def FE{t:Bl}(h:Srt t)(x:En):Srt (rH t x):=h.filter _
def zIC{t:Bl}(h:Srt t)(x:En):Srt (oL t x):=by
 unfold oL;split
 .exact FE h x
 .exact CX (FE h x)
def FY:∀{l:Bk} {t:Bl},Srt t->Srt (iC t l)
 | [],_,h=>h
 | x::l,t,h=>FY (l:=l) (zIC h x)
def WQ(t:Bl)(x:En):(rH t x).length<=t.length:=ei ..
def XL(t:Bl)(x:En):(oL t x).length<=t.length+1:=by
 have:=WQ t x;have:=qV (rH t x) x.p x.n;unfold oL;split<;>omega
def zMj{t:Bl}{x:En}:∀y∈rH t x,(y.p==x.p)=false:=λy a=>by
 have:=(dy.1 a).2;simp only[goE,dg,ij] at this;exact this.1
def zIB{t:Bl}{x:En}{y:It}(h:y∈oL t x):y=⟨x.p,x.n⟩∨y∈t:=by
 unfold oL at h;split at h
 .exact .inr (dy.1 h).1
 .rcases qT h with h|h
  .exact .inl h
  .exact .inr (dy.1 h).1
end Go.Dm
namespace Go.Dm
open Go
def zOj(x:En):Bool:=!(x.p == []) && (bZ x.p && (if x.k==2 then !x.o && nQ x.n else (x.k==1 && aO x.n) && (!x.o || x.n.k==2)))
structure OkE (l:Bk):Prop where
 may:∀x∈l,zOj x=true
 srt:l.Pairwise λx y=>cC x.p y.p=true
 open_:l.Pairwise λy x=>(lL y && aT y.p x.p)=false
 tlen:∀x∈l,x.n.t<18446744073709551616
 len:l.length<=1000
def OkE.plen{l:Bk}(h:OkE l):∀x∈l,x.p.length<=120:=λx a=>by
 have:=h.may x a;simp only[zOj,bn] at this;exact vS this.2.1
def OkE.dlen{l:Bk}(h:OkE l):∀x∈l,x.n.d.length<=2000:=λx b=>by
 have:=h.may x b;simp only[zOj,bn] at this;have a:=this.2.2;split at a
 .simp only[bn,nQ,dq] at a;omega
 .simp only[bn] at a;exact kS a.1.2
end Go.Dm
namespace Go.Dm
open Go
def XM(t:Bl)(l:Bk):∀k,(iC t (l.take k)).length<=t.length+k
 | 0=>by simp[iC]
 | k+1=>by
  have a:=XM t l k;rcases cc k l.length with h|h
  .have e:iC t (l.take (k+1))=oL (iC t (l.take k)) l[k]:=by
    unfold iC;rw[dm,ay h,nc];rfl
   rw[e];have:=XL (iC t (l.take k)) l[k];omega
  .rw[bu qd];rw[bu qd] at a;omega
def FX{y:It}:∀{l:Bk} {t:Bl},y∈iC t l->y∈t∨∃x∈l,y=⟨x.p,x.n⟩
 | [],_,h=>.inl h
 | x::l,t,h=>by
  rcases FX (l:=l) (t:=oL t x) h with h|⟨z,a,e⟩
  .rcases zIB h with h|h
   .exact .inr ⟨x,cz,h⟩
   .exact .inl h
  .exact .inr ⟨z,cu _ a,e⟩
end Go.Dm
end
section
namespace Go.Dm
open Go
def EG(ls:List Bk):Bc:=ls.map λl=>[.sl 7 (fG l)]
def zCb(ls:List Bk):(EG ls).length=ls.length:=by simp[EG]
theorem zLo:EG []=[]:=rfl
def zPn{t:List Bk}{k:Nat}{x:Bk}(h:t[k]?=some x):(EG t).getD k []=[.sl 7 (fG x)]:=by
 simp only[EG,ed,dv,h];rfl
def zLp(t:List Bk):(∀x∈EG t,x.length=1)=True:=fr λx a=>by
 obtain⟨y,_,rfl⟩:=cg.1 a;rfl
def zGR(a:List Bk)(n:Nat):(EG a).take n=EG (a.take n):=by simp[EG]
def zGP(a:List Bk)(n:Nat):(EG a).drop n=EG (a.drop n):=by simp[EG]
def zLn(a b:List Bk):EG a++EG b=EG (a++b):=by simp[EG]
def zGQ(t:List Bk)(l:Bk):EG t++[[.sl 7 (fG l)]]=EG (t++[l]):=by simp[EG]
attribute [go_sem] zCb zLo zLp zGR zGP zLn zGQ
def rZ:Bl->List Bk->Bl × Bool
 | t,[]=>(t,true)
 | t,l::r=>if (wB t l).2 then rZ (wB t l).1 r else ([],false)
def zMI{t:Bl}{l:Bk}(c:OkT t)(d:OkE l)(h:(wB t l).2=true):OkT (wB t l).1:=by
 unfold wB at h ⊢;split at h
 .rename_i b;rw[aw b];refine GR (λy a=>?_) b;rcases FX a with a|⟨x,e,rfl⟩
  .exact c.tlen y a
  .exact d.tlen x e
 .cases h
section
variable {os:List Ba}{w:Bl}
def isB(l:List Ba)(p:Ba):Bool:=l.any λq=>q==p
def zG(t:Bl)(p:Ba):Bool:=!(p == []) && aZ t p
def nJ(t w:Bl)(p:Ba):Bool:=t.any λy=>(aN w y.p).isSome && aT p y.p
def LC(t w:Bl)(x:It):Bool:=(x.n.k==2 && (zG t x.p && !decide (((eZ t x.p).length:Int)<2))) && !nJ t w x.p
def lK(t w:Bl):List Ba:=(w.filter (LC t w)).map λx=>x.p
def zAd(t:Bl)(os:List Ba)(x:It):Bk :=
 if isB os x.p then [⟨x.p,1,true,x.n⟩] else if (!(aN t x.p).isSome || !cH ((aN t x.p).getD nd0) x.n) then [⟨x.p,1,false,x.n⟩] else []
def iJ(t:Bl)(os:List Ba)(w:Bl):Bk:=w.flatMap (zAd t os)
def zFJ(w:Bl)(os:List Ba):Nat->Ba->Bool
 | 0,_=>false
 | n+1,q=>if q == [] then false else if (!(aN w q).isSome || (((aN w q).getD nd0).k != 2 || isB os q)) then true else zFJ w os n (aU q)
def HW(w:Bl)(os:List Ba)(p:Ba):Bool:=zFJ w os p.length (aU p)
def zAG(l:Bk)(p:Ba):Nat:=(l.takeWhile λx=>cC x.p p).length
def zCe(l:Bk)(e:En):Bk:=l.take (zAG l e.p)++e::l.drop (zAG l e.p)
def lW(p:Ba):En:=⟨p,2,false,nd0⟩
def ES(w:Bl)(os:List Ba)(out:Bk)(y:It):Bk :=
 if ((aN w y.p).isSome || HW w os y.p) then out else zCe out (lW y.p)
def eW(t w:Bl):Bk:=t.foldl (ES w (lK t w)) (iJ t (lK t w) w)
theorem zB0(p:Ba):(aU p).length<=p.length:=by
 by_cases h:aU p=[]
 .rw[h];exact bc _
 .exact Nat.le_of_lt (uU h)
theorem zHd(l:Bk)(p:Ba):zAG l p<=l.length:=(og _).length_le
theorem VM{p:Ba}:∀{l:Bk} {k:Nat} {x:En},l[k]?=some x->k<=zAG l p->(cC x.p p=true->k+1<=zAG l p)/\(cC x.p p=false->k=zAG l p)
 | [],k,x,h,_=>by simp at h
 | y::l,0,x,h,_=>by
  simp only[eu,b0] at h;subst h;unfold zAG;rw[ou];cases c:cC y.p p
  .simp
  .simp
 | y::l,k+1,x,h,b=>by
  rw[fp] at h;unfold zAG at b ⊢;rw[ou] at b ⊢;cases c:cC y.p p
  .rw[c] at b;simp at b
  .rw[c] at b;simp only[az,bw] at b ⊢;have:=VM (p:=p) h (by unfold zAG;omega);unfold zAG at this;exact⟨λa=>by have:=this.1 a;omega,λa=>by have:=this.2 a;omega⟩
theorem zCf(l:Bk)(e:En):(zCe l e).length=l.length+1:=by
 have:=zHd l e.p;simp only[zCe,bo,bw,cr,fh];omega
theorem zM0(t:Bl)(os:List Ba)(x:It):(zAd t os x).length<=1:=by
 unfold zAd;split
 .exact bg _
 .split
  .exact bg _
  .exact bc _
theorem pE(t:Bl)(os:List Ba):∀w:Bl,(iJ t os w).length<=w.length
 | []=>bg _
 | x::w=>by
  have b:=zM0 t os x;have a:=pE t os w;unfold iJ at a ⊢;rw[jq,bo,bw];omega
theorem LN{t:Bl}{k:Nat}{x:It}(h:w[k]?=some x):iJ t os (w.take (k+1))=iJ t os (w.take k)++zAd t os x:=by
 unfold iJ;rw[dm,h,List.flatMap_append];simp
theorem zIw{t w:Bl}{k:Nat}{x:It}(h:w[k]?=some x):((w.take (k+1)).filter (LC t w)).map (λx=>x.p)=((w.take k).filter (LC t w)).map (λx=>x.p)++(if LC t w x then [x.p] else []):=by
 rw[fC h,gh];split<;>rfl
theorem zMD(t w:Bl):(lK t w).length<=w.length:=by
 unfold lK;rw[di];exact ei ..
theorem zHu(w:Bl)(os:List Ba)(out:Bk)(y:It):(ES w os out y).length<=out.length+1:=by
 unfold ES;split
 .omega
 .rw[zCf];omega
theorem wW{n:Nat}{q:Ba}(h:q≠[]):zFJ w os (n+1) q=if (!(aN w q).isSome || (((aN w q).getD nd0).k != 2 || isB os q)) then true else zFJ w os n (aU q):=by
 rw[zFJ,au (by simpa using h)]
theorem NP: ∀n:Nat,zFJ w os n []=false
 | 0=>rfl
 | n+1=>by rw[zFJ];simp
end
end Go.Dm
end
