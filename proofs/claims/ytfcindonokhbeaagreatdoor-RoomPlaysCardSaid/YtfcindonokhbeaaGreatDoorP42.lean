/- Part 43 of roomPlays_card. No condition. -/
import Derived.Test.YtfcindonokhbeaaGreatDoorP40
import Derived.Test.YtfcindonokhbeaaGreatDoorP33
import Derived.Test.YtfcindonokhbeaaGreatDoorP35
set_option linter.all false
set_option maxRecDepth 100000
set_option maxHeartbeats 0
section
namespace Go.Proofs.YtfcindonokhbeaaGreatDoor
open Go Go.Dm Go.Proofs Go.Proofs.Tryz
def zSw{q:Ba}{k m:Int}{tt:Nat}{d p:Ba}:ag 351 [.agg [.p (.s q),.p (.i .i64 k),.p (.i .i64 m),.p (.f tt),.p (.sl 1 (bS d))],.c (.p (.s p))] (.c (.p (.i .i64 (HP q p)))):=by
 refine aa func351 λa b=>?_
 repeat' (first|exact⟨⟩|refine sp ?_|refine uF oD ?_)
def zDd{t:Bl}{p:Ba}(J:t.length<=1000000)(C:Srt t):
  aA prog 262 [.c (.p (.sl 5 (aP t))),.c (.p (.s p)),.c (.clo 351 [])] [] λr h =>
   ∃i:Nat,NB t p i/\r=qE t p i/\h=[]:=by
 have e:∀(k n:Nat) (x o:It),t[k]?=some x->t[n]?=some o->k<n->cC x.p o.p=true:=λk n x o q u D=>by
  obtain⟨E,rfl⟩:=bz.1 q;obtain⟨F,rfl⟩:=bz.1 u;exact gg.1 C _ _ E F D
 refine aa func262 λK hX=>?_
 repeat' (first|exact⟨⟩|refine sp ?_)
 refine aJ aC aI (α:=Nat × Nat) (λx=>⟨49,[(0,.c (.p (.sl 5 (aP t)))),(1,.c (.p (.s p))),(2,.c (.clo 351 [])),(8,.c (.p (.i .i64 t.length))),(9,.c (.p (.i .i64 x.1))),(10,.c (.p (.i .i64 x.2)))],[]⟩)
  (λx=>x.1<=x.2/\x.2<=t.length/\∀k y,t[k]?=some y->(k<x.1->cC y.p p=true)/\(x.2<=k->cC y.p p=false)) (λx=>x.2-x.1) (0,t.length) ⟨bc _,bg _,λk y a=>⟨λh=>by omega,λh=>by rw[jb h] at a;cases a⟩⟩ (.inl (aB qj rfl rfl wkS)) ?_
 rintro⟨i,j⟩ ⟨v,l,f⟩;simp only at v l f;by_cases G:i<j
 .have q:=ah i j;have L:IntKind.i64.wrap ((i:Int)+j)=(i:Int)+j:=wrap_i64 qd qd;have M:IntKind.u64.wrap ((i:Int)+j)=(i:Int)+j:=oF qd qd;obtain⟨m,N,w,H⟩:∃m:Nat,((i:Int)+j).fdiv (2 ^ min 1 64)=(m:Int)/\i<=m/\m<j :=
   ⟨(i+j) / 2,by rw[show (2:Int) ^ min 1 64=2 from rfl,oe _ qh];omega,qd,qd⟩
  have O:IntKind.i64.wrap (m:Int)=m:=wrap_i64 qd qd;have P:=ar m;have z:m<t.length:=qd
  have b:=ay z;have A:=bX b;generalize t[m]=x at b A
  repeat' (first|exact⟨⟩|refine sp ?_|refine uF zSw ?_|refine aH (λ_=>?_) (λ_=>?_)|refine ai ?_)
  .rename_i d;have d:cC x.p p=true:=by rw[<- rS];exact d
   exact cW (m+1,j) ⟨qf,l,λk y a=>⟨λB=>by
    rcases cc k m with h|h
    .exact cO (e _ _ _ _ a b h) d
    .have:k=m:=by simp only at B;omega
     subst this;rw[b] at a;cases a;exact d,(f k y a).2⟩⟩ qf (aB rfl rfl rfl wkS)
  .rename_i d;have d:cC x.p p=false:=by rw[<- rS];exact d
   exact cW (i,m) ⟨w,qf,λk y a=>⟨(f k y a).1,λB=>by
    rcases cc m k with h|h
    .cases I:cC y.p p
     .rfl
     .have:=cO (e _ _ _ _ b a h) I;rw[d] at this;cases this
    .have:k=m:=by simp only at B;omega
     subst this;rw[b] at a;cases a;exact d⟩⟩ qf (aB rfl rfl rfl wkS)
 .have q:=aj i j;have:i=j:=qd
  subst this;by_cases g:i<t.length
  .have b:=ay g;have A:=bX b;have u:=ah i t.length;generalize t[i]=x at b A
   repeat' (first|exact⟨⟩|refine sp ?_|refine uF zSw ?_|refine ai ?_)
   refine⟨i,⟨l,f⟩,?_⟩;simp only[qE,iY,b,NO]
  .have u:=aj i t.length
   repeat' (first|exact⟨⟩|refine sp ?_)
   refine⟨i,⟨l,f⟩,?_⟩;simp only[qE,iY,jb (oi g)]
def zDc{h:aF}{i n:Nat}{es:Bc}{t:Bl}{p:Ba}{K:Bd}(f:h[i]?=some (.arr 5 es false))(e:es.take n=aP t)(g:t.length<=1000000)(k:Srt t)(l:∀j,NB t p j->K (qE t p j) h):
  aA prog 262 [.c (.own i 0 n),.c (.p (.s p)),.c (.clo 351 [])] h K :=
 zSV (R:=λd=>∃j,NB t p j/\d=qE t p j) rfl rfl e (aA.mono (zDd g k) λd q ⟨j,a,b,c⟩=>⟨⟨j,a,b⟩,c⟩) f (λd ⟨j,m,o⟩=>by subst o;exact⟨rfl,l j m⟩)
def zCn{h:aF}{i n:Nat}{es:Bc}{t:Bl}{p:Ba}{K:Bd}(e:h[i]?=some (.arr 5 es false))(a:es.take n=aP t)(f:t.length<=1000000)(g:Srt t)(j:K (.c (.p (.b (aZ t p)))) h):
  aA prog 211 [.c (.own i 0 n),.c (.p (.s p))] h K :=
 zNB rfl a (fZ f g) e (λd k=>by subst k;exact⟨rfl,j⟩)
def zNd{h:aF}{i n:Nat}{es:Bc}{t:Bl}{K:Bd}(e:h[i]?=some (.arr 5 es false))(a:es.take n=aP t)(f:t.length<=1000000)(g:∀x∈t,x.p.length<=1000000000)(j:∀x∈t,x.n.t<18446744073709551616)(k:K (.c (.p (.b (lC t)))) h):
  aA prog 145 [.c (.own i 0 n)] h K :=
 zT5 a (BF f g j) e (λd l=>by subst l;exact⟨rfl,k⟩)
theorem zPQ(t:Bl)(x:En):rH t x=t.filter λy=>!goC x.p (wX t x) y:=rfl
def zA1{t:Bl}{l:Bk}(I:OkT t)(h:OkE l):
  ag 227 [.c (.p (.sl 5 (aP t))),.c (.p (.sl 7 (fG l)))] (.tup [.c (.p (.sl 5 (aP (wB t l).1))),.c (.p (.b (wB t l).2))]):=by
 have hR:=WN h;have htl:=I.len;have hll:=h.len;have L:∀x∈t,x.n.d.length<=140737488355328:=λx q=>bj (I.dlen x q) qh;refine aG ?_;refine aa func227 λX0 hX=>?_
 repeat' (first|exact⟨⟩|refine sq ?_|refine uF hR ?_|refine DN qd L ?_)
 refine aJ aC aI (α:=Nat × Bc) (λx=>⟨28,[(14,.c (.p (.sl 7 (fG l)))),(15,.c (.p (.i .i64 l.length))),(16,.c (.p (.i .i64 x.1))),(6,.c (.own 0 0 (iC t (l.take x.1)).length))],[.arr 5 x.2 false]⟩)
  (λx=>x.1<=l.length/\x.2.take (iC t (l.take x.1)).length=aP (iC t (l.take x.1))) (λx=>l.length-x.1) (0,aP t) ⟨bc _,bu (my (cV t))⟩ (.inl (aB qj rfl rfl (by simp[bR,cL,bA,bD,aX,iC]))) ?_
 rintro⟨k,Y⟩ ⟨M,e⟩;simp only at M e;have v:Srt (iC t (l.take k)):=FY I.srt;have P:(iC t (l.take k)).length<=t.length+k:=XM t l k;by_cases B:k<l.length
 .have q:=ay B;have hg:=rX q;obtain⟨h1,-,-,w1⟩:=lk k l.length;have C:iC t (l.take (k+1))=oL (iC t (l.take k)) l[k]:=by
   unfold iC;rw[dm,q,nc];rfl
  have p1:=h.plen _ (ch B);have p2:=h.dlen _ (ch B);have p3:l[k].n.d.length<=140737488355328:=qd
  generalize l[k]=x at q hg C p1 p2 p3;generalize iC t (l.take k)=u at e v P C;have g:Y=aP u++Y.drop u.length:=by rw[<- e,jv]
  generalize Y.drop u.length=J at g;subst g;have hlu:=XL u x;have hll1:=WQ u x;have Q:=FE v x;have R:=zMj (t:=u) (x:=x);have w:=zBz (p:=x.p) (k:=x.k) (o:=x.o) (nk:=x.n.k) (nm:=x.n.m) (nt:=x.n.t) (nd:=x.n.d);rw[show (⟨x.p,x.k,x.o,⟨x.n.k,x.n.m,x.n.t,x.n.d⟩⟩:En)=x from rfl] at w
  have r:wX u x=(x.o || (lL x || !aZ u x.p)):=rfl;have S:=zPQ u x;have hcp:=rU (k:=x.n.k) (m:=x.n.m) (t:=x.n.t) (d:=x.n.d) p3;clear h q L I;have F:(aP u++J).take u.length=aP u:=ka (cV u);have Z:=PLift.up C;have hE:=PLift.up F;have D:=PLift.up S;have hNo:=PLift.up R;clear C e F S R;by_cases c4:(x.k==2)=true
  .have T:oL u x=rH u x:=by unfold oL;rw[aw c4]
   cases G:x.o<;>cases U:lL x<;>cases V:aZ u x.p
   all_goals rw[G,U,V] at r
   all_goals rw[G,U] at w
   all_goals simp only[bh,br,ej,dn,] at r
   all_goals have z:=λ(h:aF) (i:Nat) (K:Bd) (h0:h[i]?=some (.arr 5 (aP u++J) false)) (M:K (.c (.p (.b (aZ u x.p)))) h)=>zCn (p:=x.p) h0 hE.down qd v M
   all_goals rw[V] at z
   all_goals rw[r] at D
   all_goals repeat' (first|exact⟨⟩|refine sq ?_|((with_reducible refine VN aC aI func302 rfl rfl λ_ _=>?_);simp only[f302,go_sem])|refine uF w ?_|refine z _ 0 _ rfl ?_|refine LF qd qd ?_|refine ai ?_)
   all_goals intro N a
   all_goals rw[<- D.down] at a ⊢
   all_goals repeat' (first|exact⟨⟩|refine sp ?_|refine aH (λ_=>?_) (λ_=>?_)|refine aY (λ_=>?_) (λ_=>?_)|((with_reducible apply aA.frz);exact rfl;exact rfl)|refine ai ?_)
   all_goals exact cW (k+1,N) ⟨qf,by rw[Z.down,T];exact a⟩ qf (aB rfl rfl rfl (by simp[bR,cL,bA,bD,aX,Z.down,T]))
  .have c4:(x.k==2)=false:=by simpa using c4
   have T:oL u x=wL (rH u x) x.p x.n:=by unfold oL;rw[au (by rw[c4];decide)]
   cases G:x.o<;>cases U:lL x<;>cases V:aZ u x.p
   all_goals rw[G,U,V] at r
   all_goals rw[G,U] at w
   all_goals simp only[bh,br,ej,dn,] at r
   all_goals have z:=λ(h:aF) (i:Nat) (K:Bd) (h0:h[i]?=some (.arr 5 (aP u++J) false)) (M:K (.c (.p (.b (aZ u x.p)))) h)=>zCn (p:=x.p) h0 hE.down qd v M
   all_goals rw[V] at z
   all_goals rw[r] at D
   all_goals repeat' (first|exact⟨⟩|refine sq ?_|((with_reducible refine VN aC aI func302 rfl rfl λ_ _=>?_);simp only[f302,go_sem])|refine uF w ?_|refine z _ 0 _ rfl ?_|refine LF qd qd ?_|refine ai ?_)
   all_goals intro N a
   all_goals rw[<- D.down] at a ⊢
   all_goals repeat' (first|exact⟨⟩|refine sp ?_|refine zDc (i:=0) (t:=rH u x) rfl a qd Q ?_)
   all_goals intro j hj
   all_goals unfold qE
   all_goals have hj1:=hj.1
   all_goals have W:At (rH u x) x.p j:=hj
   all_goals have H:=RP (n:=x.n) Q W (λy O=>hNo.down y (dr O))
   all_goals have hle:(rH u x).length<=N.length:=by have:=congrArg List.length a;rw[cr,cV] at this;omega
   all_goals have hjm:(j:Int)<=((rH u x).length:Int):=qd
   all_goals clear W hj
   all_goals repeat' (first|exact⟨⟩|refine sp ?_|((refine aK (id:=6) aC aI [8,9] [2,3,4,5,6,7,8,0,1,9,10] qi ?_);(repeat' (first|(refine aM ?_)|((refine bJ ?_ ?_ rfl rfl rfl ?_ ?_);(rotate_left 2);(focus ((repeat' (first|exact⟨⟩|refine sp ?_|refine PU (x:=[.s x.p,.i .i64 x.n.k,.i .i64 x.n.m,.f x.n.t,.sl 1 (bS x.n.d)]) rfl rfl qh hle hj1 qd ?_|refine ai ?_));((refine And.intro ?_ ?_<;>exact rfl))));(simp only[aD]))|((refine bI ?_ rfl rfl rfl ?_ ?_);(rotate_left 1);(focus ((repeat' (first|exact aS|refine aL ?_ ?_));(all_goals ((repeat' (first|exact⟨⟩|refine sp ?_|refine uN hcp ?_));(try (exact rfl))))));(simp only[aD]))))))
   all_goals have X:aP (oL u x)=iH j [.s x.p,.i .i64 x.n.k,.i .i64 x.n.m,.f x.n.t,.sl 1 (bS x.n.d)] (aP (rH u x)):=by rw[T,H];exact(EW (rH u x) j x.p x.n.k x.n.m x.n.t x.n.d).symm
   all_goals have hln:(oL u x).length=(rH u x).length+1:=by rw[T,H,bo,bw,cr,fh];omega
   all_goals exact dN (k+1,aP (oL u x)) 0 6 ⟨qf,by rw[Z.down];exact bu (my (cV _))⟩ qf rfl rfl (aB rfl (by rw[X];rfl) rfl (by simp[bR,cL,bA,bD,aX,zJj,zE5,zJh,Z.down,hln]))
 .have h1:=aj k l.length;have hk2:k=l.length:=qd
  subst hk2;rw[dj] at e v P;rw[dj];have A:∀y∈iC t l,y.p.length<=1000000000/\y.n.t<18446744073709551616:=λy O=>by
   rcases FX O with O|⟨x,q,rfl⟩
   .exact⟨bj (I.plen y O) qh,I.tlen y O⟩
   .exact⟨bj (h.plen x q) qh,h.tlen x q⟩
  have E:=λ(h:aF) (K:Bd) (h0:h[0]?=some (.arr 5 Y false)) (M:K (.c (.p (.b (lC (iC t l))))) h)=>zNd (t:=iC t l) (i:=0) h0 e qd (λx q=>(A x q).1) (λx q=>(A x q).2) M;unfold wB;have hE:=PLift.up e;clear e A L I h B;generalize iC t l=u at *;cases G:lC u
  .rw[G] at E
   repeat' (first|exact⟨⟩|refine sq ?_|refine E _ _ rfl ?_)
   all_goals exact .inr ⟨_,rfl⟩
  .rw[G] at E
   repeat' (first|exact⟨⟩|refine sq ?_|refine E _ _ rfl ?_)
   all_goals rw[hE.down]
def zI3{d n:Ba}(a:d.length<=1000)(b:n.length<=1000):ag 191 [.c (.p (.s d)),.c (.p (.s n))] (.c (.p (.s (jP d n)))):=by
 unfold jP;refine aa func191 λe f=>?_
 repeat' (first|exact⟨⟩|refine sp ?_|refine aH (λ_=>?_) (λ_=>?_)|refine ai ?_)
 all_goals simp_all
def LV{s:Ba}(G:s.length<=9223372036854775807):ag 190 [.c (.p (.s s))] (.tup [.c (.p (.sl 1 (Go.Dm.encS (fP s).1))),.c (.p (.i .i64 (fP s).2))]):=by
 refine aG ?_;unfold fP;cases A:decide ((120:Int)<s.length)
 .rw [au qh];have B:¬ (120:Int)<s.length:=jt A;have t:(rL s).length<=s.length+1:=pY s [];have j:=zN2 (s:=s) qd;generalize rL s=P at t j ⊢;refine aa func190 λC hX=>?_
  repeat' (first|exact⟨⟩|refine sp ?_)
  refine aJ aC aI (α:=Nat) (λk=>⟨48,[(0,.c (.p (.s s))),(4,.c (.p (.i .i64 k)))],[]⟩)
   (λk=>k<=s.length/\(s.take k).all (λb=>!((b.toNat:Int)==0))=true) (λk=>s.length-k) 0 ⟨bc _,rfl⟩ (.inl (aB qj rfl rfl wkS)) ?_
  rintro k ⟨z,r⟩;by_cases f:k<s.length
  .have m:=ay f;have u:=zAN m;obtain⟨v,D,-,E⟩:=lk k s.length;have a:=dm (l:=s) (i:=k);have d:s[k]∈s:=ch f;rw[m] at a;generalize s[k]=x at m u a d;cases h:((x.toNat:Int)==0)
   ·
    repeat' (first|exact⟨⟩|refine sp ?_|refine ai ?_)
    exact cW (k+1) ⟨qd,by rw[a,ly,r];simp only[Option.toList,dz,ju,h];rfl⟩ qd (aB rfl rfl rfl wkS)
   .have q:(s.all λb=>!((b.toNat:Int)==0))=false:=by
     rw[nw];exact⟨x,d,by rw[h];decide⟩
    rw[q,aw rp]
    repeat' (first|exact⟨⟩|refine sp ?_|refine ai ?_)
    all_goals exact .inr ⟨_,rfl⟩
  .have v:=aj k s.length;rw[bu qd] at r;rw[r,au qh]
   repeat' (first|exact⟨⟩|refine sp ?_|refine uN j ?_)
   clear j r;refine dM aC aI 5 1 rfl ?_;refine aJ aC aI (α:=Nat × List Ba) (λx=>⟨48,[(6,.c (.p (.sl 1 (Go.Dm.encS P)))),(7,.c (.p (.i .i64 x.1))),(5,.c (.own 0 0 x.2.length))],[.arr 1 (Go.Dm.encS x.2) false]⟩)
    (λx=>x.1<=P.length/\((P.take x.1).all λy=>!decide ((24:Int)<y.length))=true/\((P.take x.1).filter λy=>!(y == []))=x.2) (λx=>P.length-x.1) (0,[]) ⟨bc _,rfl,rfl⟩ (.inl (aB qj rfl rfl wkS)) ?_
   rintro⟨k,n⟩ ⟨z,g,e⟩;simp only at z g e;have F:n.length<=k:=by rw[<- e];exact bj (ei ..) (jh ..)
   by_cases f:k<P.length
   .have m:=ay f;have u:=encS_at m;obtain⟨v,D,-⟩:=lk3 k P.length;have H:(0:Int)<=(k:Int):=qd
    have E:=ar k;have a:=dm (l:=P) (i:=k);have d:P[k]∈P:=ch f;rw[m] at a;generalize P[k]=x at m u a d
    repeat' (first|exact⟨⟩|refine sp ?_|refine aH (λ_=>?_) (λ_=>?_)|((with_reducible refine And.intro ?_ ?_);((first|omega|decide))))
    .rename_i h;have:(P.all λy=>!decide ((24:Int)<y.length))=false:=by
      rw[nw];exact⟨x,d,by rw[h];decide⟩
     rw[this];exact⟨.inr ⟨_,rfl⟩,rfl⟩
    .rename_i h w;have o:x≠[]:=by simpa using w
     exact dN (k+1,n++[x]) 0 2 ⟨qd,by rw[a];simp[g,h],by rw[a,fq,e];simp[o]⟩ qf rfl rfl (aB rfl rfl rfl wkS)
    .rename_i h w;have o:x=[]:=by simpa using w
     exact cW (k+1,n) ⟨qd,by rw[a];simp[g,h],by rw[a,fq,e];simp[o]⟩ qf (aB rfl rfl rfl wkS)
   .have v:=aj k P.length;rw[bu qd] at g e;rw[g,aw rfl,e]
    repeat' (first|exact⟨⟩|refine sp ?_)
    all_goals first|exact .inl rfl|rw[bu qd]
 .rw[aw rp];refine aa func190 λC hX=>?_
  repeat' (first|exact⟨⟩|refine sp ?_)
  all_goals exact .inr ⟨_,rfl⟩
def YB{t:Bl}{s:Ba}{fo:Bool}(h:OkT t)(hs:s.length<=9223372036854775807):
  ag 113 [.c (.p (.sl 5 (aP t))),.c (.p (.s s)),.c (.p (.b fo))] (.tup [.c (.p (.s (cQ t s fo).1)),.c (.p (.b (cQ t s fo).2.1)),.c (.p (.i .i64 (cQ t s fo).2.2))]):=by
 have htl:=h.len;have w:=LV (s:=s) hs;have J:=pN (s:=s);have E:=uE (s:=s);unfold cQ;generalize fP s=S at w J E ⊢;obtain⟨P,e⟩:=S;simp only at w J E ⊢;cases q0:(e==0)
 .have X:(e != 0)=true:=by rw[bne,q0];rfl
  refine aa func113 λX0 hX=>?_
  repeat' (first|exact⟨⟩|refine sp ?_|refine uN w ?_)
 .have he:=eq_of_beq q0;subst he;rw[aw rp];generalize hW:kM t fo 1400 [] P 0=W;refine aa func113 λX0 hX=>?_
  repeat' (first|exact⟨⟩|refine sp ?_|refine uN w ?_)
  clear w;refine zH7 aC aI (α:=Nat × Ba × List Ba × Nat) (λx=>⟨107,[(0,.c (.p (.sl 5 (aP t)))),(2,.c (.p (.b fo))),(9,.c (.p (.sl 1 (Go.Dm.encS x.2.2.1)))),(11,.c (.p (.s x.2.1))),(12,.c (.p (.i .i64 x.2.2.2)))],[]⟩)
   (λx=>x.2.1.length<=120/\(∀p∈x.2.2.1,p.length<=120)/\x.2.2.2<=8/\(9-x.2.2.2)*130+x.2.2.1.length<x.1/\x.1<=1400/\kM t fo x.1 x.2.1 x.2.2.1 x.2.2.2=W) (λx=>x.1) (1400,[],P,0) ⟨ql,E,ql,qf,ql,hW⟩ (.inl (.inl (aB qj rfl rfl wkS))) ?_
  rintro⟨f,c,ps,g⟩ ⟨y,K,z,hb,Y,a⟩;simp only at y K z hb Y a;clear hW J E;cases ps with
  | nil =>
   obtain⟨k,rfl⟩:∃k,f=k+1:=⟨f-1,qd⟩
   simp only[kM] at a;subst a
   repeat' (first|exact⟨⟩|refine sp ?_)
  | cons p ps =>
   obtain⟨k,rfl⟩:∃k,f=k+1:=⟨f-1,qd⟩
   simp only[bw] at hb;have h1:decide ((0:Int)<((ps.length+1:Nat):Int))=true:=df qd;have h2:(0:Int)<((ps.length+1:Nat):Int):=qd
   have h3:(1:Int)<=((ps.length+1:Nat):Int):=qd
   have hg:(Go.Dm.encS (p::ps)).getD 0 []=[.s p]:=rfl;have hdr:(Go.Dm.encS (p::ps)).drop 1=Go.Dm.encS ps:=rfl;have hpp:=K p cz;have A:∀q∈ps,q.length<=120:=λq hq=>K q (cu _ hq);simp only[kM] at a;cases X:(p == [46])
   .rw [X,au qh] at a;cases q2:(p == [46,46])
    .rw [q2,au qh] at a;have m:=eA (t:=t) (p:=c) qd;cases q3:aZ t c
     .rw[q3] at m a;have a:([],false,9)=W:=a;subst a
      repeat' (first|exact⟨⟩|refine sp ?_|refine uF m ?_|refine ai ?_)
     .rw [q3] at m a;rw[au qh] at a;have o:=zI3 (d:=c) (n:=p) qd qd;have j:=fT (t:=t) (p:=jP c p) qd;have B:=h.getd (jP c p);have v:=h.getok (p:=jP c p);generalize jP c p=q at o j a B v;cases Z:decide ((120:Int)<(q.length:Int))
      .rw [Z,au qh] at a;have N:q.length<=120:=by have:=jt Z;omega
       have L:decide ((0:Int)<(ps.length:Int)) = !(ps == []):=by
        cases ps with
        | nil=>rfl
        | cons p l=>exact df rj
       cases O:aN t q with
       | none =>
        rw[O] at j a;simp only[ke,gm,nd0] at j;simp only at a;cases C:(ps == [])
        .rw[C] at L;rw[C] at a;have a:([],false,6)=W:=a;subst a
         repeat' (first|exact⟨⟩|refine sq ?_|refine uF m ?_|refine uF o ?_|refine uN j ?_|refine ai ?_)
        .rw[C] at L;rw[C] at a;have a:(q,false,0)=W:=a;subst a
         repeat' (first|exact⟨⟩|refine sq ?_|refine uF m ?_|refine uF o ?_|refine uN j ?_|refine ai ?_)
       | some n =>
        rw[O] at j a B v;simp only[fe,gy] at j B v;simp only at a;obtain⟨nk,nm,nt,Q⟩:=n;simp only at B v;have u:=LV (s:=Q) qd;have F:=pN (s:=Q);have D:=uE (s:=Q);have w1:IntKind.i64.wrap ((g:Int)+1)=((g+1:Nat):Int):=by rw[wrap_i64 qd qd];omega
        cases R:(nk==3)
        .rw[R] at a;have a:kM t fo k q ps g=W:=a;clear u F D v
         repeat' (first|exact⟨⟩|refine sq ?_|refine uF m ?_|refine uF o ?_|refine uN j ?_|refine ai ?_)
         exact zTm (k,q,ps,g) ⟨N,A,z,qf,qf,a⟩ qf (aB rfl rfl rfl wkS)
        .have T:=eq_of_beq R;subst T;obtain⟨b,d,rfl⟩:∃b d,Q=b::d:=by
          have hr:=(v trivial).2.2;cases Q with
          | nil=>exact absurd hr (by simp[aO,gZ])
          | cons b d=>exact⟨b,d,rfl⟩
         have hgb:(bS (b::d)).getD 0 []=[.i .u8 b.toNat]:=rfl;have hgl:(0:Int)<((d.length+1:Nat):Int):=qd
         clear v B;generalize C:(ps == [])=M at L a;cases r:(!M || fo)
         .rw[r] at a;have a:kM t fo k q ps g=W:=a;have e1:M=true/\fo=false:=by cases M<;>cases fo<;>first|exact⟨rfl,rfl⟩|cases r
          obtain⟨rfl,rfl⟩:=e1;clear u F D
          repeat' (first|exact⟨⟩|refine sq ?_|refine uF m ?_|refine uF o ?_|refine uN j ?_|refine ai ?_)
          exact zTm (k,q,ps,g) ⟨N,A,z,qf,qf,a⟩ qf (aB rfl rfl rfl wkS)
         .rw [r] at a;rw[aw rp] at a;cases U:decide (8<=g)
          .have h8:decide ((8:Int)<((g+1:Nat):Int))=false:=er (by simp at U;omega);have G:g+1<=8:=by simp at U;omega
           rw[U,au qh] at a;generalize fP (b::d)=S at u F D a;obtain⟨more,e2⟩:=S;simp only at u F D a;cases qe:(e2==0)
           .rw [qe,au qh] at a;have qe':(e2 != 0)=true:=by rw[bne,qe];rfl
            subst a;cases M
            ·
             repeat' (first|exact⟨⟩|refine sq ?_|refine uF m ?_|refine uF o ?_|refine uN j ?_|refine uN u ?_|refine ai ?_)
            .simp only[bh,dw] at r;subst r
             repeat' (first|exact⟨⟩|refine sq ?_|refine uF m ?_|refine uF o ?_|refine uN j ?_|refine uN u ?_|refine ai ?_)
           .have qe0:=eq_of_beq qe;subst qe0;rw[aw rp] at a;have H:∀x∈more++ps,x.length<=120:=λx V=>by
             rcases c9.1 V with V|V
             .exact D x V
             .exact A x V
            cases I:((b.toNat:Int)==47)
            .have a:kM t fo k c (more++ps) (g+1)=W:=by simpa only[zX,I,av,ax] using a
             cases M
             ·
              repeat' (first|exact⟨⟩|refine sq ?_|refine uF m ?_|refine uF o ?_|refine uN j ?_|refine uN u ?_|((with_reducible refine And.intro ?_ ?_);((first|omega|decide))))
              exact QU (k,c,more++ps,g+1) 9 3 0 (more.length+ps.length) ⟨y,H,G,rk,qf,a⟩ qf rfl (iD rfl rh) (aB rfl rfl rfl wkS)
             .simp only[bh,dw] at r;subst r
              repeat' (first|exact⟨⟩|refine sq ?_|refine uF m ?_|refine uF o ?_|refine uN j ?_|refine uN u ?_|((with_reducible refine And.intro ?_ ?_);((first|omega|decide))))
              exact QU (k,c,more++ps,g+1) 9 3 0 (more.length+ps.length) ⟨y,H,G,rk,qf,a⟩ qf rfl (iD rfl rh) (aB rfl rfl rfl wkS)
            .have a:kM t fo k [] (more++ps) (g+1)=W:=by simpa only[zX,I,az] using a
             cases M
             ·
              repeat' (first|exact⟨⟩|refine sq ?_|refine uF m ?_|refine uF o ?_|refine uN j ?_|refine uN u ?_|((with_reducible refine And.intro ?_ ?_);((first|omega|decide))))
              exact QU (k,[],more++ps,g+1) 9 3 0 (more.length+ps.length) ⟨ql,H,G,rk,qf,a⟩ qf rfl (iD rfl rh) (aB rfl rfl rfl wkS)
             .simp only[bh,dw] at r;subst r
              repeat' (first|exact⟨⟩|refine sq ?_|refine uF m ?_|refine uF o ?_|refine uN j ?_|refine uN u ?_|((with_reducible refine And.intro ?_ ?_);((first|omega|decide))))
              exact QU (k,[],more++ps,g+1) 9 3 0 (more.length+ps.length) ⟨ql,H,G,rk,qf,a⟩ qf rfl (iD rfl rh) (aB rfl rfl rfl wkS)
          .have h8:decide ((8:Int)<((g+1:Nat):Int))=true:=df (by simp at U;omega);rw[U] at a;have a:([],false,11)=W:=a;subst a;cases M
           ·
            repeat' (first|exact⟨⟩|refine sq ?_|refine uF m ?_|refine uF o ?_|refine uN j ?_|refine ai ?_)
           .simp only[bh,dw] at r;subst r
            repeat' (first|exact⟨⟩|refine sq ?_|refine uF m ?_|refine uF o ?_|refine uN j ?_|refine ai ?_)
      .rw[Z] at a;have a:([],false,12)=W:=a;subst a
       repeat' (first|exact⟨⟩|refine sp ?_|refine uF m ?_|refine uF o ?_|refine ai ?_)
    .rw[q2,aw rp] at a
     repeat' (first|exact⟨⟩|refine sp ?_|refine uF (iM (p:=c) qd) ?_|refine ai ?_)
     exact zTm (k,aU c,ps,g) ⟨bj (DZ c) y,A,z,qf,qf,a⟩ qf (aB rfl rfl rfl wkS)
   .rw[X,aw rp] at a
    repeat' (first|exact⟨⟩|refine sp ?_|refine ai ?_)
    exact zTm (k,c,ps,g) ⟨y,A,z,qf,qf,a⟩ qf (aB rfl rfl rfl wkS)
def zEq{k:Int}:ag 62 [.c (.p (.i .i64 k))] (.c (.p (.b (jX k)))):=by
 have e:jX k=(decide (1<=k) && decide (k<=7) || decide (9<=k) && decide (k<=11)):=by
  unfold jX;rw[gi];simp only[bn,fj,ew,dg,ji];omega
 rw[e];refine aa func62 λa d=>?_
 repeat' (first|exact⟨⟩|refine sp ?_|refine aY (λ_=>?_) (λ_=>?_))
 all_goals first|(simp_all;done)|(simp_all;rfl)|(simp_all;omega)|trace_state
def YA{k:Int}:ag 114 [.c (.p (.i .i64 k))] (.c (.p (.b (gN k)))):=by
 unfold gN;refine aa func114 λa d=>?_
 repeat' (first|exact⟨⟩|refine sp ?_|refine aH (λ_=>?_) (λ_=>?_))
 all_goals simp_all
def eG{e:Int}:ag 112 [.c (.p (.i .i64 e))] (.agg [.p (.i .i64 e),.p (.i .i64 0),.p (.i .i64 0),.p (.f 0),.p .nil,.p .nil,.p .nil]):=by
 refine aa func112 λa b=>?_
 repeat' (first|exact⟨⟩|refine sp ?_)
def zJO{d:Ba}(e:d.length<=9223372036854775807):ag 245 [.c (.p (.sl 1 (bS d)))] (.c (.p (.b (gZ d)))):=by
 refine aa func245 λm hX=>?_
 repeat' (first|exact⟨⟩|refine sp ?_)
 refine aJ aC aI (α:=Nat) (λk=>⟨23,[(0,.c (.p (.sl 1 (bS d)))),(3,.c (.p (.i .i64 k)))],[]⟩) (λk=>k<=d.length/\(d.drop k).all (λb=>!((b.toNat:Int)==0))=d.all (λb=>!((b.toNat:Int)==0))) (λk=>d.length-k) 0 ⟨bc _,rfl⟩ (.inl (aB qj rfl rfl wkS)) ?_;rintro k ⟨n,a⟩;by_cases f:k<d.length
 .have g:=ay f;have j:=zGr g;have e:=drop_at g;obtain⟨l,-,-,o⟩:=lk k d.length;generalize d[k]=x at g j e;rw[e,dz] at a
  repeat' (first|exact⟨⟩|refine sp ?_|refine aH (λ_=>?_) (λ_=>?_)|refine ai ?_)
  .rename_i h;rw[h,bh,dp] at a;simp only[gZ,<- a,dp]
  .rename_i h;rw[h,br,cy] at a;exact cW (k+1) ⟨qd,a⟩ qd (aB rfl rfl rfl wkS)
 .have l:=aj k d.length;rw[cw qd,ju] at a;unfold gZ;rw[<- a];clear a
  repeat' (first|exact⟨⟩|refine sp ?_|refine aY (λ_=>?_) (λ_=>?_))
  all_goals simp only[*,cy,gp,gz,dp,br,bh]
def zBk{t:Bl}{p:Ba}{is:Bool}{ck:Int}{cp cq:Ba}{cm:Int}{ct:Nat}{ca cn:Int}{cd:Ba}(h:OkT t)(y:p.length<=1000000000)(z:cd.length<=140737488355328)
  (w:ck=1∨ck=2∨ck=7):
  ag 192 [.c (.p (.sl 5 (aP t))),.agg (clc ck cp cq cm ct ca cn cd),.c (.p (.s p)),.c (.p (.b is))] (.tup [.c (.p (.sl 5 (aP (mQ t ⟨ck,cp,cq,cm,ct,ca,cn,cd⟩ p is).1))),.agg (anv (anE (mQ t ⟨ck,cp,cq,cm,ct,ca,cn,cd⟩ p is).2))]):=by
 have A:=h.len;have e:=zJO (d:=cd) qd;have g:=DA ct;refine aG ?_;unfold mQ anE nd0;simp only;cases is
 .generalize bL ct=q at g ⊢;have a:=λ(k m:Int) (d:Ba) (B:d.length<=1000000000)=>zSy (t:=t) (p:=p) (k:=k) (m:=m) (tt:=q) (d:=d) qd y (λx C=>bj (h.plen x C) qh) B;rcases w with rfl|rfl|rfl
  .cases r:decide (cm<0)
   .cases u:decide (4095<cm)
    .have j:ag 246 [.c (.p (.sl 5 (aP t))),.c (.p (.s p)),.agg [.p (.i .i64 2),.p (.i .i64 cm),.p (.f q),.p .nil]] (.tup [.c (.p (.sl 5 (aP (vB t p ⟨2,cm,q,[]⟩).1))),.c (.p (.i .i64 (vB t p ⟨2,cm,q,[]⟩).2))]):=by
      refine aA.wkargs ?_ (a 2 cm [] ql);simp[zKh,wkD,zE7,wkC,wkP,jJ]
     clear a e;refine aa func192 λl n=>?_
     repeat' (first|exact⟨⟩|refine sp ?_|((refine aK (id:=1) aC aI [6,7] [6,0,1,2,3,4,5,7] qi ?_);(repeat' (first|(refine aM ?_)|((refine bJ ?_ ?_ rfl rfl rfl ?_ ?_);(rotate_left 2);(focus ((repeat' (first|exact⟨⟩|refine sp ?_));((refine And.intro ?_ ?_<;>exact rfl))));(simp only[aD,aQ]))|((refine bI ?_ rfl rfl rfl ?_ ?_);(rotate_left 1);(focus ((repeat' (first|exact aS|refine aL ?_ ?_));(all_goals ((repeat' (first|exact⟨⟩|refine sp ?_|refine uF g ?_));(try (exact rfl))))));(simp only[aD])))))|refine uF eG ?_|refine uN j ?_)
     all_goals exact⟨.inr ⟨_,rfl⟩,.inr ⟨_,rfl⟩,.inr ⟨_,rfl⟩⟩
    .clear a e;refine aa func192 λl n=>?_
     repeat' (first|exact⟨⟩|refine sp ?_|((refine aK (id:=1) aC aI [6,7] [6,0,1,2,3,4,5,7] qi ?_);(repeat' (first|(refine aM ?_)|((refine bJ ?_ ?_ rfl rfl rfl ?_ ?_);(rotate_left 2);(focus ((repeat' (first|exact⟨⟩|refine sp ?_));((refine And.intro ?_ ?_<;>exact rfl))));(simp only[aD,aQ]))|((refine bI ?_ rfl rfl rfl ?_ ?_);(rotate_left 1);(focus ((repeat' (first|exact aS|refine aL ?_ ?_));(all_goals ((repeat' (first|exact⟨⟩|refine sp ?_|refine uF g ?_));(try (exact rfl))))));(simp only[aD])))))|refine uF eG ?_)
     all_goals exact⟨.inr ⟨_,rfl⟩,.inr ⟨_,rfl⟩,.inr ⟨_,rfl⟩⟩
   .clear a e;refine aa func192 λl n=>?_
    repeat' (first|exact⟨⟩|refine sp ?_|((refine aK (id:=1) aC aI [6,7] [6,0,1,2,3,4,5,7] qi ?_);(repeat' (first|(refine aM ?_)|((refine bJ ?_ ?_ rfl rfl rfl ?_ ?_);(rotate_left 2);(focus ((repeat' (first|exact⟨⟩|refine sp ?_));((refine And.intro ?_ ?_<;>exact rfl))));(simp only[aD,aQ]))|((refine bI ?_ rfl rfl rfl ?_ ?_);(rotate_left 1);(focus ((repeat' (first|exact aS|refine aL ?_ ?_));(all_goals ((repeat' (first|exact⟨⟩|refine sp ?_|refine uF g ?_));(try (exact rfl))))));(simp only[aD])))))|refine uF eG ?_)
    all_goals exact⟨.inr ⟨_,rfl⟩,.inr ⟨_,rfl⟩,.inr ⟨_,rfl⟩⟩
  .cases r:decide (cm<0)
   .cases u:decide (4095<cm)
    .cases v:decide ((2000:Int)<(cd.length:Int))
     .have j:=a 1 cm cd (by have:=jt v;omega);clear a e;refine aa func192 λl n=>?_
      repeat' (first|exact⟨⟩|refine sp ?_|((refine aK (id:=1) aC aI [6,7] [6,0,1,2,3,4,5,7] qi ?_);(repeat' (first|(refine aM ?_)|((refine bJ ?_ ?_ rfl rfl rfl ?_ ?_);(rotate_left 2);(focus ((repeat' (first|exact⟨⟩|refine sp ?_));((refine And.intro ?_ ?_<;>exact rfl))));(simp only[aD,aQ]))|((refine bI ?_ rfl rfl rfl ?_ ?_);(rotate_left 1);(focus ((repeat' (first|exact aS|refine aL ?_ ?_));(all_goals ((repeat' (first|exact⟨⟩|refine sp ?_|refine uF g ?_));(try (exact rfl))))));(simp only[aD])))))|refine uF eG ?_|refine uN j ?_|((with_reducible apply aA.frz);exact rfl;exact rfl)|((with_reducible refine And.intro ?_ ?_);((first|omega|decide))))
      all_goals exact⟨.inr ⟨_,rfl⟩,.inr ⟨_,rfl⟩,.inr ⟨_,rfl⟩⟩
     .clear a e;refine aa func192 λl n=>?_
      repeat' (first|exact⟨⟩|refine sp ?_|((refine aK (id:=1) aC aI [6,7] [6,0,1,2,3,4,5,7] qi ?_);(repeat' (first|(refine aM ?_)|((refine bJ ?_ ?_ rfl rfl rfl ?_ ?_);(rotate_left 2);(focus ((repeat' (first|exact⟨⟩|refine sp ?_));((refine And.intro ?_ ?_<;>exact rfl))));(simp only[aD,aQ]))|((refine bI ?_ rfl rfl rfl ?_ ?_);(rotate_left 1);(focus ((repeat' (first|exact aS|refine aL ?_ ?_));(all_goals ((repeat' (first|exact⟨⟩|refine sp ?_|refine uF g ?_));(try (exact rfl))))));(simp only[aD])))))|refine uF eG ?_|((with_reducible refine And.intro ?_ ?_);((first|omega|decide))))
      all_goals exact⟨.inr ⟨_,rfl⟩,.inr ⟨_,rfl⟩,.inr ⟨_,rfl⟩⟩
    .clear a e;refine aa func192 λl n=>?_
     repeat' (first|exact⟨⟩|refine sp ?_|((refine aK (id:=1) aC aI [6,7] [6,0,1,2,3,4,5,7] qi ?_);(repeat' (first|(refine aM ?_)|((refine bJ ?_ ?_ rfl rfl rfl ?_ ?_);(rotate_left 2);(focus ((repeat' (first|exact⟨⟩|refine sp ?_));((refine And.intro ?_ ?_<;>exact rfl))));(simp only[aD,aQ]))|((refine bI ?_ rfl rfl rfl ?_ ?_);(rotate_left 1);(focus ((repeat' (first|exact aS|refine aL ?_ ?_));(all_goals ((repeat' (first|exact⟨⟩|refine sp ?_|refine uF g ?_));(try (exact rfl))))));(simp only[aD])))))|refine uF eG ?_|((with_reducible refine And.intro ?_ ?_);((first|omega|decide))))
     all_goals exact⟨.inr ⟨_,rfl⟩,.inr ⟨_,rfl⟩,.inr ⟨_,rfl⟩⟩
   .clear a e;refine aa func192 λl n=>?_
    repeat' (first|exact⟨⟩|refine sp ?_|((refine aK (id:=1) aC aI [6,7] [6,0,1,2,3,4,5,7] qi ?_);(repeat' (first|(refine aM ?_)|((refine bJ ?_ ?_ rfl rfl rfl ?_ ?_);(rotate_left 2);(focus ((repeat' (first|exact⟨⟩|refine sp ?_));((refine And.intro ?_ ?_<;>exact rfl))));(simp only[aD,aQ]))|((refine bI ?_ rfl rfl rfl ?_ ?_);(rotate_left 1);(focus ((repeat' (first|exact aS|refine aL ?_ ?_));(all_goals ((repeat' (first|exact⟨⟩|refine sp ?_|refine uF g ?_));(try (exact rfl))))));(simp only[aD])))))|refine uF eG ?_|((with_reducible refine And.intro ?_ ?_);((first|omega|decide))))
    all_goals exact⟨.inr ⟨_,rfl⟩,.inr ⟨_,rfl⟩,.inr ⟨_,rfl⟩⟩
  .cases o:gZ cd
   .rw[o] at e;clear a;refine aa func192 λl n=>?_
    repeat' (first|exact⟨⟩|refine sq ?_|((refine aK (id:=1) aC aI [6,7] [6,0,1,2,3,4,5,7] qi ?_);(repeat' (first|(refine aM ?_)|((refine bJ ?_ ?_ rfl rfl rfl ?_ ?_);(rotate_left 2);(focus ((repeat' (first|exact⟨⟩|refine sp ?_));((refine And.intro ?_ ?_<;>exact rfl))));(simp only[aD,aQ]))|((refine bI ?_ rfl rfl rfl ?_ ?_);(rotate_left 1);(focus ((repeat' (first|exact aS|refine aL ?_ ?_));(all_goals ((repeat' (first|exact⟨⟩|refine sp ?_|refine uF g ?_));(try (exact rfl))))));(simp only[aD])))))|refine uF eG ?_|refine uN e ?_|((with_reducible apply aA.frz);exact rfl;exact rfl)|((with_reducible refine And.intro ?_ ?_);((first|omega|decide))))
    all_goals exact⟨.inr ⟨_,rfl⟩,.inr ⟨_,rfl⟩,.inr ⟨_,rfl⟩⟩
   .have D:cd.length<=120:=by
     unfold gZ at o;simp only[bn,ew] at o;omega
    have j:=a 3 511 cd qd;rw[o] at e;clear a;refine aa func192 λl n=>?_
    repeat' (first|exact⟨⟩|refine sq ?_|((refine aK (id:=1) aC aI [6,7] [6,0,1,2,3,4,5,7] qi ?_);(repeat' (first|(refine aM ?_)|((refine bJ ?_ ?_ rfl rfl rfl ?_ ?_);(rotate_left 2);(focus ((repeat' (first|exact⟨⟩|refine sp ?_));((refine And.intro ?_ ?_<;>exact rfl))));(simp only[aD,aQ]))|((refine bI ?_ rfl rfl rfl ?_ ?_);(rotate_left 1);(focus ((repeat' (first|exact aS|refine aL ?_ ?_));(all_goals ((repeat' (first|exact⟨⟩|refine sp ?_|refine uF g ?_));(try (exact rfl))))));(simp only[aD])))))|refine uF eG ?_|refine uN e ?_|refine uN j ?_|((with_reducible apply aA.frz);exact rfl;exact rfl)|((with_reducible refine And.intro ?_ ?_);((first|omega|decide))))
    all_goals exact⟨.inr ⟨_,rfl⟩,.inr ⟨_,rfl⟩,.inr ⟨_,rfl⟩⟩
 .rcases w with rfl|rfl|rfl
  all_goals
   refine aa func192 λl n=>?_
   repeat' (first|exact⟨⟩|refine sp ?_|((refine aK (id:=1) aC aI [6,7] [6,0,1,2,3,4,5,7] qi ?_);(repeat' (first|(refine aM ?_)|((refine bJ ?_ ?_ rfl rfl rfl ?_ ?_);(rotate_left 2);(focus ((repeat' (first|exact⟨⟩|refine sp ?_));((refine And.intro ?_ ?_<;>exact rfl))));(simp only[aD,aQ]))|((refine bI ?_ rfl rfl rfl ?_ ?_);(rotate_left 1);(focus ((repeat' (first|exact aS|refine aL ?_ ?_));(all_goals ((repeat' (first|exact⟨⟩|refine sp ?_|refine uF g ?_));(try (exact rfl))))));(simp only[aD])))))|refine uF eG ?_)
  all_goals exact⟨.inr ⟨_,rfl⟩,.inr ⟨_,rfl⟩,.inr ⟨_,rfl⟩⟩
def zBm{t:Bl}{p:Ba}{dir:Bool}{ck:Int}{cp cq:Ba}{cm:Int}{ct:Nat}{ca cn:Int}{cd:Ba}(h:OkT t)(v:p.length<=1000000000)(u:cq.length<=9223372036854775807):
  ag 195 [.c (.p (.sl 5 (aP t))),.agg (clc ck cp cq cm ct ca cn cd),.c (.p (.s p)),.c (.p (.b dir))] (.tup [.c (.p (.sl 5 (aP (sS t p dir cq).1))),.agg (anv (anE (sS t p dir cq).2))]):=by
 have y:=h.len;have d:=YB (s:=cq) (fo:=false) h u;have l:=yL (t:=t) (s:=cq) (fo:=false);refine aG ?_;unfold sS anE nd0;generalize cQ t cq false=W at d l ⊢;obtain⟨q,z,e⟩:=W;simp only at d l ⊢;cases w:(e==0)
 .have E:(e != 0)=true:=by rw[bne,w];rfl
  refine aa func195 λj k=>?_
  repeat' (first|exact⟨⟩|refine sp ?_|refine uN d ?_|refine uF eG ?_)
  all_goals exact⟨.inr ⟨_,rfl⟩,.inr ⟨_,rfl⟩,.inr ⟨_,rfl⟩⟩
 .have A:=eq_of_beq w;subst A;have hid:=eA (t:=t) (p:=q) qd;have m:=tY (p:=q) h;have n:=xX (t:=t) (p:=q) qd qd λx o=>bj (h.plen x o) qh;have f:=h.remove q;have g:=zIh (t:=bU t q) (a:=p) (b:=q) (by have:=f.len;omega) v qd λx o=>bj (f.plen x o) qh;have r:=zIh (t:=t) (a:=p) (b:=q) qd v qd λx o=>bj (h.plen x o) qh;have i:=tH (p:=p) (q:=q) qd qd;generalize eZ t q=N at m ⊢;generalize aZ t q=D at hid ⊢;generalize mA (bU t q) p q=M at g ⊢;generalize mA t p q=F at r ⊢;generalize bU t q=R at n g;clear f;cases G:(p == [])
  .cases B:(q == [])
   .cases C:(p==q)
    .cases H:aT p q
     .cases z
      ·
       refine aa func195 λj k=>?_
       repeat' (first|exact⟨⟩|refine sp ?_|refine uN d ?_|refine uF eG ?_|refine uF i ?_|refine uN r ?_)
       all_goals exact⟨.inr ⟨_,rfl⟩,.inr ⟨_,rfl⟩,.inr ⟨_,rfl⟩⟩
      .cases dir<;>cases D
       all_goals
        refine aa func195 λj k=>?_
        repeat' (first|exact⟨⟩|refine sq ?_|refine uN d ?_|refine uF eG ?_|refine uF i ?_|refine uF hid ?_|refine uN m ?_|refine uN n ?_|refine uN g ?_|refine aH (λ_=>?_) (λ_=>?_))
       all_goals exact⟨.inr ⟨_,rfl⟩,.inr ⟨_,rfl⟩,.inr ⟨_,rfl⟩⟩
     ·
      refine aa func195 λj k=>?_
      repeat' (first|exact⟨⟩|refine sp ?_|refine uN d ?_|refine uF eG ?_|refine uF i ?_)
      all_goals exact⟨.inr ⟨_,rfl⟩,.inr ⟨_,rfl⟩,.inr ⟨_,rfl⟩⟩
    ·
     refine aa func195 λj k=>?_
     repeat' (first|exact⟨⟩|refine sp ?_|refine uN d ?_|refine uF eG ?_)
     all_goals exact⟨.inr ⟨_,rfl⟩,.inr ⟨_,rfl⟩,.inr ⟨_,rfl⟩⟩
   ·
    refine aa func195 λj k=>?_
    repeat' (first|exact⟨⟩|refine sp ?_|refine uN d ?_|refine uF eG ?_)
    all_goals exact⟨.inr ⟨_,rfl⟩,.inr ⟨_,rfl⟩,.inr ⟨_,rfl⟩⟩
  ·
   refine aa func195 λj k=>?_
   repeat' (first|exact⟨⟩|refine sp ?_|refine uN d ?_|refine uF eG ?_)
   all_goals exact⟨.inr ⟨_,rfl⟩,.inr ⟨_,rfl⟩,.inr ⟨_,rfl⟩⟩
def zAj{ls:List Bk}(s:ls.length<=1000)(h:∀l∈ls,OkE l):
  ag 170 [.c (.p (.sl 1 (EG ls)))] (.tup [.c (.p (.sl 5 (aP (rZ [] ls).1))),.c (.p (.b (rZ [] ls).2))]):=by
 refine aG ?_;refine aa func170 λD hX=>?_
 repeat' (first|exact⟨⟩|refine sp ?_)
 refine zS3 4 5 rfl ?_;refine aJ aC aI (α:=Nat × Bl) (λx=>⟨25,[(8,.c (.p (.sl 1 (EG ls)))),(9,.c (.p (.i .i64 ls.length))),(10,.c (.p (.i .i64 x.1))),(4,.c (.p (.sl 5 (aP x.2))))],[]⟩)
  (λx=>x.1<=ls.length/\OkT x.2/\rZ x.2 (ls.drop x.1)=rZ [] ls) (λx=>ls.length-x.1) (0,[]) ⟨bc _,OkT.nil,rfl⟩ (.inl (aB qj rfl rfl wkS)) ?_
 rintro⟨k,t⟩ ⟨v,j,a⟩;simp only at v j a;by_cases m:k<ls.length
 .have g:=ay m;have w:=zPn g;have o:=drop_at g;obtain⟨y,-,-,E⟩:=lk k ls.length;have q:=h _ (ch m);generalize ls[k]=l at g w o q;rw[o,rZ] at a;have f:=zA1 j q;have e:=λz=>zMI j q z;generalize (wB t l).1=u at f e a;generalize (wB t l).2=b at f e a;clear o g;cases b
  .rw[au qh] at a;rw[<- a];clear a e
   repeat' (first|exact⟨⟩|refine sq ?_|refine uN f ?_|refine ai ?_)
   all_goals exact .inr ⟨_,rfl⟩
  .rw[aw rfl] at a;have A:=e rfl;have B:=PLift.up a;clear a e
   repeat' (first|exact⟨⟩|refine sq ?_|refine uN f ?_|refine ai ?_)
   exact cW (k+1,u) ⟨qf,A,B.down⟩ qf (aB rfl rfl rfl wkS)
 .have y:=aj k ls.length;rw[cw qd,rZ] at a;rw[<- a];have r:∀x∈t,x.n.d.length<=140737488355328:=λx g=>bj (j.dlen x g) qh;have C:=j.len;clear a
  repeat' (first|exact⟨⟩|refine sp ?_|refine DN qd r ?_)
end Go.Proofs.YtfcindonokhbeaaGreatDoor
end
