/- Part 38 of roomPlays_card. No condition. -/
import Derived.Test.YtfcindonokhbeaaGreatDoorP33
import Derived.Test.YtfcindonokhbeaaGreatDoorP28
set_option linter.all false
set_option maxRecDepth 100000
set_option maxHeartbeats 0
section
namespace Go.Proofs.YtfcindonokhbeaaGreatDoor
open Go Go.Dm Go.Proofs Go.Proofs.Tryz
def zSl{p:Ba}{ck k m k2 m2:Int}{t t2:Nat}{d d2:Ba}(D:p.length<=1000000000)(E:t<18446744073709551616)(r:t2<18446744073709551616):
  ag 206 [.agg [.p (.s p),.p (.i .i64 ck),.p (.i .i64 k),.p (.i .i64 m),.p (.f t),.p (.sl 1 (bS d)),.p (.i .i64 k2),.p (.i .i64 m2),.p (.f t2),.p (.sl 1 (bS d2))]] (.c (.p (.b (zMp ⟨p,ck,⟨k,m,t,d⟩,⟨k2,m2,t2,d2⟩⟩)))):=by
 have g:=zOD (k:=k) (m:=m) (t:=t) (d:=d);have h:=zOD (k:=k2) (m:=m2) (t:=t2) (d:=d2);have j:=fD (k:=k) (m:=m) (d:=d) E;have l:=fD (k:=k2) (m:=m2) (d:=d2) r;have n:=iA D;have e:=zOh (k:=k) (m:=m) (t:=t) (d:=d) (k':=k2) (m':=m2) (t':=t2) (d':=d2) (!(ck==1)) (!(ck==2));unfold zMp;simp only;generalize nQ ⟨k,m,t,d⟩=u at g ⊢;generalize nQ ⟨k2,m2,t2,d2⟩=v at h ⊢;generalize aO ⟨k,m,t,d⟩=w at j ⊢;generalize aO ⟨k2,m2,t2,d2⟩=x at l ⊢;generalize bZ p=y at n ⊢;generalize xI (!(ck==1)) (!(ck==2)) ⟨k,m,t,d⟩ ⟨k2,m2,t2,d2⟩=F at e ⊢;have o:(ck != 1) = !(ck==1):=rfl;have q:(ck != 2) = !(ck==2):=rfl;have G:(ck != 0) = !(ck==0):=rfl;have H:(p != []) = !(p == []):=rfl;have a:((ck==1) && (ck==2))=false:=by
  cases I:(ck==1)
  .rfl
  .rw[eq_of_beq I];rfl
 generalize (ck==1)=J at o e a ⊢;generalize (ck==2)=K at q e a ⊢;generalize (ck==0)=z at G ⊢;generalize L:(F==ck)=q8;generalize M:(p == [])=A at H ⊢;cases J<;>cases K
 .simp only[br,dw,ej,gp] at o q e ⊢;clear a;refine aa func206 λB C=>?_
  repeat' (first|exact⟨⟩|refine sq ?_|refine dR (id:=1) aC aI [] [0,1,2,3,4,5,6,7] ?_|((refine aK (id:=2) aC aI [] [0,1,2,3,4,5,6,7,8,9,10,11,12,13,14,15,16,17,18,19,20,21,22,23,24,25,26,27,28,29,30,31,32,33,34,35,36,37,38,39,40,41,42,43,44,45,46,47,48,49,50,51,52,53,54,55,56,57,58,59] qi ?_);(repeat' (first|(refine aM ?_)|((refine fR ?_ rfl rfl ?_ ?_);(rotate_left 1);(focus ((repeat' (first|exact⟨⟩|refine sq ?_|refine uF g ?_|refine uF h ?_|refine uF j ?_|refine uF l ?_|refine uF n ?_|refine uF e ?_|refine aY (λ_=>?_) (λ_=>?_)));exact rfl));(simp only[aD]))|(cases A)|(cases y)|(cases u)|(cases v)|(cases w)|(cases x)|(cases z)))))
  all_goals first|(simp;done)|trace_state
 .simp only[bh,br,dw,ej,e8,dn,gp] at o q e ⊢;clear a l x;refine aa func206 λB C=>?_
  repeat' (first|exact⟨⟩|refine sq ?_|refine dR (id:=1) aC aI [] [0,1,2,3,4,5,6,7] ?_|((refine aK (id:=2) aC aI [] [0,1,2,3,4,5,6,7,8,9,10,11,12,13,14,15,16,17,18,19,20,21,22,23,24,25,26,27,28,29,30,31,32,33,34,35,36,37,38,39,40,41,42,43,44,45,46,47,48,49,50,51,52,53,54,55,56,57,58,59] qi ?_);(repeat' (first|(refine aM ?_)|((refine fR ?_ rfl rfl ?_ ?_);(rotate_left 1);(focus ((repeat' (first|exact⟨⟩|refine sq ?_|refine uF g ?_|refine uF h ?_|refine uF j ?_|refine uF n ?_|refine uF e ?_|refine aY (λ_=>?_) (λ_=>?_)));exact rfl));(simp only[aD]))|(cases A)|(cases y)|(cases u)|(cases v)|(cases w)|(cases z)))))
  all_goals first|(simp;done)|trace_state
 .simp only[bh,br,dw,ej,e8,dn,gp] at o q e ⊢;clear a j w;refine aa func206 λB C=>?_
  repeat' (first|exact⟨⟩|refine sq ?_|refine dR (id:=1) aC aI [] [0,1,2,3,4,5,6,7] ?_|((refine aK (id:=2) aC aI [] [0,1,2,3,4,5,6,7,8,9,10,11,12,13,14,15,16,17,18,19,20,21,22,23,24,25,26,27,28,29,30,31,32,33,34,35,36,37,38,39,40,41,42,43,44,45,46,47,48,49,50,51,52,53,54,55,56,57,58,59] qi ?_);(repeat' (first|(refine aM ?_)|((refine fR ?_ rfl rfl ?_ ?_);(rotate_left 1);(focus ((repeat' (first|exact⟨⟩|refine sq ?_|refine uF g ?_|refine uF h ?_|refine uF l ?_|refine uF n ?_|refine uF e ?_|refine aY (λ_=>?_) (λ_=>?_)));exact rfl));(simp only[aD]))|(cases A)|(cases y)|(cases u)|(cases v)|(cases x)|(cases z)))))
  all_goals first|(simp;done)|trace_state
 .cases a
def AL{l:Bh}(Q:l.length<=1000000)(C:∀x∈l,x.p.length<=1000000000/\x.o.t<18446744073709551616/\x.n.t<18446744073709551616):
  ag 139 [.c (.p (.sl 10 (jD l)))] (.c (.p (.b (gU l)))):=by
 refine aa func139 λR hX=>?_
 repeat' (first|exact⟨⟩|refine sp ?_)
 refine aJ aC aI (α:=Nat) (λk=>⟨32,[(0,.c (.p (.sl 10 (jD l)))),(5,.c (.p (.sl 10 (jD l)))),(6,.c (.p (.i .i64 l.length))),(7,.c (.p (.i .i64 k)))],[]⟩)
  (λk=>k<=l.length/\gV (nU l k) (l.drop k)=gU l) (λk=>l.length-k) 0 ⟨bc _,rfl⟩ (.inl (aB qj rfl rfl wkS)) ?_
 rintro k ⟨S,a⟩;by_cases h:k<l.length
 .have v:=ay h;have F:=jK v;obtain⟨G,H,I,T⟩:=lk k l.length;have f:(decide ((0:Int)<k)=false/\pV (nU l k) l[k].p=true)∨∃m:Nat,∃y:Ch,decide ((0:Int)<k)=true/\IntKind.i64.wrap ((k:Int)-1)=(m:Int)/\(m:Int)<l.length/\l[m]?=some y/\decide (HP l[k].p y.p<=0) = !pV (nU l k) l[k].p:=by
   by_cases U:0<k
   .have j:k-1<l.length:=qd
    refine .inr ⟨k-1,l[k-1],df qd,?_,qd,ay j,?_⟩
    .rw[wrap_i64 qd qd];omega
    .rw [zOS];have e:nU l k=some l[k-1].p:=by
      have:=pU (ay j);rw[show k-1+1=k by omega] at this
      exact this
     rw[e];rfl
   .refine .inl ⟨er qd,?_⟩;have:k=0:=qd
    subst this;rfl
  have q:l.drop k=l[k]::l.drop (k+1):=ib h;have r:=pU v;rw[q,gV,<- r] at a;obtain⟨D,J,K⟩:=C _ (ch h);have g:=zSl (p:=l[k].p) (ck:=l[k].k) (k:=l[k].o.k) (m:=l[k].o.m) (t:=l[k].o.t) (d:=l[k].o.d) (k2:=l[k].n.k) (m2:=l[k].n.m) (t2:=l[k].n.t) (d2:=l[k].n.d) D J K;have E:Ch.mk l[k].p l[k].k ⟨l[k].o.k,l[k].o.m,l[k].o.t,l[k].o.d⟩ ⟨l[k].n.k,l[k].n.m,l[k].n.t,l[k].n.d⟩=l[k]:=rfl;rw[E] at g;clear r q C E;generalize pV (nU l k) l[k].p=L at f a;generalize l[k]=x at v F f g a D;generalize zMp x=M at g a;cases M
  .have s:gU l=false:=by rw[<- a];rfl
   rw[s];clear s a;rcases f with⟨w,rfl⟩|⟨m,y,w,N,O,u,z⟩
   .repeat' (first|exact⟨⟩|refine sq ?_|refine uF g ?_|refine dG (id:=4) aC aI [] [0,1,2,3,4,5,6,7,8,9,10,11,12,13,14,15,16,17,18] ?_|refine aM ?_|refine d1 ?_ ?_ ?_|with_reducible exact rfl)
   .have A:=jK u
    repeat' (first|exact⟨⟩|refine sq ?_|refine uF g ?_|refine dG (id:=4) aC aI [] [0,1,2,3,4,5,6,7,8,9,10,11,12,13,14,15,16,17,18] ?_|refine aM ?_|refine d1 ?_ ?_ ?_|with_reducible exact rfl)
  .rcases f with⟨w,rfl⟩|⟨m,y,w,N,O,u,z⟩
   .have B:k+1<=l.length/\gV (nU l (k+1)) (l.drop (k+1))=gU l:=⟨qd,by rw[<- a];simp⟩
    clear a
    repeat' (first|exact⟨⟩|refine sq ?_|refine uF g ?_|refine dG (id:=4) aC aI [] [0,1,2,3,4,5,6,7,8,9,10,11,12,13,14,15,16,17,18] ?_|refine aM ?_|refine d1 ?_ ?_ ?_|with_reducible exact rfl)
    exact cW (k+1) B qd (aB rfl rfl rfl wkS)
   .have A:=jK u;have P:(0:Int)<=m:=qd
    cases L
    .have s:gU l=false:=by rw[<- a];rfl
     rw[s];rw[br] at z;clear s a u
     repeat' (first|exact⟨⟩|refine sq ?_|refine uF g ?_|refine uF oD ?_|refine dG (id:=4) aC aI [] [0,1,2,3,4,5,6,7,8,9,10,11,12,13,14,15,16,17,18] ?_|refine aM ?_|refine d1 ?_ ?_ ?_|with_reducible exact rfl)
    .have B:k+1<=l.length/\gV (nU l (k+1)) (l.drop (k+1))=gU l:=⟨qd,by rw[<- a];simp⟩
     rw[bh] at z;clear a u
     repeat' (first|exact⟨⟩|refine sq ?_|refine uF g ?_|refine uF oD ?_|refine dG (id:=4) aC aI [] [0,1,2,3,4,5,6,7,8,9,10,11,12,13,14,15,16,17,18] ?_|refine aM ?_|refine d1 ?_ ?_ ?_|with_reducible exact rfl)
     exact cW (k+1) B qd (aB rfl rfl rfl wkS)
 .have G:=aj k l.length;rw[cw qd,gV] at a;rw[<- a];clear a
  repeat' (first|exact⟨⟩|refine sp ?_)
end Go.Proofs.YtfcindonokhbeaaGreatDoor
end
