/- Part 37 of roomPlays_card. No condition. -/
import Derived.Test.YtfcindonokhbeaaGreatDoorP33
import Derived.Test.YtfcindonokhbeaaGreatDoorP28
set_option linter.all false
set_option maxRecDepth 100000
set_option maxHeartbeats 0
section
namespace Go.Proofs.YtfcindonokhbeaaGreatDoor
open Go Go.Dm Go.Proofs Go.Proofs.Tryz
def GX{k m:Int}{t:Nat}{d:Ba}:ag 77 [.agg (ndc k m t d),.agg [.p (.i .i64 0),.p (.i .i64 0),.p (.f 0),.p .nil]] (.c (.p (.b (cH ⟨k,m,t,d⟩ nd0)))):=by
 refine aa func77 λa e=>?_
 repeat' (first|exact⟨⟩|refine sp ?_|refine uF (zN _ _) ?_|refine aY (λ_=>?_) (λ_=>?_))
 all_goals first|(simp_all[cH,nd0];done)|trace_state
def GL{l:Bh}(hl:l.length<=1000000)(G:∀x∈l,x.p.length<=1000000000/\x.o.d.length<=1000000000/\x.n.d.length<=1000000000):
  ag 121 [.c (.p (.sl 10 (jD l)))] (.c (.p (.b (zI2 l)))):=by
 refine aa func121 λX0 hX=>?_
 repeat' (simp only[*,go_sem,Nat.reduceLT,])
 refine aJ aC aI (α:=Nat) (λk=>⟨104,[(0,.c (.p (.sl 10 (jD l)))),(3,.c (.p (.i .i64 k)))],[]⟩)
  (λk=>k<=l.length/\wG (nU l k) (l.drop k)=zI2 l) (λk=>l.length-k) 0 ⟨bc _,rfl⟩ (.inl (aB qj rfl rfl qo)) ?_
 rintro k ⟨hk,a⟩;by_cases h:k<l.length
 .have z:=ay h;have P:=jK z;obtain⟨Q,R,S,w1⟩:=lk k l.length;have g:(decide ((0:Int)<k)=false/\pV (nU l k) l[k].p=true)∨∃m:Nat,∃y:Ch,decide ((0:Int)<k)=true/\IntKind.i64.wrap ((k:Int)-1)=(m:Int)/\(m:Int)<l.length/\l[m]?=some y/\(cC l[k].p y.p || l[k].p==y.p) = !pV (nU l k) l[k].p:=by
   by_cases h0:0<k
   .have j:k-1<l.length:=qd
    refine .inr ⟨k-1,l[k-1],df qd,?_,qd,ay j,?_⟩
    .rw[wrap_i64 qd qd];omega
    .rw [FC];have e:nU l k=some l[k-1].p:=by
      have:=pU (ay j);rw[show k-1+1=k by omega] at this
      exact this
     rw[e];rfl
   .refine .inl ⟨er qd,?_⟩;have:k=0:=qd
    subst this;rfl
  have r:l.drop k=l[k]::l.drop (k+1):=ib h;have u:=pU z;rw[r,wG,<- u] at a;obtain⟨T,U,V⟩:=G _ (ch h);clear u r G;generalize pV (nU l k) l[k].p=W at g a;generalize l[k]=x at z P g a T U V;clear z;have A:=GX (k:=x.o.k) (m:=x.o.m) (t:=x.o.t) (d:=x.o.d);have B:=GX (k:=x.n.k) (m:=x.n.m) (t:=x.n.t) (d:=x.n.d);have C:=fA (k:=x.o.k) (m:=x.o.m) (t:=x.o.t) (d:=x.o.d) qd;have D:=fA (k:=x.n.k) (m:=x.n.m) (t:=x.n.t) (d:=x.n.d) qd;have E:=gC (p:=x.p) qd;have v:=eV (k:=x.o.k) (m:=x.o.m) (t:=x.o.t) (d:=x.o.d) (k':=x.n.k) (m':=x.n.m) (t':=x.n.t) (d':=x.n.d);have F:=λp q=>GJ (k:=x.o.k) (m:=x.o.m) (t:=x.o.t) (d:=x.o.d) (k':=x.n.k) (m':=x.n.m) (t':=x.n.t) (d':=x.n.d) p q;unfold zTj at a;rw[AR] at A B C D v;rw[AR] at v;simp only[AR] at F;generalize cH x.o nd0=H at A a;generalize cH x.n nd0=I at B a;generalize aO x.o=J at C a;generalize aO x.n=K at D a;generalize bZ x.p=L at E a;generalize cH x.o x.n=s at v a;generalize X:(x.p == [])=M at a;have N:PLift _:=⟨a⟩;clear a;rcases g with⟨Y,rfl⟩|⟨m,y,Y,b2,b3,O,b5⟩
  .repeat' (first|simp only[*,go_sem,Nat.reduceLT,Nat.reduceLeDiff,Nat.reduceEqDiff,↓reduceIte,Nat.reduceAdd,bh,br]|((with_reducible refine mI A ?_ ?_ ?_);exact rfl;exact rfl)|((with_reducible refine mI B ?_ ?_ ?_);exact rfl;exact rfl)|((refine aK (id:=8) aC aI [] [0,1,2,3,4,5,6,7,8,9,10,11,12,13,14,15,16,17,18,19,20,21,22,23,24,25,26,27,28,29,30,31,32,33,34,35,36,37,38,39,40,41,42,43,44,45,46,47,48,49,50,51,52,53,54,55,56,57,58,59,60,61,62,63,64,65,66,67,68,69,70,71,72,73,74] qi ?_);(simp only[List.append_eq,gn,e9]);(repeat' (first|(refine aM ?_)|((refine fR ?_ rfl rfl ?_ ?_);(rotate_left 1);(focus ((repeat' (first|simp only[*,go_sem,Nat.reduceLT,Nat.reduceLeDiff,Nat.reduceEqDiff,↓reduceIte,Nat.reduceAdd,bh,br]|((with_reducible refine mI C ?_ ?_ ?_);exact rfl;exact rfl)|((with_reducible refine mI D ?_ ?_ ?_);exact rfl;exact rfl)|((with_reducible refine mI E ?_ ?_ ?_);exact rfl;exact rfl)|((with_reducible refine mI v ?_ ?_ ?_);exact rfl;exact rfl)|((with_reducible refine mI (F _ _) ?_ ?_ ?_);exact rfl;exact rfl)|with_reducible refine aY (λ_=>?_) (λ_=>?_)));exact rfl));(simp only[aD]))|(cases M)|(cases L)|(cases H)|(cases J)|(cases I)|(cases K)|(cases s))))|with_reducible refine aH (λ_=>?_) (λ_=>?_))
   all_goals have f:=N.down
   all_goals simp only[bh,br,cy,gp,dp,gz,ej,dn] at f
   all_goals first
    | (rw[<- f];done)
    | (rename_i w;simp only[bne,dg,kd] at w;simp only[w,cy,dp] at f;first|(rw[<- f];done)|exact cW (k+1) ⟨qd,f⟩ qd (aB rfl rfl rfl qo))
    | trace_state
  .have Z:=jK O;have hm0:(0:Int)<=(m:Int):=qd
   clear O
   repeat' (first|simp only[*,go_sem,Nat.reduceLT,Nat.reduceLeDiff,Nat.reduceEqDiff,↓reduceIte,Nat.reduceAdd,bh,br]|((with_reducible refine mI A ?_ ?_ ?_);exact rfl;exact rfl)|((with_reducible refine mI B ?_ ?_ ?_);exact rfl;exact rfl)|((refine aK (id:=8) aC aI [] [0,1,2,3,4,5,6,7,8,9,10,11,12,13,14,15,16,17,18,19,20,21,22,23,24,25,26,27,28,29,30,31,32,33,34,35,36,37,38,39,40,41,42,43,44,45,46,47,48,49,50,51,52,53,54,55,56,57,58,59,60,61,62,63,64,65,66,67,68,69,70,71,72,73,74] qi ?_);(simp only[List.append_eq,gn,e9]);(repeat' (first|(refine aM ?_)|((refine fR ?_ rfl rfl ?_ ?_);(rotate_left 1);(focus ((repeat' (first|simp only[*,go_sem,Nat.reduceLT,Nat.reduceLeDiff,Nat.reduceEqDiff,↓reduceIte,Nat.reduceAdd,bh,br]|((with_reducible refine mI C ?_ ?_ ?_);exact rfl;exact rfl)|((with_reducible refine mI D ?_ ?_ ?_);exact rfl;exact rfl)|((with_reducible refine mI E ?_ ?_ ?_);exact rfl;exact rfl)|((with_reducible refine mI v ?_ ?_ ?_);exact rfl;exact rfl)|((with_reducible refine mI (F _ _) ?_ ?_ ?_);exact rfl;exact rfl)|with_reducible refine aY (λ_=>?_) (λ_=>?_)));exact rfl));(simp only[aD]))|(cases M)|(cases L)|(cases W)|(cases H)|(cases J)|(cases I)|(cases K)|(cases s))))|with_reducible refine aH (λ_=>?_) (λ_=>?_))
   all_goals have f:=N.down
   all_goals simp only[bh,br,cy,gp,dp,gz,ej,dn] at f
   all_goals first
    | (rw[<- f];done)
    | (rename_i w;simp only[bne,dg,kd] at w;simp only[w,cy,dp] at f;first|(rw[<- f];done)|exact cW (k+1) ⟨qd,f⟩ qd (aB rfl rfl rfl qo))
    | trace_state
 .have Q:=aj k l.length;rw[cw qd,wG] at a;rw[<- a];clear a
  repeat' (simp only[*,go_sem,Nat.reduceLT,Nat.reduceEqDiff,↓reduceIte,])
end Go.Proofs.YtfcindonokhbeaaGreatDoor
end
