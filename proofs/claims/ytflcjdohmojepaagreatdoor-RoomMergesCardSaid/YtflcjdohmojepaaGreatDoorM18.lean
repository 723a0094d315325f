/- Part 19 of the proof of roomMerges_card, set without needless blanks. No condition. -/
import Derived.Test.YtflcjdohmojepaaGreatDoorM17
set_option linter.all false
set_option maxRecDepth 100000
set_option maxHeartbeats 16000000
section
namespace Go.Proofs.YtflcjdohmojepaaGreatDoor
open Go Go.Dm Go.Proofs.Tryz
theorem yU{p q:List UInt8}(hp:p.length<=4611686018427387904)(hq:q.length<=9223372036854775807):aA prog 86 [.c (.p (.s p)),.c (.p (.s q))] [] λr h=>r=.c (.p (.b (aO p q)))/\h=[]:=by
 have w1:IntKind.i64.wrap ((p.length:Int)+1)=p.length+1:=wrap_i64 (by omega) (by omega);refine eT func86 λX0 hX=>?_;simp only[f86,go_sem]
 repeat' (first|simp only[*,go_sem,Nat.reduceLT,Nat.reduceLeDiff,Nat.reduceEqDiff,↓reduceIte,Int.reduceLE,Int.reduceToNat,]|with_reducible refine aH (λ_=>?_) (λ_=>?_)|with_reducible refine aY (λ_=>?_) (λ_=>?_)|((with_reducible refine And.intro ?_ ?_);((first|omega|(simp only[decide_eq_true_eq] at *;omega)))))
 all_goals (simp_all[aO];try (intro _;omega))
theorem CF{t:List It}{p:List UInt8}(ht:t.length<=1000000)(hp:p.length<=4611686018427387904)(hq:∀x∈t,x.p.length<=9223372036854775807):
  aA prog 79 [.c (.p (.sl 5 (aS t))),.c (.p (.s p))] [] λr h=>r=.c (.p (.sl 5 (aS (bG t p))))/\h=[]:=by
 refine eT func79 λX0 hX=>?_;simp only[f79,go_sem]
 repeat' (simp only[*,go_sem,Nat.reduceLT,])
 refine dQ aF aN 5 5 rfl ?_;refine aP aF aN (α:=Nat × List It) (λx=>⟨29,[(0,.c (.p (.sl 5 (aS t)))),(1,.c (.p (.s p))),(5,.c (.own 0 0 x.2.length)),(6,.c (.p (.i .i64 x.1)))],[.arr 5 (aS x.2) false]⟩)
  (λx=>x.1<=t.length/\x.2.length<=x.1/\x.2++bG (t.drop x.1) p=bG t p) (λx=>t.length-x.1) (0,[]) ?_ ?_ ?_
 .exact⟨Nat.zero_le _,Nat.le_refl _,by simp⟩
 .refine .inl (aB (by rw[hX];rfl) rfl rfl ?_);simp[aQ,aX,aI,aL,aJ]
 .rintro ⟨k,out⟩ ⟨hk,hol,hout⟩;simp only at hk hol hout;by_cases hlt:k<t.length
  .have hx:t[k]?=some t[k]:=List.getElem?_eq_getElem hlt;have hg:=bZ hx;have hd:=drop_at hx;have h1:decide ((k:Int)<(t.length:Int))=true:=decide_eq_true (by omega);have w1:IntKind.i64.wrap ((k:Int)+1)=k+1:=wrap_i64 (by omega) (by omega);generalize t[k]=x at hx hg hd;have hxp:=hq x (List.mem_of_getElem? hx)
   repeat' (first|simp only[*,go_sem,Nat.reduceLT,Nat.reduceLeDiff,Nat.reduceEqDiff,↓reduceIte,Nat.reduceAdd,Nat.reduceMul,Nat.reduceBEq,]|((with_reducible refine mH (yU hp hxp) ?_ ?_ ?_);exact rfl;exact rfl)|with_reducible refine aH (λ_=>?_) (λ_=>?_)|((with_reducible refine And.intro ?_ ?_);((first|omega|decide))))
   .refine dN (k+1,out++[x]) 0 2 ⟨by omega,by simp;omega,?_⟩ (by simp;omega) rfl rfl (aB rfl rfl rfl ?_)
    .rw[<- hout,hd];have hb:aO p x.p=false:=by simpa using ‹(!aO p x.p)=true›
     simp[bG,hb]
    .simp[aQ,aX,aI,aL,aJ,EI,CY,EH]
   .refine dE (k+1,out) ⟨by omega,by simp;omega,?_⟩ (by simp;omega) (aB rfl rfl rfl ?_)
    .rw[<- hout,hd];have hb:aO p x.p=true:=by simpa using ‹(!aO p x.p)=false›
     simp[bG,hb]
    .simp[aQ,aX,aI,aL,aJ]
  .have h1:decide ((k:Int)<(t.length:Int))=false:=decide_eq_false (by omega)
   repeat' (simp only[*,go_sem,Nat.reduceLT,Nat.reduceEqDiff,↓reduceIte,])
   have:k=t.length:=by omega
   subst this;rw[List.drop_length] at hout;rw[<- hout];simp[bG]
theorem KC{p:List UInt8}(hp:p.length<=4611686018427387904):aA prog 52 [.c (.p (.s p))] [] λr h=>r=.c (.p (.s (aU p)))/\h=[]:=by
 have w0:IntKind.i64.wrap ((p.length:Int)-1)=p.length-1:=wrap_i64 (by omega) (by omega);refine eT func52 λX0 hX=>?_;simp only[f52,go_sem]
 repeat' (simp only[*,go_sem,Nat.reduceLT,Nat.reduceEqDiff,↓reduceIte,])
 refine aP aF aN (α:=Nat) (λj=>⟨18,[(0,.c (.p (.s p))),(3,.c (.p (.i .i64 ((j:Int)-1))))],[]⟩) (λj=>j<=p.length/\dG p j=dG p p.length) (λj=>j) p.length ⟨Nat.le_refl _,rfl⟩ (.inl (aB (by rw[hX];rfl) rfl rfl (by simp[aQ,aX,aI,aL,aJ,]))) ?_;rintro (_|j) ⟨hj,hl⟩
 .repeat' (simp only[*,go_sem,Nat.reduceLT,Nat.reduceEqDiff,↓reduceIte,Int.reduceLE,Int.reduceSub,Int.reduceNeg,])
  simp only[aU,<- hl,dG]
 .have e1:((j+1:Nat):Int)-1=j:=by omega
  have w1:IntKind.i64.wrap ((j:Int)-1)=j-1:=wrap_i64 (by omega) (by omega);have d1:decide ((0:Int)<=j)=true:=decide_eq_true (by omega);simp only[dG] at hl
  repeat' (first|simp only[*,go_sem,Nat.reduceLT,Nat.reduceEqDiff,↓reduceIte,Int.reduceLE,Int.reduceToNat,]|with_reducible refine aH (λ_=>?_) (λ_=>?_)|((with_reducible refine And.intro ?_ ?_);omega))
  .rename_i hb;rw[if_pos hb] at hl;simp only[aU,<- hl]
  .rename_i hb;rw[if_neg (by rw[hb];decide)] at hl;exact dE j ⟨by omega,hl⟩ (by omega) (aB rfl rfl rfl (by simp[aQ,aX,aI,aL,aJ,]))
theorem SU{s:List UInt8}(hs:s.length<=4611686018427387904):aA prog 130 [.c (.p (.s s))] [] λr h=>r=.c (.p (.b (aZ s)))/\h=[]:=by
 refine eT func130 λX0 hX=>?_;simp only[f130,go_sem]
 repeat' (simp only[*,go_sem,Nat.reduceLT,])
 refine aP aF aN (α:=Nat) (λk=>⟨36,[(0,.c (.p (.s s))),(3,.c (.p (.i .i64 k)))],[]⟩) (λk=>k<=s.length/\(s.drop k).all pY=s.all pY) (λk=>s.length-k) 0 ⟨Nat.zero_le _,rfl⟩ (.inl (aB (by rw[hX];rfl) rfl rfl (by simp[aQ,aX,aI,aL,aJ,]))) ?_;rintro k ⟨hk,hl⟩;by_cases hlt:k<s.length
 .have hx:s[k]?=some s[k]:=List.getElem?_eq_getElem hlt;have hg:=XB hx;have hd:=drop_at hx;have h1:decide ((k:Int)<(s.length:Int))=true:=decide_eq_true (by omega);have w1:IntKind.i64.wrap ((k:Int)+1)=k+1:=wrap_i64 (by omega) (by omega);generalize s[k]=x at hx hg hd;rw[hd,List.all_cons] at hl
  repeat' (first|simp only[*,go_sem,Nat.reduceLT,Nat.reduceEqDiff,↓reduceIte,]|with_reducible refine aH (λ_=>?_) (λ_=>?_)|with_reducible refine aY (λ_=>?_) (λ_=>?_)|((with_reducible refine And.intro ?_ ?_);omega))
  .have:pY x=false:=by simp_all[pY]
   simp only[aZ,<- hl,this,Bool.false_and]
  .have:pY x=false:=by simp_all[pY]
   simp only[aZ,<- hl,this,Bool.false_and]
  .have:pY x=true:=by simp_all[pY]
   rw[this,Bool.true_and] at hl;exact dE (k+1) ⟨by omega,hl⟩ (by omega) (aB rfl rfl rfl (by simp[aQ,aX,aI,aL,aJ,]))
 .have h1:decide ((k:Int)<(s.length:Int))=false:=decide_eq_false (by omega);rw[List.drop_of_length_le (by omega),List.all_nil] at hl;unfold aZ;rw[<- hl];clear hl
  repeat' (first|simp only[*,go_sem,Nat.reduceLT,Nat.reduceEqDiff,↓reduceIte,]|with_reducible refine aY (λ_=>?_) (λ_=>?_))
  all_goals simp only[*,Bool.true_and,Bool.and_true,Bool.and_false,Bool.false_and,Bool.not_false,Bool.not_true]
theorem zOr{s:List UInt8}(hs:s.length<=1000000000):aA prog 129 [.c (.p (.s s))] [] λr h=>r=.c (.p (.sl 1 (encS (qW s))))/\h=[]:=by
 refine eT func129 λX0 hX=>?_;simp only[f129,go_sem]
 repeat' (simp only[*,go_sem,Nat.reduceLT,])
 refine dQ aF aN 3 1 rfl ?_;refine aP aF aN (α:=Nat × List (List UInt8) × List UInt8) (λx=>⟨31,[(0,.c (.p (.s s))),(3,.c (.own 0 0 x.2.1.length)),(4,.c (.p (.s x.2.2))),(5,.c (.p (.i .i64 x.1)))],[.arr 1 (encS x.2.1) false]⟩)
  (λx=>x.1<=s.length/\x.2.1.length<=x.1/\x.2.2.length<=x.1/\x.2.1++yW x.2.2 (s.drop x.1)=qW s) (λx=>s.length-x.1) (0,[],[]) ⟨Nat.zero_le _,Nat.le_refl _,Nat.le_refl _,by simp[qW]⟩ (.inl (aB (by rw[hX];rfl) rfl rfl (by simp[aQ,aX,aI,aL,aJ,nT]))) ?_
 rintro⟨k,out,w⟩ ⟨hk,hol,hwl,hl⟩;simp only at hk hol hwl hl;by_cases hlt:k<s.length
 .have hx:s[k]?=some s[k]:=List.getElem?_eq_getElem hlt;have hg:=XB hx;have hd:=drop_at hx;have h1:decide ((k:Int)<(s.length:Int))=true:=decide_eq_true (by omega);have w1:IntKind.i64.wrap ((k:Int)+1)=k+1:=wrap_i64 (by omega) (by omega);have ho:=zPj hx;generalize s[k]=x at hx hg hd ho;rw[hd] at hl;simp only[yW] at hl
  repeat' (first|simp only[*,go_sem,Nat.reduceLT,Nat.reduceLeDiff,Nat.reduceEqDiff,↓reduceIte,Nat.reduceAdd,Nat.reduceBEq,]|with_reducible refine aH (λ_=>?_) (λ_=>?_)|((with_reducible refine And.intro ?_ ?_);((first|omega|decide))))
  .rename_i hb;rw[if_pos hb] at hl;exact dN (k+1,out++[w],[]) 0 2 ⟨by omega,by simp;omega,by simp,by simpa using hl⟩ (by simp;omega) rfl rfl (aB rfl rfl rfl (by simp[aQ,aX,aI,aL,aJ,EI,CY,EH,]))
  .rename_i hb;rw[if_neg (by rw[hb];decide)] at hl;exact dE (k+1,out,w++[x]) ⟨by omega,by simp;omega,by simp;omega,hl⟩ (by simp;omega) (aB rfl rfl rfl (by simp[aQ,aX,aI,aL,aJ,]))
 .have h1:decide ((k:Int)<(s.length:Int))=false:=decide_eq_false (by omega);rw[List.drop_of_length_le (by omega)] at hl;simp only[yW] at hl;have hl2:(qW s).length=out.length+1:=by rw[<- hl];simp
  repeat' (first|simp only[*,go_sem,Nat.reduceLT,Nat.reduceLeDiff,Nat.reduceEqDiff,↓reduceIte,Nat.reduceAdd,Nat.reduceBEq,]|((with_reducible refine And.intro ?_ ?_);((first|omega|decide))))
  all_goals rw[List.take_of_length_le (by omega)]
theorem uK{p:List UInt8}(hp:p.length<=1000000000):aA prog 77 [.c (.p (.s p))] [] λr h=>r=.c (.p (.b (bW p)))/\h=[]:=by
 have hcl:(qW p).length<=p.length+1:=qV p [];refine eT func77 λX0 hX=>?_;simp only[f77,go_sem]
 repeat' (first|simp only[*,go_sem,Nat.reduceLT,Nat.reduceEqDiff,↓reduceIte,]|((with_reducible refine xE (zOr hp) ?_ ?_ ?_);exact rfl;exactλ_=>rfl)|with_reducible refine aH (λ_=>?_) (λ_=>?_))
 .rename_i h0;simp only[bW,h0,Bool.true_or]
 rename_i h0;refine aP aF aN (α:=Nat) (λk=>⟨24,[(0,.c (.p (.s p))),(3,.c (.p (.sl 1 (encS (qW p))))),(4,.c (.p (.i .i64 k)))],[]⟩)
  (λk=>k<=(qW p).length/\((qW p).drop k).all aZ=(qW p).all aZ) (λk=>(qW p).length-k) 0 ⟨Nat.zero_le _,rfl⟩ (.inl (aB (by rw[hX];rfl) rfl rfl (by simp[aQ,aX,aI,aL,aJ,]))) ?_
 rintro k ⟨hk,hl⟩;by_cases hlt:k<(qW p).length
 .have hx:(qW p)[k]?=some (qW p)[k]:=List.getElem?_eq_getElem hlt;have hg:=encS_at hx;have hd:=drop_at hx;have h1:decide ((k:Int)<((qW p).length:Int))=true:=decide_eq_true (by omega);have w1:IntKind.i64.wrap ((k:Int)+1)=k+1:=wrap_i64 (by omega) (by omega);generalize (qW p)[k]=x at hx hg hd;have hxl:x.length<=p.length:=by have:=yY p [] x (List.mem_of_getElem? hx);simpa using this
  rw[hd,List.all_cons] at hl
  repeat' (first|simp only[*,go_sem,Nat.reduceLT,Nat.reduceEqDiff,↓reduceIte,]|((with_reducible refine mH (SU (s:=x) (by omega)) ?_ ?_ ?_);exact rfl;exact rfl)|with_reducible refine aH (λ_=>?_) (λ_=>?_)|((with_reducible refine And.intro ?_ ?_);omega))
  .rename_i hb;have hb:aZ x=false:=by simpa using hb
   simp only[bW,h0,<- hl,hb,Bool.false_and,Bool.false_or]
  .rename_i hb;have hb:aZ x=true:=by simpa using hb
   rw[hb,Bool.true_and] at hl;exact dE (k+1) ⟨by omega,hl⟩ (by omega) (aB rfl rfl rfl (by simp[aQ,aX,aI,aL,aJ,]))
 .have h1:decide ((k:Int)<((qW p).length:Int))=false:=decide_eq_false (by omega);rw[List.drop_of_length_le (by omega),List.all_nil] at hl;unfold bW
  repeat' (simp only[*,go_sem,Nat.reduceLT,Nat.reduceEqDiff,↓reduceIte,])
  all_goals rw[<- hl,Bool.true_and]
theorem mQ{t:List It}{p:List UInt8}(ht:t.length<=1000000):
  aA prog 27 [.c (.p (.sl 5 (aS t))),.c (.p (.s p))] [] λr h=>r=.tup [.agg ((aM t p).getD nd0).cv,.c (.p (.b (aM t p).isSome))]/\h=[]:=by
 refine aV ?_;refine eT func27 λX0 hX=>?_;simp only[f27,go_sem]
 repeat' (simp only[*,go_sem,Nat.reduceLT,])
 refine aP aF aN (α:=Nat) (λk=>⟨26,[(0,.c (.p (.sl 5 (aS t)))),(1,.c (.p (.s p))),(4,.c (.ptr 0 0)),(6,.c (.p (.i .i64 k)))],[.box [.p (.i .i64 0),.p (.i .i64 0),.p (.f 0),.p .nil]]⟩)
  (λk=>k<=t.length/\aM (t.drop k) p=aM t p) (λk=>t.length-k) 0 ⟨Nat.zero_le _,rfl⟩ (.inl (aB (by rw[hX];rfl) rfl rfl (by simp[aQ,aX,aI,aL,aJ,]))) ?_
 rintro k ⟨hk,hl⟩;by_cases hlt:k<t.length
 .have hx:t[k]?=some t[k]:=List.getElem?_eq_getElem hlt;have hg:=bZ hx;have hd:=drop_at hx;have h1:decide ((k:Int)<(t.length:Int))=true:=decide_eq_true (by omega);have w1:IntKind.i64.wrap ((k:Int)+1)=k+1:=wrap_i64 (by omega) (by omega);generalize t[k]=x at hx hg hd;rw[hd] at hl;simp only[aM] at hl
  repeat' (first|simp only[*,go_sem,Nat.reduceLT,Nat.reduceLeDiff,Nat.reduceEqDiff,↓reduceIte,Nat.reduceAdd,]|with_reducible refine aH (λ_=>?_) (λ_=>?_)|((with_reducible refine And.intro ?_ ?_);omega))
  .rename_i hb;rw[if_pos hb] at hl;rw[<- hl];simp only[Option.getD_some,Option.isSome_some];simp
  .rename_i hb;rw[if_neg (by rw[hb];decide)] at hl;exact dE (k+1) ⟨by omega,hl⟩ (by omega) (aB rfl rfl rfl (by simp[aQ,aX,aI,aL,aJ,]))
 .have h1:decide ((k:Int)<(t.length:Int))=false:=decide_eq_false (by omega);rw[List.drop_of_length_le (by omega)] at hl;simp only[aM] at hl
  repeat' (simp only[*,go_sem,Nat.reduceLT,Nat.reduceLeDiff,Nat.reduceEqDiff,↓reduceIte,Nat.reduceAdd,])
  all_goals rw[<- hl]
  all_goals simp[nd0,jO]
theorem oA{t:List It}{p:List UInt8}(ht:t.length<=1000000):
  aA prog 26 [.c (.p (.sl 5 (aS t))),.c (.p (.s p))] [] λr h=>r=.c (.p (.b (bC t p)))/\h=[]:=by
 have hd:bC t p=(p == [] || ((aM t p).isSome && ((aM t p).getD nd0).k==2)):=by
  unfold bC;cases aM t p<;>rfl
 rw[hd];refine eT func26 λX0 hX=>?_;simp only[f26,go_sem]
 repeat' (first|simp only[*,go_sem,Nat.reduceLT,Nat.reduceLeDiff,Nat.reduceEqDiff,↓reduceIte,Nat.reduceAdd,]|((with_reducible refine xE (mQ ht) ?_ ?_ ?_);exact rfl;exactλ_=>rfl)|with_reducible refine aY (λ_=>?_) (λ_=>?_))
 all_goals simp only[*,Bool.true_and,Bool.and_true,Bool.and_false,Bool.false_and,Bool.false_or,Bool.true_or]
theorem CW{t:List It}{p:List UInt8}(ht:t.length<=1000000)(hp:p.length<=4611686018427387904)(hq:∀x∈t,x.p.length<=9223372036854775807):
  aA prog 31 [.c (.p (.sl 5 (aS t))),.c (.p (.s p))] [] λr h=>r=.c (.p (.sl 5 (aS (bR t p))))/\h=[]:=by
 have hnl:(bG t p).length<=t.length:=List.length_filter_le ..;refine eT func31 λX0 hX=>?_;simp only[f31,go_sem]
 repeat' (first|simp only[*,go_sem,Nat.reduceLT,Nat.reduceEqDiff,↓reduceIte,]|((with_reducible refine xE (CF ht hp hq) ?_ ?_ ?_);exact rfl;exactλ_=>rfl))
 unfold bR;generalize bG t p=u at *;refine dQ aF aN 5 5 rfl ?_;refine aP aF aN (α:=Nat × List It) (λx=>⟨32,[(0,.c (.p (.sl 5 (aS t)))),(1,.c (.p (.s p))),(6,.c (.p (.sl 5 (aS u)))),(5,.c (.own 0 0 x.2.length)),(7,.c (.p (.i .i64 x.1)))],[.arr 5 (aS x.2) false]⟩)
  (λx=>x.1<=u.length/\x.2.length<=x.1/\x.2++mM (u.drop x.1) p=mM u p) (λx=>u.length-x.1) (0,[]) ⟨Nat.zero_le _,Nat.le_refl _,by simp⟩ (.inl (aB (by rw[hX];rfl) rfl rfl (by simp[aQ,aX,aI,aL,aJ,gI,]))) ?_
 rintro⟨k,out⟩ ⟨hk,hol,hout⟩;simp only at hk hol hout;by_cases hlt:k<u.length
 .have hx:u[k]?=some u[k]:=List.getElem?_eq_getElem hlt;have hg:=bZ hx;have hd:=drop_at hx;have h1:decide ((k:Int)<(u.length:Int))=true:=decide_eq_true (by omega);have w1:IntKind.i64.wrap ((k:Int)+1)=k+1:=wrap_i64 (by omega) (by omega);generalize u[k]=x at hx hg hd;rw[hd,mM,List.filter_cons] at hout
  repeat' (first|simp only[*,go_sem,Nat.reduceLT,Nat.reduceLeDiff,Nat.reduceEqDiff,↓reduceIte,Nat.reduceAdd,Nat.reduceMul,Nat.reduceBEq,]|with_reducible refine aH (λ_=>?_) (λ_=>?_)|((with_reducible refine And.intro ?_ ?_);((first|omega|decide))))
  .rename_i hb;rw[if_pos (by simpa using hb)] at hout;exact dN (k+1,out++[x]) 0 2 ⟨by omega,by simp;omega,by simpa[mM] using hout⟩ (by simp;omega) rfl rfl (aB rfl rfl rfl (by simp[aQ,aX,aI,aL,aJ,EI,CY,EH,]))
  .rename_i hb;rw[if_neg (by simpa using hb)] at hout;exact dE (k+1,out) ⟨by omega,by simp;omega,hout⟩ (by simp;omega) (aB rfl rfl rfl (by simp[aQ,aX,aI,aL,aJ,]))
 .have h1:decide ((k:Int)<(u.length:Int))=false:=decide_eq_false (by omega);rw[List.drop_of_length_le (by omega)] at hout;simp only[mM,List.filter_nil,List.append_nil] at hout
  repeat' (simp only[*,go_sem,Nat.reduceLT,Nat.reduceEqDiff,↓reduceIte,])
  all_goals rfl
theorem zHk{d:List UInt8}(hd:d.length<=1000000000):aA prog 132 [.c (.p (.sl 1 (bU d)))] [] λr h=>r=.c (.p (.b (lA d)))/\h=[]:=by
 refine eT func132 λX0 hX=>?_;simp only[f132,go_sem]
 repeat' (simp only[*,go_sem,Nat.reduceLT,])
 refine aP aF aN (α:=Nat) (λk=>⟨23,[(0,.c (.p (.sl 1 (bU d)))),(3,.c (.p (.i .i64 k)))],[]⟩) (λk=>k<=d.length/\(d.drop k).all (λb=>!((b.toNat:Int)==0))=d.all (λb=>!((b.toNat:Int)==0))) (λk=>d.length-k) 0 ⟨Nat.zero_le _,rfl⟩ (.inl (aB (by rw[hX];rfl) rfl rfl (by simp[aQ,aX,aI,aL,aJ,]))) ?_;rintro k ⟨hk,hl⟩;by_cases hlt:k<d.length
 .have hx:d[k]?=some d[k]:=List.getElem?_eq_getElem hlt;have hg:=zMo hx;have hd:=drop_at hx;have h1:decide ((k:Int)<(d.length:Int))=true:=decide_eq_true (by omega);have w1:IntKind.i64.wrap ((k:Int)+1)=k+1:=wrap_i64 (by omega) (by omega);generalize d[k]=x at hx hg hd;rw[hd,List.all_cons] at hl
  repeat' (first|simp only[*,go_sem,Nat.reduceLT,Nat.reduceEqDiff,↓reduceIte,]|with_reducible refine aH (λ_=>?_) (λ_=>?_)|((with_reducible refine And.intro ?_ ?_);omega))
  .rename_i hb;rw[hb,Bool.not_true,Bool.false_and] at hl;simp only[lA,<- hl,Bool.false_and]
  .rename_i hb;rw[hb,Bool.not_false,Bool.true_and] at hl;exact dE (k+1) ⟨by omega,hl⟩ (by omega) (aB rfl rfl rfl (by simp[aQ,aX,aI,aL,aJ,]))
 .have h1:decide ((k:Int)<(d.length:Int))=false:=decide_eq_false (by omega);rw[List.drop_of_length_le (by omega),List.all_nil] at hl;unfold lA;rw[<- hl];clear hl
  repeat' (first|simp only[*,go_sem,Nat.reduceLT,Nat.reduceEqDiff,↓reduceIte,]|with_reducible refine aY (λ_=>?_) (λ_=>?_))
  all_goals simp only[*,Bool.true_and,Bool.and_true,Bool.and_false,Bool.false_and,Bool.not_false,Bool.not_true]
theorem zA0{t:List It}{p:List UInt8}{k m:Int}{tt:Nat}{d:List UInt8}(ht:t.length<=1000000):
  aA prog 80 [.c (.p (.sl 5 (aS t))),.c (.p (.s p)),.agg (ndc k m tt d)] [] λr h=>r=.c (.p (.sl 5 (aS (tP t p ⟨k,m,tt,d⟩))))/\h=[]:=by
 refine eT func80 λX0 hX=>?_;simp only[f80,go_sem]
 repeat' (simp only[*,go_sem,Nat.reduceLT,Nat.reduceEqDiff,↓reduceIte,Nat.reduceAdd,])
 refine dQ aF aN 7 5 rfl ?_;refine aP aF aN (α:=Nat × List It × Bool) (λx=>⟨56,[(0,.c (.p (.sl 5 (aS t)))),(1,.c (.p (.s p))),(5,.c (.ptr 0 0)),(7,.c (.own 1 0 x.2.1.length)),(8,.c (.p (.b x.2.2))),(9,.c (.p (.i .i64 x.1)))],[.box (ndc k m tt d),.arr 5 (aS x.2.1) false]⟩)
  (λx=>x.1<=t.length/\x.2.1.length<=2*x.1/\x.2.1++xW p ⟨k,m,tt,d⟩ x.2.2 (t.drop x.1)=tP t p ⟨k,m,tt,d⟩) (λx=>t.length-x.1) (0,[],false) ⟨Nat.zero_le _,Nat.le_refl _,by simp[tP]⟩ (.inl (aB (by rw[hX];rfl) rfl rfl (by simp[aQ,aX,aI,aL,aJ,gI,]))) ?_
 rintro⟨j,out,done⟩ ⟨hk,hol,hout⟩;simp only at hk hol hout;by_cases hlt:j<t.length
 .have hx:t[j]?=some t[j]:=List.getElem?_eq_getElem hlt;have hg:=bZ hx;have hd:=drop_at hx;have h1:decide ((j:Int)<(t.length:Int))=true:=decide_eq_true (by omega);have w1:IntKind.i64.wrap ((j:Int)+1)=j+1:=wrap_i64 (by omega) (by omega);generalize t[j]=x at hx hg hd;rw[hd,xW] at hout;cases done
  .repeat' (first|simp only[*,go_sem,Nat.reduceLT,Nat.reduceLeDiff,Nat.reduceEqDiff,↓reduceIte,Nat.reduceAdd,Nat.reduceMul,Nat.reduceBEq,]|with_reducible refine aH (λ_=>?_) (λ_=>?_)|((with_reducible refine And.intro ?_ ?_);((first|omega|decide))))
   .rename_i ha hb;simp only[ha,hb,Bool.not_false,Bool.true_and,if_true,Bool.false_or] at hout;exact dN (j+1,out++[⟨p,⟨k,m,tt,d⟩⟩]++[x],true) 1 5 ⟨by omega,by simp;omega,by simpa using hout⟩ (by simp;omega) rfl rfl (aB rfl rfl rfl (by simp[aQ,aX,aI,aL,aJ,EI,CY,EH,]))
   .rename_i ha hb;simp only[ha,hb,Bool.not_false,Bool.true_and,if_true,Bool.false_or,Bool.false_eq_true,if_false] at hout;exact dN (j+1,out++[⟨p,⟨k,m,tt,d⟩⟩],true) 1 3 ⟨by omega,by simp;omega,by simpa using hout⟩ (by simp;omega) rfl rfl (aB rfl rfl rfl (by simp[aQ,aX,aI,aL,aJ,EI,CY,EH,]))
   .rename_i ha hb;simp only[ha,hb,Bool.not_false,Bool.true_and,if_true,Bool.false_or,Bool.false_eq_true,if_false] at hout;exact dN (j+1,out++[x],false) 1 3 ⟨by omega,by simp;omega,by simpa using hout⟩ (by simp;omega) rfl rfl (aB rfl rfl rfl (by simp[aQ,aX,aI,aL,aJ,EI,CY,EH,]))
   .rename_i ha hb;simp only[ha,hb,Bool.not_false,Bool.true_and,Bool.false_or,Bool.false_eq_true,if_false] at hout;exact dE (j+1,out,false) ⟨by omega,by simp;omega,by simpa using hout⟩ (by simp;omega) (aB rfl rfl rfl (by simp[aQ,aX,aI,aL,aJ,]))
  .repeat' (first|simp only[*,go_sem,Nat.reduceLT,Nat.reduceLeDiff,Nat.reduceEqDiff,↓reduceIte,Nat.reduceAdd,Nat.reduceMul,Nat.reduceBEq,]|with_reducible refine aH (λ_=>?_) (λ_=>?_)|((with_reducible refine And.intro ?_ ?_);((first|omega|decide))))
   .rename_i hb;simp only[hb,Bool.not_true,Bool.false_and,if_true,Bool.true_or,Bool.false_eq_true,if_false] at hout;exact dN (j+1,out++[x],true) 1 3 ⟨by omega,by simp;omega,by simpa using hout⟩ (by simp;omega) rfl rfl (aB rfl rfl rfl (by simp[aQ,aX,aI,aL,aJ,EI,CY,EH,]))
   .rename_i hb;simp only[hb,Bool.not_true,Bool.false_and,Bool.true_or,Bool.false_eq_true,if_false] at hout;exact dE (j+1,out,true) ⟨by omega,by simp;omega,by simpa using hout⟩ (by simp;omega) (aB rfl rfl rfl (by simp[aQ,aX,aI,aL,aJ,]))
 .have h1:decide ((j:Int)<(t.length:Int))=false:=decide_eq_false (by omega);rw[List.drop_of_length_le (by omega)] at hout;cases done
  .simp only[xW,Bool.false_eq_true,if_false] at hout
   repeat' (first|simp only[*,go_sem,Nat.reduceLT,Nat.reduceLeDiff,Nat.reduceEqDiff,↓reduceIte,Nat.reduceAdd,Nat.reduceMul,Nat.reduceBEq,]|((with_reducible refine And.intro ?_ ?_);((first|omega|decide))))
   all_goals rw[List.take_of_length_le (by rw[<- hout];simp)]
  .simp only[xW,if_true,List.append_nil] at hout
   repeat' (simp only[*,go_sem,Nat.reduceLT,Nat.reduceEqDiff,↓reduceIte,])
   all_goals rw[hout]
end Go.Proofs.YtflcjdohmojepaaGreatDoor
end
