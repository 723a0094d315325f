/- Part 46 of the proof of roomMerges_card, set without needless blanks. No condition. -/
import Derived.Test.YtflcjdohmojepaaGreatDoorM44
set_option linter.all false
set_option maxRecDepth 100000
set_option maxHeartbeats 16000000
section
namespace Go.Proofs.YtflcjdohmojepaaGreatDoor
open Go Go.Dm Go.Proofs.Tryz
theorem zMv{l:List (List UInt8)}{s:List UInt8}(hl:l.length<=1000000):
  aA prog 96 [.c (.p (.sl 1 (Go.Dm.encS l))),.c (.p (.s s))] [] λr h=>r=.c (.p (.sl 1 (Go.Dm.encS (GD s l))))/\h=[]:=by
 refine eT func96 λX0 hX=>?_;simp only[f96,go_sem]
 repeat' (first|exact⟨⟩|refine sp ?_)
 refine aP aF aN (α:=Nat) (λk=>⟨48,[(0,.c (.p (.sl 1 (Go.Dm.encS l)))),(1,.c (.p (.s s))),(5,.c (.p (.i .i64 k)))],[]⟩)
  (λk=>k<=l.length/\∀j x,l[j]?=some x->j<k->cD x s=true) (λk=>l.length-k) 0 ⟨Nat.zero_le _,λj x _ h=>by omega⟩ (.inl (aB (by rw[hX];rfl) rfl rfl wkS)) ?_
 rintro k ⟨hk,hs⟩;by_cases hlt:k<l.length
 .have hx:l[k]?=some l[k]:=List.getElem?_eq_getElem hlt;have hg:=Go.Dm.encS_at hx;have h1:decide ((k:Int)<(l.length:Int))=true:=decide_eq_true (by omega);have w1:IntKind.i64.wrap ((k:Int)+1)=k+1:=wrap_i64 (by omega) (by omega);have hli:(k:Int)<=(l.length:Int):=by omega
  have hli2:(k:Int)<(l.length:Int):=by omega
  have hmin:min k l.length=k:=Nat.min_eq_left hk;have hk0:(0:Int)<=(k:Int):=by omega
  have ht1:(l.take k).length=k:=by rw[List.length_take];exact hmin
  have ht2:(l.drop k).length=l.length-k:=List.length_drop;generalize l[k]=x at hx hg;cases hb:cD x s
  .have hat:=XL (s:=s) hk hs (λy hy=>by rw[hx] at hy;cases hy;exact hb)
   rw[hx] at hat;simp only at hat;rw[hat];clear hat hs hx;cases he:(x==s)
   .repeat' (first|simp only[*,go_sem,Nat.reduceLT,Nat.reduceLeDiff,Nat.reduceEqDiff,↓reduceIte,Nat.reduceAdd,Int.reduceLE,Int.reduceToNat,Nat.reduceBEq,Bool.false_eq_true]|((with_reducible refine And.intro ?_ ?_);((first|omega|decide))))
    rw[List.take_of_length_le (by simp;omega)];simp
   .repeat' (first|exact⟨⟩|refine sp ?_)
  .have hs':k+1<=l.length/\∀j y,l[j]?=some y->j<k+1->cD y s=true:=⟨by omega,λj y hy hj=>by
    rcases Nat.lt_or_ge j k with h|h
    .exact hs j y hy h
    .have:j=k:=by omega
     subst this;rw[hx] at hy;cases hy;exact hb⟩
   clear hs hx
   repeat' (first|exact⟨⟩|refine sp ?_)
   exact dE (k+1) hs' (by omega) (aB rfl rfl rfl wkS)
 .have h1:decide ((k:Int)<(l.length:Int))=false:=decide_eq_false (by omega);have hkl:k=l.length:=by omega
  subst hkl;have hx:l[l.length]?=none:=List.getElem?_eq_none (Nat.le_refl _);have hat:=XL (s:=s) hk hs (λy hy=>by rw[hx] at hy;cases hy)
  rw[hx] at hat;simp only at hat;rw[hat];clear hat hs hx;have hdl:l.drop l.length=[]:=List.drop_length
  repeat' (first|simp only[*,go_sem,Nat.reduceLT,Nat.reduceLeDiff,Nat.reduceEqDiff,↓reduceIte,Nat.reduceAdd,Int.reduceLE,Int.reduceToNat,Nat.reduceBEq,List.append_nil,List.length_nil,Nat.add_zero]|((with_reducible refine And.intro ?_ ?_);((first|omega|decide))))
  rw[List.take_of_length_le (by simp)]
theorem zGv{ts:List (List It)}(hl:ts.length<=3)(ht:∀t∈ts,t.length<=120):
  aA prog 41 [.c (.p (.sl 1 (ts.map λt=>[.sl 5 (aS t)])))] [] λr h=>r=.c (.p (.sl 1 (Go.Dm.encS (ts.foldl dL []))))/\h=[]:=by
 have hgen:(ts.map λt=>[PV.sl 5 (aS t)]).length=ts.length:=List.length_map _;have hone:(∀x∈(ts.map λt=>[PV.sl 5 (aS t)]),x.length=1)=True:=eq_true λx hx=>by
  obtain⟨t,_,rfl⟩:=List.mem_map.1 hx;rfl
 have hat:∀i t,ts[i]?=some t->(ts.map λt=>[PV.sl 5 (aS t)]).getD i []=[.sl 5 (aS t)]:=λi t h=>by
  simp only[List.getD_eq_getElem?_getD,List.getElem?_map,h];rfl
 generalize (ts.map λt=>[PV.sl 5 (aS t)])=arg at *;refine eT func41 λX0 hX=>?_;simp only[f41,go_sem]
 repeat' (first|exact⟨⟩|refine sp ?_)
 refine zNW 3 1 rfl ?_;refine aP aF aN (α:=Nat) (λi=>⟨32,[(0,.c (.p (.sl 1 arg))),(3,.c (.p (.sl 1 (Go.Dm.encS ((ts.take i).foldl dL []))))),(4,.c (.p (.i .i64 i)))],[]⟩)
  (λi=>i<=ts.length/\((ts.take i).foldl dL []).length<=120*i) (λi=>ts.length-i) 0 ⟨Nat.zero_le _,Nat.le_refl _⟩ (.inl (aB (by rw[hX];rfl) rfl rfl wkS)) ?_
 rintro i ⟨hi,hol⟩;by_cases hlt:i<ts.length
 .have hx:ts[i]?=some ts[i]:=List.getElem?_eq_getElem hlt;have hg:=hat _ _ hx;have h1:decide ((i:Int)<(ts.length:Int))=true:=decide_eq_true (by omega);have hli:(i:Int)<(ts.length:Int):=by omega
  have w1:IntKind.i64.wrap ((i:Int)+1)=i+1:=wrap_i64 (by omega) (by omega);have htl:=ht _ (List.getElem_mem hlt);have hnext:(ts.take (i+1)).foldl dL []=dL ((ts.take i).foldl dL []) ts[i]:=by
   rw[List.take_add_one,hx,List.foldl_append];rfl
  generalize ts[i]=t at hx hg htl hnext;generalize (ts.take i).foldl dL []=o at hol hnext;clear hat hx
  repeat' (first|exact⟨⟩|refine sp ?_)
  refine aP aF aN (α:=Nat) (λk=>⟨32,[(0,.c (.p (.sl 1 arg))),(3,.c (.p (.sl 1 (Go.Dm.encS (dL o (t.take k)))))),(4,.c (.p (.i .i64 i))),(5,.c (.p (.i .i64 k)))],[]⟩)
   (λk=>k<=t.length) (λk=>t.length-k) 0 (Nat.zero_le _) (.inl (aB (by rw[hX];rfl) rfl rfl (by simp[aQ,aX,aI,aL,aJ,dL]))) ?_
  intro k hk;by_cases hkl:k<t.length
  .have hy:t[k]?=some t[k]:=List.getElem?_eq_getElem hkl;have hg2:=bZ hy;have h2:decide ((k:Int)<(t.length:Int))=true:=decide_eq_true (by omega);have w2:IntKind.i64.wrap ((k:Int)+1)=k+1:=wrap_i64 (by omega) (by omega);have hn2:dL o (t.take (k+1))=GD t[k].p (dL o (t.take k)):=by
    unfold dL;rw[List.take_add_one,hy,List.foldl_append];rfl
   have hle:(dL o (t.take k)).length<=o.length+k:=by
    have:=mS (t.take k) o;rw[List.length_take] at this;omega
   generalize t[k]=y at hy hg2 hn2;generalize hq:dL o (t.take k)=q at hle hn2;clear hq hy hnext
   repeat' (first|exact⟨⟩|refine sp ?_|refine uN (zMv (by omega)) ?_|refine ai ?_)
   exact dE (k+1) (by omega) (by omega) (aB rfl rfl rfl (by simp[aQ,aX,aI,aL,aJ,hn2]))
  .have h2:decide ((k:Int)<(t.length:Int))=false:=decide_eq_false (by omega);rw[List.take_of_length_le (by omega)];have hle:=mS t o;rw[<- hnext] at hle ⊢;have hfin:i+1<=ts.length/\((ts.take (i+1)).foldl dL []).length<=120*(i+1):=⟨by omega,by omega⟩
   clear hnext hle
   repeat' (first|exact⟨⟩|refine sp ?_|refine ai ?_)
   exact dE (i+1) hfin (by omega) (aB rfl rfl rfl wkS)
 .have h1:decide ((i:Int)<(ts.length:Int))=false:=decide_eq_false (by omega);rw[List.take_of_length_le (by omega)]
  repeat' (first|exact⟨⟩|refine sp ?_)
theorem CS{k m k' m':Int}{t t':Nat}{d d':List UInt8}(p q:Bool):aA prog 43 [.agg (ndc k m t d),.agg (ndc k' m' t' d'),.c (.p (.b p)),.c (.p (.b q))] [] λr h=>r=.c (.p (.i .i64 (yJ ⟨k,m,t,d⟩ ⟨k',m',t',d'⟩ p q)))/\h=[]:=by
 cases p<;>cases q
 all_goals
  refine eT func43 λX0 hX=>?_;simp only[f43,go_sem]
 all_goals repeat' (first|exact⟨⟩|refine sp ?_|refine aH (λ_=>?_) (λ_=>?_))
 all_goals simp_all[yJ]
theorem CR{a b:List It}(ha:OkT a)(hb:OkT b):aA prog 9 [.c (.p (.sl 5 (aS a))),.c (.p (.sl 5 (aS b)))] [] λr h=>r=.c (.p (.sl 10 (lE (LZ a b))))/\h=[]:=by
 have hal:=ha.len;have hbl:=hb.len;have hp:=zGv (ts:=[a,b]) (by simp) (by intro t ht;simp at ht;rcases ht with rfl|rfl<;>assumption);simp only[List.map_cons,List.map_nil,List.foldl_cons,List.foldl_nil] at hp;have hpl:(xS a b).length<=240:=by
  have h1:=mS a [];have h2:=mS b (dL [] a);simp only[List.length_nil] at h1;unfold xS;omega
 change aA _ _ _ _ (λr h=>r=.c (.p (.sl 1 (Go.Dm.encS (xS a b))))/\h=[]) at hp;unfold LZ;generalize xS a b=ps at hp hpl;refine eT func9 λX0 hX=>?_;simp only[f9,go_sem]
 repeat' (first|exact⟨⟩|refine sp ?_|refine uN (hp) ?_|((with_reducible apply aA.frz);exact rfl;exact rfl)|refine ai ?_)
 refine dQ aF aN 5 10 rfl ?_;refine aP aF aN (α:=Nat × List Ch) (λx=>⟨65,[(0,.c (.p (.sl 5 (aS a)))),(1,.c (.p (.sl 5 (aS b)))),(6,.c (.p (.sl 1 (Go.Dm.encS ps)))),(7,.c (.p (.i .i64 x.1))),(5,.c (.own 1 0 x.2.length))],[.arr 1 [[.sl 5 (aS a)],[.sl 5 (aS b)]] true,.arr 10 (lE x.2) false]⟩)
  (λx=>x.1<=ps.length/\x.2.length<=x.1/\x.2++oU a b (ps.drop x.1)=oU a b ps) (λx=>ps.length-x.1) (0,[]) ⟨Nat.zero_le _,Nat.le_refl _,rfl⟩ (.inl (aB (by rw[hX];rfl) rfl rfl wkS)) ?_
 rintro⟨k,out⟩ ⟨hk,hol,hout⟩;simp only at hk hol hout;by_cases hlt:k<ps.length
 .have hx:ps[k]?=some ps[k]:=List.getElem?_eq_getElem hlt;have hd:=drop_at hx;have hg:=Go.Dm.encS_at hx;have h1:decide ((k:Int)<(ps.length:Int))=true:=decide_eq_true (by omega);have w1:IntKind.i64.wrap ((k:Int)+1)=k+1:=wrap_i64 (by omega) (by omega);generalize ps[k]=p at hx hg hd;rw[hd,oU,zKn] at hout;have g1:=mQ (t:=a) (p:=p) (by omega);have g2:=mQ (t:=b) (p:=p) (by omega);clear hp hx hd;generalize (aM a p).getD nd0=x at g1 hout;generalize (aM a p).isSome=u at g1 hout;generalize (aM b p).getD nd0=y at g2 hout;generalize (aM b p).isSome=v at g2 hout;cases hq:(u && v && cH x y)
  .rw [hq,if_neg (by decide)] at hout;have hJ:k+1<=ps.length/\(out++[(⟨p,yJ x y u v,x,y⟩:Ch)]).length<=k+1/\(out++[(⟨p,yJ x y u v,x,y⟩:Ch)])++oU a b (ps.drop (k+1))=oU a b ps:=⟨by omega,by simp;omega,by simpa using hout⟩
   clear hout;cases u<;>cases v
   case true.true =>
    have hq2:cH x y=false:=by simpa using hq
    clear hq
    repeat' (first|exact⟨⟩|refine sp ?_|refine uN (g1) ?_|refine uN (g2) ?_|refine uF (nC) ?_|((refine aG (id:=9) aF aN [13,14] [1,2,3,4,5,6,7,8,9,10,11,12,13,0,14,15] (by decide +kernel) ?_);(repeat' (first|(refine aT ?_)|((refine cK ?_ ?_ rfl rfl rfl ?_ ?_);(rotate_left 2);(focus ((repeat' (first|exact⟨⟩|refine sp ?_|((with_reducible refine And.intro ?_ ?_);((first|omega|decide)))));((refine And.intro ?_ ?_<;>exact rfl))));(simp only[aC]))|((refine cJ ?_ rfl rfl rfl ?_ ?_);(rotate_left 1);(focus ((repeat' (first|exact bA|refine aW ?_ ?_));(all_goals ((repeat' (first|exact⟨⟩|refine sp ?_|refine uF (CS _ _) ?_|refine ai ?_));(try (exact rfl))))));(simp only[aC])))))|refine ai ?_)
    exact dN (k+1,out++[⟨p,yJ x y true true,x,y⟩]) 1 5 hJ (by simp only;omega) rfl rfl (aB rfl rfl rfl wkS)
   all_goals clear hq
   all_goals repeat' (first|exact⟨⟩|refine sp ?_|refine uN (g1) ?_|refine uN (g2) ?_|((refine aG (id:=9) aF aN [13,14] [1,2,3,4,5,6,7,8,9,10,11,12,13,0,14,15] (by decide +kernel) ?_);(repeat' (first|(refine aT ?_)|((refine cK ?_ ?_ rfl rfl rfl ?_ ?_);(rotate_left 2);(focus ((repeat' (first|exact⟨⟩|refine sp ?_|((with_reducible refine And.intro ?_ ?_);((first|omega|decide)))));((refine And.intro ?_ ?_<;>exact rfl))));(simp only[aC]))|((refine cJ ?_ rfl rfl rfl ?_ ?_);(rotate_left 1);(focus ((repeat' (first|exact bA|refine aW ?_ ?_));(all_goals ((repeat' (first|exact⟨⟩|refine sp ?_|refine uF (CS _ _) ?_|refine ai ?_));(try (exact rfl))))));(simp only[aC])))))|refine ai ?_)
   .exact dN (k+1,out++[⟨p,yJ x y false false,x,y⟩]) 1 5 hJ (by simp only;omega) rfl rfl (aB rfl rfl rfl wkS)
   .exact dN (k+1,out++[⟨p,yJ x y false true,x,y⟩]) 1 5 hJ (by simp only;omega) rfl rfl (aB rfl rfl rfl wkS)
   .exact dN (k+1,out++[⟨p,yJ x y true false,x,y⟩]) 1 5 hJ (by simp only;omega) rfl rfl (aB rfl rfl rfl wkS)
  .rw[hq,if_pos rfl,List.nil_append] at hout;simp only[Bool.and_eq_true] at hq;obtain⟨⟨rfl,rfl⟩,hq⟩:=hq;have hJ:k+1<=ps.length/\out.length<=k+1/\out++oU a b (ps.drop (k+1))=oU a b ps:=⟨by omega,by omega,hout⟩
   clear hout
   repeat' (first|exact⟨⟩|refine sp ?_|refine uN (g1) ?_|refine uN (g2) ?_|refine uF (nC) ?_|refine ai ?_)
   exact dE (k+1,out) hJ (by simp only;omega) (aB rfl rfl rfl wkS)
 .have h1:decide ((k:Int)<(ps.length:Int))=false:=decide_eq_false (by omega);rw[List.drop_of_length_le (by omega),oU,List.append_nil] at hout;rw[<- hout];clear hout hp
  repeat' (first|exact⟨⟩|refine sp ?_)
  all_goals rw[List.take_of_length_le (by simp)]
end Go.Proofs.YtflcjdohmojepaaGreatDoor
end
section
namespace Go.Proofs.YtflcjdohmojepaaGreatDoor
open Go Go.Dm Go.Proofs Go.Proofs.Tryz
theorem zQk{a b:List It}(ha:OkT a)(hb:OkT b):(bT a b).length<=100000/\(∀x∈bT a b,x.p.length<=1000000000/\x.o.t<18446744073709551616/\x.n.t<18446744073709551616)/\∀x∈bT a b,x.n.d.length<=140737488355328:=by
 have h1:=ha.len;have h2:=hb.len;have h3:=kG a b;refine⟨by omega,λx hx=>⟨?_,zB ha hb hx⟩,λx hx=>by rw[(fI hx).2];exact Nat.le_trans (hb.getd _) (by decide)⟩
 have:=PI ha hb x hx;unfold zHV at this;simp only[Bool.and_eq_true] at this;exact Nat.le_trans (sQ this.1.1.1.1.1.1.2) (by decide)
theorem LQ{r r':Rm}{d:Dr}{e:Int}{s:List UInt8}{a b:List It}(h:Sim r d)(ha:OkT a)(hb:OkT b)(he:iH r s (bT a b)=(r',e)):
  aA prog 8 [.c (.ptr 0 0),.c (.p (.s s)),.c (.p (.sl 10 (lE (bT a b))))] (bO r) λd h=>d=.c (.p (.i .i64 e))/\h=bO r' :=
 have h3:=zQk ha hb
 zLR h h3.1 h3.2.1 h3.2.2 he
theorem wN{a b:List It}(ha:OkT a)(hb:OkT b):aA prog 9 [.c (.p (.sl 5 (aS a))),.c (.p (.sl 5 (aS b)))] [] λr h=>r=.c (.p (.sl 10 (lE (bT a b))))/\h=[]:=by
 have:=CR ha hb;rw[wO ha hb] at this;exact this
theorem zCr{b:List It}(hb:OkT b):aA prog 9 [.c (.p .nil),.c (.p (.sl 5 (aS b)))] [] λr h=>r=.c (.p (.sl 10 (lE (bT [] b))))/\h=[] :=
 aA.wkargs (by simp[zHX,wkD,wkC,wkP,gI]) (wN OkT.nil hb)
end Go.Proofs.YtflcjdohmojepaaGreatDoor
end
section
namespace Go.Proofs.YtflcjdohmojepaaGreatDoor
open Go Go.Dm Go.Proofs.Tryz
theorem zNg{l:List Pr}{p:List UInt8}(hl:l.length<=1000000):aA prog 51 [.c (.p (.sl 2 (oS l))),.c (.p (.s p))] [] λr h=>r=.tup [.c (.p (.s ((toF l p).getD []))),.c (.p (.b (toF l p).isSome))]/\h=[]:=by
 refine eT func51 λX0 hX=>?_;simp only[f51,go_sem]
 repeat' (first|exact⟨⟩|refine sp ?_)
 refine aP aF aN (α:=Nat) (λk=>⟨25,[(0,.c (.p (.sl 2 (oS l)))),(1,.c (.p (.s p))),(6,.c (.p (.i .i64 k)))],[]⟩)
  (λk=>k<=l.length/\toF (l.drop k) p=toF l p) (λk=>l.length-k) 0 ⟨Nat.zero_le _,rfl⟩ (.inl (aB (by rw[hX];rfl) rfl rfl wkS)) ?_
 rintro k ⟨hk,hs⟩;by_cases hlt:k<l.length
 .have hx:l[k]?=some l[k]:=List.getElem?_eq_getElem hlt;have hg:=BD hx;have hd:=drop_at hx;have h1:decide ((k:Int)<(l.length:Int))=true:=decide_eq_true (by omega);have hli:(k:Int)<(l.length:Int):=by omega
  have hk0:(0:Int)<=k:=by omega
  have w1:IntKind.i64.wrap ((k:Int)+1)=k+1:=wrap_i64 (by omega) (by omega);generalize l[k]=x at hx hg hd;rw[hd,toF] at hs;cases hb:(x.a==p)
  .rw[hb,if_neg (by decide)] at hs;have hJ:k+1<=l.length/\toF (l.drop (k+1)) p=toF l p:=⟨by omega,hs⟩
   clear hs hd hx
   repeat' (first|exact⟨⟩|refine sp ?_)
   exact dE (k+1) hJ (by omega) (aB rfl rfl rfl wkS)
  .rw[hb,if_pos rfl] at hs;rw[<- hs];clear hs hd hx
   repeat' (simp only[*,go_sem,Nat.reduceLT,Nat.reduceEqDiff,↓reduceIte,Option.getD_some,Option.isSome_some])
 .have h1:decide ((k:Int)<(l.length:Int))=false:=decide_eq_false (by omega);rw[List.drop_of_length_le (by omega),toF] at hs;rw[<- hs];clear hs
  repeat' (simp only[*,go_sem,Nat.reduceLT,Nat.reduceEqDiff,↓reduceIte,Option.getD_none,Option.isSome_none])
theorem zNf{l:List (List UInt8)}{s:List UInt8}(hl:l.length<=1000000):aA prog 53 [.c (.p (.sl 1 (Go.Dm.encS l))),.c (.p (.s s))] [] λr h=>r=.c (.p (.b (l.any λx=>x==s)))/\h=[]:=by
 refine eT func53 λX0 hX=>?_;simp only[f53,go_sem]
 repeat' (first|exact⟨⟩|refine sp ?_)
 refine aP aF aN (α:=Nat) (λk=>⟨18,[(0,.c (.p (.sl 1 (Go.Dm.encS l)))),(1,.c (.p (.s s))),(5,.c (.p (.i .i64 k)))],[]⟩)
  (λk=>k<=l.length/\((l.drop k).any λx=>x==s)=(l.any λx=>x==s)) (λk=>l.length-k) 0 ⟨Nat.zero_le _,rfl⟩ (.inl (aB (by rw[hX];rfl) rfl rfl wkS)) ?_
 rintro k ⟨hk,hs⟩;by_cases hlt:k<l.length
 .have hx:l[k]?=some l[k]:=List.getElem?_eq_getElem hlt;have hg:=Go.Dm.encS_at hx;have hd:=drop_at hx;have h1:decide ((k:Int)<(l.length:Int))=true:=decide_eq_true (by omega);have hli:(k:Int)<(l.length:Int):=by omega
  have hk0:(0:Int)<=k:=by omega
  have w1:IntKind.i64.wrap ((k:Int)+1)=k+1:=wrap_i64 (by omega) (by omega);generalize l[k]=x at hx hg hd;rw[hd,List.any_cons] at hs;cases hb:(x==s)
  .rw[hb,Bool.false_or] at hs;have hJ:k+1<=l.length/\((l.drop (k+1)).any λx=>x==s)=(l.any λx=>x==s):=⟨by omega,hs⟩
   clear hs hd hx
   repeat' (first|exact⟨⟩|refine sp ?_)
   exact dE (k+1) hJ (by omega) (aB rfl rfl rfl wkS)
  .rw[hb,Bool.true_or] at hs;rw[<- hs];clear hs hd hx
   repeat' (first|exact⟨⟩|refine sp ?_)
 .have h1:decide ((k:Int)<(l.length:Int))=false:=decide_eq_false (by omega);rw[List.drop_of_length_le (by omega),List.any_nil] at hs;rw[<- hs];clear hs
  repeat' (first|exact⟨⟩|refine sp ?_)
def fX(S R:List Cf)(x:Cf)(k:Nat):List Cf:=S.take k++x::(S.drop k++R)
theorem zFu{S R:List Cf}{x:Cf}{k:Nat}(hk:k<=S.length):(fX S R x k)[k]?=some x:=by
 unfold fX;rw[List.getElem?_append_right (by simp;omega)];simp[Nat.min_eq_left hk]
theorem QT{S R:List Cf}{x y:Cf}{k:Nat}(hk:k+1<=S.length)(hy:S[k]?=some y):(fX S R x (k+1))[k]?=some y:=by
 unfold fX;rw[List.getElem?_append_left (by simp;omega),List.getElem?_take,if_pos (by omega),hy]
theorem GC{S R:List Cf}{x:Cf}{k:Nat}(hk:k<=S.length):(fX S R x k).length=S.length+1+R.length:=by
 unfold fX;simp only[List.length_append,List.length_cons,List.length_take,List.length_drop];omega
theorem XK{S R:List Cf}{x y:Cf}{k:Nat}(hk:k+1<=S.length)(hy:S[k]?=some y):((fX S R x (k+1)).set (k+1) y).set k x=fX S R x k:=by
 obtain⟨h1,rfl⟩:=List.getElem?_eq_some_iff.1 hy;unfold fX;have e1:S.drop k=S[k]::S.drop (k+1):=List.drop_eq_getElem_cons h1;have e2:S.take (k+1)=S.take k++[S[k]]:=by rw[List.take_add_one,List.getElem?_eq_getElem h1];rfl
 rw[e1,e2];have e3:(S.take k).length=k:=by simp;omega
 generalize S.take k=A at e3;generalize S.drop (k+1)=B;generalize S[k]=z;rw[List.append_assoc,List.set_append_right _ _ (by omega),List.set_append_right _ _ (by omega)];simp[e3]
theorem zAk(t:List Cf)(i:Nat)(x:Cf):(dY t).set i [.s x.p,.i .i64 x.k]=dY (t.set i x):=by
 unfold dY;rw[List.map_set];rfl
theorem zJx{l:List Cf}{i k:Nat}{x:Cf}(hx:l[i]?=some x)(hk:k<=(eB (l.take i)).length)(hb:∀y∈(eB (l.take i)).drop k,ltC x y=true)(ha:∀y,(eB (l.take i))[k-1]?=some y->0<k->ltC x y=false):
  fX (eB (l.take i)) (l.drop (i+1)) x k=eB (l.take (i+1))++l.drop (i+1):=by
 have hS:=qI (l.take i);have hP:=wW (l.take i);have hnx:l.take (i+1)=l.take i++[x]:=by rw[List.take_add_one,hx];rfl
 rw [hnx];generalize eB (l.take i)=S at *;have e:S.take k++x::S.drop k=eB (l.take i++[x]):=by
  refine xX ?_ ?_
  .refine(List.perm_middle).trans ?_;rw[List.take_append_drop];exact((List.Perm.cons x hP).trans (List.perm_append_comm (l₁:=[x])))
  .refine List.pairwise_append.2 ⟨hS.sublist (List.take_sublist _ _),List.pairwise_cons.2 ⟨λy hy=>RF (hb y hy),hS.sublist (List.drop_sublist _ _)⟩,λy hy z hz=>?_⟩;have hlast:∀y∈S.take k,ltC x y=false:=by
    intro y hy;obtain⟨j,hj,rfl⟩:=List.mem_iff_getElem.1 hy;have hjk:j<k:=by simp at hj;omega
    rw[List.getElem_take];have hk1:k-1<S.length:=by omega
    have h1:=ha S[k-1] (List.getElem?_eq_getElem hk1) (by omega);rcases Nat.lt_or_ge j (k-1) with h|h
    .have h2:=List.pairwise_iff_getElem.1 hS j (k-1) (by omega) hk1 h;cases h3:ltC x (S[j]'(by omega)) with
     | false=>rfl
     | true =>
      cases h4:ltC (S[j]'(by omega)) S[k-1] with
      | true=>rw[uP h3 h4] at h1;cases h1
      | false=>rw[LG h4 h2] at h3;rw[h3] at h1;cases h1
    .have:j=k-1:=by omega
     subst this;exact h1
   rcases List.mem_cons.1 hz with rfl|hz
   .exact hlast y hy
   .have:S=S.take k++S.drop k:=(List.take_append_drop _ _).symm;rw[this] at hS;exact(List.pairwise_append.1 hS).2.2 y hy z hz
 unfold fX;rw[<- e,List.append_assoc];rfl
theorem zCt{l:List Cf}(hl:l.length<=1000000):aA prog 54 [.c (.p (.sl 2 (dY l)))] [] λr h=>r=.c (.p (.sl 2 (dY (eB l))))/\h=[]:=by
 have hs1:eB (l.take 1)++l.drop 1=l:=by
  cases l with
  | nil=>simp[eB]
  | cons x l=>simp[eB]
 refine eT func54 λX0 hX=>?_;simp only[f54,go_sem]
 repeat' (first|exact⟨⟩|refine sp ?_|((with_reducible refine And.intro ?_ ?_);((first|omega|decide))))
 refine aP aF aN (α:=Nat) (λi=>⟨79,[(3,.c (.own 1 0 l.length)),(4,.c (.p (.i .i64 i)))],[.dead,.arr 2 (dY (eB (l.take i)++l.drop i)) false]⟩)
  (λi=>1<=i/\(i<=l.length∨i=1)) (λi=>l.length-i) 1 ⟨Nat.le_refl _,.inr rfl⟩ (.inl (aB (by rw[hX];rfl) (by rw[hs1];rfl) rfl wkS)) ?_
 clear hs1;rintro i ⟨hi,hi2⟩;by_cases hlt:i<l.length
 .have hx:l[i]?=some l[i]:=List.getElem?_eq_getElem hlt;have hd:=drop_at hx;have h1:decide ((i:Int)<(l.length:Int))=true:=decide_eq_true (by omega);have w1:IntKind.i64.wrap ((i:Int)+1)=i+1:=wrap_i64 (by omega) (by omega);have hdone:=λk=>zJx (k:=k) hx;generalize l[i]=x at hx hd hdone;have hSl:(eB (l.take i)).length=i:=by rw[nF,List.length_take];omega
  have hRl:(l.drop (i+1)).length=l.length-(i+1):=List.length_drop;rw[hd];have hfin:1<=i+1/\(i+1<=l.length∨i+1=1):=⟨by omega,.inl (by omega)⟩
  have hrow0:eB (l.take i)++x::l.drop (i+1)=fX (eB (l.take i)) (l.drop (i+1)) x i:=by
   unfold fX;rw[List.take_of_length_le (l:=eB (l.take i)) (i:=i) (by omega),List.drop_of_length_le (l:=eB (l.take i)) (i:=i) (by omega)];rfl
  rw[hrow0];clear hrow0 hd hx;generalize hS:eB (l.take i)=S at *;clear hS;have hil0:(fX S (l.drop (i+1)) x i).length=l.length:=by rw[GC (by omega)];omega
  repeat' (first|exact⟨⟩|refine sp ?_)
  refine aP aF aN (α:=Nat) (λk=>⟨79,[(3,.c (.own 1 0 l.length)),(4,.c (.p (.i .i64 i))),(5,.c (.p (.i .i64 k)))],[.dead,.arr 2 (dY (fX S (l.drop (i+1)) x k)) false]⟩)
   (λk=>k<=S.length/\∀y∈S.drop k,ltC x y=true) (λk=>k) i ⟨by omega,by rw[List.drop_of_length_le (by omega)];simp⟩ (.inl (aB (by rw[hX];rfl) rfl rfl wkS)) ?_
  rintro k ⟨hk,hgt⟩;have hrl:=GC (S:=S) (R:=l.drop (i+1)) (x:=x) hk;have hrl2:(fX S (l.drop (i+1)) x k).length=l.length:=by omega
  have hxat:=KF (zFu (S:=S) (R:=l.drop (i+1)) (x:=x) hk);have hkl:(k:Int)<(l.length:Int):=by omega
  have hk0:(0:Int)<=k:=by omega
  by_cases hz:k=0
  .subst hz;have hdn:=hdone 0 hk hgt (λy _ h=>absurd h (by decide));have q0:decide ((0:Int)<((0:Nat):Int))=false:=by decide
   rw[hdn];clear hdn hdone hgt hrl hrl2 hxat
   repeat' (first|exact⟨⟩|refine sp ?_|((refine aG (id:=6) aF aN [] [0,1,2,3,4,5,6,7,8,9,10,11,12,13,14,15,16,17,18,19,20,21,22,23,24,25,26,27,28,29,30,31,32,33,34,35,36,37,38,39,40,41,42,43] (by decide +kernel) ?_);(repeat' (first|(refine aT ?_)|((refine bL ?_ rfl rfl ?_ ?_);(rotate_left 1);(focus ((repeat' (first|exact⟨⟩|refine sp ?_));exact rfl));(simp only[aC]))))))
   exact dE (i+1) hfin (by omega) (aB rfl rfl rfl wkS)
  .obtain ⟨m,rfl⟩:∃m,k=m+1:=⟨k-1,by omega⟩
   have hm:S[m]?=some S[m]:=List.getElem?_eq_getElem (by omega);have hyat:=KF (QT (S:=S) (R:=l.drop (i+1)) (x:=x) (by omega) hm);have hsw:=XK (S:=S) (R:=l.drop (i+1)) (x:=x) (by omega) hm;have hdr:=drop_at hm;have hdn:=hdone (m+1) hk hgt;simp only[Nat.add_sub_cancel] at hdn;generalize S[m]=y at hm hyat hsw hdr;have q0:decide ((0:Int)<((m+1:Nat):Int))=true:=decide_eq_true (by omega);have w2:IntKind.i64.wrap (((m+1:Nat):Int)-1)=m:=by rw[wrap_i64 (by omega) (by omega)];omega
   have hml:(m:Int)<(l.length:Int):=by omega
   have hm0:(0:Int)<=m:=by omega
   have hJn:ltC x y=true->m<=i/\∀z∈S.drop m,ltC x z=true:=λh=>⟨by omega,λz hz=>by
    rw[hdr] at hz;rcases List.mem_cons.1 hz with rfl|hz
    .exact h
    .exact hgt z hz⟩
   have hdn2:ltC x y=false->fX S (l.drop (i+1)) x (m+1)=eB (l.take (i+1))++l.drop (i+1):=λh=>hdn (λz hz _=>by rw[hm] at hz;cases hz;exact h)
   have hsw2:((dY (fX S (l.drop (i+1)) x (m+1))).set (m+1) [.s y.p,.i .i64 y.k]).set m [.s x.p,.i .i64 x.k]=dY (fX S (l.drop (i+1)) x m):=by
    rw[zAk,zAk,hsw]
   have hll:m+1<(dY (fX S (l.drop (i+1)) x (m+1))).length:=by rw[qX];omega
   have hll2:m<(dY (fX S (l.drop (i+1)) x (m+1))).length:=by rw[qX];omega
   have hyat2:((dY (fX S (l.drop (i+1)) x (m+1))).set (m+1) [.s y.p,.i .i64 y.k]).getD m []=[.s y.p,.i .i64 y.k]:=by
    rw[List.getD_eq_getElem?_getD,List.getElem?_set_ne (by omega),<- List.getD_eq_getElem?_getD];exact hyat
   have hP1:=PLift.up hJn;have hP2:=PLift.up hdn2;have hP3:=PLift.up hfin;have hP4:=PLift.up hsw2;clear hJn hdn2 hdn hdone hgt hsw hsw2 hrl hm hdr hfin hz;cases c1:cD x.p y.p
   .cases c2:(x.p==y.p)
    .have hq:ltC x y=false:=by unfold ltC;rw[c1,c2];rfl
     have hdn3:=PLift.up (hP2.down hq);clear hP1 hP2 hP4
     repeat' (first|exact⟨⟩|refine sp ?_|((refine aG (id:=6) aF aN [] [0,1,2,3,4,5,6,7,8,9,10,11,12,13,14,15,16,17,18,19,20,21,22,23,24,25,26,27,28,29,30,31,32,33,34,35,36,37,38,39,40,41,42,43] (by decide +kernel) ?_);(repeat' (first|(refine aT ?_)|((refine bL ?_ rfl rfl ?_ ?_);(rotate_left 1);(focus ((repeat' (first|exact⟨⟩|refine sp ?_|refine ai ?_));exact rfl));(simp only[aC]))))))
     exact dE (i+1) hP3.down (by omega) (aB rfl (by rw[hdn3.down];rfl) rfl wkS)
    .cases c3:decide (x.k<y.k)
     .have hq:ltC x y=false:=by unfold ltC;rw[c1,c2,c3];rfl
      have hdn3:=PLift.up (hP2.down hq);clear hP1 hP2 hP4
      repeat' (first|exact⟨⟩|refine sp ?_|((refine aG (id:=6) aF aN [] [0,1,2,3,4,5,6,7,8,9,10,11,12,13,14,15,16,17,18,19,20,21,22,23,24,25,26,27,28,29,30,31,32,33,34,35,36,37,38,39,40,41,42,43] (by decide +kernel) ?_);(repeat' (first|(refine aT ?_)|((refine bL ?_ rfl rfl ?_ ?_);(rotate_left 1);(focus ((repeat' (first|exact⟨⟩|refine sp ?_|refine ai ?_));exact rfl));(simp only[aC]))))))
      exact dE (i+1) hP3.down (by omega) (aB rfl (by rw[hdn3.down];rfl) rfl wkS)
     .have hq:ltC x y=true:=by unfold ltC;rw[c1,c2,c3];rfl
      repeat' (first|exact⟨⟩|refine sp ?_|((refine aG (id:=6) aF aN [] [0,1,2,3,4,5,6,7,8,9,10,11,12,13,14,15,16,17,18,19,20,21,22,23,24,25,26,27,28,29,30,31,32,33,34,35,36,37,38,39,40,41,42,43] (by decide +kernel) ?_);(repeat' (first|(refine aT ?_)|((refine bL ?_ rfl rfl ?_ ?_);(rotate_left 1);(focus ((repeat' (first|exact⟨⟩|refine sp ?_|refine ai ?_));exact rfl));(simp only[aC])))))|((refine aG (id:=8) aF aN [15,17] [0,1,5,6,7,8,9,10,11,12,13,14,15,2,3,4,16,17] (by decide +kernel) ?_);(repeat' (first|(refine aT ?_)|((refine cK ?_ ?_ rfl rfl rfl ?_ ?_);(rotate_left 2);(focus ((repeat' (first|simp only[*,go_sem,Nat.reduceLeDiff,Nat.reduceEqDiff,↓reduceIte,Nat.reduceAdd,List.length_set]|refine ai ?_));((refine And.intro ?_ ?_<;>exact rfl))));(simp only[bH]))|((refine cJ ?_ rfl rfl rfl ?_ ?_);(rotate_left 1);(focus ((repeat' (first|exact bA|refine aW ?_ ?_));(all_goals ((repeat' (first|exact⟨⟩|refine sp ?_|refine ai ?_));(try (exact rfl))))));(simp only[aC]))))))
      exact dE m (hP1.down hq) (by omega) (aB rfl (by rw[hP4.down];rfl) rfl wkS)
   .have hq:ltC x y=true:=by unfold ltC;rw[c1];rfl
    repeat' (first|exact⟨⟩|refine sp ?_|((refine aG (id:=6) aF aN [] [0,1,2,3,4,5,6,7,8,9,10,11,12,13,14,15,16,17,18,19,20,21,22,23,24,25,26,27,28,29,30,31,32,33,34,35,36,37,38,39,40,41,42,43] (by decide +kernel) ?_);(repeat' (first|(refine aT ?_)|((refine bL ?_ rfl rfl ?_ ?_);(rotate_left 1);(focus ((repeat' (first|exact⟨⟩|refine sp ?_|refine ai ?_));exact rfl));(simp only[aC])))))|((refine aG (id:=8) aF aN [15,17] [0,1,5,6,7,8,9,10,11,12,13,14,15,2,3,4,16,17] (by decide +kernel) ?_);(repeat' (first|(refine aT ?_)|((refine cK ?_ ?_ rfl rfl rfl ?_ ?_);(rotate_left 2);(focus ((repeat' (first|simp only[*,go_sem,Nat.reduceLeDiff,Nat.reduceEqDiff,↓reduceIte,Nat.reduceAdd,List.length_set]|refine ai ?_));((refine And.intro ?_ ?_<;>exact rfl))));(simp only[bH]))|((refine cJ ?_ rfl rfl rfl ?_ ?_);(rotate_left 1);(focus ((repeat' (first|exact bA|refine aW ?_ ?_));(all_goals ((repeat' (first|exact⟨⟩|refine sp ?_|refine ai ?_));(try (exact rfl))))));(simp only[aC]))))))
    exact dE m (hP1.down hq) (by omega) (aB rfl (by rw[hP4.down];rfl) rfl wkS)
 .have h1:decide ((i:Int)<(l.length:Int))=false:=decide_eq_false (by omega);have e:eB (l.take i)++l.drop i=eB l:=by
   rw[List.take_of_length_le (by omega),List.drop_of_length_le (by omega),List.append_nil]
  rw[e];have hsl:(eB l).length=l.length:=nF l;have hke:(eB l).take l.length=eB l:=List.take_of_length_le (by omega);clear e
  repeat' (first|exact⟨⟩|refine sp ?_)
end Go.Proofs.YtflcjdohmojepaaGreatDoor
end
