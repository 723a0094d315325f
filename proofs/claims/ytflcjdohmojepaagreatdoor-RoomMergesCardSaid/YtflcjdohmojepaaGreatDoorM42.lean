/- Part 43 of the proof of roomMerges_card, set without needless blanks. No condition. -/
import Derived.Test.YtflcjdohmojepaaGreatDoorM41
set_option linter.all false
set_option maxRecDepth 100000
set_option maxHeartbeats 16000000
section
namespace Go.Proofs.YtflcjdohmojepaaGreatDoor
open Go Go.Dm Go.Proofs.Tryz
theorem zJR{ts:List (List It)}(hl:ts.length<=3)(ht:∀t∈ts,t.length<=120):
  aA prog 149 [.c (.p (.sl 1 (ts.map λt=>[.sl 5 (aS t)])))] [] λr h=>r=.c (.p (.sl 1 (Go.Dm.encS (Lib.compact ((ts.flatten.map It.p).mergeSort λx y=>decide (x<=y))))))/\h=[]:=by
 have hgen:(ts.map λt=>[PV.sl 5 (aS t)]).length=ts.length:=List.length_map _;have hone:(∀x∈(ts.map λt=>[PV.sl 5 (aS t)]),x.length=1)=True:=eq_true λx hx=>by
  obtain⟨t,_,rfl⟩:=List.mem_map.1 hx;rfl
 have hat:∀i t,ts[i]?=some t->(ts.map λt=>[PV.sl 5 (aS t)]).getD i []=[.sl 5 (aS t)]:=λi t h=>by
  simp only[List.getD_eq_getElem?_getD,List.getElem?_map,h];rfl
 generalize (ts.map λt=>[PV.sl 5 (aS t)])=arg at *;refine eT func149 λX0 hX=>?_;simp only[f149,go_sem]
 repeat' (first|exact⟨⟩|refine sp ?_)
 refine dQ aF aN 3 1 rfl ?_;refine aP aF aN (α:=Nat × List (List UInt8)) (λx=>⟨31,[(8,.c (.p (.sl 1 arg))),(9,.c (.p (.i .i64 ts.length))),(10,.c (.p (.i .i64 x.1))),(3,.c (.own 0 0 x.2.length))],[.arr 1 (Go.Dm.encS x.2) false]⟩)
  (λx=>x.1<=ts.length/\x.2.length<=120*x.1/\(ts.take x.1).flatten.map It.p=x.2) (λx=>ts.length-x.1) (0,[]) ⟨Nat.zero_le _,Nat.le_refl _,rfl⟩ (.inl (aB (by rw[hX];rfl) rfl rfl (by simp[aQ,aX,aI,aL,aJ,nT]))) ?_
 rintro⟨i,out⟩ ⟨hi,hol,hJ⟩;simp only at hi hol hJ;by_cases hlt:i<ts.length
 .have hx:ts[i]?=some ts[i]:=List.getElem?_eq_getElem hlt;have hg:=hat _ _ hx;have h1:decide ((i:Int)<(ts.length:Int))=true:=decide_eq_true (by omega);have hli:(i:Int)<(ts.length:Int):=by omega
  have w1:IntKind.i64.wrap ((i:Int)+1)=i+1:=wrap_i64 (by omega) (by omega);have htl:=ht _ (List.getElem_mem hlt);have hnext:(ts.take (i+1)).flatten.map It.p=out++ts[i].map It.p:=by
   rw[List.take_add_one,hx,List.flatten_append,List.map_append,hJ];simp
  generalize ts[i]=t at hx hg htl hnext;clear hat hx hJ
  repeat' (first|exact⟨⟩|refine sp ?_|((with_reducible refine And.intro ?_ ?_);omega))
  refine aP aF aN (α:=Nat × List (List UInt8)) (λx=>⟨31,[(8,.c (.p (.sl 1 arg))),(9,.c (.p (.i .i64 ts.length))),(10,.c (.p (.i .i64 i))),(14,.c (.p (.sl 5 (aS t)))),(15,.c (.p (.i .i64 t.length))),(16,.c (.p (.i .i64 x.1))),(3,.c (.own 0 0 x.2.length))],[.arr 1 (Go.Dm.encS x.2) false]⟩)
   (λx=>x.1<=t.length/\x.2.length<=120*i+x.1/\out++(t.take x.1).map It.p=x.2) (λx=>t.length-x.1) (0,out) ⟨Nat.zero_le _,hol,by simp⟩ (.inl (aB (by rw[hX];rfl) rfl rfl (by simp[aQ,aX,aI,aL,aJ,]))) ?_
  rintro⟨k,o⟩ ⟨hk,hok,hK⟩;simp only at hk hok hK;by_cases hkl:k<t.length
  .have hy:t[k]?=some t[k]:=List.getElem?_eq_getElem hkl;have hg2:=bZ hy;have h2:decide ((k:Int)<(t.length:Int))=true:=decide_eq_true (by omega);have w2:IntKind.i64.wrap ((k:Int)+1)=k+1:=wrap_i64 (by omega) (by omega);have hn2:out++(t.take (k+1)).map It.p=o++[t[k].p]:=by
    rw[List.take_add_one,hy,List.map_append,<- List.append_assoc,hK];rfl
   generalize t[k]=y at hy hg2 hn2;have hJ2:k+1<=t.length/\(o++[y.p]).length<=120*i+(k+1)/\out++(t.take (k+1)).map It.p=o++[y.p]:=⟨by omega,by simp;omega,hn2⟩
   have hb:o.length<=1000000:=by omega
   clear hy hnext hK hn2
   repeat' (first|exact⟨⟩|refine sp ?_|((with_reducible refine And.intro ?_ ?_);((first|omega|decide))))
   exact dN (k+1,o++[y.p]) 0 3 hJ2 (by simp only;omega) rfl rfl (aB rfl rfl rfl (by simp[aQ,aX,aI,aL,aJ,EI,CY,EH,]))
  .have h2:decide ((k:Int)<(t.length:Int))=false:=decide_eq_false (by omega);rw[List.take_of_length_le (by omega),<- hnext] at hK;have hJ2:i+1<=ts.length/\o.length<=120*(i+1)/\(ts.take (i+1)).flatten.map It.p=o:=⟨by omega,by omega,hK⟩
   clear hnext hK
   repeat' (first|exact⟨⟩|refine sp ?_)
   exact dE (i+1,o) hJ2 (by simp only;omega) (aB rfl rfl rfl (by simp[aQ,aX,aI,aL,aJ,]))
 .have h1:decide ((i:Int)<(ts.length:Int))=false:=decide_eq_false (by omega);rw[List.take_of_length_le (by omega)] at hJ;have hol2:out.length<=360:=by omega
  rw[hJ];clear hJ hat;have hsl:(out.mergeSort λx y=>decide (x<=y)).length=out.length:=List.length_mergeSort ..
  repeat' (first|simp only[*,go_sem,Nat.reduceLT,Nat.reduceEqDiff,↓reduceIte,List.set_cons_zero]|refine sort_k (id:=0) (ss:=out) (by rfl) (by omega) ?_|refine NW (id:=0) (ss:=out.mergeSort λx y=>decide (x<=y)) (by rfl) (by omega) (by omega) ?_)
  all_goals (try rw[List.take_left' (by simp)])
theorem zME{h:aD}{n:Nat}(hn:n<=1000000000):
  aA prog 219 [.c (.p .nil),.c (.p (.i .i64 n))] h λd h'=>d=.c (.own h.length 0 0)/\h'=h++[.arr 2 [] false]:=by
 have:=nP (n:=n) (h:=h) (e:=108) aF (by rw[tab108];exactλh=>by cases h) (by rw[tab108];decide) (enters func219 rfl rfl)
  (λw=>Any8.slices_Grow_room Tryz.growConf none 0 0 0 w (Nat.le_refl _) (by decide) (by decide) (Nat.le_refl _))
  (λi0 z n w h1 h2 h3 h4 h5 h6=>by
   have:=Any8.slices_Grow_grow Tryz.growConf i0 z h1 h2 h3 none 0 0 n [] w (Nat.le_refl _) (by omega) (by simpa using h5) (by simpa using h6) (by simp) (λ_=>rfl) (λa ha=>by cases ha)
   simp only[Nat.zero_add,Nat.sub_zero] at this;exact this)
  (by rw[tab108];simp only;omega) (by omega)
 rw[tab108] at this;exact this
theorem zDK{a b c:List Cf}(ha:a.length<=1000000)(hb:b.length<=1000000)(hc:c.length<=1000000):
  aA prog 152 [.c (.p (.sl 1 [[.sl 2 (dY a)],[.sl 2 (dY b)],[.sl 2 (dY c)]]))] [] λr h=>r=.c (.own 0 0 (a.length+b.length+c.length))/\h=[.arr 2 (dY (a++(b++c))) false]:=by
 have w1:IntKind.i64.wrap (a.length:Int)=a.length:=wrap_i64 (by omega) (by omega);have w2:IntKind.i64.wrap ((a.length:Int)+(b.length:Int))=(a.length+b.length:Nat):=wrap_i64 (by omega) (by omega);have w3:IntKind.i64.wrap (((a.length+b.length:Nat):Int)+(c.length:Int))=(a.length+b.length+c.length:Nat):=wrap_i64 (by omega) (by omega);have z1:decide ((a.length:Int)<0)=false:=decide_eq_false (by omega);have z2:decide (((a.length+b.length:Nat):Int)<0)=false:=decide_eq_false (by omega);have z3:decide (((a.length+b.length+c.length:Nat):Int)<0)=false:=decide_eq_false (by omega);refine zQp aF aN func152 rfl rfl λX0 hX=>?_;simp only[f152,go_sem]
 repeat' (first|simp only[*,go_sem,Nat.reduceLT,Nat.reduceEqDiff,↓reduceIte,Nat.reduceAdd,Int.reduceLT,Int.reduceLE,Int.reduceAdd,Int.reduceToNat,Int.zero_add,iX,decide_true,decide_false]|refine dM aF aN 4 ?_)
 refine(zME (n:=a.length+b.length+c.length) (by omega)).mono ?_;rintro d h' ⟨rfl,rfl⟩
 repeat' (first|simp only[*,go_sem,Nat.reduceLT,Nat.reduceLeDiff,Nat.reduceEqDiff,↓reduceIte,Nat.reduceAdd,Int.reduceLT,Int.reduceLE,Int.reduceAdd,Int.reduceToNat,Int.zero_add,iX,decide_true,decide_false]|refine dM aF aN 4 ?_|((with_reducible refine And.intro ?_ ?_);omega))
 try rw[List.append_assoc]
 exact⟨rfl,Nat.zero_le _,rfl,_,_,rfl,rfl,rfl⟩
theorem zGk{c d q:List UInt8}{kk k m:Int}{tt:Nat}{dd:List UInt8}{eo:List (List PV)}:
  aA prog 221 [.agg [.p (.s c),.p (.i .i64 kk)],.c (.ptr 2 0)] [.arr 2 eo false,.box [.p (.s q),.p (.i .i64 k),.p (.i .i64 m),.p (.f tt),.p (.sl 1 (bU dd))],.box [.p (.s d)]]
   λr h=>r=.c (.p (.b (c==d)))/\h=[.arr 2 eo false,.box [.p (.s q),.p (.i .i64 k),.p (.i .i64 m),.p (.f tt),.p (.sl 1 (bU dd))],.box [.p (.s d)]]:=by
 refine eT func221 λX0 hX=>?_;simp only[Tryz.f221,go_sem]
 repeat' (simp only[*,go_sem,Nat.reduceLT,Nat.reduceEqDiff,↓reduceIte,Nat.reduceAdd,bP,aJ])
theorem zJs{l:List Cf}{d q:List UInt8}{k m:Int}{tt:Nat}{dd:List UInt8}{eo:List (List PV)}(hl:l.length<=1000000):
  aA prog 263 [.c (.p (.sl 2 (dY l))),.c (.clo 221 [.ptr 2 0])] [.arr 2 eo false,.box [.p (.s q),.p (.i .i64 k),.p (.i .i64 m),.p (.f tt),.p (.sl 1 (bU dd))],.box [.p (.s d)]]
   λr h=>(∃z:Int,decide (0<=z)=(l.any λc=>c.p==d)/\r=.c (.p (.i .i64 z)))/\h=[.arr 2 eo false,.box [.p (.s q),.p (.i .i64 k),.p (.i .i64 m),.p (.f tt),.p (.sl 1 (bU dd))],.box [.p (.s d)]]:=by
 refine eT func263 λX0 hX=>?_;simp only[f263,go_sem]
 repeat' (first|exact⟨⟩|refine sp ?_)
 refine aP aF aN (α:=Nat) (λk'=>⟨19,[(0,.c (.p (.sl 2 (dY l)))),(1,.c (.clo 221 [.ptr 2 0])),(7,.c (.p (.i .i64 l.length))),(8,.c (.p (.i .i64 k')))],[.arr 2 eo false,.box [.p (.s q),.p (.i .i64 k),.p (.i .i64 m),.p (.f tt),.p (.sl 1 (bU dd))],.box [.p (.s d)]]⟩)
  (λk=>k<=l.length/\((l.drop k).any λc=>c.p==d)=(l.any λc=>c.p==d)) (λk=>l.length-k) 0 ⟨Nat.zero_le _,rfl⟩ (.inl (aB (by rw[hX];rfl) rfl rfl (by simp[aQ,aX,aI,aL,aJ,iI]))) ?_
 rintro j ⟨hk,hs⟩;by_cases hlt:j<l.length
 .have hx:l[j]?=some l[j]:=List.getElem?_eq_getElem hlt;have hg:=KF hx;have hd:=drop_at hx;have h1:decide ((j:Int)<(l.length:Int))=true:=decide_eq_true (by omega);have hli:(j:Int)<(l.length:Int):=by omega
  have w1:IntKind.i64.wrap ((j:Int)+1)=j+1:=wrap_i64 (by omega) (by omega);generalize l[j]=x at hx hg hd;rw[hd,List.any_cons] at hs;cases hb:(x.p==d)
  .rw[hb,Bool.false_or] at hs;have hs2:j+1<=l.length/\((l.drop (j+1)).any λc=>c.p==d)=(l.any λc=>c.p==d):=⟨by omega,hs⟩
   clear hs hd hx
   repeat' (first|exact⟨⟩|refine sp ?_|((with_reducible refine And.intro ?_ ?_);omega))
   refine aA.mono zGk ?_;rintro _ _ ⟨rfl,rfl⟩;rw[hb]
   repeat' (first|exact⟨⟩|refine sp ?_)
   exact dE (j+1) hs2 (by omega) (aB rfl rfl rfl (by simp[aQ,aX,aI,aL,aJ,iI]))
  .rw[hb,Bool.true_or] at hs;have hs2:PLift ((l.any λc=>c.p==d)=true):=⟨hs.symm⟩;clear hs hd hx
   repeat' (first|exact⟨⟩|refine sp ?_|((with_reducible refine And.intro ?_ ?_);omega))
   refine aA.mono zGk ?_;rintro _ _ ⟨rfl,rfl⟩;rw[hb];clear hb
   repeat' (simp only[*,go_sem,Nat.reduceLT,Nat.reduceEqDiff,↓reduceIte,Int.reduceNeg,bP,aJ])
   exact⟨j,by rw[hs2.down];exact decide_eq_true (by omega),rfl⟩
 .have h1:decide ((j:Int)<(l.length:Int))=false:=decide_eq_false (by omega);rw[List.drop_of_length_le (by omega),List.any_nil] at hs;have hs2:PLift ((l.any λc=>c.p==d)=false):=⟨hs.symm⟩;clear hs
  repeat' (simp only[*,go_sem,Nat.reduceLT,Nat.reduceEqDiff,↓reduceIte,Nat.reduceAdd,Int.reduceNeg,bP,aJ])
  refine⟨-1,by rw[hs2.down];decide,?_⟩
  first|rfl|trivial
theorem WH{l:List Cf}{d q:List UInt8}{k m:Int}{tt:Nat}{dd:List UInt8}{eo:List (List PV)}{K:DV->aD->Prop}(hl:l.length<=1000000)
  (hk:K (.c (.p (.b (l.any λc=>c.p==d)))) [.arr 2 eo false,.box [.p (.s q),.p (.i .i64 k),.p (.i .i64 m),.p (.f tt),.p (.sl 1 (bU dd))],.box [.p (.s d)]]):
  aA prog 220 [.c (.p (.sl 2 (dY l))),.c (.clo 221 [.ptr 2 0])] [.arr 2 eo false,.box [.p (.s q),.p (.i .i64 k),.p (.i .i64 m),.p (.f tt),.p (.sl 1 (bU dd))],.box [.p (.s d)]] K:=by
 have hi:=zJs (l:=l) (d:=d) (q:=q) (k:=k) (m:=m) (tt:=tt) (dd:=dd) (eo:=eo) hl;generalize (l.any λc=>c.p==d)=b at hi hk;refine VP aF aN func220 rfl rfl λX0 hX=>?_;simp only[f220,go_sem]
 repeat' (first|exact⟨⟩|refine sp ?_)
 refine aA.mono hi ?_;rintro _ _ ⟨⟨z,hz,rfl⟩,rfl⟩
 repeat' (first|exact⟨⟩|refine sp ?_)
theorem zKL{l:List Pr}{p:List UInt8}(hl:l.length<=1000000):aA prog 264 [.c (.own 0 0 l.length),.c (.p (.s p))] [.arr 2 (oS l) false] λr h=>r=.c (.p (.b (jM l p)))/\h=[.arr 2 (oS l) false]:=by
 refine eT func264 λX0 hX=>?_;simp only[f264,go_sem]
 repeat' (first|exact⟨⟩|refine sp ?_)
 refine aP aF aN (α:=Nat) (λk=>⟨18,[(1,.c (.p (.s p))),(7,.c (.own 0 0 l.length)),(8,.c (.p (.i .i64 l.length))),(9,.c (.p (.i .i64 k)))],[.arr 2 (oS l) false]⟩)
  (λk=>k<=l.length/\jM (l.drop k) p=jM l p) (λk=>l.length-k) 0 ⟨Nat.zero_le _,rfl⟩ (.inl (aB (by rw[hX];rfl) rfl rfl wkS)) ?_
 rintro k ⟨hk,hs⟩;by_cases hlt:k<l.length
 .have hx:l[k]?=some l[k]:=List.getElem?_eq_getElem hlt;have hg:=BD hx;have hd:=drop_at hx;have h1:decide ((k:Int)<(l.length:Int))=true:=decide_eq_true (by omega);have hli:(k:Int)<(l.length:Int):=by omega
  have hk0:(0:Int)<=k:=by omega
  have w1:IntKind.i64.wrap ((k:Int)+1)=k+1:=wrap_i64 (by omega) (by omega);generalize l[k]=x at hx hg hd;rw[hd] at hs;unfold jM at hs;rw[List.any_cons] at hs;cases hb:(x.b==p)
  .rw[hb,Bool.false_or] at hs;have hJ:k+1<=l.length/\jM (l.drop (k+1)) p=jM l p:=⟨by omega,hs⟩
   clear hs hd hx
   repeat' (first|exact⟨⟩|refine sp ?_)
   exact dE (k+1) hJ (by omega) (aB rfl rfl rfl wkS)
  .rw[hb,Bool.true_or] at hs;have hJ:jM l p=true:=hs.symm;rw[hJ];clear hs hd hx hJ
   repeat' (first|exact⟨⟩|refine sp ?_)
 .have h1:decide ((k:Int)<(l.length:Int))=false:=decide_eq_false (by omega);rw[List.drop_of_length_le (by omega)] at hs;have hJ:jM l p=false:=hs.symm;rw[hJ];clear hs hJ
  repeat' (first|exact⟨⟩|refine sp ?_)
theorem zHj{h:aD}{i n:Nat}{l:List Pr}{p:List UInt8}{K:DV->aD->Prop}(hl:l.length<=1000000)(h0:h[i]?=some (.arr 2 (oS l) false))(hn:n=l.length)(hk:K (.c (.p (.b (jM l p)))) h):
  aA prog 264 [.c (.own i 0 n),.c (.p (.s p))] h K:=by
 subst hn;exact aA.lent (i:=i) [none,some (.s p)] (zKL hl) h0 rfl hk
theorem zGr{l:List Ch}(hl:l.length<=1000000)(hp:∀x∈l,x.p.length<=1000000000/\x.o.t<18446744073709551616/\x.n.t<18446744073709551616):
  aA prog 222 [.c (.p (.sl 10 (lE l)))] [] λr h=>r=.c (.p (.sl 2 (oS (dD l))))/\h=[]:=by
 refine aV ?_;have hr:=xJ hl hp;unfold dD;clear hp;cases hrc:gA l
 .rw[hrc] at hr;refine eT func222 λX0 hX=>?_;simp only[f222,go_sem]
  repeat' (first|exact⟨⟩|refine sp ?_|refine uF (hr) ?_)
  all_goals first|rfl|simp
 .rw [hrc] at hr;rw[if_pos rfl];refine eT func222 λX0 hX=>?_;simp only[f222,go_sem]
  repeat' (first|exact⟨⟩|refine sp ?_|refine uF (hr) ?_)
  refine dQ aF aN 3 2 rfl ?_;refine aP aF aN (α:=Nat × List Pr) (λx=>⟨68,[(0,.c (.p (.sl 10 (lE l)))),(11,.c (.p (.sl 10 (lE l)))),(12,.c (.p (.i .i64 l.length))),(13,.c (.p (.i .i64 x.1))),(3,.c (.own 0 0 x.2.length))],[.arr 2 (oS x.2) false]⟩)
   (λx=>x.1<=l.length/\x.2.length<=x.1/\(l.drop x.1).foldl (dO l) x.2=lR l) (λx=>l.length-x.1) (0,[]) ⟨Nat.zero_le _,Nat.le_refl _,rfl⟩ (.inl (aB (by rw[hX];rfl) rfl rfl wkS)) ?_
  clear hr;rintro⟨i,out⟩ ⟨hi,hol,hJ⟩;simp only at hi hol hJ;by_cases hlt:i<l.length
  .have hx:l[i]?=some l[i]:=List.getElem?_eq_getElem hlt;have hg:=mA hx;have hd:=drop_at hx;have h1:decide ((i:Int)<(l.length:Int))=true:=decide_eq_true (by omega);have hli:(i:Int)<(l.length:Int):=by omega
   have hi0:(0:Int)<=i:=by omega
   have w1:IntKind.i64.wrap ((i:Int)+1)=i+1:=wrap_i64 (by omega) (by omega);generalize l[i]=x at hx hg hd;rw[hd,List.foldl_cons,dO] at hJ;have n1:(x.k != 2) = !(x.k==2):=rfl;have n2:(x.o.k != 1) = !(x.o.k==1):=rfl;rw[n1,n2] at hJ;clear hx hd;cases q1:(x.k==2)
   .rw[q1] at hJ n1;have hJ2:i+1<=l.length/\out.length<=i+1/\(l.drop (i+1)).foldl (dO l) out=lR l:=⟨by omega,by omega,by simpa using hJ⟩
    clear hJ
    repeat' (first|exact⟨⟩|refine sq ?_)
    exact dE (i+1,out) hJ2 (by simp only;omega) (aB rfl rfl rfl wkS)
   .cases q2:(x.o.k==1)
    .rw[q1,q2] at hJ;rw[q1] at n1;rw[q2] at n2;have hJ2:i+1<=l.length/\out.length<=i+1/\(l.drop (i+1)).foldl (dO l) out=lR l:=⟨by omega,by omega,by simpa using hJ⟩
     clear hJ
     repeat' (first|exact⟨⟩|refine sq ?_)
     exact dE (i+1,out) hJ2 (by simp only;omega) (aB rfl rfl rfl wkS)
    .rw [q1,q2,Bool.not_true,Bool.or_false,if_neg (by decide)] at hJ;rw[q1] at n1;rw[q2] at n2;have hJ2:=PLift.up hJ;clear hJ
     repeat' (first|exact⟨⟩|refine sq ?_)
     refine aP aF aN (α:=Nat) (λk=>⟨68,[(0,.c (.p (.sl 10 (lE l)))),(11,.c (.p (.sl 10 (lE l)))),(12,.c (.p (.i .i64 l.length))),(13,.c (.p (.i .i64 i))),(3,.c (.own 0 0 out.length)),(5,.c (.ptr 1 0)),(26,.c (.p (.sl 10 (lE l)))),(27,.c (.p (.i .i64 l.length))),(28,.c (.p (.i .i64 k)))],
       [.arr 2 (oS out) false,.box [.p (.s x.p),.p (.i .i64 x.k),.p (.i .i64 x.o.k),.p (.i .i64 x.o.m),.p (.f x.o.t),.p (.sl 1 (bU x.o.d)),.p (.i .i64 x.n.k),.p (.i .i64 x.n.m),.p (.f x.n.t),.p (.sl 1 (bU x.n.d))]]⟩)
      (λk=>k<=l.length/\kO x.o.d out (l.drop k)=kO x.o.d out l) (λk=>l.length-k) 0 ⟨Nat.zero_le _,rfl⟩ (.inl (aB (by rw[hX];rfl) rfl rfl wkS)) ?_
     rintro k ⟨hk,hs⟩;by_cases hkl:k<l.length
     .have hy:l[k]?=some l[k]:=List.getElem?_eq_getElem hkl;have hg2:=mA hy;have hd2:=drop_at hy;have h2:decide ((k:Int)<(l.length:Int))=true:=decide_eq_true (by omega);have hli2:(k:Int)<(l.length:Int):=by omega
      have hk0:(0:Int)<=k:=by omega
      have w2:IntKind.i64.wrap ((k:Int)+1)=k+1:=wrap_i64 (by omega) (by omega);generalize l[k]=y at hy hg2 hd2;rw[hd2,kO] at hs;clear hy hd2;have hob:out.length<=1000000:=by omega
      cases c1:(y.k==1)<;>cases c2:(y.n.k==1)<;>cases c3:(x.o.d==y.n.d)<;>cases c4:jM out y.p
      all_goals rw[c1,c2,c3,c4] at hs
      case true.true.true.false =>
       rw[if_pos (by decide)] at hs;have hJ3:=hJ2.down;rw[<- hs] at hJ3;have hJ4:i+1<=l.length/\(out++[(⟨x.p,y.p⟩:Pr)]).length<=i+1/\(l.drop (i+1)).foldl (dO l) (out++[(⟨x.p,y.p⟩:Pr)])=lR l:=⟨by omega,by simp;omega,hJ3⟩
       clear hs hJ2 hJ3
       repeat' (first|exact⟨⟩|refine sq ?_|refine uF (iS) ?_|refine zHj hob rfl rfl ?_|((with_reducible refine And.intro ?_ ?_);((first|omega|decide))))
       exact dN (i+1,out++[⟨x.p,y.p⟩]) 0 4 hJ4 (by simp only;omega) rfl rfl (aB rfl rfl rfl wkS)
      all_goals
       rw[if_neg (by decide)] at hs;have hs2:k+1<=l.length/\kO x.o.d out (l.drop (k+1))=kO x.o.d out l:=⟨by omega,hs⟩
       clear hs hJ2
       repeat' (first|exact⟨⟩|refine sq ?_|refine uF (iS) ?_|refine zHj hob rfl rfl ?_)
       exact dE (k+1) hs2 (by omega) (aB rfl rfl rfl wkS)
     .have h2:decide ((k:Int)<(l.length:Int))=false:=decide_eq_false (by omega);rw[List.drop_of_length_le (by omega),kO] at hs;have hJ3:=hJ2.down;rw[<- hs] at hJ3;have hJ4:i+1<=l.length/\out.length<=i+1/\(l.drop (i+1)).foldl (dO l) out=lR l:=⟨by omega,by omega,hJ3⟩
      clear hs hJ2 hJ3
      repeat' (first|exact⟨⟩|refine sp ?_)
      exact dE (i+1,out) hJ4 (by simp only;omega) (aB rfl rfl rfl wkS)
  .have h1:decide ((i:Int)<(l.length:Int))=false:=decide_eq_false (by omega);rw[List.drop_of_length_le (by omega),List.foldl_nil] at hJ;rw[<- hJ];clear hJ
   repeat' (first|exact⟨⟩|refine sp ?_)
   all_goals first|rfl|(rw[List.take_of_length_le (by simp)])|simp
theorem zG2(base alike o t:Bool):aA prog 257 [.c (.p (.b base)),.c (.p (.b alike)),.c (.p (.b o)),.c (.p (.b t))] [] λd h=>d=.c (.p (.i .i64 (ZC base alike o t)))/\h=[]:=by
 refine eT func257 λX0 hX=>?_;simp only[f257,go_sem]
 repeat' (first|exact⟨⟩|refine sp ?_|with_reducible refine aH (λ_=>?_) (λ_=>?_)|with_reducible refine aY (λ_=>?_) (λ_=>?_))
 all_goals ((simp_all[ZC];done))
theorem zPv{k m k' m':Int}{t t':Nat}{d d':List UInt8}(p q:Bool):aA prog 211 [.agg (ndc k m t d),.agg (ndc k' m' t' d'),.c (.p (.b p)),.c (.p (.b q))] [] λr h =>
  r=.c (.p (.b (YX ⟨k,m,t,d⟩ ⟨k',m',t',d'⟩ p q)))/\h=[]:=by
 refine eT func211 λX0 hX=>?_;simp only[f211,go_sem]
 repeat' (first|exact⟨⟩|refine sp ?_|refine uF (rG) ?_|with_reducible refine aY (λ_=>?_) (λ_=>?_))
 all_goals ((simp_all[YX];done))
theorem zLp{k m:Int}{t:Nat}{d:List UInt8}(hd:d.length<=140737488355328)(p:Bool):aA prog 212 [.agg (ndc k m t d),.c (.p (.b p))] [] λr h =>
  r=.tup [.agg (if p then ⟨k,m,t,d⟩ else nd0:Nd).cv,.c (.p (.b p)),.c (.p (.i .i64 0))]/\h=[]:=by
 refine aV ?_;refine eT func212 λX0 hX=>?_;simp only[f212,go_sem]
 repeat' (first|exact⟨⟩|refine sp ?_|refine uN (rW hd) ?_|with_reducible refine aH (λ_=>?_) (λ_=>?_))
 all_goals ((simp_all[nd0,jO];done))
theorem zNb{k m k1 m1 k2 m2:Int}{t t1 t2:Nat}{d d1 d2:List UInt8}(h1:d1.length<=140737488355328)(h2:d2.length<=140737488355328)(b:Bool):
  aA prog 213 [.agg (ndc k m t d),.agg (ndc k1 m1 t1 d1),.agg (ndc k2 m2 t2 d2),.c (.p (.b b))] [] λr h =>
  r=.tup [.agg (sA ⟨k,m,t,d⟩ ⟨k1,m1,t1,d1⟩ ⟨k2,m2,t2,d2⟩ b).1.cv,.c (.p (.b (sA ⟨k,m,t,d⟩ ⟨k1,m1,t1,d1⟩ ⟨k2,m2,t2,d2⟩ b).2))]/\h=[]:=by
 refine eT func213 λX0 hX=>?_;simp only[f213,go_sem]
 repeat' (first|exact⟨⟩|refine sp ?_|refine uN (rW h1) ?_|((refine aG (id:=2) aF aN [] [0,1,2,3,4,5,6,7,8,9,10,11] (by decide +kernel) ?_);(repeat' (first|(refine aT ?_)|((refine bL ?_ rfl rfl ?_ ?_);(rotate_left 1);(focus ((repeat' (first|exact⟨⟩|refine sp ?_|refine uF (zPW) ?_|refine uF (zG2 _ _ _ _) ?_));exact rfl));(simp only[aC])))))|((refine aG (id:=4) aF aN [6,8] [0,1,2,3,5,6,4,7,8] (by decide +kernel) ?_);(repeat' (first|(refine aT ?_)|((refine cK ?_ ?_ rfl rfl rfl ?_ ?_);(rotate_left 2);(focus ((repeat' (first|exact⟨⟩|refine sp ?_));((refine And.intro ?_ ?_<;>exact rfl))));(simp only[bH]))|((refine cJ ?_ rfl rfl rfl ?_ ?_);(rotate_left 1);(focus ((repeat' (first|exact bA|refine aW ?_ ?_));(all_goals ((repeat' (first|exact⟨⟩|refine sp ?_|refine uN (rW h2) ?_));(try (exact rfl))))));(simp only[aC])))))|((refine aG (id:=8) aF aN [] [0,1,2,3,4,5,6,7,8,9,10,11,12,13,14,15,16] (by decide +kernel) ?_);(repeat' (first|(refine aT ?_)|((refine bL ?_ rfl rfl ?_ ?_);(rotate_left 1);(focus ((repeat' (first|exact⟨⟩|refine sp ?_|refine uF (zG2 _ _ _ _) ?_|refine uF (RW _ _) ?_));exact rfl));(simp only[aC])))))|refine uF (zG2 _ _ _ _) ?_|refine uF (zCd _ _) ?_|with_reducible refine aH (λ_=>?_) (λ_=>?_)|with_reducible refine aY (λ_=>?_) (λ_=>?_))
 all_goals ((simp_all[sA];done))
theorem zM7{k m k1 m1 k2 m2:Int}{t t1 t2:Nat}{d d1 d2:List UInt8}(h1:d1.length<=140737488355328)(h2:d2.length<=140737488355328)(b o' t':Bool):
  aA prog 150 [.agg (ndc k m t d),.agg (ndc k1 m1 t1 d1),.agg (ndc k2 m2 t2 d2),.c (.p (.b b)),.c (.p (.b o')),.c (.p (.b t'))] [] λr h =>
  r=.tup [.agg (jS ⟨k,m,t,d⟩ ⟨k1,m1,t1,d1⟩ ⟨k2,m2,t2,d2⟩ b o' t').1.cv,.c (.p (.b (jS ⟨k,m,t,d⟩ ⟨k1,m1,t1,d1⟩ ⟨k2,m2,t2,d2⟩ b o' t').2.1)),.c (.p (.i .i64 (jS ⟨k,m,t,d⟩ ⟨k1,m1,t1,d1⟩ ⟨k2,m2,t2,d2⟩ b o' t').2.2))]/\h=[]:=by
 refine aV ?_;refine eT func150 λX0 hX=>?_;simp only[f150,go_sem]
 repeat' (first|exact⟨⟩|refine sp ?_|refine uF (zPv _ _) ?_|refine uN (zLp h1 _) ?_|refine uN (zLp h2 _) ?_|refine uN (zNb h1 h2 _) ?_|with_reducible refine aH (λ_=>?_) (λ_=>?_)|with_reducible refine aY (λ_=>?_) (λ_=>?_))
 all_goals ((simp_all[jS,nd0,jO];done))
theorem zGl{t:List It}{bad:List Cf}(hl:t.length<=1000)(hb:bad.length<=1000000)(hs:Srt t)(hp:∀x∈t,x.p.length<=1000):
  aA prog 153 [.c (.p (.sl 5 (aS t))),.c (.p (.sl 2 (dY bad)))] [] λr h=>r=.c (.p (.sl 2 (dY (fB t bad))))/\h=[]:=by
 refine eT func153 λX0 hX=>?_;simp only[f153,go_sem]
 repeat' (first|exact⟨⟩|refine sp ?_)
 refine dQ aF aN 5 2 rfl ?_;refine aP aF aN (α:=Nat × List Cf) (λx=>⟨38,[(0,.c (.p (.sl 5 (aS t)))),(1,.c (.p (.sl 2 (dY bad)))),(10,.c (.p (.sl 5 (aS t)))),(11,.c (.p (.i .i64 t.length))),(12,.c (.p (.i .i64 x.1))),(5,.c (.own 0 0 x.2.length))],[.arr 2 (dY x.2) false]⟩)
  (λx=>x.1<=t.length/\x.2.length<=x.1/\x.2++(t.drop x.1).flatMap (yN t bad)=fB t bad) (λx=>t.length-x.1) (0,[]) ⟨Nat.zero_le _,Nat.le_refl _,rfl⟩ (.inl (aB (by rw[hX];rfl) rfl rfl wkS)) ?_
 rintro⟨i,out⟩ ⟨hi,hol,hJ⟩;simp only at hi hol hJ;by_cases hlt:i<t.length
 .have hx:t[i]?=some t[i]:=List.getElem?_eq_getElem hlt;have hg:=bZ hx;have hd:=drop_at hx;have h1:decide ((i:Int)<(t.length:Int))=true:=decide_eq_true (by omega);have hli:(i:Int)<(t.length:Int):=by omega
  have w1:IntKind.i64.wrap ((i:Int)+1)=i+1:=wrap_i64 (by omega) (by omega);have hxp:=hp _ (List.getElem_mem hlt);generalize t[i]=x at hx hg hd hxp;have hdr:=dV (p:=x.p) (by omega);have hdi:=eR (t:=t) (p:=aU x.p) (by omega) hs;rw[hd,List.flatMap_cons,yN] at hJ;generalize aU x.p=d at hdr hdi hJ;have hco:=λ(K:DV->aD->Prop) (hk:K (.c (.p (.b (bad.any λc=>c.p==d)))) [.arr 2 (dY out) false,.box [.p (.s x.p),.p (.i .i64 x.n.k),.p (.i .i64 x.n.m),.p (.f x.n.t),.p (.sl 1 (bU x.n.d))],.box [.p (.s d)]])=>WH (l:=bad) (eo:=dY out) hb hk;generalize (bad.any λc=>c.p==d)=b2 at hco hJ;generalize bC t d=b1 at hdi hJ;clear hx hd hp hs;have hob:out.length<=1000000:=by omega
  cases b1<;>cases b2
  case false.false =>
   rw[if_pos (by decide)] at hJ;have hJ2:i+1<=t.length/\(out++[(⟨x.p,7⟩:Cf)]).length<=i+1/\(out++[(⟨x.p,7⟩:Cf)])++(t.drop (i+1)).flatMap (yN t bad)=fB t bad:=⟨by omega,by simp;omega,by simpa using hJ⟩
   clear hJ
   repeat' (first|exact⟨⟩|refine sq ?_|refine uF (hdr) ?_|refine hco _ ?_|refine uF (hdi) ?_|((with_reducible refine And.intro ?_ ?_);((first|omega|decide))))
   exact dN (i+1,out++[⟨x.p,7⟩]) 0 4 hJ2 (by simp only;omega) rfl rfl (aB rfl rfl rfl wkS)
  all_goals
   rw[if_neg (by decide),List.nil_append] at hJ;have hJ2:i+1<=t.length/\out.length<=i+1/\out++(t.drop (i+1)).flatMap (yN t bad)=fB t bad:=⟨by omega,by omega,hJ⟩
   clear hJ
   repeat' (first|exact⟨⟩|refine sq ?_|refine uF (hdr) ?_|refine hco _ ?_|refine uF (hdi) ?_|refine ai ?_)
   exact dE (i+1,out) hJ2 (by simp only;omega) (aB rfl rfl rfl wkS)
 .have h1:decide ((i:Int)<(t.length:Int))=false:=decide_eq_false (by omega);rw[List.drop_of_length_le (by omega),List.flatMap_nil,List.append_nil] at hJ;rw[<- hJ];clear hJ
  repeat' (first|exact⟨⟩|refine sp ?_)
  all_goals first|rfl|(rw[List.take_of_length_le (by simp)])|simp
theorem zGP{b o t:List It}(hb:OkS b)(ho:OkS o)(ht:OkS t):
  aA prog 154 [.c (.p (.sl 5 (aS b))),.c (.p (.sl 5 (aS o))),.c (.p (.sl 5 (aS t)))] [] λr h=>r=.c (.p (.sl 2 (dY (fC (dD (bT b o)) (dD (bT b t))))))/\h=[]:=by
 have d1:=zDV hb.len ho.len hb.srt ho.srt hb.ne ho.ne hb.dlen ho.dlen;have d2:=zDV hb.len ht.len hb.srt ht.srt hb.ne ht.ne hb.dlen ht.dlen;have l1:=kG b o;have l2:=kG b t;have e1:=hb.len;have e2:=ho.len;have e3:=ht.len;have p1:=zGr (l:=bT b o) (by omega) (AU hb ho);have p2:=zGr (l:=bT b t) (by omega) (AU hb ht);have m1:=kE (bT b o);have m2:=kE (bT b t);have hAl:(dD (bT b o)).length<=240:=by omega
 have hBl:(dD (bT b t)).length<=240:=by omega
 clear l1 l2 m1 m2;generalize bT b o=D1 at *;generalize bT b t=D2 at *;generalize dD D1=A at *;generalize dD D2=B at *;refine eT func154 λX0 hX=>?_;simp only[f154,go_sem]
 repeat' (first|exact⟨⟩|refine sp ?_|refine uN (d1) ?_|refine uN (d2) ?_|refine uN (p1) ?_|refine uN (p2) ?_)
 refine dQ aF aN 9 2 rfl ?_;refine aP aF aN (α:=Nat × List Cf) (λx=>⟨50,[(8,.c (.p (.sl 2 (oS B)))),(22,.c (.p (.sl 2 (oS A)))),(23,.c (.p (.i .i64 A.length))),(24,.c (.p (.i .i64 x.1))),(9,.c (.own 0 0 x.2.length))],[.arr 2 (dY x.2) false]⟩)
  (λx=>x.1<=A.length/\x.2.length<=x.1/\x.2++(A.drop x.1).flatMap (zCx B)=fC A B) (λx=>A.length-x.1) (0,[]) ⟨Nat.zero_le _,Nat.le_refl _,rfl⟩ (.inl (aB (by rw[hX];rfl) rfl rfl wkS)) ?_
 clear d1 d2 p1 p2;rintro⟨i,out⟩ ⟨hi,hol,hJ⟩;simp only at hi hol hJ;by_cases hlt:i<A.length
 .have hx:A[i]?=some A[i]:=List.getElem?_eq_getElem hlt;have hg:=BD hx;have hd:=drop_at hx;have h1:decide ((i:Int)<(A.length:Int))=true:=decide_eq_true (by omega);have hli:(i:Int)<(A.length:Int):=by omega
  have w1:IntKind.i64.wrap ((i:Int)+1)=i+1:=wrap_i64 (by omega) (by omega);generalize A[i]=x at hx hg hd;have hto:=to_c (l:=B) (p:=x.a) (by omega);rw[hd,List.flatMap_cons,zCx] at hJ;clear hx hd;have hob:out.length<=1000000:=by omega
  cases htx:toF B x.a with
  | none =>
   rw[htx] at hto hJ;simp only[Option.getD_none,Option.isSome_none,List.nil_append] at hto hJ;have hJ2:i+1<=A.length/\out.length<=i+1/\out++(A.drop (i+1)).flatMap (zCx B)=fC A B:=⟨by omega,by omega,hJ⟩
   clear hJ htx
   repeat' (first|exact⟨⟩|refine sp ?_|refine uF (hto) ?_|refine ai ?_)
   exact dE (i+1,out) hJ2 (by simp only;omega) (aB rfl rfl rfl wkS)
  | some q =>
   rw[htx] at hto hJ;simp only[Option.getD_some,Option.isSome_some] at hto hJ;have n1:(q != x.b) = !(q==x.b):=rfl;rw[n1] at hJ;clear htx;cases hq:(q==x.b)
   .rw[hq,if_pos (by decide)] at hJ;rw[hq] at n1;have hJ2:i+1<=A.length/\(out++[(⟨x.a,6⟩:Cf)]).length<=i+1/\(out++[(⟨x.a,6⟩:Cf)])++(A.drop (i+1)).flatMap (zCx B)=fC A B:=⟨by omega,by simp;omega,by simpa using hJ⟩
    clear hJ
    repeat' (first|exact⟨⟩|refine sq ?_|refine uF (hto) ?_|((with_reducible refine And.intro ?_ ?_);((first|omega|decide))))
    exact dN (i+1,out++[⟨x.a,6⟩]) 0 3 hJ2 (by simp only;omega) rfl rfl (aB rfl rfl rfl wkS)
   .rw[hq,if_neg (by decide),List.nil_append] at hJ;rw[hq] at n1;have hJ2:i+1<=A.length/\out.length<=i+1/\out++(A.drop (i+1)).flatMap (zCx B)=fC A B:=⟨by omega,by omega,hJ⟩
    clear hJ
    repeat' (first|exact⟨⟩|refine sq ?_|refine uF (hto) ?_|refine ai ?_)
    exact dE (i+1,out) hJ2 (by simp only;omega) (aB rfl rfl rfl wkS)
 .have h1:decide ((i:Int)<(A.length:Int))=false:=decide_eq_false (by omega);rw[List.drop_of_length_le (by omega),List.flatMap_nil,List.append_nil] at hJ;rw[<- hJ];clear hJ
  repeat' (first|exact⟨⟩|refine sp ?_)
  all_goals first|rfl|(rw[List.take_of_length_le (by simp)])|simp
end Go.Proofs.YtflcjdohmojepaaGreatDoor
end
