/- Part 21 of the proof of roomMerges_card, set without needless blanks. No condition. -/
import Derived.Test.YtflcjdohmojepaaGreatDoorM19
import Derived.Shelf.Spec.SlicesGrow
import Derived.Ground.Names8Prog
import Derived.Shelf.SlGeneric
set_option linter.all false
set_option maxRecDepth 100000
set_option maxHeartbeats 16000000
section
namespace Go.Proofs.YtflcjdohmojepaaGreatDoor
open Go Go.Dm Go.Proofs.Tryz
theorem zF3{t:List It}{a b:List UInt8}(ht:t.length<=400000)(ha:a.length<=1000000000)(hb:b.length<=1000000000)(hq:∀x∈t,x.p.length<=1000000000):
  aA prog 35 [.c (.p (.sl 5 (aS t))),.c (.p (.s a)),.c (.p (.s b))] [] λr h =>
   r=.tup [.c (.p (.sl 5 (aS (jQ t a b).1))),.c (.p (.i .i64 (jQ t a b).2))]/\h=[]:=by
 have hrl:=YP t a;have ha2:a.length<=4611686018427387904:=by omega
 have hb2:b.length<=4611686018427387904:=by omega
 have hq2:∀x∈t,x.p.length<=9223372036854775807:=λx hx=>Nat.le_trans (hq x hx) (by omega);refine aV ?_;refine eT func35 λX0 hX=>?_;simp only[f35,go_sem]
 repeat' (first|simp only[*,go_sem,Nat.reduceLT,Nat.reduceLeDiff,Nat.reduceEqDiff,↓reduceIte,Nat.reduceAdd,]|((with_reducible refine mH (uK ha) ?_ ?_ ?_);exact rfl;exact rfl)|((with_reducible refine mH (uK hb) ?_ ?_ ?_);exact rfl;exact rfl)|((with_reducible refine xE (mQ (t:=t) (by omega)) ?_ ?_ ?_);exact rfl;exactλ_=>rfl)|((with_reducible refine mH (yU ha2 (by omega)) ?_ ?_ ?_);exact rfl;exact rfl)|((with_reducible refine mH (KC hb2) ?_ ?_ ?_);exact rfl;exact rfl)|((with_reducible refine xE (oA (t:=t) (by omega)) ?_ ?_ ?_);exact rfl;exactλ_=>rfl)|((with_reducible refine xE (CW (t:=t) (by omega) ha2 hq2) ?_ ?_ ?_);exact rfl;exactλ_=>rfl)|with_reducible refine aH (λ_=>?_) (λ_=>?_)|with_reducible refine aY (λ_=>?_) (λ_=>?_))
 all_goals try (simp only[jQ, *,Bool.or_false,Bool.or_true,Bool.true_or,↓reduceIte,Bool.false_eq_true,gI];simp;done)
 have hm:jQ t a b=eN a b (bR t a) t:=by
  simp only[jQ, *,Bool.or_false,↓reduceIte,Bool.false_eq_true]
 rw [hm];clear hm;refine aP aF aN (α:=Nat × List It) (λx=>⟨96,[(0,.c (.p (.sl 5 (aS t)))),(1,.c (.p (.s a))),(2,.c (.p (.s b))),(12,.c (.p (.sl 5 (aS x.2)))),(13,.c (.p (.i .i64 x.1)))],[]⟩)
  (λx=>x.1<=t.length/\x.2.length<=t.length+x.1/\eN a b x.2 (t.drop x.1)=eN a b (bR t a) t) (λx=>t.length-x.1) (0,bR t a) ⟨Nat.zero_le _,by simpa using hrl,rfl⟩ (.inl (aB (by rw[hX];rfl) rfl rfl (by simp[aQ,aX,aI,aL,aJ,]))) ?_
 rintro⟨k,out⟩ ⟨hk,hol,hl⟩;simp only at hk hol hl;by_cases hlt:k<t.length
 .have hx:t[k]?=some t[k]:=List.getElem?_eq_getElem hlt;have hg:=bZ hx;have hd:=drop_at hx;have h1:decide ((k:Int)<(t.length:Int))=true:=decide_eq_true (by omega);have w1:IntKind.i64.wrap ((k:Int)+1)=k+1:=wrap_i64 (by omega) (by omega);generalize t[k]=x at hx hg hd;have hxp:=hq x (List.mem_of_getElem? hx);have hxp2:x.p.length<=9223372036854775807:=by omega
  rw[hd,eN] at hl;have hdl:(List.drop a.length x.p).length<=1000000000:=by rw[List.length_drop];omega
  have hsl:=oL out (b++List.drop a.length x.p) x.n;have main:(!(x.p==a) && !aO a x.p)=false->a.length<=x.p.length:=by
   intro hc;cases he:(x.p==a)
   .cases hbl:aO a x.p
    .simp[he,hbl] at hc
    .exact dR hbl
   .rw[eq_of_beq he];exact Nat.le_refl _
  cases he:(!(x.p==a))
  .have hla:=main (by rw[he];rfl);rw[he,Bool.false_and,if_neg (by decide)] at hl;clear main
   repeat' (first|simp only[*,go_sem,Nat.reduceLT,Nat.reduceLeDiff,Nat.reduceEqDiff,↓reduceIte,Nat.reduceAdd,]|((with_reducible refine xE (zA0 (t:=out) (by omega)) ?_ ?_ ?_);exact rfl;exactλ_=>rfl)|with_reducible refine aH (λ_=>?_) (λ_=>?_)|((with_reducible refine And.intro ?_ ?_);omega))
   .rename_i hb;rw[if_pos hb] at hl;simp only[<- hl,gI];simp
   .rename_i hb;rw[if_neg (by rw[hb];decide)] at hl;exact dE (k+1,tP out (b++List.drop a.length x.p) x.n) ⟨by omega,by simp only;omega,hl⟩ (by simp only;omega) (aB rfl rfl rfl (by simp[aQ,aX,aI,aL,aJ,]))
  .cases hbl:(!aO a x.p)
   .have hla:=main (by rw[he,hbl];rfl);rw[he,hbl,Bool.true_and,if_neg (by decide)] at hl;clear main
    repeat' (first|simp only[*,go_sem,Nat.reduceLT,Nat.reduceLeDiff,Nat.reduceEqDiff,↓reduceIte,Nat.reduceAdd,]|((with_reducible refine mH (yU (p:=a) (q:=x.p) ha2 hxp2) ?_ ?_ ?_);exact rfl;exact rfl)|((with_reducible refine xE (zA0 (t:=out) (by omega)) ?_ ?_ ?_);exact rfl;exactλ_=>rfl)|with_reducible refine aH (λ_=>?_) (λ_=>?_)|((with_reducible refine And.intro ?_ ?_);omega))
    .rename_i hb;rw[if_pos hb] at hl;simp only[<- hl,gI];simp
    .rename_i hb;rw[if_neg (by rw[hb];decide)] at hl;exact dE (k+1,tP out (b++List.drop a.length x.p) x.n) ⟨by omega,by simp only;omega,hl⟩ (by simp only;omega) (aB rfl rfl rfl (by simp[aQ,aX,aI,aL,aJ,]))
   .rw[he,hbl,Bool.true_and,if_pos rfl] at hl;clear main
    repeat' (first|simp only[*,go_sem,Nat.reduceLT,Nat.reduceEqDiff,↓reduceIte,]|((with_reducible refine mH (yU (p:=a) (q:=x.p) ha2 hxp2) ?_ ?_ ?_);exact rfl;exact rfl)|((with_reducible refine And.intro ?_ ?_);omega))
    exact dE (k+1,out) ⟨by omega,by simp only;omega,hl⟩ (by simp only;omega) (aB rfl rfl rfl (by simp[aQ,aX,aI,aL,aJ,]))
 .have h1:decide ((k:Int)<(t.length:Int))=false:=decide_eq_false (by omega);rw[List.drop_of_length_le (by omega)] at hl;simp only[eN] at hl
  repeat' (simp only[*,go_sem,Nat.reduceLT,Nat.reduceEqDiff,↓reduceIte,])
  all_goals trace_state
  all_goals simp only[<- hl]
  all_goals simp
theorem zGD{t:List It}{p:List UInt8}{k m:Int}{tt:Nat}(ht:t.length<=1000000-1)(hp:p.length<=1000000000)(hq:∀x∈t,x.p.length<=9223372036854775807):
  aA prog 28 [.c (.p (.sl 5 (aS t))),.c (.p (.s p)),.agg [.p (.i .i64 k),.p (.i .i64 m),.p (.f tt),.p .nil]] [] λr h =>
   r=.tup [.c (.p (.sl 5 (aS (mE t p ⟨k,m,tt,[]⟩).1))),.c (.p (.i .i64 (mE t p ⟨k,m,tt,[]⟩).2))]/\h=[] :=
 aA.wkargs (args':=[.c (.p (.sl 5 (aS t))),.c (.p (.s p)),.agg (ndc k m tt [])]) ⟨wkP.rfl,wkP.rfl,⟨wkP.rfl,wkP.rfl,wkP.rfl,ZN,True.intro⟩,True.intro⟩ (SI ht hp hq (Nat.zero_le _))
end Go.Proofs.YtflcjdohmojepaaGreatDoor
end
section
namespace Go.Proofs
open Go.Shelf
def Tryz.growItem_ren:Go.Shelf.Ren:=⟨λ| 4=>313|n=>n,λ| 22=>27 | 25=>84 | 3=>3 | 4=>4 | 9=>9 | 20=>20 | 0=>0|n=>n,fun|n=>n⟩
theorem Tryz.growItem:Go.Proofs.Lays8.n4 Tryz.prog Tryz.growItem_ren:={
 mixed:=by kernel_rfl
 f4:=⟨Tryz.f313.name,by decide,Tryz.func313.trans (congrArg some (by kernel_rfl))⟩
 t0:=Tryz.underlying0
 a0:=Tryz.isAgg0
 z0:=Tryz.sizeOf0
 v0:=Tryz.zeroValue0
 t3:=Tryz.underlying3
 a3:=Tryz.isAgg3
 z3:=Tryz.sizeOf3
 v3:=Tryz.zeroValue3
 t4:=Tryz.underlying4
 a4:=Tryz.isAgg4
 z4:=Tryz.sizeOf4
 v4:=Tryz.zeroValue4
 t9:=Tryz.underlying9
 a9:=Tryz.isAgg9
 z9:=Tryz.sizeOf9
 v9:=Tryz.zeroValue9
 t20:=Tryz.underlying20
 a20:=Tryz.isAgg20
 z20:=Tryz.sizeOf20
 v20:=Tryz.zeroValue20
 t22:=Tryz.underlying27
 a22:=Tryz.isAgg27
 z22:=Tryz.sizeOf27
 v22:=Tryz.zeroValue27 }
def Tryz.growConf_ren:Go.Shelf.Ren:=⟨λ| 4=>219|n=>n,λ| 22=>35 | 25=>108 | 3=>3 | 4=>4 | 9=>9 | 20=>20 | 0=>0|n=>n,fun|n=>n⟩
theorem Tryz.growConf:Go.Proofs.Lays8.n4 Tryz.prog Tryz.growConf_ren:={
 mixed:=by kernel_rfl
 f4:=⟨Tryz.f219.name,by decide,Tryz.func219.trans (congrArg some (by kernel_rfl))⟩
 t0:=Tryz.underlying0
 a0:=Tryz.isAgg0
 z0:=Tryz.sizeOf0
 v0:=Tryz.zeroValue0
 t3:=Tryz.underlying3
 a3:=Tryz.isAgg3
 z3:=Tryz.sizeOf3
 v3:=Tryz.zeroValue3
 t4:=Tryz.underlying4
 a4:=Tryz.isAgg4
 z4:=Tryz.sizeOf4
 v4:=Tryz.zeroValue4
 t9:=Tryz.underlying9
 a9:=Tryz.isAgg9
 z9:=Tryz.sizeOf9
 v9:=Tryz.zeroValue9
 t20:=Tryz.underlying20
 a20:=Tryz.isAgg20
 z20:=Tryz.sizeOf20
 v20:=Tryz.zeroValue20
 t22:=Tryz.underlying35
 a22:=Tryz.isAgg35
 z22:=Tryz.sizeOf35
 v22:=Tryz.zeroValue35 }
end Go.Proofs
end
section
namespace Go.Proofs.YtflcjdohmojepaaGreatDoor
open Go Go.Dm Go.Proofs Go.Proofs.Tryz
theorem lV{a b:List UInt8}:aA prog 73 [.c (.p (.s a)),.c (.p (.s b))] [] λr h=>r=.c (.p (.i .i64 (ED a b)))/\h=[]:=by
 rw[<- pF];exact WQ (enters Tryz.func73 rfl rfl) (λa b w=>Tryz.strings_Compare a b w)
theorem zPx{h:aD}{id:Nat}{ss:List (List UInt8)}(hid:h[id]?=some (.arr 1 (Go.Dm.encS ss) false))(hsz:ss.length<4611686018427387904):
  aA prog 159 [.c (.own id 0 ss.length)] h λd h'=>d=.tup []/\h'=h.set id (.arr 1 (Go.Dm.encS (ss.mergeSort λx y=>decide (x<=y))) false) :=
 WO (enters Tryz.func159 rfl rfl) (λblk off cap ss w h1 h2 h3=>Tryz.slices_Sort_string blk off cap ss w h1 h2 h3) (λp cap w=>Tryz.slices_Sort_string_none p cap w) hid hsz
theorem AH(l:List (List UInt8)):(Lib.compact l).length<=l.length:=by
 unfold Lib.compact Lib.compactUpTo;rw[List.length_map];exact Nat.le_trans (List.length_filter_le ..) (by simp)
theorem zDJ{h:aD}{id:Nat}{ss:List (List UInt8)}(hid:h[id]?=some (.arr 1 (Go.Dm.encS ss) false))(hsz:ss.length<4611686018427387904):
  aA prog 210 [.c (.own id 0 ss.length)] h λd h'=>d=.c (.own id 0 (Lib.compact ss).length)/\h'=h.set id (.arr 1 (Go.Dm.encS (Lib.compact ss++List.replicate (ss.length-(Lib.compact ss).length) [])) false) :=
 EN (enters Tryz.func210 rfl rfl) (λblk off cap ss w h1 h2 h3=>Tryz.slices_Compact_string blk off cap ss w h1 h2 h3) (λp cap w=>Tryz.slices_Compact_string_empty p cap w) hid hsz AH
theorem zOR{h:aD}{n:Nat}(hn:n<=1000000000):
  aA prog 313 [.c (.p .nil),.c (.p (.i .i64 n))] h λd h'=>d=.c (.own h.length 0 0)/\h'=h++[.arr 5 [] false]:=by
 have:=nP (n:=n) (h:=h) (e:=84) aF (by rw[tab84];exactλh=>by cases h) (by rw[tab84];decide) (enters func313 rfl rfl)
  (λw=>Any8.slices_Grow_room Tryz.growItem none 0 0 0 w (Nat.le_refl _) (by decide) (by decide) (Nat.le_refl _))
  (λi0 z n w h1 h2 h3 h4 h5 h6=>by
   have:=Any8.slices_Grow_grow Tryz.growItem i0 z h1 h2 h3 none 0 0 n [] w (Nat.le_refl _) (by omega) (by simpa using h5) (by simpa using h6) (by simp) (λ_=>rfl) (λa ha=>by cases ha)
   simp only[Nat.zero_add,Nat.sub_zero] at this;exact this)
  (by rw[tab84];simp only;omega) (by omega)
 rw[tab84] at this;exact this
theorem zE6{q:List UInt8}{k m:Int}{tt:Nat}{d p:List UInt8}:aA prog 164 [.agg [.p (.s q),.p (.i .i64 k),.p (.i .i64 m),.p (.f tt),.p (.sl 1 (bU d))],.c (.p (.s p))] [] λr h=>r=.c (.p (.i .i64 (ED q p)))/\h=[]:=by
 refine eT func164 λX0 hX=>?_;simp only[f164,go_sem]
 repeat' (first|exact⟨⟩|refine sp ?_|refine uF (lV) ?_)
def JL(t:List It)(p:List UInt8)(i:Nat):Prop:=i<=t.length/\∀k x,t[k]?=some x->(k<i->cD x.p p=true)/\(i<=k->cD x.p p=false)
def gO(t:List It)(p:List UInt8)(i:Nat):Bool:=match t[i]? with
 | some x=>x.p==p
 | none=>false
def nU(t:List It)(p:List UInt8)(i:Nat):DV:=.tup [.c (.p (.i .i64 i)),.c (.p (.b (gO t p i)))]
theorem QL{p:List UInt8}:∀{t:List It},(∀x∈t,(x.p==p)=false)->aM t p=none
 | [],_=>rfl
 | x::r,h=>by
  rw[aM,if_neg (by rw[h x List.mem_cons_self];decide)];exact QL λy hy=>h y (List.mem_cons_of_mem _ hy)
theorem KP{p:List UInt8}:∀{t:List It} {k:Nat} {x:It},Srt t->t[k]?=some x->(x.p==p)=true->aM t p=some x.n
 | [],k,x,_,h,_=>by simp at h
 | y::r,0,x,_,h,hp=>by
  simp only[List.getElem?_cons_zero,Option.some.injEq] at h;subst h;rw[aM,if_pos hp]
 | y::r,k+1,x,hs,h,hp=>by
  simp only[List.getElem?_cons_succ] at h;have hs:=List.pairwise_cons.1 hs;have:=hs.1 x (List.mem_of_getElem? h);rw[eq_of_beq hp] at this;rw[aM,if_neg (by rw[jH this];decide)];exact KP hs.2 h hp
theorem WY{t:List It}{p:List UInt8}{i:Nat}(hs:Srt t)(h:JL t p i)(hf:gO t p i=false):aM t p=none:=by
 refine QL λx hx=>?_;obtain⟨k,hk⟩:=List.getElem?_of_mem hx;cases he:x.p==p
 .rfl
 .have h1:=h.2 k x hk;rcases Nat.lt_trichotomy k i with hki|rfl|hki
  .have:=h1.1 hki;rw[eq_of_beq he,cF] at this;cases this
  .unfold gO at hf;rw[hk] at hf;simp only at hf;rw[he] at hf;cases hf
  .have hil:i<t.length:=Nat.lt_trans hki (List.getElem?_eq_some_iff.1 hk).1;have h2:=h.2 i t[i] (List.getElem?_eq_getElem hil);have h3:=List.pairwise_iff_getElem.1 hs i k hil (List.getElem?_eq_some_iff.1 hk).1 hki;rw[(List.getElem?_eq_some_iff.1 hk).2,eq_of_beq he,h2.2 (Nat.le_refl _)] at h3;cases h3
theorem zDB{t:List It}{p:List UInt8}(ht:t.length<=1000000)(hs:Srt t):
  aA prog 163 [.c (.p (.sl 5 (aS t))),.c (.p (.s p)),.c (.clo 164 [])] [] λr h =>
   ∃i:Nat,JL t p i/\r=nU t p i/\h=[]:=by
 have hmon:∀(k k':Nat) (x x':It),t[k]?=some x->t[k']?=some x'->k<k'->cD x.p x'.p=true:=λk k' x x' h1 h2 h3=>by
  obtain⟨h4,rfl⟩:=List.getElem?_eq_some_iff.1 h1;obtain⟨h5,rfl⟩:=List.getElem?_eq_some_iff.1 h2;exact List.pairwise_iff_getElem.1 hs _ _ h4 h5 h3
 refine eT func163 λX0 hX=>?_;simp only[f163,go_sem]
 repeat' (first|exact⟨⟩|refine sp ?_)
 refine aP aF aN (α:=Nat × Nat) (λx=>⟨49,[(0,.c (.p (.sl 5 (aS t)))),(1,.c (.p (.s p))),(2,.c (.clo 164 [])),(8,.c (.p (.i .i64 t.length))),(9,.c (.p (.i .i64 x.1))),(10,.c (.p (.i .i64 x.2)))],[]⟩)
  (λx=>x.1<=x.2/\x.2<=t.length/\∀k y,t[k]?=some y->(k<x.1->cD y.p p=true)/\(x.2<=k->cD y.p p=false)) (λx=>x.2-x.1) (0,t.length) ⟨Nat.zero_le _,Nat.le_refl _,λk y hy=>⟨λh=>by omega,λh=>by rw[List.getElem?_eq_none h] at hy;cases hy⟩⟩ (.inl (aB (by rw[hX];rfl) rfl rfl (by simp[aQ,aX,aI,aL,aJ,]))) ?_
 rintro⟨i,j⟩ ⟨hij,hj,hl⟩;simp only at hij hj hl;by_cases hlt:i<j
 .have h1:decide ((i:Int)<(j:Int))=true:=decide_eq_true (by omega);have w1:IntKind.i64.wrap ((i:Int)+j)=(i:Int)+j:=wrap_i64 (by omega) (by omega);have w2:IntKind.u64.wrap ((i:Int)+j)=(i:Int)+j:=wrap_u64 (by omega) (by omega);obtain⟨m,hm,hmi,hmj⟩:∃m:Nat,((i:Int)+j).fdiv (2 ^ min 1 64)=(m:Int)/\i<=m/\m<j :=
   ⟨(i+j) / 2,by rw[show (2:Int) ^ min 1 64=2 from rfl,Int.fdiv_eq_ediv_of_nonneg _ (by decide)];omega,by omega,by omega⟩
  have w3:IntKind.i64.wrap (m:Int)=m:=wrap_i64 (by omega) (by omega);have w4:IntKind.i64.wrap ((m:Int)+1)=m+1:=wrap_i64 (by omega) (by omega);have hml:m<t.length:=by omega
  have hx:t[m]?=some t[m]:=List.getElem?_eq_getElem hml;have hg:=bZ hx;generalize t[m]=x at hx hg
  repeat' (first|exact⟨⟩|refine sp ?_|refine uF (zE6) ?_|with_reducible refine aH (λ_=>?_) (λ_=>?_)|((with_reducible refine And.intro ?_ ?_);omega))
  .rename_i hb;have hb:cD x.p p=true:=by rw[<- pE];exact hb
   exact dE (m+1,j) ⟨by simp only;omega,hj,λk y hy=>⟨λhk=>by
    rcases Nat.lt_or_ge k m with h|h
    .exact cL (hmon _ _ _ _ hy hx h) hb
    .have:k=m:=by simp only at hk;omega
     subst this;rw[hx] at hy;cases hy;exact hb,(hl k y hy).2⟩⟩ (by simp only;omega) (aB rfl rfl rfl (by simp[aQ,aX,aI,aL,aJ,]))
  .rename_i hb;have hb:cD x.p p=false:=by rw[<- pE];exact hb
   exact dE (i,m) ⟨hmi,by simp only;omega,λk y hy=>⟨(hl k y hy).1,λhk=>by
    rcases Nat.lt_or_ge m k with h|h
    .cases hc:cD y.p p
     .rfl
     .have:=cL (hmon _ _ _ _ hx hy h) hc;rw[hb] at this;cases this
    .have:k=m:=by simp only at hk;omega
     subst this;rw[hx] at hy;cases hy;exact hb⟩⟩ (by simp only;omega) (aB rfl rfl rfl (by simp[aQ,aX,aI,aL,aJ,]))
 .have h1:decide ((i:Int)<(j:Int))=false:=decide_eq_false (by omega);have:i=j:=by omega
  subst this;by_cases hil:i<t.length
  .have hx:t[i]?=some t[i]:=List.getElem?_eq_getElem hil;have hg:=bZ hx;have h2:decide ((i:Int)<(t.length:Int))=true:=decide_eq_true (by omega);generalize t[i]=x at hx hg
   repeat' (first|exact⟨⟩|refine sp ?_|refine uF (zE6) ?_|((with_reducible refine And.intro ?_ ?_);omega))
   refine⟨i,⟨hj,hl⟩,?_⟩;simp only[nU,gO,hx,JW]
  .have h2:decide ((i:Int)<(t.length:Int))=false:=decide_eq_false (by omega)
   repeat' (first|exact⟨⟩|refine sp ?_)
   refine⟨i,⟨hj,hl⟩,?_⟩;simp only[nU,gO,List.getElem?_eq_none (Nat.le_of_not_lt hil)]
theorem QF{t:List It}{p:List UInt8}(ht:t.length<=1000000)(hs:Srt t):
  aA prog 116 [.c (.p (.sl 5 (aS t))),.c (.p (.s p))] [] λr h=>∃i:Nat,JL t p i/\r=nU t p i/\h=[]:=by
 refine eT func116 λX0 hX=>?_;simp only[f116,go_sem]
 repeat' (first|exact⟨⟩|refine sp ?_)
 refine zHt (zDB ht hs) rfl (λ_ _=>rfl) λi hi=>?_;unfold nU
 repeat' (first|exact⟨⟩|refine sp ?_)
 exact⟨i,hi,rfl⟩
theorem eV{t:List It}{p:List UInt8}(ht:t.length<=1000000)(hs:Srt t)(hne:∀x∈t,x.p≠[])(hdl:∀x∈t,x.n.d.length<=140737488355328):
  aA prog 67 [.c (.p (.sl 5 (aS t))),.c (.p (.s p))] [] λr h=>r=.tup [.agg ((aM t p).getD nd0).cv,.c (.p (.b (aM t p).isSome))]/\h=[]:=by
 refine aV ?_;refine eT func67 λX0 hX=>?_;simp only[f67,go_sem]
 repeat' (first|exact⟨⟩|refine sp ?_)
 refine zHt (QF ht hs) rfl (λ_ _=>rfl) λi hi=>?_;unfold nU;cases hf:gO t p i
 .have hg:=WY hs hi hf;rw[hg]
  repeat' (first|exact⟨⟩|refine sp ?_)
  all_goals simp[nd0,jO]
 .unfold gO at hf;cases hx:t[i]? with
  | none=>rw[hx] at hf;cases hf
  | some x =>
   rw [hx] at hf;simp only at hf;have hg:=KP hs hx hf;have hxm:=List.mem_of_getElem? hx;have hpe:(p == [])=false:=by
    rw[<- eq_of_beq hf];have:=hne x hxm;simpa using this
   have he:=bZ hx;have hil:i<t.length:=(List.getElem?_eq_some_iff.1 hx).1;have hxd:=hdl x hxm;rw[hg];clear hg
   repeat' (first|exact⟨⟩|refine sp ?_|refine uN (rW hxd) ?_|((with_reducible refine And.intro ?_ ?_);omega))
   all_goals simp
theorem zId{a b:List It}(ha:a.length<=1000000)(hb:b.length<=1000000):
  aA prog 265 [.c (.p (.sl 1 [[.sl 5 (aS a)],[.sl 5 (aS b)]]))] [] λr h=>r=.c (.p (.sl 5 (aS (a++b))))/\h=[]:=by
 have w1:IntKind.i64.wrap (a.length:Int)=a.length:=wrap_i64 (by omega) (by omega);have w2:IntKind.i64.wrap ((a.length:Int)+(b.length:Int))=(a.length+b.length:Nat):=wrap_i64 (by omega) (by omega);have z1:decide ((a.length:Int)<0)=false:=decide_eq_false (by omega);have z2:decide (((a.length+b.length:Nat):Int)<0)=false:=decide_eq_false (by omega);refine eT func265 λX0 hX=>?_;simp only[f265,go_sem]
 repeat' (first|simp only[*,go_sem,Nat.reduceLT,Nat.reduceEqDiff,↓reduceIte,Nat.reduceAdd,Int.reduceLT,Int.reduceLE,Int.reduceAdd,Int.reduceToNat,Int.zero_add,iX,decide_true,decide_false]|refine dM aF aN 3 ?_)
 refine(zOR (n:=a.length+b.length) (by omega)).mono ?_;rintro d h' ⟨rfl,rfl⟩
 repeat' (first|simp only[*,go_sem,Nat.reduceLT,Nat.reduceLeDiff,Nat.reduceEqDiff,↓reduceIte,Nat.reduceAdd,Int.reduceLT,Int.reduceLE,Int.reduceAdd,Int.reduceToNat,Int.zero_add,iX,decide_true,decide_false]|refine dM aF aN 3 ?_|((with_reducible refine And.intro ?_ ?_);omega))
 rw[List.take_of_length_le (by simp)]
theorem zLq{k m k' m':Int}{t t':Nat}{d d':List UInt8}(p q:Bool):aA prog 193 [.agg (ndc k m t d),.agg (ndc k' m' t' d'),.c (.p (.b p)),.c (.p (.b q))] [] λr h=>r=.c (.p (.i .i64 (lG p q ⟨k,m,t,d⟩ ⟨k',m',t',d'⟩)))/\h=[]:=by
 cases p<;>cases q
 all_goals
  refine eT func193 λX0 hX=>?_;simp only[f193,go_sem]
 all_goals repeat' (first|exact⟨⟩|refine sp ?_|refine uF (rG) ?_|refine uF (iS) ?_|with_reducible refine aH (λ_=>?_) (λ_=>?_))
 all_goals simp only[lG, *,↓reduceIte,Bool.false_eq_true]
end Go.Proofs.YtflcjdohmojepaaGreatDoor
end
section
namespace Go.Proofs.YtflcjdohmojepaaGreatDoor
open Go Go.Dm Go.Proofs.Tryz
theorem pQ{a:List UInt8}{c:Int}(ha:a.length<4611686018427387904):aA prog 166 [.c (.p (.s a)),.c (.p (.i .u8 c))] [] λr h=>r=.c (.p (.i .i64 (Lib.lastIndexByte ⟨a.toArray⟩ c)))/\h=[] :=
 rX (N:=4611686018427387904) (g:=λa c=>Lib.lastIndexByte ⟨a.toArray⟩ c) (enters Tryz.func166 rfl rfl) (λa c w h=>Tryz.strings_LastIndexByte ⟨a.toArray⟩ c (by simpa[ByteArray.size] using h) w) ha
theorem XF{a b:List UInt8}:aA prog 228 [.c (.p (.s a)),.c (.p (.s b))] [] λr h=>r=.c (.p (.b (b.isPrefixOf a)))/\h=[] :=
 EO (g:=λa b=>b.isPrefixOf a) (enters Tryz.func228 rfl rfl) (λa b w=>Tryz.strings_HasPrefix a b w)
theorem dV{p:List UInt8}(hp:p.length<=1000000000):aA prog 120 [.c (.p (.s p))] [] λr h=>r=.c (.p (.s (aU p)))/\h=[]:=by
 have hl:=pQ (a:=p) (c:=47) (by omega);rw[oT] at hl;unfold aU;cases hs:dG p p.length with
 | none =>
  rw[hs] at hl;simp only at hl ⊢;clear hs;refine eT func120 λX0 hX=>?_;simp only[f120,go_sem]
  repeat' (first|exact⟨⟩|refine sp ?_|refine uF (hl) ?_)
  all_goals simp
 | some j =>
  rw[hs] at hl;have hj:=xO hs;have hm:max (0:Int) (j:Int)=j:=by omega
  simp only at hl ⊢;clear hs;have hj2:(j:Int)<=p.length:=by omega
  have hj3:(0:Int)<=j:=by omega
  have hj4:(if (0:Int)<(j:Int) then (j:Int) else 0)=j:=by split<;>omega
  refine eT func120 λX0 hX=>?_;simp only[f120,go_sem]
  repeat' (first|exact⟨⟩|refine sp ?_|refine uF (hl) ?_)
  all_goals first|(rw[hj4];done)|(rw[hj4];omega)|(rw[hj4];rfl)|skip
theorem zB7{p:List UInt8}(hp:p.length<=1000000000):aA prog 158 [.c (.p (.s p))] [] λr h=>r=.c (.p (.s (yD p)))/\h=[]:=by
 have hl:=pQ (a:=p) (c:=47) (by omega);rw[oT] at hl;unfold yD;cases hs:dG p p.length with
 | none =>
  rw[hs] at hl;simp only at hl ⊢;clear hs;have w1:IntKind.i64.wrap (-1+1)=0:=by decide +kernel
  refine eT func158 λX0 hX=>?_;simp only[f158,go_sem]
  repeat' (first|exact⟨⟩|refine sp ?_|refine uF (hl) ?_|refine ai ?_)
  all_goals simp
 | some j =>
  rw[hs] at hl;have hj:=xO hs;have w1:IntKind.i64.wrap ((j:Int)+1)=(j+1:Nat):=wrap_i64 (by omega) (by omega);simp only at hl ⊢;clear hs;have hj2:((j+1:Nat):Int)<=p.length:=by omega
  refine eT func158 λX0 hX=>?_;simp only[f158,go_sem]
  repeat' (first|exact⟨⟩|refine sp ?_|refine uF (hl) ?_|refine ai ?_)
  all_goals simp
theorem cQ{p q:List UInt8}(hpl:p.length<=1000000000):aA prog 162 [.c (.p (.s p)),.c (.p (.s q))] [] λr h=>r=.c (.p (.b (aO p q)))/\h=[]:=by
 by_cases hp:p=[]
 .subst hp;refine eT func162 λX0 hX=>?_;simp only[f162,go_sem]
  repeat' (first|exact⟨⟩|refine sp ?_)
  all_goals simp[aO]
 .have q0:(p == [])=false:=by simpa using hp
  have hb:=NP (q:=q) hp;refine eT func162 λX0 hX=>?_;simp only[f162,go_sem]
  repeat' (first|exact⟨⟩|refine sp ?_|refine uF (XF) ?_|refine ai ?_)
theorem eR{t:List It}{p:List UInt8}(ht:t.length<=1000000)(hs:Srt t):
  aA prog 113 [.c (.p (.sl 5 (aS t))),.c (.p (.s p))] [] λr h=>r=.c (.p (.b (bC t p)))/\h=[]:=by
 refine eT func113 λX0 hX=>?_;simp only[f113,go_sem]
 repeat' (first|exact⟨⟩|refine sp ?_)
 refine zHt (QF ht hs) rfl (λ_ _=>rfl) λi hi=>?_;unfold nU bC;cases hf:gO t p i
 .have hg:=WY hs hi hf;rw[hg];cases q:(p == [])
  .repeat' (first|exact⟨⟩|refine sp ?_)
  .repeat' (first|exact⟨⟩|refine sp ?_)
 .unfold gO at hf;cases hx:t[i]? with
  | none=>rw[hx] at hf;cases hf
  | some x =>
   rw[hx] at hf;simp only at hf;have hg:=KP hs hx hf;have he:=bZ hx;have hil:(i:Int)<t.length:=by have:=(List.getElem?_eq_some_iff.1 hx).1;omega
   have hi0:(0:Int)<=i:=by omega
   rw[hg];clear hg hf hi;cases q:(p == [])
   .repeat' (first|exact⟨⟩|refine sp ?_)
   .repeat' (first|exact⟨⟩|refine sp ?_)
end Go.Proofs.YtflcjdohmojepaaGreatDoor
end
section
namespace Go.Dm
open Go
def zOh(x:List It × Int):Prop:=(x.2=0->OkT x.1)/\(x.2≠0->x.1=[])
theorem zOh.len{x:List It × Int}(h:zOh x):x.1.length<=1000000:=by
 by_cases h0:x.2=0
 .exact Nat.le_trans (h.1 h0).len (by decide)
 .rw[h.2 h0];simp
end Go.Dm
end
