/- Part 25 of the proof of roomStays_card, set without needless blanks. No condition. -/
import Derived.Test.YtlbfnbldeefgmaaGreatDoorT23
set_option linter.all false
set_option maxRecDepth 100000
set_option maxHeartbeats 16000000
section
namespace Go.Proofs.YtlbfnbldeefgmaaGreatDoor
open Go Go.Dm Go.Proofs.Tryz
theorem lK{n m:Int}(hm:0<m)(hm2:m<=9223372036854775807):aA prog 22 [.c (.p (.i .i64 n)),.c (.p (.i .i64 m))] [] λr h=>r=.c (.p (.i .i64 (n % m)))/\h=[]:=by
 refine eT func22 λX0 hX=>?_;simp only[Tryz.f22,go_sem];have h0:=Int.emod_nonneg n (show m≠0 by omega)
 have h1:=Int.emod_lt_of_pos n hm
 repeat' (first|exact⟨⟩|refine sp ?_|refine aK (λ_=>?_) (λ_=>?_)|refine ai ?_)
 .rename_i h;rw[tmod_neg hm (of_decide_eq_true h),wrap_i64 (by omega) (by omega)]
 .rename_i h;rw[zJM hm (of_decide_eq_false h)]
theorem zKR{b:List UInt8}{n:Int}(hn:0<=n)(hn2:n<=140737488355328)(hb:b.length<=9223372036854775807):aA prog 49 [.c (.p (.sl 1 (bJ b))),.c (.p (.i .i64 n))] [] λr h=>r=.c (.p (.sl 1 (bJ (b.take n.toNat))))/\h=[]:=by
 refine eT func49 λX0 hX=>?_;simp only[f49,go_sem]
 repeat' (first|exact⟨⟩|refine sp ?_|((with_reducible refine And.intro ?_ ?_);((first|omega|decide))))
 by_cases h:n<(b.length:Int)
 .simp only[if_pos h,List.length_take];refine⟨by omega,by omega,?_⟩
  first|trivial|rfl
 .simp only[if_neg h,List.length_take];refine⟨by omega,by omega,?_⟩
  rw[List.take_of_length_le (by omega),List.take_of_length_le (by omega)]
theorem yN{n:Int}:aA prog 109 [.c (.p (.i .i64 n))] [] λr h=>r=.c (.p (.s (vN n)))/\h=[]:=by
 refine eT func109 λX0 hX=>?_;simp only[f109,go_sem]
 repeat' (first|exact⟨⟩|refine sp ?_|refine uF (lK (by omega) (by omega)) ?_|refine ai ?_)
 unfold vN;have h1:=Int.emod_nonneg n (show (6:Int)≠0 by decide)
 have h2:=Int.emod_lt_of_pos n (show (0:Int)<6 by decide)
 generalize n % 6=k at h1 h2;have:k=0∨k=1∨k=2∨k=3∨k=4∨k=5:=by omega
 rcases this with rfl|rfl|rfl|rfl|rfl|rfl<;>rfl
theorem zJ8{n:Int}:aA prog 86 [.c (.p (.i .i64 n))] [] λr h=>r=.c (.p (.s (tT n)))/\h=[]:=by
 unfold tT;have h1:=Int.emod_nonneg n (show (1073741824:Int)≠0 by decide)
 have h2:=Int.emod_lt_of_pos n (show (0:Int)<1073741824 by decide)
 have e1:IntKind.i64.wrap ((n % 1073741824).tdiv 6)=n % 1073741824 / 6:=by rw[Int.tdiv_eq_ediv_of_nonneg h1];exact wrap_i64 (by omega) (by omega)
 have e2:(n % 1073741824 / 6).tmod 3=n % 1073741824 / 6 % 3:=Int.tmod_eq_emod_of_nonneg (by omega);have e3:IntKind.i64.wrap ((n % 1073741824).tdiv 7)=n % 1073741824 / 7:=by rw[Int.tdiv_eq_ediv_of_nonneg h1];exact wrap_i64 (by omega) (by omega)
 have e4:IntKind.i64.wrap ((n % 1073741824 / 7).tdiv 7)=n % 1073741824 / 7 / 7:=by rw[Int.tdiv_eq_ediv_of_nonneg (by omega)];exact wrap_i64 (by omega) (by omega)
 have l1:=iC (n % 1073741824);have l2:=iC (n % 1073741824 / 7);have l3:=iC (n % 1073741824 / 7 / 7);have hk:n % 1073741824 / 6 % 3=0∨n % 1073741824 / 6 % 3=1∨n % 1073741824 / 6 % 3=2:=by omega
 refine eT func86 λX0 hX=>?_;simp only[f86,go_sem];rcases hk with hk|hk|hk
 .repeat' (first|exact⟨⟩|refine sp ?_|refine uF (lK (by omega) (by omega)) ?_|refine uF (yN) ?_)
  refine dY aD aL 1 ?_
  repeat' (first|exact⟨⟩|refine sp ?_)
  simp only[PK]
 .repeat' (first|exact⟨⟩|refine sp ?_|refine uF (lK (by omega) (by omega)) ?_|refine uF (yN) ?_)
  refine dY aD aL 2 ?_
  repeat' (first|exact⟨⟩|refine sp ?_|refine uF (yN) ?_|refine ai ?_)
  all_goals simp[PK]
 .repeat' (first|exact⟨⟩|refine sp ?_|refine uF (lK (by omega) (by omega)) ?_|refine uF (yN) ?_)
  refine dY aD aL 3 ?_
  repeat' (first|exact⟨⟩|refine sp ?_|refine uF (yN) ?_|refine ai ?_)
  all_goals simp[PK]
theorem zJ9{n:Int}{x:Nat}:aA prog 48 [.c (.p (.i .i64 n)),.c (.p (.f x))] [] λr h=>r=.c (.p (.f (CI n x)))/\h=[]:=by
 refine eT func48 λX0 hX=>?_;simp only[f48,go_sem]
 repeat' (first|exact⟨⟩|refine sp ?_|refine uF (lK (by omega) (by omega)) ?_|refine uF (zAm) ?_|refine uF (zPt _) ?_|refine uF (zPg) ?_|refine uF (kE _ (by omega)) ?_|refine aK (λ_=>?_) (λ_=>?_)|((with_reducible refine And.intro ?_ ?_);((first|omega|(simp only[decide_eq_true_eq] at *;omega)))))
 .rename_i h;have h:=of_decide_eq_true h
  try refine⟨h,?_⟩
  unfold CI;have h1:=Int.emod_nonneg n (show (15:Int)≠0 by decide)
  generalize n % 15=k at h h1;have:k=0∨k=1∨k=2∨k=3∨k=4∨k=5∨k=6∨k=7∨k=8∨k=9∨k=10∨k=11:=by omega
  rcases this with rfl|rfl|rfl|rfl|rfl|rfl|rfl|rfl|rfl|rfl|rfl|rfl<;>rfl
 .rename_i h;have h:=of_decide_eq_false h;unfold CI;rw[if_neg h]
theorem zMa{k m t:Int}{x:Nat}{d:List UInt8}(hd:d.length<=9223372036854775807):aA prog 50 [.agg (rnc k m t x d)] [] λr h=>r=.agg (zI3 ⟨k,m,t,x,d⟩).cv/\h=[]:=by
 have hp:=tU m;have e0:=Int.emod_nonneg k (show (3:Int)≠0 by decide)
 have e1:=Int.emod_lt_of_pos k (show (0:Int)<3 by decide)
 have e2:IntKind.i64.wrap (1+k % 3)=1+k % 3:=wrap_i64 (by omega) (by omega);refine aI ?_;refine eT func50 λX0 hX=>?_;simp only[f50,go_sem]
 repeat' (first|exact⟨⟩|refine sp ?_|refine uF (zJ8) ?_|refine uN (zKR (by omega) (by omega) hd) ?_|((refine aG (id:=1) aD aL [14,15] [14,0,1,2,3,4,5,6,7,8,9,10,11,12,13,15] (by decide +kernel) ?_);(repeat' (first|(refine aO ?_)|((refine cR ?_ ?_ rfl rfl rfl ?_ ?_);(rotate_left 2);(focus ((repeat' (first|exact⟨⟩|refine sp ?_));((refine And.intro ?_ ?_<;>exact rfl))));(simp only[aC,bE]))|((refine cQ ?_ rfl rfl rfl ?_ ?_);(rotate_left 1);(focus ((repeat' (first|exact bB|refine aR ?_ ?_));(all_goals ((repeat' (first|exact⟨⟩|refine sp ?_|refine uF (lK (by omega) (by omega)) ?_|refine uF (zJ9) ?_|refine uF (SI _) ?_));(try (exact rfl))))));(simp only[aC])))))|refine aK (λ_=>?_) (λ_=>?_)|((with_reducible refine And.intro ?_ ?_);((first|omega|decide))))
 all_goals (simp_all[zI3,zL9,JG,lQ,];try omega)
end Go.Proofs.YtlbfnbldeefgmaaGreatDoor
end
section
namespace Go.Proofs
open Go.Shelf
def Tryz.growItem_ren:Go.Shelf.Ren:=⟨λ| 4=>276|n=>n,λ| 22=>40 | 25=>130 | 3=>3 | 4=>4 | 9=>9 | 20=>20 | 0=>0|n=>n,fun|n=>n⟩
theorem Tryz.growItem:Go.Proofs.Lays8.n4 Tryz.prog Tryz.growItem_ren:={
 mixed:=by kernel_rfl
 f4:=⟨Tryz.f276.name,by decide,Tryz.func276.trans (congrArg some (by kernel_rfl))⟩
 t0:=Tryz.underlying0
 a0:=Tryz.isAgg0
 z0:=Tryz.sizeOf0
 v0:=Tryz.zeroValue0
 t3:=Tryz.underlying3
 a3:=Tryz.isAgg3
 z3:=Tryz.sizeOf3
 v3:=Tryz.zeroValue3
 t4:=Tryz.underlying4
 a4:=Tryz.isAgg4
 z4:=Tryz.sizeOf4
 v4:=Tryz.zeroValue4
 t9:=Tryz.underlying9
 a9:=Tryz.isAgg9
 z9:=Tryz.sizeOf9
 v9:=Tryz.zeroValue9
 t20:=Tryz.underlying20
 a20:=Tryz.isAgg20
 z20:=Tryz.sizeOf20
 v20:=Tryz.zeroValue20
 t22:=Tryz.underlying40
 a22:=Tryz.isAgg40
 z22:=Tryz.sizeOf40
 v22:=Tryz.zeroValue40 }
def Tryz.growConf_ren:Go.Shelf.Ren:=⟨λ| 4=>340|n=>n,λ| 22=>54 | 25=>258 | 3=>3 | 4=>4 | 9=>9 | 20=>20 | 0=>0|n=>n,fun|n=>n⟩
theorem Tryz.growConf:Go.Proofs.Lays8.n4 Tryz.prog Tryz.growConf_ren:={
 mixed:=by kernel_rfl
 f4:=⟨Tryz.f340.name,by decide,Tryz.func340.trans (congrArg some (by kernel_rfl))⟩
 t0:=Tryz.underlying0
 a0:=Tryz.isAgg0
 z0:=Tryz.sizeOf0
 v0:=Tryz.zeroValue0
 t3:=Tryz.underlying3
 a3:=Tryz.isAgg3
 z3:=Tryz.sizeOf3
 v3:=Tryz.zeroValue3
 t4:=Tryz.underlying4
 a4:=Tryz.isAgg4
 z4:=Tryz.sizeOf4
 v4:=Tryz.zeroValue4
 t9:=Tryz.underlying9
 a9:=Tryz.isAgg9
 z9:=Tryz.sizeOf9
 v9:=Tryz.zeroValue9
 t20:=Tryz.underlying20
 a20:=Tryz.isAgg20
 z20:=Tryz.sizeOf20
 v20:=Tryz.zeroValue20
 t22:=Tryz.underlying54
 a22:=Tryz.isAgg54
 z22:=Tryz.sizeOf54
 v22:=Tryz.zeroValue54 }
end Go.Proofs
end
section
namespace Go.Proofs.YtlbfnbldeefgmaaGreatDoor
open Go Go.Dm Go.Proofs Go.Proofs.Tryz
theorem lU{a b:List UInt8}:aA prog 157 [.c (.p (.s a)),.c (.p (.s b))] [] λr h=>r=.c (.p (.i .i64 (CT a b)))/\h=[]:=by
 rw[<- oN];exact TG (enters Tryz.func157 rfl rfl) (λa b w=>Tryz.strings_Compare a b w)
theorem zOw{h:aB}{id:Nat}{ss:List (List UInt8)}(hid:h[id]?=some (.arr 1 (Go.Dm.encS ss) false))(hsz:ss.length<4611686018427387904):
  aA prog 228 [.c (.own id 0 ss.length)] h λd h'=>d=.tup []/\h'=h.set id (.arr 1 (Go.Dm.encS (ss.mergeSort λx y=>decide (x<=y))) false) :=
 TF (enters Tryz.func228 rfl rfl) (λblk off cap ss w h1 h2 h3=>Tryz.slices_Sort_string blk off cap ss w h1 h2 h3) (λp cap w=>Tryz.slices_Sort_string_none p cap w) hid hsz
theorem zA(l:List (List UInt8)):(Lib.compact l).length<=l.length:=by
 unfold Lib.compact Lib.compactUpTo;rw[List.length_map];exact Nat.le_trans (List.length_filter_le ..) (by simp)
theorem zCI{h:aB}{id:Nat}{ss:List (List UInt8)}(hid:h[id]?=some (.arr 1 (Go.Dm.encS ss) false))(hsz:ss.length<4611686018427387904):
  aA prog 229 [.c (.own id 0 ss.length)] h λd h'=>d=.c (.own id 0 (Lib.compact ss).length)/\h'=h.set id (.arr 1 (Go.Dm.encS (Lib.compact ss++List.replicate (ss.length-(Lib.compact ss).length) [])) false) :=
 DA (enters Tryz.func229 rfl rfl) (λblk off cap ss w h1 h2 h3=>Tryz.slices_Compact_string blk off cap ss w h1 h2 h3) (λp cap w=>Tryz.slices_Compact_string_empty p cap w) hid hsz zA
theorem zNP{h:aB}{n:Nat}(hn:n<=1000000000):
  aA prog 276 [.c (.p .nil),.c (.p (.i .i64 n))] h λd h'=>d=.c (.own h.length 0 0)/\h'=h++[.arr 5 [] false]:=by
 have:=nF (n:=n) (h:=h) (e:=130) aD (by rw[tab130];exactλh=>by cases h) (by rw[tab130];decide) (enters func276 rfl rfl)
  (λw=>Any8.slices_Grow_room Tryz.growItem none 0 0 0 w (Nat.le_refl _) (by decide) (by decide) (Nat.le_refl _))
  (λi0 z n w h1 h2 h3 h4 h5 h6=>by
   have:=Any8.slices_Grow_grow Tryz.growItem i0 z h1 h2 h3 none 0 0 n [] w (Nat.le_refl _) (by omega) (by simpa using h5) (by simpa using h6) (by simp) (λ_=>rfl) (λa ha=>by cases ha)
   simp only[Nat.zero_add,Nat.sub_zero] at this;exact this)
  (by rw[tab130];simp only;omega) (by omega)
 rw[tab130] at this;exact this
theorem zD4{q:List UInt8}{k m:Int}{tt:Nat}{d p:List UInt8}:aA prog 290 [.agg [.p (.s q),.p (.i .i64 k),.p (.i .i64 m),.p (.f tt),.p (.sl 1 (bJ d))],.c (.p (.s p))] [] λr h=>r=.c (.p (.i .i64 (CT q p)))/\h=[]:=by
 refine eT func290 λX0 hX=>?_;simp only[f290,go_sem]
 repeat' (first|exact⟨⟩|refine sp ?_|refine uF (lU) ?_)
def GR(t:List It)(p:List UInt8)(i:Nat):Prop:=i<=t.length/\∀k x,t[k]?=some x->(k<i->bT x.p p=true)/\(i<=k->bT x.p p=false)
def gP(t:List It)(p:List UInt8)(i:Nat):Bool:=match t[i]? with
 | some x=>x.p==p
 | none=>false
def nL(t:List It)(p:List UInt8)(i:Nat):DV:=.tup [.c (.p (.i .i64 i)),.c (.p (.b (gP t p i)))]
theorem NC{p:List UInt8}:∀{t:List It},(∀x∈t,(x.p==p)=false)->aN t p=none
 | [],_=>rfl
 | x::r,h=>by
  rw[aN,if_neg (by rw[h x List.mem_cons_self];decide)];exact NC λy hy=>h y (List.mem_cons_of_mem _ hy)
theorem HU{p:List UInt8}:∀{t:List It} {k:Nat} {x:It},Srt t->t[k]?=some x->(x.p==p)=true->aN t p=some x.n
 | [],k,x,_,h,_=>by simp at h
 | y::r,0,x,_,h,hp=>by
  simp only[List.getElem?_cons_zero,Option.some.injEq] at h;subst h;rw[aN,if_pos hp]
 | y::r,k+1,x,hs,h,hp=>by
  simp only[List.getElem?_cons_succ] at h;have hs:=List.pairwise_cons.1 hs;have:=hs.1 x (List.mem_of_getElem? h);rw[eq_of_beq hp] at this;rw[aN,if_neg (by rw[lO this];decide)];exact HU hs.2 h hp
theorem TW{t:List It}{p:List UInt8}{i:Nat}(hs:Srt t)(h:GR t p i)(hf:gP t p i=false):aN t p=none:=by
 refine NC λx hx=>?_;obtain⟨k,hk⟩:=List.getElem?_of_mem hx;cases he:x.p==p
 .rfl
 .have h1:=h.2 k x hk;rcases Nat.lt_trichotomy k i with hki|rfl|hki
  .have:=h1.1 hki;rw[eq_of_beq he,bX] at this;cases this
  .unfold gP at hf;rw[hk] at hf;simp only at hf;rw[he] at hf;cases hf
  .have hil:i<t.length:=Nat.lt_trans hki (List.getElem?_eq_some_iff.1 hk).1;have h2:=h.2 i t[i] (List.getElem?_eq_getElem hil);have h3:=List.pairwise_iff_getElem.1 hs i k hil (List.getElem?_eq_some_iff.1 hk).1 hki;rw[(List.getElem?_eq_some_iff.1 hk).2,eq_of_beq he,h2.2 (Nat.le_refl _)] at h3;cases h3
theorem zCy{t:List It}{p:List UInt8}(ht:t.length<=1000000)(hs:Srt t):
  aA prog 289 [.c (.p (.sl 5 (aQ t))),.c (.p (.s p)),.c (.clo 290 [])] [] λr h =>
   ∃i:Nat,GR t p i/\r=nL t p i/\h=[]:=by
 have hmon:∀(k k':Nat) (x x':It),t[k]?=some x->t[k']?=some x'->k<k'->bT x.p x'.p=true:=λk k' x x' h1 h2 h3=>by
  obtain⟨h4,rfl⟩:=List.getElem?_eq_some_iff.1 h1;obtain⟨h5,rfl⟩:=List.getElem?_eq_some_iff.1 h2;exact List.pairwise_iff_getElem.1 hs _ _ h4 h5 h3
 refine eT func289 λX0 hX=>?_;simp only[f289,go_sem]
 repeat' (first|exact⟨⟩|refine sp ?_)
 refine aY aD aL (α:=Nat × Nat) (λx=>⟨49,[(0,.c (.p (.sl 5 (aQ t)))),(1,.c (.p (.s p))),(2,.c (.clo 290 [])),(8,.c (.p (.i .i64 t.length))),(9,.c (.p (.i .i64 x.1))),(10,.c (.p (.i .i64 x.2)))],[]⟩)
  (λx=>x.1<=x.2/\x.2<=t.length/\∀k y,t[k]?=some y->(k<x.1->bT y.p p=true)/\(x.2<=k->bT y.p p=false)) (λx=>x.2-x.1) (0,t.length) ⟨Nat.zero_le _,Nat.le_refl _,λk y hy=>⟨λh=>by omega,λh=>by rw[List.getElem?_eq_none h] at hy;cases hy⟩⟩ (.inl (aF (by rw[hX];rfl) rfl rfl (by simp[eB,gG,cK,bW,aT,]))) ?_
 rintro⟨i,j⟩ ⟨hij,hj,hl⟩;simp only at hij hj hl;by_cases hlt:i<j
 .have h1:decide ((i:Int)<(j:Int))=true:=decide_eq_true (by omega);have w1:IntKind.i64.wrap ((i:Int)+j)=(i:Int)+j:=wrap_i64 (by omega) (by omega);have w2:IntKind.u64.wrap ((i:Int)+j)=(i:Int)+j:=wrap_u64 (by omega) (by omega);obtain⟨m,hm,hmi,hmj⟩:∃m:Nat,((i:Int)+j).fdiv (2 ^ min 1 64)=(m:Int)/\i<=m/\m<j :=
   ⟨(i+j) / 2,by rw[show (2:Int) ^ min 1 64=2 from rfl,Int.fdiv_eq_ediv_of_nonneg _ (by decide)];omega,by omega,by omega⟩
  have w3:IntKind.i64.wrap (m:Int)=m:=wrap_i64 (by omega) (by omega);have w4:IntKind.i64.wrap ((m:Int)+1)=m+1:=wrap_i64 (by omega) (by omega);have hml:m<t.length:=by omega
  have hx:t[m]?=some t[m]:=List.getElem?_eq_getElem hml;have hg:=cZ hx;generalize t[m]=x at hx hg
  repeat' (first|exact⟨⟩|refine sp ?_|refine uF (zD4) ?_|with_reducible refine aK (λ_=>?_) (λ_=>?_)|((with_reducible refine And.intro ?_ ?_);omega))
  .rename_i hb;have hb:bT x.p p=true:=by rw[<- oM];exact hb
   exact gZ (m+1,j) ⟨by simp only;omega,hj,λk y hy=>⟨λhk=>by
    rcases Nat.lt_or_ge k m with h|h
    .exact cH (hmon _ _ _ _ hy hx h) hb
    .have:k=m:=by simp only at hk;omega
     subst this;rw[hx] at hy;cases hy;exact hb,(hl k y hy).2⟩⟩ (by simp only;omega) (aF rfl rfl rfl (by simp[eB,gG,cK,bW,aT,]))
  .rename_i hb;have hb:bT x.p p=false:=by rw[<- oM];exact hb
   exact gZ (i,m) ⟨hmi,by simp only;omega,λk y hy=>⟨(hl k y hy).1,λhk=>by
    rcases Nat.lt_or_ge m k with h|h
    .cases hc:bT y.p p
     .rfl
     .have:=cH (hmon _ _ _ _ hx hy h) hc;rw[hb] at this;cases this
    .have:k=m:=by simp only at hk;omega
     subst this;rw[hx] at hy;cases hy;exact hb⟩⟩ (by simp only;omega) (aF rfl rfl rfl (by simp[eB,gG,cK,bW,aT,]))
 .have h1:decide ((i:Int)<(j:Int))=false:=decide_eq_false (by omega);have:i=j:=by omega
  subst this;by_cases hil:i<t.length
  .have hx:t[i]?=some t[i]:=List.getElem?_eq_getElem hil;have hg:=cZ hx;have h2:decide ((i:Int)<(t.length:Int))=true:=decide_eq_true (by omega);generalize t[i]=x at hx hg
   repeat' (first|exact⟨⟩|refine sp ?_|refine uF (zD4) ?_|((with_reducible refine And.intro ?_ ?_);omega))
   refine⟨i,⟨hj,hl⟩,?_⟩;simp only[nL,gP,hx,HE]
  .have h2:decide ((i:Int)<(t.length:Int))=false:=decide_eq_false (by omega)
   repeat' (first|exact⟨⟩|refine sp ?_)
   refine⟨i,⟨hj,hl⟩,?_⟩;simp only[nL,gP,List.getElem?_eq_none (Nat.le_of_not_lt hil)]
theorem MV{t:List It}{p:List UInt8}(ht:t.length<=1000000)(hs:Srt t):
  aA prog 237 [.c (.p (.sl 5 (aQ t))),.c (.p (.s p))] [] λr h=>∃i:Nat,GR t p i/\r=nL t p i/\h=[]:=by
 refine eT func237 λX0 hX=>?_;simp only[f237,go_sem]
 repeat' (first|exact⟨⟩|refine sp ?_)
 refine zGu (zCy ht hs) rfl (λ_ _=>rfl) λi hi=>?_;unfold nL
 repeat' (first|exact⟨⟩|refine sp ?_)
 exact⟨i,hi,rfl⟩
theorem eW{t:List It}{p:List UInt8}(ht:t.length<=1000000)(hs:Srt t)(hne:∀x∈t,x.p≠[])(hdl:∀x∈t,x.n.d.length<=140737488355328):
  aA prog 175 [.c (.p (.sl 5 (aQ t))),.c (.p (.s p))] [] λr h=>r=.tup [.agg ((aN t p).getD nd0).cv,.c (.p (.b (aN t p).isSome))]/\h=[]:=by
 refine aI ?_;refine eT func175 λX0 hX=>?_;simp only[f175,go_sem]
 repeat' (first|exact⟨⟩|refine sp ?_)
 refine zGu (MV ht hs) rfl (λ_ _=>rfl) λi hi=>?_;unfold nL;cases hf:gP t p i
 .have hg:=TW hs hi hf;rw[hg]
  repeat' (first|exact⟨⟩|refine sp ?_)
  all_goals simp[nd0,lQ]
 .unfold gP at hf;cases hx:t[i]? with
  | none=>rw[hx] at hf;cases hf
  | some x =>
   rw [hx] at hf;simp only at hf;have hg:=HU hs hx hf;have hxm:=List.mem_of_getElem? hx;have hpe:(p == [])=false:=by
    rw[<- eq_of_beq hf];have:=hne x hxm;simpa using this
   have he:=cZ hx;have hil:i<t.length:=(List.getElem?_eq_some_iff.1 hx).1;have hxd:=hdl x hxm;rw[hg];clear hg
   repeat' (first|exact⟨⟩|refine sp ?_|refine uN (qW hxd) ?_|((with_reducible refine And.intro ?_ ?_);omega))
   all_goals simp
theorem zHc{a b:List It}(ha:a.length<=1000000)(hb:b.length<=1000000):
  aA prog 227 [.c (.p (.sl 1 [[.sl 5 (aQ a)],[.sl 5 (aQ b)]]))] [] λr h=>r=.c (.p (.sl 5 (aQ (a++b))))/\h=[]:=by
 have w1:IntKind.i64.wrap (a.length:Int)=a.length:=wrap_i64 (by omega) (by omega);have w2:IntKind.i64.wrap ((a.length:Int)+(b.length:Int))=(a.length+b.length:Nat):=wrap_i64 (by omega) (by omega);have z1:decide ((a.length:Int)<0)=false:=decide_eq_false (by omega);have z2:decide (((a.length+b.length:Nat):Int)<0)=false:=decide_eq_false (by omega);refine eT func227 λX0 hX=>?_;simp only[f227,go_sem]
 repeat' (first|simp only[*,go_sem,Nat.reduceLT,Nat.reduceEqDiff,↓reduceIte,Nat.reduceAdd,Int.reduceLT,Int.reduceLE,Int.reduceAdd,Int.reduceToNat,Int.zero_add,lW,decide_true,decide_false]|refine dY aD aL 3 ?_)
 refine(zNP (n:=a.length+b.length) (by omega)).mono ?_;rintro d h' ⟨rfl,rfl⟩
 repeat' (first|simp only[*,go_sem,Nat.reduceLT,Nat.reduceLeDiff,Nat.reduceEqDiff,↓reduceIte,Nat.reduceAdd,Int.reduceLT,Int.reduceLE,Int.reduceAdd,Int.reduceToNat,Int.zero_add,lW,decide_true,decide_false]|refine dY aD aL 3 ?_|((with_reducible refine And.intro ?_ ?_);omega))
 rw[List.take_of_length_le (by simp)]
theorem zKo{k m k' m':Int}{t t':Nat}{d d':List UInt8}(p q:Bool):aA prog 230 [.agg (ndc k m t d),.agg (ndc k' m' t' d'),.c (.p (.b p)),.c (.p (.b q))] [] λr h=>r=.c (.p (.i .i64 (rS p q ⟨k,m,t,d⟩ ⟨k',m',t',d'⟩)))/\h=[]:=by
 cases p<;>cases q
 all_goals
  refine eT func230 λX0 hX=>?_;simp only[f230,go_sem]
 all_goals repeat' (first|exact⟨⟩|refine sp ?_|refine uF (qI) ?_|refine uF (jA) ?_|with_reducible refine aK (λ_=>?_) (λ_=>?_))
 all_goals simp only[rS, *,↓reduceIte,Bool.false_eq_true]
end Go.Proofs.YtlbfnbldeefgmaaGreatDoor
end
section
namespace Go.Proofs.YtlbfnbldeefgmaaGreatDoor
open Go Go.Dm Go.Proofs.Tryz
theorem oZ{a:List UInt8}{c:Int}(ha:a.length<4611686018427387904):aA prog 234 [.c (.p (.s a)),.c (.p (.i .u8 c))] [] λr h=>r=.c (.p (.i .i64 (Lib.lastIndexByte ⟨a.toArray⟩ c)))/\h=[] :=
 qX (N:=4611686018427387904) (g:=λa c=>Lib.lastIndexByte ⟨a.toArray⟩ c) (enters Tryz.func234 rfl rfl) (λa c w h=>Tryz.strings_LastIndexByte ⟨a.toArray⟩ c (by simpa[ByteArray.size] using h) w) ha
theorem VH{a b:List UInt8}:aA prog 294 [.c (.p (.s a)),.c (.p (.s b))] [] λr h=>r=.c (.p (.b (b.isPrefixOf a)))/\h=[] :=
 DC (g:=λa b=>b.isPrefixOf a) (enters Tryz.func294 rfl rfl) (λa b w=>Tryz.strings_HasPrefix a b w)
theorem dV{p:List UInt8}(hp:p.length<=1000000000):aA prog 173 [.c (.p (.s p))] [] λr h=>r=.c (.p (.s (aM p)))/\h=[]:=by
 have hl:=oZ (a:=p) (c:=47) (by omega);rw[oD] at hl;unfold aM;cases hs:eV p p.length with
 | none =>
  rw[hs] at hl;simp only at hl ⊢;clear hs;refine eT func173 λX0 hX=>?_;simp only[f173,go_sem]
  repeat' (first|exact⟨⟩|refine sp ?_|refine uF (hl) ?_)
  all_goals simp
 | some j =>
  rw[hs] at hl;have hj:=wM hs;have hm:max (0:Int) (j:Int)=j:=by omega
  simp only at hl ⊢;clear hs;have hj2:(j:Int)<=p.length:=by omega
  have hj3:(0:Int)<=j:=by omega
  have hj4:(if (0:Int)<(j:Int) then (j:Int) else 0)=j:=by split<;>omega
  refine eT func173 λX0 hX=>?_;simp only[f173,go_sem]
  repeat' (first|exact⟨⟩|refine sp ?_|refine uF (hl) ?_)
  all_goals first|(rw[hj4];done)|(rw[hj4];omega)|(rw[hj4];rfl)|skip
theorem zA2{p:List UInt8}(hp:p.length<=1000000000):aA prog 238 [.c (.p (.s p))] [] λr h=>r=.c (.p (.s (xC p)))/\h=[]:=by
 have hl:=oZ (a:=p) (c:=47) (by omega);rw[oD] at hl;unfold xC;cases hs:eV p p.length with
 | none =>
  rw[hs] at hl;simp only at hl ⊢;clear hs;have w1:IntKind.i64.wrap (-1+1)=0:=by decide +kernel
  refine eT func238 λX0 hX=>?_;simp only[f238,go_sem]
  repeat' (first|exact⟨⟩|refine sp ?_|refine uF (hl) ?_|refine ai ?_)
  all_goals simp
 | some j =>
  rw[hs] at hl;have hj:=wM hs;have w1:IntKind.i64.wrap ((j:Int)+1)=(j+1:Nat):=wrap_i64 (by omega) (by omega);simp only at hl ⊢;clear hs;have hj2:((j+1:Nat):Int)<=p.length:=by omega
  refine eT func238 λX0 hX=>?_;simp only[f238,go_sem]
  repeat' (first|exact⟨⟩|refine sp ?_|refine uF (hl) ?_|refine ai ?_)
  all_goals simp
theorem cU{p q:List UInt8}(hpl:p.length<=1000000000):aA prog 244 [.c (.p (.s p)),.c (.p (.s q))] [] λr h=>r=.c (.p (.b (aJ p q)))/\h=[]:=by
 by_cases hp:p=[]
 .subst hp;refine eT func244 λX0 hX=>?_;simp only[f244,go_sem]
  repeat' (first|exact⟨⟩|refine sp ?_)
  all_goals simp[aJ]
 .have q0:(p == [])=false:=by simpa using hp
  have hb:=LB (q:=q) hp;refine eT func244 λX0 hX=>?_;simp only[f244,go_sem]
  repeat' (first|exact⟨⟩|refine sp ?_|refine uF (VH) ?_|refine ai ?_)
theorem eQ{t:List It}{p:List UInt8}(ht:t.length<=1000000)(hs:Srt t):
  aA prog 223 [.c (.p (.sl 5 (aQ t))),.c (.p (.s p))] [] λr h=>r=.c (.p (.b (aX t p)))/\h=[]:=by
 refine eT func223 λX0 hX=>?_;simp only[f223,go_sem]
 repeat' (first|exact⟨⟩|refine sp ?_)
 refine zGu (MV ht hs) rfl (λ_ _=>rfl) λi hi=>?_;unfold nL aX;cases hf:gP t p i
 .have hg:=TW hs hi hf;rw[hg];cases q:(p == [])
  .repeat' (first|exact⟨⟩|refine sp ?_)
  .repeat' (first|exact⟨⟩|refine sp ?_)
 .unfold gP at hf;cases hx:t[i]? with
  | none=>rw[hx] at hf;cases hf
  | some x =>
   rw[hx] at hf;simp only at hf;have hg:=HU hs hx hf;have he:=cZ hx;have hil:(i:Int)<t.length:=by have:=(List.getElem?_eq_some_iff.1 hx).1;omega
   have hi0:(0:Int)<=i:=by omega
   rw[hg];clear hg hf hi;cases q:(p == [])
   .repeat' (first|exact⟨⟩|refine sp ?_)
   .repeat' (first|exact⟨⟩|refine sp ?_)
end Go.Proofs.YtlbfnbldeefgmaaGreatDoor
end
section
namespace Go.Dm
open Go
theorem zPU{P:Program}{f:FuncId}{h:aB}{i:Nat}{c0 c1:List CV}{x y:PV}{r:DV}{K:DV->aB->Prop}
  (hc:aA P f [.c (.ptr 0 0),.c (.p x),.c (.p y)] [.box c0] λd h'=>d=r/\h'=[.box c1])
  (h0:h[i]?=some (.box c0))(hd:(c0.all HF && (c1.all HF && zCN r))=true)(hk:K r (h.set i (.box c1))):
  aA P f [.c (.ptr i 0),.c (.p x),.c (.p y)] h K:=aA.box (ps:=[x,y]) hc h0 hd hk
end Go.Dm
end
