/- Part 32 of the proof of roomStays_card, set without needless blanks. No condition. -/
import Derived.Test.YtlbfnbldeefgmaaGreatDoorT30
set_option linter.all false
set_option maxRecDepth 100000
set_option maxHeartbeats 16000000
section
namespace Go.Proofs.YtlbfnbldeefgmaaGreatDoor
open Go Go.Dm Go.Proofs Go.Proofs.Tryz
theorem zIE{l:List Int}{a:Int}(hl:l.length<=1000000):aA prog 261 [.c (.p (.sl 1 (dG l))),.c (.p (.i .i64 a))] []
  λr h=>r=.c (.p (.i .i64 (VJ l a)))/\h=[]:=by
 refine eT func261 λX0 hX=>?_;simp only[f261,go_sem]
 repeat' (first|exact⟨⟩|refine sp ?_)
 refine aY aD aL (α:=Nat) (λk=>⟨19,[(0,.c (.p (.sl 1 (dG l)))),(1,.c (.p (.i .i64 a))),(7,.c (.p (.i .i64 l.length))),(8,.c (.p (.i .i64 k)))],[]⟩)
  (λk=>k<=l.length/\∀(j:Nat) (y:Int),j<k->l[j]?=some y->(a==y)=false) (λk=>l.length-k) 0 ⟨Nat.zero_le _,λj y h=>by omega⟩ (.inl (aF (by rw[hX];rfl) rfl rfl (by simp[eB,gG,cK,bW,aT,]))) ?_
 rintro k ⟨hk,hs⟩;by_cases hlt:k<l.length
 .have hx:l[k]?=some l[k]:=List.getElem?_eq_getElem hlt;have hg:=rI hx;have h1:decide ((k:Int)<(l.length:Int))=true:=decide_eq_true (by omega);have w1:IntKind.i64.wrap ((k:Int)+1)=k+1:=wrap_i64 (by omega) (by omega);generalize l[k]=x at hx hg;cases hb:(a==x)
  .have hJ:PLift (k+1<=l.length/\∀(j:Nat) (y:Int),j<k+1->l[j]?=some y->(a==y)=false):=⟨by omega,λj y hj hy=>by
    rcases Nat.lt_or_ge j k with h|h
    .exact hs j y h hy
    .have:j=k:=by omega
     subst this;rw[hx] at hy;cases hy;exact hb⟩
   clear hs hx
   repeat' (first|exact⟨⟩|refine sp ?_|((with_reducible refine And.intro ?_ ?_);omega))
   exact gZ (k+1) hJ.down (by omega) (aF rfl rfl rfl (by simp[eB,gG,cK,bW,aT,]))
  .have hJ:=PLift.up (zEl hs hx hb);clear hs hx
   repeat' (first|exact⟨⟩|refine sp ?_|((with_reducible refine And.intro ?_ ?_);omega))
   all_goals rw[hJ.down]
 .have h1:decide ((k:Int)<(l.length:Int))=false:=decide_eq_false (by omega);have hJ:=PLift.up (NJ (l:=l) (a:=a) λj y hj=>hs j y (by have:=(List.getElem?_eq_some_iff.1 hj).1;omega) hj);clear hs
  repeat' (first|exact⟨⟩|refine sp ?_)
  all_goals rw[hJ.down]
theorem SU{l:List Int}{a:Int}(hl:l.length<=1000000):aA prog 216 [.c (.p (.sl 1 (dG l))),.c (.p (.i .i64 a))] []
  λr h=>r=.c (.p (.b (l.contains a)))/\h=[]:=by
 rw[<- zIz];refine eT func216 λX0 hX=>?_;simp only[f216,go_sem]
 repeat' (first|exact⟨⟩|refine sp ?_|refine uF (zIE hl) ?_)
theorem HD{l:List Ly}(hl:l.length<=1000000):aA prog 52 [.c (.p (.sl 4 (cM l)))] [] λr h=>r=.c (.own 0 0 (cM l).length)/\h=[.arr 4 (cM l) false]:=by
 refine aA.rowR ?_;have h0:=eY l;cases l with
 | nil =>
  refine SB aD aL func52 rfl rfl λX0 hX=>?_;simp only[f52,go_sem]
  repeat' (first|exact⟨⟩|refine sp ?_)
  all_goals first|exact .inl ⟨rfl,rfl⟩|exact .inr ⟨_,rfl,rfl⟩|exact⟨.inl trivial,rfl,.inr ⟨1,rfl,rfl⟩⟩
 | cons x l =>
  have e:cM (x::l)=x.cs::cM l:=rfl;have h2:=YA (x::l);have h1:(cM (x::l)).length<=1000000:=by rw[h0];exact hl
  clear h0;rw[e] at h1 h2 ⊢;have h3:x.cs.length=4:=rfl;refine SB aD aL func52 rfl rfl λX0 hX=>?_;simp only[f52,go_sem]
  repeat' (first|exact⟨⟩|refine sp ?_|((with_reducible refine And.intro ?_ ?_);decide))
  all_goals first|omega|exact .inr ⟨_,rfl,rfl⟩|(simp_all;done)|(simp_all;omega)
theorem zCF{l:List Nm}(hl:l.length<=1000000):aA prog 51 [.c (.p (.sl 2 (aV l)))] [] λr h=>r=.c (.own 0 0 (aV l).length)/\h=[.arr 2 (aV l) false]:=by
 refine aA.rowR ?_;have h0:=fF l;cases l with
 | nil =>
  refine SB aD aL func51 rfl rfl λX0 hX=>?_;simp only[f51,go_sem]
  repeat' (first|exact⟨⟩|refine sp ?_)
  all_goals first|exact .inl ⟨rfl,rfl⟩|exact .inr ⟨_,rfl,rfl⟩|exact⟨.inl trivial,rfl,.inr ⟨1,rfl,rfl⟩⟩
 | cons x l =>
  have e:aV (x::l)=[.s x.n,.i .i64 x.l]::aV l:=rfl;have h2:=MN (x::l);have h1:(aV (x::l)).length<=1000000:=by rw[h0];exact hl
  clear h0;rw[e] at h1 h2 ⊢;refine SB aD aL func51 rfl rfl λX0 hX=>?_;simp only[f51,go_sem]
  repeat' (first|exact⟨⟩|refine sp ?_|((with_reducible refine And.intro ?_ ?_);decide))
  all_goals first|omega|exact .inr ⟨_,rfl,rfl⟩|(simp_all;done)|(simp_all;omega)
theorem FQ{l:List Int}(hl:l.length<=1000000):aA prog 197 [.c (.own 0 0 l.length)] [.arr 1 (dG l) false] λr h=>r=.tup []/\h=[.arr 1 (dG l.reverse) false]:=by
 have w0:IntKind.i64.wrap ((l.length:Int)-1)=l.length-1:=wrap_i64 (by omega) (by omega);refine eT func197 λX0 hX=>?_;simp only[Tryz.f197,go_sem]
 repeat' (first|exact⟨⟩|refine sp ?_)
 refine aY aD aL (α:=Nat) (λk=>⟨28,[(0,.c (.own 0 0 l.length)),(2,.c (.p (.i .i64 k))),(3,.c (.p (.i .i64 ((l.length:Int)-1-k))))],[.arr 1 (dG (swI l k)) false]⟩)
  (λk=>2*k<=l.length+1) (λk=>l.length+1-2*k) 0 (by omega) (.inl (aF (by rw[hX];rfl) (by rw[zJA];rfl) rfl (by simp[eB,gG,cK,bW,aT]))) ?_
 intro k hk;have hsl:=wD l k;by_cases hlt:2*k+1<l.length
 .have h1:decide ((k:Int)<(l.length:Int)-1-k)=true:=decide_eq_true (by omega);obtain⟨j,hj⟩:∃j:Nat,(l.length:Int)-1-k=j/\j=l.length-1-k:=⟨l.length-1-k,by omega,rfl⟩
  have g1:=rI (zOx (l:=l) (i:=k) hlt);have g2:=rI (zKG (l:=l) (i:=k) hlt);have hst:=zJz hlt;rw[<- hj.2] at g2 hst;have w1:IntKind.i64.wrap ((k:Int)+1)=k+1:=wrap_i64 (by omega) (by omega);have w2:IntKind.i64.wrap ((j:Int)-1)=j-1:=wrap_i64 (by omega) (by omega);have b1:k<(dG (swI l k)).length:=by rw[eZ,hsl];omega
  have b2:j<(dG (swI l k)).length:=by rw[eZ,hsl];omega
  have b3:(k:Int)<(l.length:Int):=by omega
  have b4:(j:Int)<(l.length:Int):=by omega
  have b5:(0:Int)<=(k:Int):=by omega
  have b6:(0:Int)<=(j:Int):=by omega
  have b7:k<l.length:=by omega
  have b8:j<l.length:=by omega
  rw [hj.1] at h1 ⊢;have hJ:=PLift.up hj;clear hj;generalize l.getD k 0=u at g1 hst;have g3:(dG ((swI l k).set k (l.getD j 0))).getD j []=[.i .i64 (l.getD j 0)]:=by
   refine rI ?_;have hkj:k≠j:=by have:=hJ.down;omega
   rw[List.getElem?_set_ne hkj,hJ.down.2];exact zKG (l:=l) (i:=k) hlt
  have b9:j<((swI l k).set k (l.getD j 0)).length:=by rw[List.length_set,hsl];exact b8
  generalize l.getD j 0=v at g2 g3 b9 hst
  repeat' (first|exact⟨⟩|refine sp ?_|((refine aG (id:=3) aD aL [13,15] [0,1,4,5,6,7,8,9,10,11,12,13,2,3,14,15] (by decide +kernel) ?_);(repeat' (first|(refine aO ?_)|((refine cR ?_ ?_ rfl rfl rfl ?_ ?_);(rotate_left 2);(focus ((repeat' (first|exact⟨⟩|refine sp ?_));((refine And.intro ?_ ?_<;>exact rfl))));(simp only[bE]))|((refine cQ ?_ rfl rfl rfl ?_ ?_);(rotate_left 1);(focus ((repeat' (first|exact bB|refine aR ?_ ?_));(all_goals ((repeat' (first|exact⟨⟩|refine sp ?_));(try (exact rfl))))));(simp only[aC]))))))
  exact gZ (k+1) (by omega) (by omega) (aF rfl rfl rfl (by have:=hJ.down;simp[eB,gG,cK,bW,aT];omega))
 .have h1:decide ((k:Int)<(l.length:Int)-1-k)=false:=decide_eq_false (by omega);have he:=PLift.up (zMD (l:=l) (i:=k) (by omega))
  repeat' (first|exact⟨⟩|refine sp ?_)
  all_goals rw[he.down]
theorem zE8{q p:List UInt8}{a:Int}:aA prog 169 [.agg [.p (.s q),.p (.i .i64 a)],.c (.p (.s p))] [] λr h=>r=.c (.p (.i .i64 (CT q p)))/\h=[]:=by
 refine eT func169 λX0 hX=>?_;simp only[f169,go_sem]
 repeat' (first|exact⟨⟩|refine sp ?_|refine uF (lU) ?_)
theorem SM{l:List Nm}{p:List UInt8}(hl:l.length<=1000000)(hs:wZ l):
  aA prog 168 [.c (.p (.sl 2 (aV l))),.c (.p (.s p)),.c (.clo 169 [])] [] λr h =>
   r=.tup [.c (.p (.i .i64 (lJ l p))),.c (.p (.b (SC l p)))]/\h=[]:=by
 have hmon:∀(k k':Nat) (x x':Nm),l[k]?=some x->l[k']?=some x'->k<k'->bT x.n x'.n=true:=λk k' x x' h1 h2 h3=>by
  obtain⟨h4,rfl⟩:=List.getElem?_eq_some_iff.1 h1;obtain⟨h5,rfl⟩:=List.getElem?_eq_some_iff.1 h2;exact List.pairwise_iff_getElem.1 hs _ _ h4 h5 h3
 refine eT func168 λX0 hX=>?_;simp only[f168,go_sem]
 repeat' (first|exact⟨⟩|refine sp ?_)
 refine aY aD aL (α:=Nat × Nat) (λx=>⟨49,[(0,.c (.p (.sl 2 (aV l)))),(1,.c (.p (.s p))),(2,.c (.clo 169 [])),(8,.c (.p (.i .i64 l.length))),(9,.c (.p (.i .i64 x.1))),(10,.c (.p (.i .i64 x.2)))],[]⟩)
  (λx=>x.1<=x.2/\x.2<=l.length/\∀(k:Nat) (y:Nm),l[k]?=some y->(k<x.1->bT y.n p=true)/\(x.2<=k->bT y.n p=false)) (λx=>x.2-x.1) (0,l.length) ⟨Nat.zero_le _,Nat.le_refl _,λk y hy=>⟨λh=>by omega,λh=>by rw[List.getElem?_eq_none h] at hy;cases hy⟩⟩ (.inl (aF (by rw[hX];rfl) rfl rfl wkS)) ?_
 rintro⟨i,j⟩ ⟨hij,hj,hl⟩;simp only at hij hj hl;by_cases hlt:i<j
 .have h1:decide ((i:Int)<(j:Int))=true:=decide_eq_true (by omega);have w1:IntKind.i64.wrap ((i:Int)+j)=(i:Int)+j:=wrap_i64 (by omega) (by omega);have w2:IntKind.u64.wrap ((i:Int)+j)=(i:Int)+j:=wrap_u64 (by omega) (by omega);obtain⟨m,hm,hmi,hmj⟩:∃m:Nat,((i:Int)+j).fdiv (2 ^ min 1 64)=(m:Int)/\i<=m/\m<j :=
   ⟨(i+j) / 2,by rw[show (2:Int) ^ min 1 64=2 from rfl,Int.fdiv_eq_ediv_of_nonneg _ (by decide)];omega,by omega,by omega⟩
  have w3:IntKind.i64.wrap (m:Int)=m:=wrap_i64 (by omega) (by omega);have w4:IntKind.i64.wrap ((m:Int)+1)=m+1:=wrap_i64 (by omega) (by omega);have hml:m<l.length:=by omega
  have hx:l[m]?=some l[m]:=List.getElem?_eq_getElem hml;have hg:=jV hx;generalize l[m]=x at hx hg
  repeat' (first|exact⟨⟩|refine sp ?_|refine uF (zE8) ?_|refine aK (λ_=>?_) (λ_=>?_)|refine ai ?_)
  .rename_i hb;have hb:bT x.n p=true:=by rw[<- oM];exact hb
   exact gZ (m+1,j) ⟨by simp only;omega,hj,λk y hy=>⟨λhk=>by
    rcases Nat.lt_or_ge k m with h|h
    .exact cH (hmon _ _ _ _ hy hx h) hb
    .have:k=m:=by simp only at hk;omega
     subst this;rw[hx] at hy;cases hy;exact hb,(hl k y hy).2⟩⟩ (by simp only;omega) (aF rfl rfl rfl wkS)
  .rename_i hb;have hb:bT x.n p=false:=by rw[<- oM];exact hb
   exact gZ (i,m) ⟨hmi,by simp only;omega,λk y hy=>⟨(hl k y hy).1,λhk=>by
    rcases Nat.lt_or_ge m k with h|h
    .cases hc:bT y.n p
     .rfl
     .have:=cH (hmon _ _ _ _ hx hy h) hc;rw[hb] at this;cases this
    .have:k=m:=by simp only at hk;omega
     subst this;rw[hx] at hy;cases hy;exact hb⟩⟩ (by simp only;omega) (aF rfl rfl rfl wkS)
 .have h1:decide ((i:Int)<(j:Int))=false:=decide_eq_false (by omega);have:i=j:=by omega
  subst this;have hat:AtN l p i:=⟨hj,hl⟩;have he:=PLift.up (zCo hat);have hn:=zLS hs hat;by_cases hil:i<l.length
  .have hx:l[i]?=some l[i]:=List.getElem?_eq_getElem hil;rw[hx] at hn;have hg:=jV hx;have h2:decide ((i:Int)<(l.length:Int))=true:=decide_eq_true (by omega);generalize l[i]=x at hx hg hn;clear hat hl
   repeat' (first|exact⟨⟩|refine sp ?_|refine uF (zE8) ?_|refine ai ?_)
   all_goals simp only[he.down,HE]
  .have h2:decide ((i:Int)<(l.length:Int))=false:=decide_eq_false (by omega);rw[List.getElem?_eq_none (Nat.le_of_not_lt hil)] at hn;clear hat hl
   repeat' (first|exact⟨⟩|refine sp ?_)
   all_goals simp only[he.down]
theorem SN{h:aB}{i n:Nat}{l:List Nm}{p:List UInt8}{K:DV->aB->Prop}(hl:l.length<=1000000)(hs:wZ l)(hn:n=l.length)(h0:h[i]?=some (.arr 2 (aV l) false))
  (hk:K (.tup [.c (.p (.i .i64 (lJ l p))),.c (.p (.b (SC l p)))]) h):aA prog 168 [.c (.own i 0 n),.c (.p (.s p)),.c (.clo 169 [])] h K :=
 zOG rfl rfl (by rw[hn,<- fF,List.take_length]) (SM hl hs) h0 (λd hd=>by subst hd;exact⟨rfl,hk⟩)
theorem qO{r:Rm}{s:List UInt8}(hl:r.N.length<=1000000)(hs:wZ r.N):aA prog 93 [.c (.ptr 0 0),.c (.p (.s s))] (aS r) λd h=>d=.tup [.c (.p (.i .i64 (lJ r.N s))),.c (.p (.b (SC r.N s)))]/\h=aS r:=by
 unfold aS;refine eT func93 λX0 hX=>?_;simp only[f93,go_sem]
 repeat' (first|exact⟨⟩|refine sp ?_|refine SN hl hs rfl rfl ?_)
def goC(p:List UInt8)(it:Bool)(x:It):Bool:=x.p==p || (it && aJ p x.p)
theorem HN{J:List (List PV)}{t:List It}{k:Nat}{x:It}(h:t[k]?=some x):(aQ t++J).getD k []=[.s x.p,.i .i64 x.n.k,.i .i64 x.n.m,.f x.n.t,.sl 1 (bJ x.n.d)]:=by
 have hk:=(List.getElem?_eq_some_iff.1 h).1;have:=cZ h;rw[List.getD_eq_getElem?_getD] at this ⊢;rw[List.getElem?_append_left (by rw[cS];exact hk)];exact this
theorem MO{J:List (List PV)}{t:List It}{i:Nat}(x:It)(h:i<t.length):(aQ t++J).set i [.s x.p,.i .i64 x.n.k,.i .i64 x.n.m,.f x.n.t,.sl 1 (bJ x.n.d)]=aQ (t.set i x)++J:=by
 rw[List.set_append_left _ _ (by rw[cS];exact h),tE]
theorem zPR{R f:List It}{i:Nat}{es:List (List PV)}{A:List (List PV)}(h:R.take i=f)(hf:f.length=i)(hi:i<=R.length):((aQ R++A).take i++es).take i=aQ f:=by
 rw[List.take_left' (by rw[List.length_take,List.length_append,cS];omega),List.take_append_of_le_length (by rw[cS];exact hi),zT,h]
theorem zKs{q p:List UInt8}{it eo:Bool}{ek nk nm:Int}{nt:Nat}{nd:List UInt8}{k m:Int}{tt:Nat}{d:List UInt8}{es:List (List PV)}(hp:p.length<=1000000000):
  aA prog 347 [.agg [.p (.s q),.p (.i .i64 k),.p (.i .i64 m),.p (.f tt),.p (.sl 1 (bJ d))],.c (.ptr 2 0),.c (.ptr 3 0)] [.arr 5 es false,.box [.p (.s p),.p (.i .i64 ek),.p (.b eo),.p (.i .i64 nk),.p (.i .i64 nm),.p (.f nt),.p (.sl 1 (bJ nd))],.box [.p (.s p),.p (.i .i64 ek),.p (.b eo),.p (.i .i64 nk),.p (.i .i64 nm),.p (.f nt),.p (.sl 1 (bJ nd))],.box [.p (.b it)]]
   λr h=>r=.c (.p (.b (q==p || (it && aJ p q))))/\h=[.arr 5 es false,.box [.p (.s p),.p (.i .i64 ek),.p (.b eo),.p (.i .i64 nk),.p (.i .i64 nm),.p (.f nt),.p (.sl 1 (bJ nd))],.box [.p (.s p),.p (.i .i64 ek),.p (.b eo),.p (.i .i64 nk),.p (.i .i64 nm),.p (.f nt),.p (.sl 1 (bJ nd))],.box [.p (.b it)]]:=by
 refine eT func347 λX0 hX=>?_;simp only[f347,go_sem]
 repeat' (first|simp only[*,go_sem,Nat.reduceLT,Nat.reduceEqDiff,↓reduceIte,Nat.reduceAdd,bH,aT]|refine uF (cU hp) ?_|refine bM (λ_=>?_) (λ_=>?_))
 all_goals simp_all
theorem zKt{q p:List UInt8}{it eo:Bool}{ek nk nm:Int}{nt:Nat}{nd:List UInt8}{k m:Int}{tt:Nat}{d:List UInt8}{es:List (List PV)}(hp:p.length<=1000000000):
  aA prog 347 [.agg [.p (.s q),.p (.i .i64 k),.p (.i .i64 m),.p (.f tt),.p (.sl 1 (bJ d))],.c (.ptr 2 0),.c (.ptr 3 0)] [.arr 5 es false,.box [.p (.s p),.p (.i .i64 ek),.p (.b eo),.p (.i .i64 nk),.p (.i .i64 nm),.p (.f nt),.p (.sl 1 (bJ nd))],.box [.p (.s p),.p (.i .i64 ek),.p (.b eo),.p (.i .i64 nk),.p (.i .i64 nm),.p (.f nt),.p (.sl 1 (bJ nd))],.box [.p (.b it)],.box [.p (.s q),.p (.i .i64 k),.p (.i .i64 m),.p (.f tt),.p (.sl 1 (bJ d))]]
   λr h=>r=.c (.p (.b (q==p || (it && aJ p q))))/\h=[.arr 5 es false,.box [.p (.s p),.p (.i .i64 ek),.p (.b eo),.p (.i .i64 nk),.p (.i .i64 nm),.p (.f nt),.p (.sl 1 (bJ nd))],.box [.p (.s p),.p (.i .i64 ek),.p (.b eo),.p (.i .i64 nk),.p (.i .i64 nm),.p (.f nt),.p (.sl 1 (bJ nd))],.box [.p (.b it)],.box [.p (.s q),.p (.i .i64 k),.p (.i .i64 m),.p (.f tt),.p (.sl 1 (bJ d))]]:=by
 refine eT func347 λX0 hX=>?_;simp only[f347,go_sem]
 repeat' (first|simp only[*,go_sem,Nat.reduceLT,Nat.reduceEqDiff,↓reduceIte,Nat.reduceAdd,bH,aT]|refine uF (cU hp) ?_|refine bM (λ_=>?_) (λ_=>?_))
 all_goals simp_all
theorem zFi{J:List (List PV)}{t:List It}{p:List UInt8}{it eo:Bool}{ek nk nm:Int}{nt:Nat}{nd:List UInt8}(hp:p.length<=1000000000)(ht:t.length<=1000000):
  aA prog 355 [.c (.own 0 0 t.length),.c (.clo 347 [.ptr 2 0,.ptr 3 0])] [.arr 5 (aQ t++J) false,.box [.p (.s p),.p (.i .i64 ek),.p (.b eo),.p (.i .i64 nk),.p (.i .i64 nm),.p (.f nt),.p (.sl 1 (bJ nd))],.box [.p (.s p),.p (.i .i64 ek),.p (.b eo),.p (.i .i64 nk),.p (.i .i64 nm),.p (.f nt),.p (.sl 1 (bJ nd))],.box [.p (.b it)]]
   λr h=>(∃i:Nat,i<=t.length/\(∀j x,t[j]?=some x->j<i->goC p it x=false)/\((∃x,t[i]?=some x/\goC p it x=true/\r=.c (.p (.i .i64 i)))∨(i=t.length/\r=.c (.p (.i .i64 (-1))))))/\h=[.arr 5 (aQ t++J) false,.box [.p (.s p),.p (.i .i64 ek),.p (.b eo),.p (.i .i64 nk),.p (.i .i64 nm),.p (.f nt),.p (.sl 1 (bJ nd))],.box [.p (.s p),.p (.i .i64 ek),.p (.b eo),.p (.i .i64 nk),.p (.i .i64 nm),.p (.f nt),.p (.sl 1 (bJ nd))],.box [.p (.b it)]]:=by
 refine eT func355 λX0 hX=>?_;simp only[f355,go_sem]
 repeat' (first|exact⟨⟩|refine sp ?_)
 refine aY aD aL (α:=Nat) (λk=>⟨19,[(0,.c (.own 0 0 t.length)),(1,.c (.clo 347 [.ptr 2 0,.ptr 3 0])),(7,.c (.p (.i .i64 t.length))),(8,.c (.p (.i .i64 k)))],[.arr 5 (aQ t++J) false,.box [.p (.s p),.p (.i .i64 ek),.p (.b eo),.p (.i .i64 nk),.p (.i .i64 nm),.p (.f nt),.p (.sl 1 (bJ nd))],.box [.p (.s p),.p (.i .i64 ek),.p (.b eo),.p (.i .i64 nk),.p (.i .i64 nm),.p (.f nt),.p (.sl 1 (bJ nd))],.box [.p (.b it)]]⟩)
  (λk=>k<=t.length/\∀j x,t[j]?=some x->j<k->goC p it x=false) (λk=>t.length-k) 0 ⟨Nat.zero_le _,λj x _ h=>by omega⟩ (.inl (aF (by rw[hX];rfl) rfl rfl wkS)) ?_
 rintro k ⟨hk,hs⟩;by_cases hlt:k<t.length
 .have hx:t[k]?=some t[k]:=List.getElem?_eq_getElem hlt;have hg:=HN (J:=J) hx;have h1:decide ((k:Int)<(t.length:Int))=true:=decide_eq_true (by omega);have hli:(k:Int)<(t.length:Int):=by omega
  have w1:IntKind.i64.wrap ((k:Int)+1)=k+1:=wrap_i64 (by omega) (by omega);generalize t[k]=x at hx hg;cases hb:goC p it x
  .have hs':k+1<=t.length/\∀j y,t[j]?=some y->j<k+1->goC p it y=false:=⟨by omega,λj y hy hj=>by
    rcases Nat.lt_or_ge j k with h|h
    .exact hs j y hy h
    .have:j=k:=by omega
     subst this;rw[hx] at hy;cases hy;exact hb⟩
   have hb2:(x.p==p || (it && aJ p x.p))=false:=hb;clear hs hx hb
   repeat' (first|exact⟨⟩|refine sp ?_|refine ai ?_)
   refine aA.mono (zKs hp) ?_;rintro _ _ ⟨rfl,rfl⟩;rw[hb2]
   repeat' (first|exact⟨⟩|refine sp ?_)
   exact gZ (k+1) hs' (by omega) (aF rfl rfl rfl wkS)
  .have hb2:(x.p==p || (it && aJ p x.p))=true:=hb
   repeat' (first|exact⟨⟩|refine sp ?_|refine ai ?_)
   refine aA.mono (zKs hp) ?_;rintro _ _ ⟨rfl,rfl⟩;rw[hb2];clear hb2
   repeat' (simp only[*,go_sem,Nat.reduceLT,Nat.reduceEqDiff,↓reduceIte,Int.reduceNeg,bH,aT])
   exact⟨k,hk,hs,.inl ⟨x,hx,hb,rfl⟩⟩
 .have h1:decide ((k:Int)<(t.length:Int))=false:=decide_eq_false (by omega);have hk2:k=t.length:=by omega
  subst hk2
  repeat' (simp only[*,go_sem,Nat.reduceLT,Nat.reduceEqDiff,↓reduceIte,Nat.reduceAdd,Int.reduceNeg,bH,aT])
  refine⟨t.length,Nat.le_refl _,hs,.inr ?_⟩
  first|exact⟨rfl,rfl⟩|rfl
theorem FA{J:List (List PV)}{t:List It}{p:List UInt8}{it eo:Bool}{ek nk nm:Int}{nt:Nat}{nd:List UInt8}{K:DV->aB->Prop}(hp:p.length<=1000000000)(ht:t.length<=1000000)
  (hk:∀es:List (List PV),es.take (t.filter λx=>!goC p it x).length=aQ (t.filter λx=>!goC p it x)->K (.c (.own 0 0 (t.filter λx=>!goC p it x).length)) [.arr 5 es false,.box [.p (.s p),.p (.i .i64 ek),.p (.b eo),.p (.i .i64 nk),.p (.i .i64 nm),.p (.f nt),.p (.sl 1 (bJ nd))],.box [.p (.s p),.p (.i .i64 ek),.p (.b eo),.p (.i .i64 nk),.p (.i .i64 nm),.p (.f nt),.p (.sl 1 (bJ nd))],.box [.p (.b it)]]):
  aA prog 298 [.c (.own 0 0 t.length),.c (.clo 347 [.ptr 2 0,.ptr 3 0])] [.arr 5 (aQ t++J) false,.box [.p (.s p),.p (.i .i64 ek),.p (.b eo),.p (.i .i64 nk),.p (.i .i64 nm),.p (.f nt),.p (.sl 1 (bJ nd))],.box [.p (.s p),.p (.i .i64 ek),.p (.b eo),.p (.i .i64 nk),.p (.i .i64 nm),.p (.f nt),.p (.sl 1 (bJ nd))],.box [.p (.b it)]] K:=by
 refine SB aD aL func298 rfl rfl λX0 hX=>?_;simp only[f298,go_sem]
 repeat' (first|exact⟨⟩|refine sp ?_)
 refine aA.mono (zFi hp ht) ?_;rintro _ _ ⟨⟨i0,hi0,hbef,hcase⟩,rfl⟩;rcases hcase with⟨x0,hx0,hg0,rfl⟩|⟨rfl,rfl⟩
 .have hil:i0<t.length:=(List.getElem?_eq_some_iff.1 hx0).1;have q:((i0:Int) == -1)=false:=by rw[beq_eq_false_iff_ne];omega
  have w0:IntKind.i64.wrap ((i0:Int)+1)=(i0+1:Nat):=wrap_i64 (by omega) (by omega)
  repeat' (first|exact⟨⟩|refine sp ?_)
  have hself:(t.take i0).filter (λx=>!goC p it x)=t.take i0:=List.filter_eq_self.2 λx hx=>by
   obtain⟨j,hj,rfl⟩:=List.mem_iff_getElem.1 hx;rw[List.getElem_take];have hj2:j<i0:=by simp at hj;omega
   rw[hbef j _ (List.getElem?_eq_getElem (by omega)) hj2];rfl
  have h0:(t.take (i0+1)).filter (λx=>!goC p it x)=t.take i0:=by
   rw[fG hx0,hself,hg0];simp
  refine aY aD aL (α:=Nat × Nat × List It) (λx=>⟨42,[(0,.c (.own 0 0 t.length)),(1,.c (.clo 347 [.ptr 2 0,.ptr 3 0])),(5,.c (.p (.i .i64 x.2.1))),(6,.c (.p (.i .i64 x.1)))],[.arr 5 (aQ x.2.2++J) false,.box [.p (.s p),.p (.i .i64 ek),.p (.b eo),.p (.i .i64 nk),.p (.i .i64 nm),.p (.f nt),.p (.sl 1 (bJ nd))],.box [.p (.s p),.p (.i .i64 ek),.p (.b eo),.p (.i .i64 nk),.p (.i .i64 nm),.p (.f nt),.p (.sl 1 (bJ nd))],.box [.p (.b it)]]⟩)
   (λx=>x.1<=t.length/\x.2.1<x.1/\x.2.2.length=t.length/\x.2.2.take x.2.1=(t.take x.1).filter (λx=>!goC p it x)/\x.2.2.drop x.1=t.drop x.1) (λx=>t.length-x.1) (i0+1,i0,t)
   ⟨by omega,by simp,rfl,by rw[h0],rfl⟩ (.inl (aF (by rw[hX];rfl) rfl rfl wkS)) ?_
  clear hself h0 hbef hx0 hg0 q w0 hil hi0;rintro⟨j,i,R⟩ ⟨hj,hij,hRl,hRt,hRd⟩;simp only at hj hij hRl hRt hRd;by_cases hlt:j<t.length
  .have hx:t[j]?=some t[j]:=List.getElem?_eq_getElem hlt;have hxR:R[j]?=some t[j]:=by
    have h3:R[j]?=t[j]? := by
     have:=congrArg (·[0]?) hRd
     simpa[List.getElem?_drop] using this
    exact h3.trans hx
   have hg:=HN (J:=J) hxR;have h1:decide ((j:Int)<(t.length:Int))=true:=decide_eq_true (by omega);have hli:(j:Int)<(t.length:Int):=by omega
   have hli2:(i:Int)<(t.length:Int):=by omega
   have w1:IntKind.i64.wrap ((j:Int)+1)=(j+1:Nat):=wrap_i64 (by omega) (by omega);have w2:IntKind.i64.wrap ((i:Int)+1)=(i+1:Nat):=wrap_i64 (by omega) (by omega);have hnx:=fG (g:=λx=>!goC p it x) hx;generalize t[j]=x at hx hxR hg hnx;have hRd2:R.drop (j+1)=t.drop (j+1):=by rw[<- List.drop_drop,<- List.drop_drop,hRd]
   cases hb:goC p it x
   .rw [hb] at hnx;have hJ:j+1<=t.length/\i+1<j+1/\(R.set i x).length=t.length/\(R.set i x).take (i+1)=(t.take (j+1)).filter (λx=>!goC p it x)/\(R.set i x).drop (j+1)=t.drop (j+1):=by
     refine⟨by omega,by omega,by simp[hRl],?_,?_⟩
     .rw[hnx,List.take_add_one,List.getElem?_set_self (by omega),List.take_set,List.set_eq_of_length_le (by rw[List.length_take];omega),hRt];rfl
     .rw[List.drop_set,if_pos (by omega),hRd2]
    have hb2:(x.p==p || (it && aJ p x.p))=false:=hb;have hgi:=HN (J:=J) (t:=R) (k:=i) (List.getElem?_eq_getElem (by omega));have hsj:=MO (J:=J) (t:=R) (i:=i) x (by omega);have hlj:(aQ R++J).length=R.length+J.length:=by rw[List.length_append,cS]
    generalize (R[i]'(by omega))=y at hgi;clear hnx hRt hRd hRd2 hx hxR hb
    repeat' (first|exact⟨⟩|refine sp ?_|refine ai ?_)
    refine aA.mono (zKt hp) ?_;rintro _ _ ⟨rfl,rfl⟩;rw[hb2]
    repeat' (first|exact⟨⟩|refine sp ?_|refine ai ?_)
    exact gZ (j+1,i+1,R.set i x) hJ (by simp only;omega) (aF rfl (by rw[<- MO (J:=J) (t:=R) (i:=i) x (by omega)];rfl) rfl wkS)
   .rw[hb] at hnx;have hJ:j+1<=t.length/\i<j+1/\R.length=t.length/\R.take i=(t.take (j+1)).filter (λx=>!goC p it x)/\R.drop (j+1)=t.drop (j+1):=⟨by omega,by omega,hRl,by rw[hnx,hRt];simp,hRd2⟩
    have hb2:(x.p==p || (it && aJ p x.p))=true:=hb;clear hnx hRt hRd hRd2 hx hxR hb
    repeat' (first|exact⟨⟩|refine sp ?_|refine ai ?_)
    refine aA.mono (zKt hp) ?_;rintro _ _ ⟨rfl,rfl⟩;rw[hb2]
    repeat' (first|exact⟨⟩|refine sp ?_)
    exact gZ (j+1,i,R) hJ (by simp only;omega) (aF rfl rfl rfl wkS)
  .have h1:decide ((j:Int)<(t.length:Int))=false:=decide_eq_false (by omega);have htt:t.take j=t:=List.take_of_length_le (by omega);rw[htt] at hRt;have hil:(t.filter λx=>!goC p it x).length=i:=by
    rw[<- hRt,List.length_take];omega
   have hli:(i:Int)<=(t.length:Int):=by omega
   have hi0:(0:Int)<=i:=by omega
   have hni:i+(t.length-i)=R.length:=by omega
   rw[hil] at hk;clear htt hRd hij
   repeat' (first|exact⟨⟩|refine sp ?_|refine ai ?_)
   all_goals first|refine hk _ ?_|refine⟨by omega,hk _ ?_⟩
   all_goals exact zPR hRt hil (by omega)
 .have hself:t.filter (λx=>!goC p it x)=t:=List.filter_eq_self.2 λx hx=>by
   obtain⟨j,hj,rfl⟩:=List.mem_iff_getElem.1 hx;rw[hbef j _ (List.getElem?_eq_getElem hj) hj];rfl
  rw[hself] at hk;clear hself
  repeat' (first|exact⟨⟩|refine sp ?_)
  all_goals exact hk _ (by rw[List.take_left' (by rw[cS])])
end Go.Proofs.YtlbfnbldeefgmaaGreatDoor
end
