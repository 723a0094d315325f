/- Part 37 of the proof of roomStays_card, set without needless blanks. No condition. -/
import Derived.Test.YtlbfnbldeefgmaaGreatDoorT29
set_option linter.all false
set_option maxRecDepth 100000
set_option maxHeartbeats 16000000
section
namespace Go.Dm
open Go Go.Proofs Go.Sort
section
variable {t w:List It}{x:It}{l:List En}
def JA(t w:List It)(p:List UInt8):Bool:=t.any λy=>aJ p y.p && (aN w y.p).isSome
def pK(t w:List It)(p:List UInt8):Bool:=aX w p && (aX t p && (!decide (((iI t p).length:Int)<2) && !JA t w p))
theorem zAX(t w:List It)(p:List UInt8):JA t w p=RL t w p:=by
 unfold JA RL
 congr 1
 funext y
 rw[Bool.and_comm]
theorem zNX(hx:x∈w)(h:zFc t w x=true):isB (kO t w) x.p=true :=
 List.any_eq_true.2 ⟨x.p,List.mem_map.2 ⟨x,List.mem_filter.2 ⟨hx,h⟩,rfl⟩,beq_self_eq_true _⟩
theorem EZ(hw:OkT w)(hx:x∈w):((x.n.k==2) && pK t w x.p)=isB (kO t w) x.p:=by
 have h0:(x.p == [])=false:=by simpa using hw.ne x hx
 have h1:aX w x.p=(x.n.k==2):=by
  unfold aX;rw[dH hw.srt hx,h0,Bool.false_or]
 have h2:((x.n.k==2) && pK t w x.p)=zFc t w x:=by
  unfold pK zFc zEi;rw[h1,h0,zAX];cases x.n.k==2<;>cases aX t x.p<;>simp
 rw[h2];cases hb:isB (kO t w) x.p
 .cases ho:zFc t w x
  .rfl
  .rw[zNX hx ho] at hb;cases hb
 .exact JS hw hx hb
def zPq(t w:List It)(q:List UInt8):Bool:=!(aN w q).isSome || (!aX w q || pK t w q)
theorem zNR(hw:OkT w){q:List UInt8}(hq:q≠[]):zPq t w q=(!(aN w q).isSome || (((aN w q).getD nd0).k != 2 || isB (kO t w) q)):=by
 have h0:(q == [])=false:=by simpa using hq
 unfold zPq;cases hg:aN w q with
 | none=>rfl
 | some n =>
  obtain ⟨x,hx,rfl,rfl⟩:=cL hg;have h1:aX w x.p=(x.n.k==2):=by
   unfold aX;rw[hg,h0,Bool.false_or]
  have h2:=EZ (t:=t) hw hx;rw[h1,Option.isSome_some,Option.getD_some,<- h2];cases hk:x.n.k==2<;>simp[bne,hk]
def YJ(t w:List It):List En:=(t.filter λy=>!(aN w y.p).isSome && !KS w (kO t w) y.p).map λy=>mA y.p
def nR(t w:List It):List En:=jL t (kO t w) w++YJ t w
theorem AN(ht:OkT t)(hw:OkT w)(e:En):e∈eG t w↔e∈nR t w:=by
 rw[(nS ht hw).2 e];unfold nR YJ;rw[List.mem_append,List.mem_map];constructor
 .rintro (h|⟨y,hy,rfl,h1,h2⟩)
  .exact .inl h
  .exact .inr ⟨y,List.mem_filter.2 ⟨hy,by rw[h1,h2];rfl⟩,rfl⟩
 .rintro (h|⟨y,hy,rfl⟩)
  .exact .inl h
  .obtain⟨h1,h2⟩:=List.mem_filter.1 hy;simp only[Bool.and_eq_true,Bool.not_eq_true'] at h2;exact .inr ⟨y,h1,rfl,h2.1,h2.2⟩
theorem wB(h:ZY l):l.Nodup:=h.imp λ{a b} h e=>by subst e;rw[bX] at h;cases h
theorem VS(ht:OkT t)(hw:OkT w):(nR t w).Nodup:=by
 unfold nR;refine List.nodup_append.2 ⟨wB (PS hw.srt),?_,λa ha b hb e=>?_⟩
 .have:(YJ t w).Pairwise λx y=>bT x.p y.p=true:=List.pairwise_map.2 ((ht.srt.filter _).imp λh=>h);exact wB this
 .obtain⟨x,hx,rfl⟩:=kS ha;obtain⟨y,_,rfl⟩:=List.mem_map.1 hb;injection e with _ h _ _;cases h
def leE(x y:En):Bool:=!bT y.p x.p
def CF(l:List En):List En:=l.mergeSort leE
theorem qP(l:List En):(CF l).Perm l:=List.mergeSort_perm _ _
theorem zGa(l:List En):(CF l).length=l.length:=List.length_mergeSort ..
theorem RF(l:List En):(CF l).Pairwise λx y=>bT y.p x.p=false:=by
 have h:(CF l).Pairwise λx y=>leE x y=true:=by
  refine List.pairwise_mergeSort (le:=leE) ?_ ?_ _
  .intro a b c h1 h2;simp only[leE,Bool.not_eq_true'] at h1 h2 ⊢;cases e:bT c.p a.p with
   | false=>rfl
   | true =>
    cases f:bT a.p b.p with
    | true=>have:=cH e f;rw[h2] at this;cases this
    | false=>have:=eL f h1;rw[<- this,e] at h2;cases h2
  .intro a b;simp only[leE];cases h:bT b.p a.p with
   | false=>simp
   | true=>simp[gB h]
 exact h.imp λh=>by unfold leE at h;simpa using h
theorem zCz(hu:∀x∈l,∀y∈l,x.p=y.p->x=y):∀x∈gD l,∀y∈gD l,ltOf cfI x y=false->ltOf cfI y x=false->x=y:=by
 rw[NU];intro x hx y hy h k;obtain⟨a,ha,rfl⟩:=List.mem_map.1 hx;obtain⟨b,hb,rfl⟩:=List.mem_map.1 hy;rw[hu a ha b hb (eL h k)]
theorem zDs(l:List En):(gD l).mergeSort (SE (ltOf cfI))=gD (CF l):=by
 rw[NU];unfold gD CF;exact(List.map_mergeSort (r:=leE) (s:=SE zN4) (f:=En.cs) (l:=l) λa _ b _=>rfl).symm
theorem NV(ht:OkT t)(hw:OkT w):∀x∈nR t w,∀y∈nR t w,x.p=y.p->x=y :=
 λx hx y hy e=>KN (nS ht hw).1 x ((AN ht hw x).2 hx) y ((AN ht hw y).2 hy) e
theorem zER(ht:OkT t)(hw:OkT w):CF (nR t w)=eG t w:=by
 obtain ⟨hs,_⟩:=nS ht hw;have hinj:=NV ht hw;have hnd:(CF (nR t w)).Nodup:=(qP _).nodup_iff.2 (VS ht hw);have hstrict:(CF (nR t w)).Pairwise λx y=>bT x.p y.p=true:=by
  refine((RF (nR t w)).and hnd).imp_of_mem λ{a b} ha hb h=>?_;obtain⟨h1,h2⟩:=h;cases h3:bT a.p b.p
  .exact absurd (hinj a ((qP _).mem_iff.1 ha) b ((qP _).mem_iff.1 hb) (eL h3 h1)) h2
  .rfl
 exact List.Perm.eq_of_pairwise (le:=λ(x y:En)=>bT x.p y.p=true) (λ_ _ _ _ h k=>by rw[gB h] at k;cases k) hstrict hs
  ((List.perm_ext_iff_of_nodup hnd (wB hs)).2 λe=>(qP _).mem_iff.trans (AN ht hw e).symm)
end
end Go.Dm
end
section
namespace Go.Proofs.YtlbfnbldeefgmaaGreatDoor
open Go Go.Dm Go.Proofs Go.Proofs.Tryz
theorem zLT{t w:List It}{q p:List UInt8}{k m:Int}{tt:Nat}{d:List UInt8}(hw:OkT w)(hp:p.length<=1000000):
  aA prog 305 [.agg [.p (.s q),.p (.i .i64 k),.p (.i .i64 m),.p (.f tt),.p (.sl 1 (bJ d))],.c (.ptr 0 0),.c (.ptr 1 0)] [.box [.p (.sl 5 (aQ t)),.p (.sl 5 (aQ w))],.box [.p (.s p)]]
   λr h=>r=.c (.p (.b (aJ p q && (aN w q).isSome)))/\h=[.box [.p (.sl 5 (aQ t)),.p (.sl 5 (aQ w))],.box [.p (.s p)]]:=by
 have hwl:=hw.len;have hg:=eW (t:=w) (p:=q) (by omega) hw.srt hw.ne (λx hx=>Nat.le_trans (hw.dlen x hx) (by decide));generalize (aN w q).getD nd0=n at hg;generalize (aN w q).isSome=is at hg ⊢;obtain⟨nk,nm,nt,nd⟩:=n;unfold Nd.cv at hg;simp only at hg;refine eT func305 λX0 hX=>?_;simp only[f305,go_sem];cases is
 all_goals repeat' (first|simp only[*,go_sem,Nat.reduceLT,Nat.reduceLeDiff,Nat.reduceEqDiff,↓reduceIte,Nat.reduceAdd,bH,aT]|refine uN (hg) ?_|refine uF (cU (p:=p) (by omega)) ?_|refine bM (λ_=>?_) (λ_=>?_))
 all_goals simp_all
theorem zIL{t w:List It}{p:List UInt8}(hw:OkT w)(ht:t.length<=1000000)(hp:p.length<=1000000):
  aA prog 355 [.c (.p (.sl 5 (aQ t))),.c (.clo 305 [.ptr 0 0,.ptr 1 0])] [.box [.p (.sl 5 (aQ t)),.p (.sl 5 (aQ w))],.box [.p (.s p)]]
   λr h=>(∃i:Int,r=.c (.p (.i .i64 i))/\decide (0<=i)=JA t w p)/\h=[.box [.p (.sl 5 (aQ t)),.p (.sl 5 (aQ w))],.box [.p (.s p)]]:=by
 refine eT func355 λX0 hX=>?_;simp only[f355,go_sem]
 repeat' (first|exact⟨⟩|refine sp ?_)
 refine aY aD aL (α:=Nat) (λk=>⟨19,[(0,.c (.p (.sl 5 (aQ t)))),(1,.c (.clo 305 [.ptr 0 0,.ptr 1 0])),(7,.c (.p (.i .i64 t.length))),(8,.c (.p (.i .i64 k)))],[.box [.p (.sl 5 (aQ t)),.p (.sl 5 (aQ w))],.box [.p (.s p)]]⟩)
  (λk=>k<=t.length/\(t.drop k).any (λy=>aJ p y.p && (aN w y.p).isSome)=JA t w p) (λk=>t.length-k) 0 ⟨Nat.zero_le _,rfl⟩ (.inl (aF (by rw[hX];rfl) rfl rfl wkS)) ?_
 rintro k ⟨hk,hs⟩;by_cases hlt:k<t.length
 .have hx:t[k]?=some t[k]:=List.getElem?_eq_getElem hlt;have hg:=cZ hx;have hd:=drop_at hx;have h1:decide ((k:Int)<(t.length:Int))=true:=decide_eq_true (by omega);have hli:(k:Int)<(t.length:Int):=by omega
  have hk0:(0:Int)<=k:=by omega
  have w1:IntKind.i64.wrap ((k:Int)+1)=k+1:=wrap_i64 (by omega) (by omega);generalize t[k]=x at hx hg hd;rw[hd,List.any_cons] at hs;have hc:=zLT (t:=t) (w:=w) (q:=x.p) (p:=p) (k:=x.n.k) (m:=x.n.m) (tt:=x.n.t) (d:=x.n.d) hw hp;cases hb:(aJ p x.p && (aN w x.p).isSome)
  .rw[hb,Bool.false_or] at hs;rw[hb] at hc;have hP:=PLift.up hs;clear hs hx hd hb
   repeat' (first|exact⟨⟩|refine sp ?_)
   refine aA.mono hc ?_;rintro _ _ ⟨rfl,rfl⟩
   repeat' (first|exact⟨⟩|refine sp ?_)
   exact gZ (k+1) ⟨by omega,hP.down⟩ (by omega) (aF rfl rfl rfl wkS)
  .rw[hb,Bool.true_or] at hs;rw[hb] at hc;have hP:=PLift.up hs;clear hs hx hd hb
   repeat' (first|exact⟨⟩|refine sp ?_)
   refine aA.mono hc ?_;rintro _ _ ⟨rfl,rfl⟩
   repeat' (simp only[*,go_sem,Nat.reduceLT,Nat.reduceEqDiff,↓reduceIte,Int.reduceNeg,bH,aT])
   exact⟨k,rfl,by rw[<- hP.down];exact decide_eq_true (by omega)⟩
 .have h1:decide ((k:Int)<(t.length:Int))=false:=decide_eq_false (by omega);rw[List.drop_of_length_le (by omega)] at hs;have hP:=PLift.up hs;clear hs
  repeat' (simp only[*,go_sem,Nat.reduceLT,Nat.reduceEqDiff,↓reduceIte,Nat.reduceAdd,Int.reduceNeg,bH,aT])
  exact⟨-1,rfl,by rw[<- hP.down];rfl⟩
theorem zLU{t w:List It}{p:List UInt8}(hw:OkT w)(ht:t.length<=1000000)(hp:p.length<=1000000):
  aA prog 304 [.c (.p (.sl 5 (aQ t))),.c (.clo 305 [.ptr 0 0,.ptr 1 0])] [.box [.p (.sl 5 (aQ t)),.p (.sl 5 (aQ w))],.box [.p (.s p)]]
   λr h=>r=.c (.p (.b (JA t w p)))/\h=[.box [.p (.sl 5 (aQ t)),.p (.sl 5 (aQ w))],.box [.p (.s p)]]:=by
 refine eT func304 λX0 hX=>?_;simp only[f304,go_sem]
 repeat' (first|exact⟨⟩|refine sp ?_)
 refine aA.mono (zIL hw ht hp) ?_;rintro _ _ ⟨⟨i,rfl,hi⟩,rfl⟩;have hi2:decide (i>=0)=JA t w p:=hi
 repeat' (simp only[*,go_sem,Nat.reduceLT,↓reduceIte,bH,aT])
theorem zEE{t w:List It}{p:List UInt8}(hw:OkT w)(ht:t.length<=1000000)(hp:p.length<=1000000):
  aA prog 250 [.agg [.p (.sl 5 (aQ t)),.p (.sl 5 (aQ w))],.c (.p (.s p))] [] λr h=>r=.c (.p (.b (JA t w p)))/\h=[]:=by
 refine eT func250 λX0 hX=>?_;simp only[f250,go_sem]
 repeat' (first|exact⟨⟩|refine sp ?_)
 refine aA.mono (zLU hw ht hp) ?_;rintro _ _ ⟨rfl,rfl⟩
 repeat' (first|exact⟨⟩|refine sp ?_)
theorem YX{t w:List It}{p:List UInt8}(ht:OkT t)(hw:OkT w)(hp:p.length<=1000000):
  aA prog 190 [.agg [.p (.sl 5 (aQ t)),.p (.sl 5 (aQ w))],.c (.p (.s p))] [] λr h=>r=.c (.p (.b (pK t w p)))/\h=[]:=by
 have htl:=ht.len;have hwl:=hw.len;have h1:=eQ (t:=t) (p:=p) (by omega) ht.srt;have h2:=eQ (t:=w) (p:=p) (by omega) hw.srt;have h3:=JL (p:=p) ht;have h4:=zEE (t:=t) (w:=w) (p:=p) hw (by omega) hp;unfold pK;generalize aX t p=a at *;generalize aX w p=b at *;generalize JA t w p=c at *;generalize hnn:iI t p=nn at *;have hge:decide ((nn.length:Int)>=2) = !decide ((nn.length:Int)<2):=by
  by_cases h:(nn.length:Int)<2
  .rw[decide_eq_true h,decide_eq_false (by omega)];rfl
  .rw[decide_eq_false h,decide_eq_true (by omega)];rfl
 have hle:decide (2<=(nn.length:Int)) = !decide ((nn.length:Int)<2):=hge;generalize decide ((nn.length:Int)<2)=d at *;refine eT func190 λX0 hX=>?_;simp only[f190,go_sem];cases a<;>cases b<;>cases c<;>cases d
 all_goals repeat' (first|exact⟨⟩|refine sq ?_|refine uF (h1) ?_|refine uF (h2) ?_|refine uN (h3) ?_|refine uF (h4) ?_)
 all_goals rfl
theorem zIy{t w:List It}{p:List UInt8}(ht:OkT t)(hw:OkT w)(hp:p.length<=1000000):
  aA prog 191 [.agg [.p (.sl 5 (aQ t)),.p (.sl 5 (aQ w))],.c (.p (.s p))] [] λr h=>r=.c (.p (.b (KS w (kO t w) p)))/\h=[]:=by
 have hdl:=zCZ p;have hwl:=hw.len;refine eT func191 λX0 hX=>?_;simp only[f191,go_sem]
 repeat' (first|exact⟨⟩|refine sp ?_|refine uF (dV (p:=p) (by omega)) ?_)
 refine aY aD aL (α:=Nat × List UInt8) (λx=>⟨35,[(2,.c (.ptr 0 0)),(5,.c (.p (.s x.2)))],[.box [.p (.sl 5 (aQ t)),.p (.sl 5 (aQ w))]]⟩)
  (λx=>x.2.length<=x.1/\x.1<=p.length/\zGS w (kO t w) x.1 x.2=KS w (kO t w) p) (λx=>x.1) (p.length,aM p) ⟨hdl,Nat.le_refl _,rfl⟩ (.inl (aF (by rw[hX];rfl) rfl rfl wkS)) ?_
 rintro⟨n,q⟩ ⟨hq,hn,hc⟩;simp only at hq hn hc;cases hq0:(q == [])
 .have hq1:(q != [])=true:=by rw[bne,hq0];rfl
  have hqn:q≠[]:=by simpa using hq0
  obtain⟨n,rfl⟩:∃m,n=m+1:=⟨n-1,by have:=List.length_pos_iff.2 hqn;omega⟩
  have hdq:(aM q).length<=n:=by
   by_cases h:aM q=[]
   .rw[h];exact Nat.zero_le _
   .have:=sZ h;omega
  rw[zD hqn,<- zNR hw hqn] at hc;have hg:=eW (t:=w) (p:=q) (by omega) hw.srt hw.ne (λx hx=>Nat.le_trans (hw.dlen x hx) (by decide));have hd:=eQ (t:=w) (p:=q) (by omega) hw.srt;have ho:=YX (p:=q) ht hw (by omega);unfold zPq at hc;generalize (aN w q).getD nd0=x at hg;generalize (aN w q).isSome=is at hg hc;generalize aX w q=dir at hd hc;generalize pK t w q=op at ho hc;obtain⟨nk,nm,nt,nd⟩:=x;unfold Nd.cv at hg;simp only at hg;cases is<;>cases dir<;>cases op
  all_goals simp only[Bool.not_true,Bool.not_false,Bool.or_true,Bool.or_false,if_true,Bool.false_eq_true,if_false] at hc
  case true.true.false =>
   have hC:=PLift.up hc;clear hc
   repeat' (first|exact⟨⟩|refine sq ?_|refine uN (hg) ?_|refine uF (hd) ?_|refine uF (ho) ?_|refine uF (dV (p:=q) (by omega)) ?_)
   exact gZ (n,aM q) ⟨hdq,by simp only;omega,hC.down⟩ (by simp only;omega) (aF rfl rfl rfl wkS)
  all_goals rw[<- hc]
  all_goals clear hc
  all_goals repeat' (first|exact⟨⟩|refine sq ?_|refine uN (hg) ?_|refine uF (hd) ?_|refine uF (ho) ?_)
 .have hq1:(q != [])=false:=by rw[bne,hq0];rfl
  have hqn:q=[]:=eq_of_beq hq0;subst hqn;rw[XQ] at hc;rw[<- hc];clear hc
  repeat' (first|exact⟨⟩|refine sp ?_)
end Go.Proofs.YtlbfnbldeefgmaaGreatDoor
end
section
namespace Go.Dm
open Go
section
section
variable {P:Program}{T:Tab}{X0:Ctx}{Q:Exit->DS->Prop}
theorem zMG{c:Code}{s:DS}(id:Nat){k:Nat}{es:List (List PV)}(es':List (List PV))(hb:s.h[id]?=some (.arr k es false))(hw:lG es es')
  (h:SWP P X0 c ⟨s.n,s.t,s.h.set id (.arr k es' false)⟩ Q):SWP P X0 c s Q:=by
 intro gd X a hh hi hs ht;have h0:X.h[id]?=some (.arr k es false):=by rw[hh];exact hb
 have hlen:=hw.len;have hbl:=hi.blk id _ h0;have rf:=Step.refl hi;have st:Step X ⟨X.w,X.S,X.G,X.h.set id (.arr k es' false)⟩:=by
  refine⟨rf.size,rf.os,rf.tape,rf.output,rf.kept,by simp,λi db' hl hdb hlv=>?_,rf.frame,λi db g' hdb hl hf hg'=>?_,rf.upper⟩
  .rcases bZ hdb with⟨rfl,rfl,_⟩|⟨hne,h'⟩
   .exact⟨_,h0,⟨rfl,by omega⟩,rfl,λg' hg'=>(hi.blk _ _ h0).same rfl g' hg'⟩
   .exact⟨db',h',cG.refl hlv,rfl,λg' hg'=>(hi.blk i db' h').same hlv g' hg'⟩
  .rcases bZ hdb with⟨rfl,rfl,_⟩|⟨hne,h'⟩
   .exact .inr ⟨_,_,g',h0,rfl,rfl,hg',rfl⟩
   .exact .inr ⟨i,db,g',h',hl,hf,hg',rfl⟩
 have hi':HInv ⟨X.w,X.S,X.G,X.h.set id (.arr k es' false)⟩:=by
  refine⟨hi.slt,λi db hdb=>?_,λi db g' hdb hl hg'=>?_,λi db i' db' g1 g2 hdb hl hf hdb' hl' hg1 hg2 he=>?_⟩
  .rcases bZ hdb with⟨rfl,rfl,_⟩|⟨hne,h'⟩
   .rcases hbl with⟨h1,h2⟩|⟨g,arr,el,fz,h1,h2,h3,h4,h5⟩
    .exact .inl ⟨h1,List.eq_nil_of_length_eq_zero (by rw[hlen,h2];rfl)⟩
    .exact .inr ⟨g,arr,el,fz,h1,h2,by rw[hlen];exact h3,h4,hw.relL h5⟩
   .exact(hi.blk i db h').move st rfl λ_ _=>rfl
  .rcases bZ hdb with⟨rfl,rfl,_⟩|⟨hne,h'⟩
   .have:=hi.own _ (.arr k es false) g' h0 rfl hg';exact this
   .exact hi.own i db g' h' hl hg'
  .rcases bZ hdb with⟨rfl,rfl,_⟩|⟨hne,h1'⟩<;>rcases bZ hdb' with⟨rfl,rfl,_⟩|⟨hne',h2'⟩
   .rfl
   .exact hi.inj i _ i' db' g1 g2 h0 rfl rfl h2' hl' hg1 hg2 he
   .exact hi.inj i db i' _ g1 g2 h1' hl hf h0 rfl hg1 hg2 he
   .exact hi.inj i db i' db' g1 g2 h1' hl hf h2' hl' hg1 hg2 he
 exact h gd ⟨X.w,X.S,X.G,X.h.set id (.arr k es' false)⟩ a (by simp only[hh]) hi' (hs.trans hi st) ⟨ht.size,λj=>(ht.rel j).step st,ht.defs⟩
theorem RZ:∀e:List PV,zJ1 e e
 | []=>True.intro
 | _::e=>⟨.inl rfl,RZ e⟩
theorem CR:∀e:List (List PV),lG e e
 | []=>True.intro
 | e::es=>⟨RZ e,CR es⟩
theorem GO:∀{a b c d:List (List PV)},lG a b->lG c d->lG (a++c) (b++d)
 | [],[],_,_,_,h=>h
 | _::_,_::_,_,_,h1,h2=>⟨h1.1,GO h1.2 h2⟩
 | [],_::_,_,_,h,_=>h.elim
 | _::_,[],_,_,h,_=>h.elim
end
end
end Go.Dm
end
