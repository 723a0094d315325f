/- Part 14 of the proof of roomKnown_card. No condition. -/
import Derived.Test.YtbpblnmhlhpebaaGreatDoorB12
set_option linter.all false
namespace Go.Dm
open Go
section
theorem DA (t:List It) (x:En) (p:List UInt8):aQ (mU t x) p=if ((p == x.p) || (nD t x && aP x.p p)) then none else aQ t p:=by
 have:=fU (fun q=>!((q == x.p) || (nD t x && aP x.p q))) p t
 unfold mU goE
 rw [this]
 cases ((p == x.p) || (nD t x && aP x.p p)) <;> rfl
theorem iZ (t:List It) (x:En) (p:List UInt8):aQ (kS t x) p=if p == x.p then (if x.k == 2 then none else some x.n) else if nD t x && aP x.p p then none else aQ t p:=by
 unfold kS
 split
 ·rw [DA]
  cases p == x.p <;> simp
 ·rw [nM,DA]
  cases p == x.p <;> simp
theorem zCL {a p:List UInt8} (ha:a≠[]) (h:aP a p=true):bL a p=true:=by
 obtain ⟨r,rfl⟩:=gM ha h
 exact zCa a 47 r
theorem zH {a b c:List UInt8} (ha:a≠[]) (h:aP a b=true) (k:aP b c=true):aP a c=true:=by
 obtain ⟨r,rfl⟩:=gM ha h
 obtain ⟨s,rfl⟩:=gM (by simp) k
 rw [List.append_assoc,List.cons_append]
 exact kE ha
theorem GX {a p:List UInt8} (ha:a≠[]) (h:aP a p=true):a.length<p.length:=by
 obtain ⟨r,rfl⟩:=gM ha h
 simp
theorem vM {a:List UInt8} (ha:a≠[]):aP a []=false:=by
 cases h:aP a []
 ·rfl
 ·have:=GX ha h
  simp at this
theorem lE (t:List It) (x:En) (l:List En):fB t (x::l)=fB (kS t x) l:=rfl
theorem CB {p:List UInt8}:∀ {l:List En} {t:List It},(∀ x∈l,(p == x.p)=false∧aP x.p p=false)→aQ (fB t l) p=aQ t p
 | [],_,_=>rfl
 | x::l,t,h=>by
  obtain ⟨h1,h2⟩:=h x List.mem_cons_self
  rw [lE,CB fun y hy=>h y (List.mem_cons_of_mem _ hy),iZ,h1,h2,Bool.and_false]
  rfl
theorem BC {p:List UInt8}:∀ {l:List En} {t:List It},(∀ x∈l,(p == x.p)=false)→aQ t p=none→aQ (fB t l) p=none
 | [],_,_,h=>h
 | x::l,t,h,h0=>by
  rw [lE]
  refine BC (fun y hy=>h y (List.mem_cons_of_mem _ hy)) ?_
  rw [iZ,h x List.mem_cons_self,h0]
  simp
theorem xO {x:En}:∀ {l:List En} {t:List It},ZG l→(∀ y∈l,y.p≠[])→x∈l→aQ (fB t l) x.p=if x.k == 2 then none else some x.n
 | [],_,_,_,h=>by cases h
 | y::l,t,hs,hn,hx=>by
  obtain ⟨h1,h2⟩:=List.pairwise_cons.1 hs
  rw [lE]
  rcases List.mem_cons.1 hx with rfl|hx
  ·rw [CB fun z hz=>⟨mM (h1 z hz),?_⟩,iZ,beq_self_eq_true,if_pos rfl]
   cases hb:aP z.p x.p
   ·rfl
   ·have:=zCL (hn z (List.mem_cons_of_mem _ hz)) hb
    rw [eI (h1 z hz)] at this
    cases this
  ·exact xO h2 (fun z hz=>hn z (List.mem_cons_of_mem _ hz)) hx
theorem BQ {p:List UInt8} {e:En}:∀ {l:List En} {t:List It},(∀ x∈l,(p == x.p)=false)→e∈l→aP e.p p=true→(e.o || iD e)=true→aQ (fB t l) p=none
 | [],_,_,h,_,_=>by cases h
 | y::l,t,h,he,hb,hs=>by
  rw [lE]
  rcases List.mem_cons.1 he with rfl|he
  ·refine BC (fun x hx=>h x (List.mem_cons_of_mem _ hx)) ?_
   have hc:nD t e=true:=by
    unfold nD
    rw [← Bool.or_assoc,hs,Bool.true_or]
   rw [iZ,h e List.mem_cons_self,hc,hb]
   rfl
  ·exact BQ (fun x hx=>h x (List.mem_cons_of_mem _ hx)) he hb hs
theorem BJ {p:List UInt8}:∀ {l:List En} {t:List It},(∀ x∈l,x.p≠[]∧(p == x.p)=false∧(aP x.p p=true→(x.o || iD x)=false))→(∀ q,(aQ t p).isSome=true→aP q p=true→q≠[]→aY t q=true)→aQ (fB t l) p=aQ t p
 | [],_,_,_=>rfl
 | x::l,t,h,hc=>by
  obtain ⟨h0,h1,h2⟩:=h x List.mem_cons_self
  have hcov:aP x.p p=true→(aQ t p).isSome=true→nD t x=false:=fun hb hs=>by
   have h3:=h2 hb
   rw [Bool.or_eq_false_iff] at h3
   unfold nD
   rw [h3.1,h3.2,hc x.p hs hb h0]
   rfl
  have he:aQ (kS t x) p=aQ t p:=by
   rw [iZ,h1]
   cases hb:aP x.p p
   ·simp
   ·cases hs:aQ t p with
    | none=>simp
    | some n=>rw [hcov hb (by rw [hs];rfl)];simp
  rw [lE,BJ (fun y hy=>h y (List.mem_cons_of_mem _ hy)) ?_,he]
  intro q hs hb hq
  rw [he] at hs
  obtain ⟨m,hm,hk⟩:=cN hq (hc q hs hb hq)
  cases hqx:q == x.p
  ·refine fD (m:=m) ?_ hk
   rw [iZ,hqx]
   cases hbx:aP x.p q
   ·simpa using hm
   ·rw [hcov (zH h0 hbx hb) hs]
    simpa using hm
  ·have e:=eq_of_beq hqx
   rw [e] at hb
   have h3:=h2 hb
   rw [Bool.or_eq_false_iff] at h3
   have h4:=h3.2
   unfold iD at h4
   rw [Bool.or_eq_false_iff] at h4
   refine fD (m:=x.n) ?_ (by simpa using h4.2)
   rw [iZ,hqx,if_pos rfl,h4.1]
   rfl
theorem ET:∀ {l:List En},ZG l→∀ x∈l,∀ y∈l,x.p=y.p→x=y
 | [],_,x,hx,_,_,_=>by cases hx
 | z::l,h,x,hx,y,hy,e=>by
  obtain ⟨h1,h2⟩:=List.pairwise_cons.1 h
  rcases List.mem_cons.1 hx with e1|g1 <;> rcases List.mem_cons.1 hy with e2|g2
  ·rw [e1,e2]
  ·have:=mM (h1 y g2);rw [← e1,e] at this;simp at this
  ·have:=mM (h1 x g1);rw [← e2,e] at this;simp at this
  ·exact ET h2 x g1 y g2 e
theorem zDc {l:List En} (h:ZG l) {x:En} (hx:x∈l):iF l x.p=some x:=by
 cases hf:iF l x.p with
 | none=>exact absurd (beq_self_eq_true x.p) (by simpa using List.find?_eq_none.1 hf x hx)
 | some y =>
  have h1:=eq_of_beq (List.find?_some (p:=fun z:En=>z.p == x.p) hf)
  rw [ET h y (List.mem_of_find?_eq_some hf) x hx h1]
theorem tY {l:List En} {p:List UInt8} {x:En} (h:iF l p=some x):x∈l∧x.p=p:=⟨List.mem_of_find?_eq_some h,eq_of_beq (List.find?_some (p:=fun z:En=>z.p == p) h)⟩
theorem HI {l:List En} {p:List UInt8} (h:iF l p=none):∀ x∈l,(p == x.p)=false:=fun x hx=>by
 have h1:=List.find?_eq_none.1 h x hx
 cases hp:p == x.p
 ·rfl
 ·rw [eq_of_beq hp] at h1;simp at h1
theorem zIE {l:List En} (hs:ZG l) (hn:∀ x∈l,x.p≠[]):∀ (n:Nat) (q:List UInt8),q.length≤n→(shF l n q=true↔∃ e∈l,(e.p=q∨aP e.p q=true)∧(e.o || iD e)=true):=by
 have h00:¬ ∃ e∈l,(e.p=[]∨aP e.p []=true)∧(e.o || iD e)=true:=by
  rintro ⟨e,he,h|h,_⟩
  ·exact hn e he h
  ·rw [vM (hn e he)] at h;cases h
 intro n
 induction n with
 | zero =>
  intro q hl
  have h1:q=[]:=by simpa using hl
  subst h1
  exact ⟨fun h=>(by simp [shF] at h),fun h=>absurd h h00⟩
 | succ n ih =>
  intro q hl
  by_cases h0:q=[]
  ·subst h0
   exact ⟨fun h=>(by rw [zIl] at h;cases h),fun h=>absurd h h00⟩
  ·have hdl:(aR q).length≤n:=by
    by_cases h:aR q=[]
    ·rw [h];exact Nat.zero_le _
    ·have:=rY h;omega
   have hsh:∀ e:En,(e.k == 2 || (e.o || e.n.k != 2))=(e.o || iD e):=fun e=>by
    unfold iD
    cases e.k == 2 <;> cases e.o <;> rfl
   rw [zGv h0]
   split
   ·rename_i hc
    refine ⟨fun _=>?_,fun _=>rfl⟩
    cases he:iF l q with
    | none=>rw [he] at hc;cases hc
    | some e =>
     rw [he,Option.getD_some,hsh] at hc
     obtain ⟨h1,h2⟩:=tY he
     exact ⟨e,h1,.inl h2,by simpa using hc⟩
   ·rename_i hc
    rw [ih _ hdl]
    constructor
    ·rintro ⟨e,he,h1,h2⟩
     refine ⟨e,he,.inr ?_,h2⟩
     refine dU (hn e he) (fun hd=>?_) (h1.imp Eq.symm id)
     rw [hd] at h1
     exact h00 ⟨e,he,h1,h2⟩
    ·rintro ⟨e,he,h1,h2⟩
     rcases h1 with h1|h1
     ·rw [← h1,zDc hs he,Option.getD_some,hsh,h2] at hc
      exact absurd rfl hc
     ·exact ⟨e,he,(iK (hn e he) h1).imp Eq.symm id,h2⟩
theorem qR {l:List En} (hs:ZG l) (hn:∀ x∈l,x.p≠[]) (p:List UInt8):zAD l p=true↔∃ e∈l,aP e.p p=true∧(e.o || iD e)=true:=by
 unfold zAD
 rw [zIE hs hn _ _ (zCC p)]
 constructor
 ·rintro ⟨e,he,h1,h2⟩
  refine ⟨e,he,dU (hn e he) (fun hd=>?_) (h1.imp Eq.symm id),h2⟩
  rw [hd] at h1
  rcases h1 with h1|h1
  ·exact hn e he h1
  ·rw [vM (hn e he)] at h1;cases h1
 ·rintro ⟨e,he,h1,h2⟩
  exact ⟨e,he,(iK (hn e he) h1).imp Eq.symm id,h2⟩
theorem zC9 {t:List It} {l:List En} (hp:Par t) (hs:ZG l) (hn:∀ x∈l,x.p≠[]) (p:List UInt8):
  aQ (fB t l) p=match iF l p with
   | some e=>if e.k == 2 then none else some e.n
   | none=>if zAD l p then none else aQ t p:=by
 cases he:iF l p with
 | some e =>
  obtain ⟨h1,rfl⟩:=tY he
  exact xO hs hn h1
 | none =>
  have hno:=HI he
  cases hsh:zAD l p
  ·refine BJ (fun x hx=>⟨hn x hx,hno x hx,fun hb=>?_⟩) fun q h1 h2 h3=>?_
   ·cases h:(x.o || iD x)
    ·rfl
    ·rw [(qR hs hn p).2 ⟨x,hx,hb,h⟩] at hsh;cases hsh
   ·obtain ⟨m,h4,h5⟩:=qN hp h3 _ _ (Nat.le_refl _) h1 h2
    exact fD h4 (by simpa using h5)
  ·obtain ⟨e,h1,h2,h3⟩:=(qR hs hn p).1 hsh
   exact BQ hno h1 h2 h3
theorem OkE.ne {l:List En} (h:OkE l):∀ x∈l,x.p≠[]:=fun x hx e=>by
 have:=h.may x hx
 unfold zGT at this
 rw [e] at this
 cases this
theorem XH {x y:Nd} (hx:aT x=true) (hxt:x.t<18446744073709551616) (hy:aT y=true) (hyt:y.t<18446744073709551616) (h:jF x y=true):x=y:=by
 have e1:=(fV hx hxt).2
 have e2:=(fV hy hyt).2
 simp only [jF,Bool.and_eq_true,beq_iff_eq] at h
 obtain ⟨⟨⟨h1,h2⟩,h3⟩,h4⟩:=h
 rw [e1,e2] at h4
 cases x;cases y
 simp only at h1 h2 h3 h4
 subst h1;subst h2;subst h3;subst h4
 rfl
theorem HV {w:List It} {os:List (List UInt8)}:∀ (n:Nat) (q:List UInt8),zD4 w os n q=true→∃ a,a≠[]∧(q=a∨aP a q=true)∧(!(aQ w a).isSome || (((aQ w a).getD nd0).k != 2 || isB os a))=true
 | 0,_,h=>by cases h
 | n+1,q,h=>by
  by_cases h0:q=[]
  ·rw [h0,RT] at h;cases h
  ·rw [xE h0] at h
   split at h
   ·rename_i hc
    exact ⟨q,h0,.inl rfl,hc⟩
   ·obtain ⟨a,h1,h2,h3⟩:=HV n _ h
    refine ⟨a,h1,.inr (dU h1 (fun hd=>?_) h2),h3⟩
    rw [hd] at h2
    rcases h2 with h2|h2
    ·exact h1 h2.symm
    ·rw [vM h1] at h2;cases h2
theorem ZR {w:List It} {os:List (List UInt8)} {p:List UInt8} (h:GU w os p=true):∃ a,a≠[]∧aP a p=true∧(!(aQ w a).isSome || (((aQ w a).getD nd0).k != 2 || isB os a))=true:=by
 obtain ⟨a,h1,h2,h3⟩:=HV _ _ h
 refine ⟨a,h1,dU h1 (fun hd=>?_) h2,h3⟩
 rw [hd] at h2
 rcases h2 with h2|h2
 ·exact h1 h2.symm
 ·rw [vM h1] at h2;cases h2
theorem EH {t:List It} {os:List (List UInt8)} {w:List It} {x:It} (hx:x∈w) {e:En} (he:e∈QJ t os x):e∈iB t os w:=List.mem_flatMap.2 ⟨x,hx,he⟩
theorem TQ {t w:List It} (ht:OkT t) (hw:OkT w):∀ (n:Nat) (p:List UInt8),p.length≤n→(aQ t p).isSome=true→GU w (jI t w) p=true→∃ e∈dY t w,aP e.p p=true∧(e.o || iD e)=true
 | 0,p,hl,_,hc=>by
  have h1:p=[]:=by simpa using hl
  subst h1
  cases hc
 | n+1,p,hl,hs,hc=>by
  obtain ⟨_,hm⟩:=lY ht hw
  obtain ⟨a,h1,h2,h3⟩:=ZR hc
  obtain ⟨m,h4,h5⟩:=qN ht.par h1 _ _ (Nat.le_refl _) hs h2
  cases hg:aQ w a with
  | none =>
   cases hca:GU w (jI t w) a
   ·obtain ⟨y,hy,rfl,_⟩:=cH h4
    exact ⟨kQ y.p,(hm _).2 (.inr ⟨y,hy,rfl,by rw [hg];rfl,hca⟩),h2,rfl⟩
   ·have:=GX h1 h2
    obtain ⟨e,h6,h7,h8⟩:=TQ ht hw n a (by omega) (by rw [h4];rfl) hca
    exact ⟨e,h6,zH ((PI ht hw).ne e h6) h7 h2,h8⟩
  | some k =>
   obtain ⟨x,hx,rfl,rfl⟩:=cH hg
   rw [hg,Option.getD_some,Option.isSome_some,Bool.not_true,Bool.false_or] at h3
   cases hi:isB (jI t w) x.p
   ·rw [hi,Bool.or_false] at h3
    refine ⟨⟨x.p,1,false,x.n⟩,(hm _).2 (.inl (EH hx ?_)),h2,?_⟩
    ·unfold QJ
     rw [hi,if_neg (by decide),h4,Option.getD_some]
     have:jF m x.n=false:=by
      unfold jF
      have:(m.k == x.n.k)=false:=by
       cases hq:m.k == x.n.k
       ·rfl
       ·rw [← eq_of_beq hq,bne,h5] at h3;cases h3
      rw [this];rfl
     rw [this]
     exact List.mem_singleton.2 rfl
    ·unfold iD
     rw [h3];rfl
   ·refine ⟨⟨x.p,1,true,x.n⟩,(hm _).2 (.inl (EH hx ?_)),h2,rfl⟩
    unfold QJ
    rw [hi,if_pos rfl]
    exact List.mem_singleton.2 rfl
theorem zFl {t w:List It} (ht:OkT t) (hw:OkT w) (p:List UInt8):aQ (fB t (dY t w)) p=aQ w p:=by
 obtain ⟨hs,hm⟩:=lY ht hw
 have hok:=PI ht hw
 have hn:=hok.ne
 rw [zC9 ht.par hs hn]
 cases he:iF (dY t w) p with
 | some e =>
  obtain ⟨h1,rfl⟩:=tY he
  rcases (hm e).1 h1 with h|⟨y,hy,rfl,h3,_⟩
  ·obtain ⟨x,hx,rfl⟩:=jM h
   exact (cW hw.srt hx).symm
  ·show none=aQ w y.p
   cases hg:aQ w y.p with
   | none=>rfl
   | some n=>rw [hg] at h3;cases h3
 | none =>
  have hno:=HI he
  have hput:∀ x∈w,x.p=p→isB (jI t w) p=false∧∃ m,aQ t p=some m∧jF m x.n=true:=fun x hx hp=>by
   subst hp
   cases hi:isB (jI t w) x.p
   ·refine ⟨rfl,?_⟩
    cases hc:(!(aQ t x.p).isSome || !jF ((aQ t x.p).getD nd0) x.n)
    ·cases hg:aQ t x.p with
     | none=>rw [hg] at hc;cases hc
     | some m =>
      rw [hg,Option.getD_some] at hc
      exact ⟨m,rfl,by simpa using hc⟩
    ·have:=hno ⟨x.p,1,false,x.n⟩ ((hm _).2 (.inl (EH hx (by
      unfold QJ
      rw [hi,if_neg (by decide),hc]
      exact List.mem_singleton.2 rfl))))
     simp at this
   ·have:=hno ⟨x.p,1,true,x.n⟩ ((hm _).2 (.inl (EH hx (by
     unfold QJ
     rw [hi,if_pos rfl]
     exact List.mem_singleton.2 rfl))))
    simp at this
  cases hsh:zAD (dY t w) p
  ·show aQ t p=aQ w p
   cases hg:aQ w p with
   | some n =>
    obtain ⟨x,hx,rfl,rfl⟩:=cH hg
    obtain ⟨_,m,h1,h2⟩:=hput x hx rfl
    obtain ⟨y,hy,_,rfl⟩:=cH h1
    rw [h1,XH (ht.its y hy).2.2.1 (ht.its y hy).2.2.2 (hw.its x hx).2.2.1 (hw.its x hx).2.2.2 h2]
   | none =>
    cases hgt:aQ t p with
    | none=>rfl
    | some n =>
     exfalso
     obtain ⟨y,hy,rfl,_⟩:=cH hgt
     cases hc:GU w (jI t w) y.p
     ·have:=hno (kQ y.p) ((hm _).2 (.inr ⟨y,hy,rfl,by rw [hg];rfl,hc⟩))
      rw [show (kQ y.p).p=y.p from rfl] at this
      simp at this
     ·obtain ⟨e,h1,h2,h3⟩:=TQ ht hw _ _ (Nat.le_refl _) (by rw [hgt];rfl) hc
      rw [(qR hs hn _).2 ⟨e,h1,h2,h3⟩] at hsh
      cases hsh
  ·show none=aQ w p
   cases hg:aQ w p with
   | none=>rfl
   | some n =>
    exfalso
    obtain ⟨e,h1,h2,h3⟩:=(qR hs hn p).1 hsh
    obtain ⟨m,h4,h5⟩:=qN hw.par (hn e h1) _ _ (Nat.le_refl _) (by rw [hg];rfl) h2
    rcases (hm e).1 h1 with h|⟨y,hy,rfl,h6,_⟩
    ·obtain ⟨x,hx,rfl⟩:=jM h
     rw [show (En.mk x.p 1 (isB (jI t w) x.p) x.n).p=x.p from rfl,cW hw.srt hx] at h4
     have h4:=Option.some.inj h4
     have hsf:iD ⟨x.p,1,isB (jI t w) x.p,x.n⟩=false:=by
      unfold iD
      simp only [h4,bne,h5]
      rfl
     rw [hsf,Bool.or_false] at h3
     have hb:=DR hw hx h3
     unfold zDf at hb
     simp only [Bool.and_eq_true,Bool.not_eq_true'] at hb
     have hst:=hb.2
     obtain ⟨v,hv,rfl,rfl⟩:=cH hg
     obtain ⟨_,k,h7,_⟩:=hput v hv rfl
     obtain ⟨z,hz,hzp,_⟩:=cH h7
     have:KK t w x.p=true:=List.any_eq_true.2 ⟨z,hz,by rw [hzp,hg];exact h2⟩
     rw [this] at hst
     cases hst
    ·rw [show (kQ y.p).p=y.p from rfl] at h4
     rw [h4] at h6
     cases h6
theorem zHS {s t:List It} (hs:Srt s) (ht:Srt t) (h:∀ p,aQ s p=aQ t p):s=t:=by
 have key:∀ {a b:List It},Srt a→(∀ p,aQ a p=aQ b p)→∀ x,x∈a→x∈b:=fun ha he x hx=>by
  have h1:=cW ha hx
  rw [he] at h1
  obtain ⟨y,hy,h2,h3⟩:=cH h1
  have:y=x:=by cases y;cases x;simp only at h2 h3;subst h2;subst h3;rfl
  rw [← this];exact hy
 exact CP hs ht fun x=>⟨key hs h x,key ht (fun p=>(h p).symm) x⟩
theorem zDQ {t w:List It} (ht:OkT t) (hw:OkT w):qC t (dY t w)=(w,true):=by
 have e:fB t (dY t w)=w:=zHS (xT ht.srt) hw.srt (zFl ht hw)
 unfold qC
 rw [e,zAa hw,if_pos rfl]
theorem DG {l:List En}:∀ {ls:List (List En)} {t:List It},oA t (ls++[l])=if (oA t ls).2 then (if (qC (oA t ls).1 l).2 then ((qC (oA t ls).1 l).1,true) else ([],false)) else ([],false)
 | [],_=>rfl
 | x::r,t=>by
  rw [List.cons_append,oA,oA]
  cases (qC t x).2
  ·rfl
  ·exact DG
end
end Go.Dm
