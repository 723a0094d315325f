/- Part 8 of the proof of roomForks_card, set without needless blanks. No condition. -/
import Derived.Test.YtbpblnmhlhpebaaGreatDoorC06
set_option linter.unusedSimpArgs false
set_option linter.unusedVariables false
section
section
namespace Go.Dm
open Go
theorem cM:∀ a:List UInt8,bO a a=false
 | []=>rfl
 | x::a=>by
  show (decide (x<x) || (x == x && bO a a))=false
  simp [cM a]
theorem qJ (x y:UInt8) (a b:List UInt8):bO (x::a) (y::b)=(decide (x<y) || (x == y && bO a b)):=rfl
theorem DW (a:List UInt8):bO a []=false:=by cases a <;> rfl
theorem cD:∀ {a b c:List UInt8},bO a b=true→bO b c=true→bO a c=true
 | _,[],_,h,_=>by rw [DW] at h;cases h
 | _,_::_,[],_,h=>by rw [DW] at h;cases h
 | [],_::_,_::_,_,_=>rfl
 | x::a,y::b,z::c,h1,h2=>by
  rw [qJ] at *
  simp only [Bool.or_eq_true,Bool.and_eq_true,decide_eq_true_eq,beq_iff_eq] at *
  rcases h1 with h1|⟨rfl,h1⟩ <;> rcases h2 with h2|⟨rfl,h2⟩
  ·exact .inl (UInt8.lt_trans h1 h2)
  ·exact .inl h1
  ·exact .inl h2
  ·exact .inr ⟨rfl,cD h1 h2⟩
theorem dS:∀ {a b:List UInt8},bO a b=false→bO b a=false→a=b
 | [],[],_,_=>rfl
 | [],_::_,h,_=>by cases h
 | _::_,[],_,h=>by cases h
 | x::a,y::b,h1,h2=>by
  rw [qJ] at *
  simp only [Bool.or_eq_false_iff,decide_eq_false_iff_not] at h1 h2
  have hxy:x=y:=by
   have h3:=h1.1;have h4:=h2.1
   rw [UInt8.lt_iff_toNat_lt] at h3 h4
   exact UInt8.toNat_inj.1 (by omega)
  subst hxy
  have h5:bO a b=false:=by simpa using h1.2
  have h6:bO b a=false:=by simpa using h2.2
  rw [dS h5 h6]
theorem eE {a b:List UInt8} (h:bO a b=true):bO b a=false:=by
 cases h2:bO b a
 ·rfl
 ·have:=cD h h2
  rw [cM] at this;cases this
theorem jP {a b:List UInt8} (h:bO a b=true):(a == b)=false:=by
 cases h2:a == b
 ·rfl
 ·rw [eq_of_beq h2,cM] at h;cases h
abbrev Srt (t:List It):Prop:=t.Pairwise fun x y=>bO x.p y.p=true
theorem lO {p:List UInt8} {n:Nd} {y:It}:∀ {t:List It} {d:Bool},y∈uC p n d t→y=⟨p,n⟩∨y∈t
 | [],d,h=>by cases d <;> simp [uC] at h;exact .inl h
 | x::r,d,h=>by
  simp only [uC,List.mem_append] at h
  rcases h with h|h|h
  ·split at h <;> simp at h;exact .inl h
  ·split at h <;> simp at h;exact .inr (by simp [h])
  ·rcases lO h with h|h
   ·exact .inl h
   ·exact .inr (List.mem_cons_of_mem _ h)
theorem qU (p:List UInt8) (n:Nd):∀ t:List It,uC p n true t=lB t p
 | []=>rfl
 | x::r=>by
  simp only [uC,Bool.not_true,Bool.false_and,Bool.true_or,Bool.false_eq_true,if_false,List.nil_append,qU p n r,lB,List.filter_cons]
  split <;> rfl
theorem vX {p:List UInt8} {n:Nd}:∀ {t:List It},Srt t→Srt (qE t p n)
 | [],_=>by simp [qE,uC]
 | x::r,h=>by
  have h1:=List.pairwise_cons.1 h
  unfold qE
  cases hb:bO x.p p
  ·simp only [uC,hb,Bool.not_false,Bool.true_and,if_true,Bool.false_or,qU]
   have hd:Srt (lB r p):=h1.2.filter _
   have hlt:∀ y∈r,bO p y.p=true:=fun y hy=>by
    have:=h1.1 y hy
    cases hp:bO p x.p
    ·rw [← dS hb hp];exact this
    ·exact cD hp this
   cases he:x.p == p
   ·have hp:bO p x.p=true:=by
     cases hp:bO p x.p
     ·rw [dS hb hp] at he;simp at he
     ·rfl
    simp only [Bool.not_false,if_true,List.cons_append,List.nil_append]
    refine List.pairwise_cons.2 ⟨fun y hy=>?_,List.pairwise_cons.2 ⟨fun y hy=>h1.1 y (List.mem_filter.1 hy).1,hd⟩⟩
    rcases List.mem_cons.1 hy with rfl|hy
    ·exact hp
    ·exact hlt y (List.mem_filter.1 hy).1
   ·simp only [Bool.not_true,Bool.false_eq_true,if_false,List.cons_append,List.nil_append]
    exact List.pairwise_cons.2 ⟨fun y hy=>hlt y (List.mem_filter.1 hy).1,hd⟩
  ·simp only [uC,hb,Bool.not_true,Bool.and_false,Bool.false_eq_true,if_false,Bool.or_false,List.nil_append,jP hb,Bool.not_false,if_true,List.singleton_append]
   refine List.pairwise_cons.2 ⟨fun y hy=>?_,vX h1.2⟩
   rcases lO hy with rfl|hy
   ·exact hb
   ·exact h1.1 y hy
def OkI (x:It):Prop:=x.p≠[]∧bV x.p=true∧aU x.n=true∧x.n.t<18446744073709551616
structure OkT0 (t:List It):Prop where
 srt:Srt t
 its:∀ x∈t,OkI x
 len:t.length≤120
theorem OkT0.nil:OkT0 []:=⟨List.Pairwise.nil,fun x h=>by simp at h,by simp⟩
theorem pX {p:List UInt8} (h:bV p=true):p.length≤120:=by
 unfold bV at h
 simp only [Bool.or_eq_true,Bool.and_eq_true,decide_eq_true_eq,beq_iff_eq] at h
 rcases h with rfl|h
 ·simp
 ·omega
theorem gI {n:Nd} (h:aU n=true):n.d.length≤2000:=by
 unfold aU iZ at h
 rw [Bool.and_eq_true] at h
 have h:=h.2
 split at h
 ·simp only [decide_eq_true_eq] at h;omega
 ·split at h
  ·simp only [beq_iff_eq] at h;omega
  ·split at h
   ·simp only [Bool.and_eq_true,decide_eq_true_eq] at h;omega
   ·cases h
theorem OkT0.plen {t:List It} (h:OkT0 t):∀ x∈t,x.p.length≤120:=fun x hx=>pX (h.its x hx).2.1
theorem OkT0.dlen {t:List It} (h:OkT0 t):∀ x∈t,x.n.d.length≤2000:=fun x hx=>gI (h.its x hx).2.2.1
theorem OkT0.filter {t:List It} (h:OkT0 t) (f:It→Bool):OkT0 (t.filter f) :=
 ⟨h.srt.filter _,fun x hx=>h.its x (List.mem_filter.1 hx).1,Nat.le_trans (List.length_filter_le ..) h.len⟩
theorem OkT0.remove {t:List It} (h:OkT0 t) (p:List UInt8):OkT0 (bN t p):=(h.filter _).filter _
theorem OkT0.tlen {t:List It} (h:OkT0 t):∀ x∈t,x.n.t<18446744073709551616:=fun x hx=>(h.its x hx).2.2.2
theorem OkT0.put {t:List It} {p:List UInt8} {n:Nd} (h:OkT0 t) (hnt:n.t<18446744073709551616) (he:(jQ t p n).2=0):OkT0 (jQ t p n).1:=by
 have hb:OkT0 (if n.k != 2 then bD t p else t):=by split;exact h.filter _;exact h
 unfold jQ at he ⊢
 generalize (if n.k != 2 then bD t p else t)=u at he hb ⊢
 split at he
 ·cases he
 ·rename_i h1
  split at he
  ·cases he
  ·rename_i h2
   split at he
   ·cases he
   ·rename_i h3
    rw [if_neg h1,if_neg h2,if_neg h3]
    simp only [Bool.or_eq_true,not_or,beq_iff_eq,Bool.not_eq_true',Bool.not_eq_false] at h1
    refine ⟨vX hb.srt,fun x hx=>?_,?_⟩
    ·rcases lO hx with rfl|hx
     ·exact ⟨h1.1.1,h1.1.2,h1.2,hnt⟩
     ·exact hb.its x hx
    ·simp only [decide_eq_true_eq] at h3
     show (qE _ p n).length≤120
     omega
theorem rF (r:List UInt8):∀ (s w:List UInt8),vS w (s++47::r)=vS w s++vS [] r
 | [],w=>by simp [vS]
 | b::s,w=>by
  simp only [List.cons_append,vS]
  split
  ·rw [rF r s []];rfl
  ·rw [rF r s (w++[b])]
theorem fR {a q:List UInt8} (ha:a≠[]) (h:aO a q=true):∃ r,q=a++47::r:=by
 unfold aO at h
 rw [if_neg (by simpa using ha)] at h
 simp only [Bool.or_eq_true,Bool.and_eq_true,decide_eq_true_eq,beq_iff_eq] at h
 rcases h with ⟨_,h⟩|⟨_,h⟩
 ·refine ⟨q.drop (a.length+1),?_⟩
  have:=List.take_append_drop (a.length+1) q
  rw [h] at this
  rw [List.append_assoc] at this
  exact this.symm
 ·exact ⟨[],h⟩
theorem OkI.moved {a b:List UInt8} {x:It} (ha:a≠[]) (hb:b≠[]) (hbp:bV b=true) (hx:OkI x) (hc:(!(x.p == a) && !aO a x.p)=false) (hl:¬ decide ((120:Int)<(b.length+(x.p.drop a.length).length:Nat))=true):OkI ⟨b++x.p.drop a.length,x.n⟩:=by
 refine ⟨by simp [hb],?_,hx.2.2⟩
 simp only [decide_eq_true_eq] at hl
 have hl2:(b++x.p.drop a.length).length≤120:=by rw [List.length_append];omega
 have hbq:(oL b).all aX=true:=by
  unfold bV at hbp
  have:(b == [])=false:=by simpa using hb
  rw [this,Bool.false_or,Bool.and_eq_true] at hbp
  exact hbp.1
 have hxq:(oL x.p).all aX=true:=by
  have h:=hx.2.1
  unfold bV at h
  have:(x.p == [])=false:=by simpa using hx.1
  rw [this,Bool.false_or,Bool.and_eq_true] at h
  exact h.1
 unfold bV
 simp only [Bool.or_eq_true,Bool.and_eq_true,decide_eq_true_eq]
 refine .inr ⟨?_,by omega⟩
 cases he:x.p == a
 ·rw [he] at hc
  have hbl:aO a x.p=true:=by simpa using hc
  obtain ⟨r,hr⟩:=fR ha hbl
  have hdr:x.p.drop a.length=47::r:=by rw [hr];simp
  rw [hdr]
  rw [hr] at hxq
  unfold oL at hxq hbq ⊢
  rw [rF,List.all_append,Bool.and_eq_true] at hxq
  rw [rF,List.all_append,hbq,hxq.2];rfl
 ·have hdr:x.p.drop a.length=[]:=by rw [eq_of_beq he];simp
  rw [hdr,List.append_nil]
  exact hbq
theorem vT {a b:List UInt8} (ha:a≠[]) (hb:b≠[]) (hbp:bV b=true):∀ {t out:List It},(∀ x∈t,OkI x)→Srt out→(∀ x∈out,OkI x)→(dV a b out t).2=0→Srt (dV a b out t).1∧(∀ x∈(dV a b out t).1,OkI x)
 | [],out,_,h2,h3,_=>⟨h2,h3⟩
 | x::r,out,h1,h2,h3,h4=>by
  have hr:∀ y∈r,OkI y:=fun y hy=>h1 y (List.mem_cons_of_mem _ hy)
  rw [dV] at h4 ⊢
  split at h4
  ·rename_i hc;rw [if_pos hc];exact vT ha hb hbp hr h2 h3 h4
  ·rename_i hc
   split at h4
   ·cases h4
   ·rename_i hl
    rw [if_neg hc,if_neg hl]
    have hc2:(!(x.p == a) && !aO a x.p)=false:=by simpa using hc
    have hxm:=(h1 x List.mem_cons_self).moved ha hb hbp hc2 hl
    refine vT ha hb hbp hr (vX h2) (fun y hy=>?_) h4
    rcases lO hy with rfl|hy
    ·exact hxm
    ·exact h3 y hy
def mvd (a:List UInt8) (x:It):Bool:=!(!(x.p == a) && !aO a x.p)
theorem xA {a b:List UInt8}:∀ (t out:List It),(dV a b out t).1.length≤out.length+(t.filter (mvd a)).length
 | [],out=>by simp [dV]
 | x::r,out=>by
  cases hm:mvd a x
  ·have hc:(!(x.p == a) && !aO a x.p)=true:=by simpa only [mvd,Bool.not_eq_false'] using hm
   rw [dV,if_pos hc,List.filter_cons,if_neg (by rw [hm];decide)]
   exact xA r out
  ·have hc:¬ (!(x.p == a) && !aO a x.p)=true:=by simp only [mvd,Bool.not_eq_true'] at hm;rw [hm];decide
   rw [dV,if_neg hc,List.filter_cons,if_pos hm,List.length_cons]
   split
   ·exact Nat.zero_le _
   ·have h1:=xA (a:=a) (b:=b) r (qE out (b++x.p.drop a.length) x.n)
    have h2:=lP out (b++x.p.drop a.length) x.n
    omega
theorem sC (a:List UInt8):∀ t:List It,(bN t a).length+(t.filter (mvd a)).length=t.length
 | []=>rfl
 | x::r=>by
  have h:=sC a r
  unfold bN lB bD at h ⊢
  rw [List.filter_filter] at h ⊢
  simp only [List.filter_cons]
  cases hm:mvd a x
  ·have hc:(!(x.p == a) && !aO a x.p)=true:=by simpa only [mvd,Bool.not_eq_false'] using hm
   rw [if_pos hc,if_neg (by decide),List.length_cons,List.length_cons];omega
  ·have hc:¬ (!(x.p == a) && !aO a x.p)=true:=by simp only [mvd,Bool.not_eq_true'] at hm;rw [hm];decide
   rw [if_neg hc,if_pos rfl,List.length_cons,List.length_cons];omega
theorem OkT0.move {t:List It} {a b:List UInt8} (h:OkT0 t) (he:(hD t a b).2=0):OkT0 (hD t a b).1:=by
 unfold hD at he ⊢
 split at he
 ·cases he
 ·rename_i h1
  rw [if_neg h1]
  split at he
  ·cases he
  ·rename_i h2
   rw [if_neg h2]
   split at he
   ·cases he
   ·rename_i h3
    rw [if_neg h3]
    split at he
    ·cases he
    ·rename_i h4
     rw [if_neg h4]
     split at he
     ·cases he
     ·rename_i h5
      rw [if_neg h5]
      simp only [Bool.or_eq_true,not_or,beq_iff_eq,Bool.not_eq_true',Bool.not_eq_false] at h1
      have hr:=h.remove a
      obtain ⟨k1,k2⟩:=vT h1.1.1.1 h1.1.1.2 h1.2 h.its hr.srt hr.its he
      refine ⟨k1,k2,?_⟩
      have k3:=xA (a:=a) (b:=b) t (bN t a)
      have k4:=sC a t
      have k5:=h.len
      omega
end Go.Dm
end
section
namespace Go.Dm
open Go
theorem bZ {p:List UInt8} {n:Nd}:∀ {t:List It},aR t p=some n→∃ x∈t,x.p=p∧x.n=n
 | [],h=>by simp [aR] at h
 | x::r,h=>by
  rw [aR] at h
  split at h
  ·rename_i hx
   exact ⟨x,List.mem_cons_self,eq_of_beq hx,by simpa using h⟩
  ·obtain ⟨y,hy,h2⟩:=bZ h
   exact ⟨y,List.mem_cons_of_mem _ hy,h2⟩
def Par (t:List It):Prop:=∀ x∈t,aW t (aS x.p)=true
theorem gG (p:List UInt8):∀ k,k≤p.length→(cZ p k=none∧∀ j (h:j<p.length),j<k→p[j]≠47)∨(∃ i,∃ h:i<p.length,cZ p k=some i∧i<k∧p[i]=47∧∀ j (h:j<p.length),i<j→j<k→p[j]≠47)
 | 0,_=>.inl ⟨rfl,fun j _ h=>by omega⟩
 | k+1,hk=>by
  have hlt:k<p.length:=by omega
  have hg:p.getD k 0=p[k]:=by simp [List.getD_eq_getElem?_getD,hlt]
  rw [cZ,hg]
  by_cases hb:p[k]=47
  ·rw [hb,if_pos (by decide)]
   exact .inr ⟨k,hlt,rfl,by omega,hb,fun j h h1 h2=>by omega⟩
  ·have:¬ ((p[k].toNat:Int) == 47)=true:=by
    intro h
    have h:=eq_of_beq h
    exact hb (UInt8.toNat_inj.1 (by have:(47:UInt8).toNat=47:=rfl;omega))
   rw [if_neg this]
   rcases gG p k (by omega) with ⟨h1,h2⟩|⟨i,h,h1,h2,h3,h4⟩
   ·refine .inl ⟨h1,fun j hj hjk=>?_⟩
    rcases Nat.lt_or_ge j k with h|h
    ·exact h2 j hj h
    ·have:j=k:=by omega
     subst this;exact hb
   ·refine .inr ⟨i,h,h1,by omega,h3,fun j hj hij hjk=>?_⟩
    rcases Nat.lt_or_ge j k with h'|h'
    ·exact h4 j hj hij h'
    ·have:j=k:=by omega
     subst this;exact hb
theorem wC (p:List UInt8):(aS p=[]∧47 ∉ p)∨∃ n,p=aS p++47::n∧47 ∉ n:=by
 unfold aS
 rcases gG p p.length (Nat.le_refl _) with ⟨h1,h2⟩|⟨i,h,h1,h2,h3,h4⟩
 ·rw [h1]
  refine .inl ⟨rfl,fun hm=>?_⟩
  obtain ⟨j,hj,he⟩:=List.mem_iff_getElem.1 hm
  exact h2 j hj hj he
 ·rw [h1]
  refine .inr ⟨p.drop (i+1),?_,fun hm=>?_⟩
  ·have:=List.take_append_drop i p
   rw [List.drop_eq_getElem_cons h,h3] at this
   exact this.symm
  ·obtain ⟨j,hj,he⟩:=List.mem_iff_getElem.1 hm
   rw [List.getElem_drop] at he
   rw [List.length_drop] at hj
   exact h4 (i+1+j) (by omega) (by omega) (by omega) he
theorem LM {d n d' n':List UInt8} (h:d++47::n=d'++47::n') (hn:47 ∉ n) (hn':47 ∉ n'):d=d'∧n=n':=by
 rcases List.append_eq_append_iff.1 h with ⟨c,h1,h2⟩|⟨c,h1,h2⟩
 ·cases c with
  | nil=>simp at h1 h2;exact ⟨h1.symm,h2⟩
  | cons x c =>
   simp only [List.cons_append,List.cons.injEq] at h2
   exact absurd (by rw [h2.2];simp) hn
 ·cases c with
  | nil=>simp at h1 h2;exact ⟨h1,h2.symm⟩
  | cons x c =>
   simp only [List.cons_append,List.cons.injEq] at h2
   exact absurd (by rw [h2.2];simp) hn'
theorem zLm {d n:List UInt8} (hn:47 ∉ n):aS (d++47::n)=d:=by
 rcases wC (d++47::n) with ⟨_,h⟩|⟨m,h,hm⟩
 ·exact absurd (by simp) h
 ·exact ((LM h hn hm).1).symm
theorem qM {p:List UInt8} (h:aS p≠[]):∃ n,p=aS p++47::n∧47 ∉ n:=by
 rcases wC p with ⟨h1,_⟩|h1
 ·exact absurd h1 h
 ·exact h1
theorem jC {a r:List UInt8} (ha:a≠[]):aO a (a++47::r)=true:=by
 unfold aO
 rw [if_neg (by simpa using ha)]
 cases r with
 | nil=>simp
 | cons b r =>
  have h1:decide (((a++47::b::r).length:Int) > a.length+1)=true:=by simp;omega
  have h2:(a++47::b::r).take (a.length+1)=a++[47]:=by
   rw [List.take_append];simp [List.take_of_length_le]
  rw [h1,h2];simp
theorem zAg {a q:List UInt8} (ha:a≠[]):aO a q=true↔∃ r,q=a++47::r:=⟨fR ha,fun ⟨_,h⟩=>h▸jC ha⟩
theorem dQ {a q:List UInt8} (ha:a≠[]) (hd:aS q≠[]) (h:aS q=a∨aO a (aS q)=true):aO a q=true:=by
 obtain ⟨n,hn,_⟩:=qM hd
 rcases h with h|h
 ·rw [hn,h];exact jC ha
 ·obtain ⟨r,hr⟩:=fR ha h
  rw [hn,hr,List.append_assoc];exact jC ha
theorem gY {a q:List UInt8} (ha:a≠[]) (h:aO a q=true):aS q=a∨aO a (aS q)=true:=by
 obtain ⟨r,hr⟩:=fR ha h
 rcases wC q with ⟨_,h1⟩|⟨n,h1,h2⟩
 ·exact absurd (by rw [hr];simp) h1
 ·rw [hr] at h1
  rcases List.append_eq_append_iff.1 h1 with ⟨c,e1,e2⟩|⟨c,e1,e2⟩
  ·cases c with
   | nil=>left;rw [hr];simpa using e1
   | cons x c =>
    simp only [List.cons_append,List.cons.injEq] at e2
    right
    rw [hr,e1,← e2.1];exact jC ha
  ·cases c with
   | nil=>left;rw [hr];simpa using e1.symm
   | cons x c =>
    simp only [List.cons_append,List.cons.injEq] at e2
    exact absurd (by rw [e2.2];simp) h2
theorem sD {p:List UInt8} (h:aS p≠[]):(aS p).length<p.length:=by
 obtain ⟨n,hn,_⟩:=qM h
 have:=congrArg List.length hn
 simp only [List.length_append,List.length_cons] at this
 omega
theorem fI (g:List UInt8→Bool) (q:List UInt8):∀ t:List It,aR (t.filter fun x=>g x.p) q=if g q then aR t q else none
 | []=>by simp [aR]
 | x::r=>by
  rw [List.filter_cons]
  by_cases hx:x.p=q
  ·subst hx
   cases hg:g x.p
   ·simp only [Bool.false_eq_true,if_false]
    have:=fI g x.p r
    simpa [hg] using this
   ·simp [aR]
  ·have hb:(x.p == q)=false:=by simpa using hx
   split
   ·simp only [aR,hb,Bool.false_eq_true,if_false];exact fI g q r
   ·simp only [aR,hb,Bool.false_eq_true,if_false];exact fI g q r
theorem eY (t:List It) (p:List UInt8):bN t p=t.filter fun x=>!(x.p == p) && !aO p x.p:=by
 unfold bN lB bD
 rw [List.filter_filter]
theorem xG (t:List It) (p q:List UInt8):aR (bN t p) q=if (!(q == p) && !aO p q) then aR t q else none:=by
 rw [eY];exact fI (fun q=>!(q == p) && !aO p q) q t
theorem AO (t:List It) (p q:List UInt8):aR (bD t p) q=if !aO p q then aR t q else none:=fI (fun q=>!aO p q) q t
theorem NR {p q:List UInt8} (h:(q == p)=false) (t:List It):aR (lB t p) q=aR t q:=by
 unfold lB
 rw [fI (fun q=>!(q == p)) q t,h];rfl
theorem HE {p q:List UInt8} {n:Nd}:∀ t:List It,aR (uC p n false t) q=if q == p then some n else aR t q
 | []=>by
  simp only [uC,Bool.false_eq_true,if_false,aR]
  rw [show (p == q)=(q == p) from BEq.comm]
 | x::r=>by
  have hc:(p == q)=(q == p):=BEq.comm
  simp only [uC,Bool.not_false,Bool.true_and,Bool.false_or]
  cases hb:bO x.p p
  ·simp only [Bool.not_false,if_true,List.singleton_append,aR,hc,qU]
   cases hq:q == p
   ·simp only [Bool.false_eq_true,if_false]
    have hd:=NR hq r
    cases hx:x.p == p
    ·simp only [Bool.not_false,if_true,List.singleton_append,aR,hd]
    ·have hxq:(x.p == q)=false:=by
      rw [eq_of_beq hx,hc];exact hq
     simp only [Bool.not_true,Bool.false_eq_true,if_false,List.nil_append,hd,hxq]
   ·rfl
  ·have ih:=HE (p:=p) (q:=q) (n:=n) r
   have hx:(x.p == p)=false:=jP hb
   simp only [Bool.not_true,Bool.false_eq_true,if_false,List.nil_append,hx,Bool.not_false,if_true,List.singleton_append,aR,ih]
   cases hq:q == p
   ·rfl
   ·have hxq:(x.p == q)=false:=by rw [eq_of_beq hq];exact hx
    simp [hxq]
theorem nT {p q:List UInt8} {n:Nd} (t:List It):aR (qE t p n) q=if q == p then some n else aR t q:=HE t
theorem cO {t:List It} {q:List UInt8} (hq:q≠[]) (h:aW t q=true):∃ m,aR t q=some m∧m.k=2:=by
 unfold aW at h
 have:(q == [])=false:=by simpa using hq
 rw [this,Bool.false_or] at h
 cases hg:aR t q with
 | none=>rw [hg] at h;cases h
 | some m=>rw [hg] at h;exact ⟨m,rfl,by simpa using h⟩
theorem eR {t:List It} {q:List UInt8} {m:Nd} (h:aR t q=some m) (hk:m.k=2):aW t q=true:=by
 unfold aW;rw [h];simp [hk]
theorem Par.remove {t:List It} (h:Par t) (hne:∀ x∈t,x.p≠[]) (p:List UInt8):Par (bN t p):=by
 intro x hx
 rw [eY,List.mem_filter] at hx
 obtain ⟨hx,hg⟩:=hx
 by_cases hq:aS x.p=[]
 ·rw [hq];rfl
 obtain ⟨m,h1,h2⟩:=cO hq (h x hx)
 refine eR (m:=m) ?_ h2
 rw [xG,h1]
 simp only [Bool.and_eq_true,Bool.not_eq_true'] at hg
 by_cases hp:p=[]
 ·subst hp
  have:=hne x hx
  simp [aO,this] at hg
 have k1:(aS x.p == p)=false:=by
  cases hc:aS x.p == p
  ·rfl
  ·rw [dQ hp hq (.inl (eq_of_beq hc))] at hg;cases hg.2
 have k2:aO p (aS x.p)=false:=by
  cases hc:aO p (aS x.p)
  ·rfl
  ·rw [dQ hp hq (.inr hc)] at hg;cases hg.2
 rw [k1,k2];rfl
theorem Par.set {t u:List It} {p:List UInt8} {n:Nd} (h:Par t) (hp:p≠[]) (hd:aW t (aS p)=true) (hu:u=if n.k != 2 then bD t p else t):Par (qE u p n):=by
 have key:∀ q,q≠[]→q≠p→(n.k≠2→aO p q=false)→∀ m,aR t q=some m→aR (qE u p n) q=some m:=by
  intro q h0 h1 h2 m hm
  rw [nT]
  have:(q == p)=false:=by simpa using h1
  rw [this,hu]
  simp only [Bool.false_eq_true,if_false]
  split
  ·rename_i hk
   rw [AO,h2 (by simpa using hk)];simpa using hm
  ·exact hm
 intro x hx
 by_cases hq:aS x.p=[]
 ·rw [hq];rfl
 rcases lO hx with rfl|hx
 ·obtain ⟨m,h1,h2⟩:=cO hq hd
  have hlt:=sD hq
  simp only at hq hlt ⊢
  refine eR (key _ hq (fun e=>by rw [e] at hlt;omega) (fun _=>?_) m h1) h2
  cases hb:aO p (aS p)
  ·rfl
  ·have:=dG hb;omega
 ·have hxt:x∈t∧(n.k≠2→aO p x.p=false):=by
   rw [hu] at hx
   split at hx
   ·have:=List.mem_filter.1 hx
    exact ⟨this.1,fun _=>by simpa using this.2⟩
   ·rename_i hk
    exact ⟨hx,fun h=>absurd (by simpa using h) hk⟩
  obtain ⟨m,h1,h2⟩:=cO hq (h x hxt.1)
  by_cases he:aS x.p=p
  ·have hk:n.k=2:=by
    rcases Decidable.em (n.k=2) with h|h
    ·exact h
    ·have h3:=hxt.2 h
     rw [dQ hp hq (.inl he)] at h3;cases h3
   refine eR (m:=n) ?_ hk
   rw [nT,he];simp
  ·refine eR (key _ hq he (fun hk=>?_) m h1) h2
   have h3:=hxt.2 hk
   cases hb:aO p (aS x.p)
   ·rfl
   ·rw [dQ hp hq (.inr hb)] at h3;cases h3
theorem zEl {t:List It} {b:List UInt8} (h:Par t) (hb:b≠[]):∀ (n:Nat) (q:List UInt8),q.length≤n→(aR t q).isSome=true→aO b q=true→(aR t b).isSome=true
 | 0,q,hl,_,hq=>by
  have h1:q=[]:=by simpa using hl
  subst h1
  have h2:=dG hq
  have:b=[]:=by simpa using h2
  exact absurd this hb
 | n+1,q,hl,hs,hq=>by
  obtain ⟨m,hm⟩:=Option.isSome_iff_exists.1 hs
  obtain ⟨x,hx,rfl,_⟩:=bZ hm
  have hdx:=h x hx
  rcases gY hb hq with h1|h1
  ·rw [h1] at hdx
   obtain ⟨m,h2,_⟩:=cO hb hdx
   rw [h2];rfl
  ·have h0:aS x.p≠[]:=by
    intro h0
    rw [h0] at h1
    have:=dG h1
    have:b=[]:=by simpa using this
    exact absurd this hb
   obtain ⟨m,h2,_⟩:=cO h0 hdx
   have hlt:=sD h0
   exact zEl h hb n _ (by omega) (by rw [h2];rfl) h1
theorem rE {a b:List UInt8} {z:It}:∀ {t out:List It},(dV a b out t).2=0→z∈(dV a b out t).1→z∈out∨∃ y∈t,mvd a y=true∧z=⟨b++y.p.drop a.length,y.n⟩
 | [],out,_,h=>.inl h
 | x::r,out,h0,h=>by
  rw [dV] at h0 h
  split at h0
  ·rename_i hc
   rw [if_pos hc] at h
   rcases rE h0 h with h|⟨y,hy,h⟩
   ·exact .inl h
   ·exact .inr ⟨y,List.mem_cons_of_mem _ hy,h⟩
  ·rename_i hc
   split at h0
   ·cases h0
   ·rename_i hl
    rw [if_neg hc,if_neg hl] at h
    have hm:mvd a x=true:=by
     have hc2:(!(x.p == a) && !aO a x.p)=false:=by simpa only [Bool.not_eq_true] using hc
     rw [mvd,hc2];rfl
    rcases rE h0 h with h|⟨y,hy,h⟩
    ·rcases lO h with rfl|h
     ·exact .inr ⟨x,List.mem_cons_self,hm,rfl⟩
     ·exact .inl h
    ·exact .inr ⟨y,List.mem_cons_of_mem _ hy,h⟩
theorem gX {a:List UInt8} (ha:a≠[]) {y:It} (h:mvd a y=true):∃ s,y.p=a++s∧(s=[]∨∃ r,s=47::r):=by
 unfold mvd at h
 simp only [Bool.not_eq_true',Bool.and_eq_false_iff,Bool.not_eq_false'] at h
 rcases h with h|h
 ·exact ⟨[],by rw [List.append_nil];exact eq_of_beq h,.inl rfl⟩
 ·obtain ⟨r,hr⟩:=fR ha h
  exact ⟨47::r,hr,.inr ⟨r,rfl⟩⟩
theorem nV {a b:List UInt8} (ha:a≠[]) {q:List UInt8}:∀ {t out:List It},(dV a b out t).2=0→(∀ y∈t,mvd a y=true→b++y.p.drop a.length≠q)→aR (dV a b out t).1 q=aR out q
 | [],_,_,_=>rfl
 | x::r,out,h0,h=>by
  have hr:∀ y∈r,mvd a y=true→b++y.p.drop a.length≠q:=fun y hy=>h y (List.mem_cons_of_mem _ hy)
  rw [dV] at h0 ⊢
  split at h0
  ·rename_i hc;rw [if_pos hc];exact nV ha h0 hr
  ·rename_i hc
   split at h0
   ·cases h0
   ·rename_i hl
    rw [if_neg hc,if_neg hl,nV ha h0 hr,nT]
    have hm:mvd a x=true:=by
     have hc2:(!(x.p == a) && !aO a x.p)=false:=by simpa only [Bool.not_eq_true] using hc
     rw [mvd,hc2];rfl
    have:=h x List.mem_cons_self hm
    have e:(q == b++x.p.drop a.length)=false:=by simpa using fun e=>this e.symm
    rw [e];rfl
theorem rW {a b:List UInt8} (ha:a≠[]) {y:It} (hm:mvd a y=true):∀ {t out:List It},Srt t→(dV a b out t).2=0→y∈t→aR (dV a b out t).1 (b++y.p.drop a.length)=some y.n
 | x::r,out,hs,h0,hy=>by
  obtain ⟨hs1,hs2⟩:=List.pairwise_cons.1 hs
  rw [dV] at h0 ⊢
  split at h0
  ·rename_i hc
   rw [if_pos hc]
   rcases List.mem_cons.1 hy with rfl|hy
   ·unfold mvd at hm;rw [hc] at hm;cases hm
   ·exact rW ha hm hs2 h0 hy
  ·rename_i hc
   split at h0
   ·cases h0
   ·rename_i hl
    rw [if_neg hc,if_neg hl]
    rcases List.mem_cons.1 hy with rfl|hy
    ·rw [nV ha h0,nT];· simp
     intro z hz hmz he
     obtain ⟨s,e1,_⟩:=gX ha hm
     obtain ⟨s',e2,_⟩:=gX ha hmz
     rw [e1,e2] at he
     simp only [List.drop_left,List.append_cancel_left_eq] at he
     have h1:=hs1 z hz
     rw [e1,e2,he,cM] at h1;cases h1
    ·exact rW ha hm hs2 h0 hy
theorem Par.move {t:List It} {a b:List UInt8} (h:Par t) (hs:Srt t) (hne:∀ x∈t,x.p≠[]) (ha:a≠[]) (hb:b≠[]) (hab:aO a b=false) (hbt:(aR t b).isSome=false) (hdb:aW t (aS b)=true) (haa:a≠b)
  (h0:(dV a b (bN t a) t).2=0):Par (dV a b (bN t a) t).1:=by
 have stay:∀ q m,q≠[]→aR t q=some m→(q == a)=false→aO a q=false→aR (dV a b (bN t a) t).1 q=some m:=by
  intro q m hq hm h1 h2
  rw [nV ha h0,xG,h1,h2];· simpa using hm
  intro y hy hmy he
  obtain ⟨s,e1,e2⟩:=gX ha hmy
  rw [e1,List.drop_left] at he
  rcases e2 with rfl|⟨r,rfl⟩
  ·rw [List.append_nil] at he
   subst he
   rw [hm] at hbt;cases hbt
  ·have:=zEl h hb q.length q (Nat.le_refl _) (by rw [hm];rfl) (by rw [← he];exact jC hb)
   rw [this] at hbt;cases hbt
 have up:∀ x∈t,(x.p == a)=false→aO a x.p=false→aW (dV a b (bN t a) t).1 (aS x.p)=true:=by
  intro x hx h1 h2
  by_cases hq:aS x.p=[]
  ·rw [hq];rfl
  obtain ⟨m,k1,k2⟩:=cO hq (h x hx)
  refine eR (stay _ m hq k1 ?_ ?_) k2
  ·cases hc:aS x.p == a
   ·rfl
   ·rw [dQ ha hq (.inl (eq_of_beq hc))] at h2;cases h2
  ·cases hc:aO a (aS x.p)
   ·rfl
   ·rw [dQ ha hq (.inr hc)] at h2;cases h2
 intro z hz
 rcases rE h0 hz with hz|⟨y,hy,hm,rfl⟩
 ·rw [eY,List.mem_filter] at hz
  obtain ⟨hz,hg⟩:=hz
  simp only [Bool.and_eq_true,Bool.not_eq_true'] at hg
  exact up z hz hg.1 hg.2
 ·obtain ⟨s,e1,e2⟩:=gX ha hm
  simp only [e1,List.drop_left]
  rcases e2 with rfl|⟨r,rfl⟩
  ·rw [List.append_nil]
   by_cases hq:aS b=[]
   ·rw [hq];rfl
   obtain ⟨m,k1,k2⟩:=cO hq hdb
   refine eR (stay _ m hq k1 ?_ ?_) k2
   ·cases hc:aS b == a
    ·rfl
    ·rw [dQ ha hq (.inl (eq_of_beq hc))] at hab;cases hab
   ·cases hc:aO a (aS b)
    ·rfl
    ·rw [dQ ha hq (.inr hc)] at hab;cases hab
  ·
   have hby:aO a y.p=true:=by rw [e1];exact jC ha
   have hq:aS y.p≠[]:=by
    rcases gY ha hby with h1|h1
    ·rw [h1];exact ha
    ·intro h2
     rw [h2] at h1
     have:=dG h1
     have:a=[]:=by simpa using this
     exact absurd this ha
   obtain ⟨m,k1,k2⟩:=cO hq (h y hy)
   obtain ⟨w,hw,hwp,hwn⟩:=bZ k1
   have hmw:mvd a w=true:=by
    unfold mvd
    rw [hwp]
    rcases gY ha hby with h1|h1
    ·rw [h1];simp
    ·rw [h1];simp
   have hgot:=rW (b:=b) (out:=bN t a) ha hmw hs h0 hw
   obtain ⟨s',e3,_⟩:=gX ha hmw
   obtain ⟨n,hn,hn47⟩:=qM hq
   have he:aS (b++47::r)=b++w.p.drop a.length:=by
    rw [e3,List.drop_left]
    rw [hwp] at e3
    rw [e3,e1,List.append_assoc] at hn
    have hn2:(47::r:List UInt8)=s'++47::n:=List.append_cancel_left hn
    rw [hn2,← List.append_assoc]
    exact zLm hn47
   rw [he]
   exact eR hgot (by rw [hwn];exact k2)
end Go.Dm
end
section
namespace Go.Dm
open Go
structure OkT (t:List It):Prop extends OkT0 t where
 par:Par t
theorem OkT.nil:OkT []:=⟨OkT0.nil,fun x h=>by simp at h⟩
theorem OkT.ne {t:List It} (h:OkT t):∀ x∈t,x.p≠[]:=fun x hx=>(h.its x hx).1
theorem OkT.plen {t:List It} (h:OkT t):∀ x∈t,x.p.length≤120:=h.toOkT0.plen
theorem OkT.dlen {t:List It} (h:OkT t):∀ x∈t,x.n.d.length≤2000:=h.toOkT0.dlen
theorem OkT.tlen {t:List It} (h:OkT t):∀ x∈t,x.n.t<18446744073709551616:=h.toOkT0.tlen
theorem OkT.remove {t:List It} (h:OkT t) (p:List UInt8):OkT (bN t p):=⟨h.toOkT0.remove p,h.par.remove h.ne p⟩
theorem OkT.put {t:List It} {p:List UInt8} {n:Nd} (h:OkT t) (hnt:n.t<18446744073709551616) (he:(jQ t p n).2=0):OkT (jQ t p n).1:=by
 refine ⟨h.toOkT0.put hnt he,?_⟩
 unfold jQ at he ⊢
 generalize hu:(if n.k != 2 then bD t p else t)=u at he ⊢
 split at he
 ·cases he
 ·rename_i h1
  split at he
  ·cases he
  ·rename_i h2
   split at he
   ·cases he
   ·rename_i h3
    rw [if_neg h1,if_neg h2,if_neg h3]
    simp only [Bool.or_eq_true,not_or,beq_iff_eq,Bool.not_eq_true',Bool.not_eq_false] at h1 h2
    exact h.par.set h1.1.1 h2 hu.symm
theorem OkT.move {t:List It} {a b:List UInt8} (h:OkT t) (he:(hD t a b).2=0):OkT (hD t a b).1:=by
 refine ⟨h.toOkT0.move he,?_⟩
 unfold hD at he ⊢
 split at he
 ·cases he
 ·rename_i h1
  rw [if_neg h1]
  split at he
  ·cases he
  ·rename_i h2
   rw [if_neg h2]
   split at he
   ·cases he
   ·rename_i h3
    rw [if_neg h3]
    split at he
    ·cases he
    ·rename_i h4
     rw [if_neg h4]
     split at he
     ·cases he
     ·rename_i h5
      rw [if_neg h5]
      simp only [Bool.or_eq_true,not_or,beq_iff_eq,Bool.not_eq_true',Bool.not_eq_false] at h1 h2 h3 h4 h5
      refine h.par.move h.srt h.ne h1.1.1.1 h1.1.1.2 (by simpa using h3) (by simpa using h4) h5 (fun e=>?_) he
      rw [e] at h2;exact h4 h2
end Go.Dm
end
section
namespace Go.Dm
open Go
theorem zKP {P:Program} {X0:Ctx} {s:DS} {Q:Exit→DS→Prop} {c:Code} (i k:Nat) (hn:look s.t i=.c (.p .nil)) (h:SWP P X0 c ⟨s.n,(i,.c (.p (.sl k [])))::s.t,s.h⟩ Q):SWP P X0 c s Q:=by
 intro gd X a hh hi hs ht
 refine h gd X a hh hi hs ⟨ht.size,fun j=>?_,ht.defs⟩
 simp only [look]
 split
 ·rename_i hij
  subst hij
  have:=ht.rel j
  rw [hn] at this
  exact wkD.rel (x:=.c (.p .nil)) (y:=.c (.p (.sl k []))) PE this
 ·exact ht.rel j
theorem zH7 {P:Program} {X0:Ctx} {n:Nat} {t:Fr} {h:aD} {Q:Exit→DS→Prop} {c:Code} (i k:Nat) (hn:look t i=.c (.p .nil)) (hd:SWP P X0 c ⟨n,(i,.c (.p (.sl k [])))::t,h⟩ Q):SWP P X0 c ⟨n,t,h⟩ Q :=
 zKP i k hn hd
def zEp:List DV→List DV→Prop
 | [],[]=>True
 | x::xs,y::ys=>wkD x y∧zEp xs ys
 | _,_=>False
theorem zEp.rel {X:Ctx}:∀ {xs ys:List DV} {vs:List Value},zEp xs ys→dD X xs vs→dD X ys vs
 | [],[],_,_,h=>h
 | _::_,_::_,_::_,h,hr=>⟨wkD.rel h.1 hr.1,zEp.rel h.2 hr.2⟩
 | _::_,_::_,[],_,hr=>hr.elim
theorem aA.wkargs {P:Program} {f:FuncId} {args args':List DV} {h:aD} {R:DV→aD→Prop} (hw:zEp args args') (hc:aA P f args' h R):aA P f args h R :=
 fun X vals hh hi gd hr=>hc X vals hh hi gd (zEp.rel hw hr)
theorem OkT.getd {t:List It} (h:OkT t) (p:List UInt8):((aR t p).getD nd0).d.length≤2000:=by
 cases hg:aR t p with
 | none=>simp [nd0]
 | some n =>
  obtain ⟨x,hx,_,rfl⟩:=bZ hg
  exact h.dlen x hx
theorem OkT.gett {t:List It} (h:OkT t) (p:List UInt8):((aR t p).getD nd0).t<18446744073709551616:=by
 cases hg:aR t p with
 | none=>simp [nd0]
 | some n =>
  obtain ⟨x,hx,_,rfl⟩:=bZ hg
  exact h.tlen x hx
def iQ (p q:Bool) (x y:Nd):Int:=if p then (if q then (if mQ x y then 0 else if x.k != y.k then 4 else if !(x.d == y.d) then 3 else 5) else 2) else (if q then 1 else 0)
structure RI where
 p:Int
 n:RN
def RI.cs (x:RI):List PV:=[.i .i64 x.p,.i .i64 x.n.k,.i .i64 x.n.m,.i .i64 x.n.t,.f x.n.x,.sl 1 (bT x.n.d)]
def encI (l:List RI):List (List PV):=l.map RI.cs
theorem zFC (l:List RI):(encI l).length=l.length:=by simp [encI]
theorem zIX {t:List RI} {k:Nat} {x:RI} (h:t[k]? = some x):(encI t).getD k []=[.i .i64 x.p,.i .i64 x.n.k,.i .i64 x.n.m,.i .i64 x.n.t,.f x.n.x,.sl 1 (bT x.n.d)]:=by
 simp only [encI,List.getD_eq_getElem?_getD,List.getElem?_map,h]
 rfl
theorem zFx (t:List RI):(∀ x∈encI t,x.length=6)=True:=eq_true fun x hx=>by
 simp only [encI,List.mem_map] at hx
 obtain ⟨y,_,rfl⟩:=hx
 rfl
structure RU where
 what:Int
 at':Int
 to':Int
 n:RN
def RU.cs (x:RU):List PV:=[.i .i64 x.what,.i .i64 x.at',.i .i64 x.to',.i .i64 x.n.k,.i .i64 x.n.m,.i .i64 x.n.t,.f x.n.x,.sl 1 (bT x.n.d)]
def encU (l:List RU):List (List PV):=l.map RU.cs
theorem zFM (l:List RU):(encU l).length=l.length:=by simp [encU]
theorem zJD {t:List RU} {k:Nat} {x:RU} (h:t[k]? = some x):(encU t).getD k []=[.i .i64 x.what,.i .i64 x.at',.i .i64 x.to',.i .i64 x.n.k,.i .i64 x.n.m,.i .i64 x.n.t,.f x.n.x,.sl 1 (bT x.n.d)]:=by
 simp only [encU,List.getD_eq_getElem?_getD,List.getElem?_map,h]
 rfl
theorem zGk (t:List RU):(∀ x∈encU t,x.length=8)=True:=eq_true fun x hx=>by
 simp only [encU,List.mem_map] at hx
 obtain ⟨y,_,rfl⟩:=hx
 rfl
theorem zLk (x:RN):RN.mk x.k x.m x.t x.x x.d=x:=rfl
attribute [go_sem] zLk zFC zFx zFM zGk
structure Ch where
 p:List UInt8
 k:Int
 o:Nd
 n:Nd
def Ch.cs (x:Ch):List PV:=[.s x.p,.i .i64 x.k,.i .i64 x.o.k,.i .i64 x.o.m,.f x.o.t,.sl 1 (bT x.o.d),.i .i64 x.n.k,.i .i64 x.n.m,.f x.n.t,.sl 1 (bT x.n.d)]
def oX (l:List Ch):List (List PV):=l.map Ch.cs
theorem zFb (l:List Ch):(oX l).length=l.length:=by simp [oX]
theorem vV:oX []=[]:=rfl
theorem zE3 (a b:List Ch):oX a++oX b=oX (a++b):=by simp [oX]
theorem zBw (a:List Ch) (n:Nat):(oX a).take n=oX (a.take n):=by simp [oX]
theorem zDg (a:List Ch) (n:Nat):(oX a).drop n=oX (a.drop n):=by simp [oX]
theorem EW {t:List Ch} {k:Nat} {x:Ch} (h:t[k]? = some x):(oX t).getD k []=[.s x.p,.i .i64 x.k,.i .i64 x.o.k,.i .i64 x.o.m,.f x.o.t,.sl 1 (bT x.o.d),.i .i64 x.n.k,.i .i64 x.n.m,.f x.n.t,.sl 1 (bT x.n.d)]:=by
 simp only [oX,List.getD_eq_getElem?_getD,List.getElem?_map,h]
 rfl
theorem zEw (t:List Ch):(∀ x∈oX t,x.length=10)=True:=eq_true fun x hx=>by
 simp only [oX,List.mem_map] at hx
 obtain ⟨y,_,rfl⟩:=hx
 rfl
theorem zDi (t:List Ch) (p:List UInt8) (k k1 m1 k2 m2:Int) (t1 t2:Nat) (d1 d2:List UInt8):oX t++[[.s p,.i .i64 k,.i .i64 k1,.i .i64 m1,.f t1,.sl 1 (bT d1),.i .i64 k2,.i .i64 m2,.f t2,.sl 1 (bT d2)]]=oX (t++[⟨p,k,⟨k1,m1,t1,d1⟩,⟨k2,m2,t2,d2⟩⟩]):=by simp [oX,Ch.cs]
theorem zKs (x:Ch):Ch.mk x.p x.k x.o x.n=x:=rfl
attribute [go_sem] zFb vV zE3 zBw zDg zEw zDi zKs
def chF (a b:List It) (p:List UInt8):List Ch :=
 if iQ (aR a p).isSome (aR b p).isSome ((aR a p).getD nd0) ((aR b p).getD nd0) != 0 then [⟨p,iQ (aR a p).isSome (aR b p).isSome ((aR a p).getD nd0) ((aR b p).getD nd0),(aR a p).getD nd0,(aR b p).getD nd0⟩] else []
def zAe (a b:List It):List (List UInt8)→List Ch
 | []=>[]
 | p::r=>chF a b p++zAe a b r
end Go.Dm
end
end
