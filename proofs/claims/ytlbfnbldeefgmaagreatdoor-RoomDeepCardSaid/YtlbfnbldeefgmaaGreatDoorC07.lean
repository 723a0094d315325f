/- Part 8 of the proof of roomDeep_card, set without needless blanks. No condition. -/
import Derived.Test.YtlbfnbldeefgmaaGreatDoorC06
set_option linter.all false
section
section
namespace Go.Dm
open Go
theorem cR:∀ a:List UInt8,bZ a a=false
 | []=>rfl
 | x::a=>by
  show (decide (x<x) || (x == x && bZ a a))=false;simp [cR a]
theorem tD (x y:UInt8) (a b:List UInt8):bZ (x::a) (y::b)=(decide (x<y) || (x == y && bZ a b)):=rfl
theorem KC (a:List UInt8):bZ a []=false:=by cases a <;> rfl
theorem cO:∀ {a b c:List UInt8},bZ a b=true→bZ b c=true→bZ a c=true
 | _,[],_,h,_=>by rw [KC] at h;cases h
 | _,_::_,[],_,h=>by rw [KC] at h;cases h
 | [],_::_,_::_,_,_=>rfl
 | x::a,y::b,z::c,h1,h2=>by
  rw [tD] at *;simp only [Bool.or_eq_true,Bool.and_eq_true,decide_eq_true_eq,beq_iff_eq] at *;rcases h1 with h1|⟨rfl,h1⟩ <;> rcases h2 with h2|⟨rfl,h2⟩
  ·exact .inl (UInt8.lt_trans h1 h2)
  ·exact .inl h1
  ·exact .inl h2
  ·exact .inr ⟨rfl,cO h1 h2⟩
theorem fM:∀ {a b:List UInt8},bZ a b=false→bZ b a=false→a=b
 | [],[],_,_=>rfl
 | [],_::_,h,_=>by cases h
 | _::_,[],_,h=>by cases h
 | x::a,y::b,h1,h2=>by
  rw [tD] at *;simp only [Bool.or_eq_false_iff,decide_eq_false_iff_not] at h1 h2;have hxy:x=y:=by
   have h3:=h1.1;have h4:=h2.1;rw [UInt8.lt_iff_toNat_lt] at h3 h4;exact UInt8.toNat_inj.1 (by omega)
  subst hxy;have h5:bZ a b=false:=by simpa using h1.2
  have h6:bZ b a=false:=by simpa using h2.2
  rw [fM h5 h6]
theorem gJ {a b:List UInt8} (h:bZ a b=true):bZ b a=false:=by
 cases h2:bZ b a
 ·rfl
 ·have:=cO h h2;rw [cR] at this;cases this
theorem lC {a b:List UInt8} (h:bZ a b=true):(a == b)=false:=by
 cases h2:a == b
 ·rfl
 ·rw [eq_of_beq h2,cR] at h;cases h
abbrev Srt (t:List It):Prop:=t.Pairwise fun x y=>bZ x.p y.p=true
theorem kY {p:List UInt8} {n:Nd} {y:It}:∀ {t:List It} {d:Bool},y∈xM p n d t→y=⟨p,n⟩∨y∈t
 | [],d,h=>by cases d <;> simp [xM] at h;exact .inl h
 | x::r,d,h=>by
  simp only [xM,List.mem_append] at h;rcases h with h|h|h
  ·split at h <;> simp at h;exact .inl h
  ·split at h <;> simp at h;exact .inr (by simp [h])
  ·rcases kY h with h|h
   ·exact .inl h
   ·exact .inr (List.mem_cons_of_mem _ h)
theorem qI (p:List UInt8) (n:Nd):∀ t:List It,xM p n true t=nW t p
 | []=>rfl
 | x::r=>by
  simp only [xM,Bool.not_true,Bool.false_and,Bool.true_or,Bool.false_eq_true,if_false,List.nil_append,qI p n r,nW,List.filter_cons];split <;> rfl
theorem tR {p:List UInt8} {n:Nd}:∀ {t:List It},Srt t→Srt (sZ t p n)
 | [],_=>by simp [sZ,xM]
 | x::r,h=>by
  have h1:=List.pairwise_cons.1 h;unfold sZ;cases hb:bZ x.p p
  ·simp only [xM,hb,Bool.not_false,Bool.true_and,if_true,Bool.false_or,qI];have hd:Srt (nW r p):=h1.2.filter _;have hlt:∀ y∈r,bZ p y.p=true:=fun y hy=>by
    have:=h1.1 y hy;cases hp:bZ p x.p
    ·rw [← fM hb hp];exact this
    ·exact cO hp this
   cases he:x.p == p
   ·have hp:bZ p x.p=true:=by
     cases hp:bZ p x.p
     ·rw [fM hb hp] at he;simp at he
     ·rfl
    simp only [Bool.not_false,if_true,List.cons_append,List.nil_append];refine List.pairwise_cons.2 ⟨fun y hy=>?_,List.pairwise_cons.2 ⟨fun y hy=>h1.1 y (List.mem_filter.1 hy).1,hd⟩⟩;rcases List.mem_cons.1 hy with rfl|hy
    ·exact hp
    ·exact hlt y (List.mem_filter.1 hy).1
   ·simp only [Bool.not_true,Bool.false_eq_true,if_false,List.cons_append,List.nil_append];exact List.pairwise_cons.2 ⟨fun y hy=>hlt y (List.mem_filter.1 hy).1,hd⟩
  ·simp only [xM,hb,Bool.not_true,Bool.and_false,Bool.false_eq_true,if_false,Bool.or_false,List.nil_append,lC hb,Bool.not_false,if_true,List.singleton_append];refine List.pairwise_cons.2 ⟨fun y hy=>?_,tR h1.2⟩;rcases kY hy with rfl|hy
   ·exact hb
   ·exact h1.1 y hy
def OkI (x:It):Prop:=x.p≠[]∧cJ x.p=true∧aV x.n=true∧x.n.t<18446744073709551616
structure OkT0 (t:List It):Prop where
 srt:Srt t
 its:∀ x∈t,OkI x
 len:t.length≤120
theorem OkT0.nil:OkT0 []:=⟨List.Pairwise.nil,fun x h=>by simp at h,by simp⟩
theorem vJ {p:List UInt8} (h:cJ p=true):p.length≤120:=by
 unfold cJ at h;simp only [Bool.or_eq_true,Bool.and_eq_true,decide_eq_true_eq,beq_iff_eq] at h;rcases h with rfl|h
 ·simp
 ·omega
theorem gH {n:Nd} (h:aV n=true):n.d.length≤2000:=by
 unfold aV mQ at h;rw [Bool.and_eq_true] at h;have h:=h.2;split at h
 ·simp only [decide_eq_true_eq] at h;omega
 ·split at h
  ·simp only [beq_iff_eq] at h;omega
  ·split at h
   ·simp only [Bool.and_eq_true,decide_eq_true_eq] at h;omega
   ·cases h
theorem OkT0.plen {t:List It} (h:OkT0 t):∀ x∈t,x.p.length≤120:=fun x hx=>vJ (h.its x hx).2.1
theorem OkT0.dlen {t:List It} (h:OkT0 t):∀ x∈t,x.n.d.length≤2000:=fun x hx=>gH (h.its x hx).2.2.1
theorem OkT0.filter {t:List It} (h:OkT0 t) (f:It→Bool):OkT0 (t.filter f) :=
 ⟨h.srt.filter _,fun x hx=>h.its x (List.mem_filter.1 hx).1,Nat.le_trans (List.length_filter_le ..) h.len⟩
theorem OkT0.remove {t:List It} (h:OkT0 t) (p:List UInt8):OkT0 (bR t p):=(h.filter _).filter _
theorem OkT0.tlen {t:List It} (h:OkT0 t):∀ x∈t,x.n.t<18446744073709551616:=fun x hx=>(h.its x hx).2.2.2
theorem OkT0.put {t:List It} {p:List UInt8} {n:Nd} (h:OkT0 t) (hnt:n.t<18446744073709551616) (he:(sL t p n).2=0):OkT0 (sL t p n).1:=by
 have hb:OkT0 (if n.k != 2 then bS t p else t):=by split;exact h.filter _;exact h
 unfold sL at he ⊢;generalize (if n.k != 2 then bS t p else t)=u at he hb ⊢
 split at he
 ·cases he
 ·rename_i h1;split at he
  ·cases he
  ·rename_i h2;split at he
   ·cases he
   ·rename_i h3;rw [if_neg h1,if_neg h2,if_neg h3];simp only [Bool.or_eq_true,not_or,beq_iff_eq,Bool.not_eq_true',Bool.not_eq_false] at h1;refine ⟨tR hb.srt,fun x hx=>?_,?_⟩
    ·rcases kY hx with rfl|hx
     ·exact ⟨h1.1.1,h1.1.2,h1.2,hnt⟩
     ·exact hb.its x hx
    ·simp only [decide_eq_true_eq] at h3;show (sZ _ p n).length≤120;omega
theorem pD (r:List UInt8):∀ (s w:List UInt8),xO w (s++47::r)=xO w s++xO [] r
 | [],w=>by simp [xO]
 | b::s,w=>by
  simp only [List.cons_append,xO];split
  ·rw [pD r s []];rfl
  ·rw [pD r s (w++[b])]
theorem fL {a q:List UInt8} (ha:a≠[]) (h:aM a q=true):∃ r,q=a++47::r:=by
 unfold aM at h;rw [if_neg (by simpa using ha)] at h;simp only [Bool.or_eq_true,Bool.and_eq_true,decide_eq_true_eq,beq_iff_eq] at h;rcases h with ⟨_,h⟩|⟨_,h⟩
 ·refine ⟨q.drop (a.length+1),?_⟩;have:=List.take_append_drop (a.length+1) q;rw [h] at this;rw [List.append_assoc] at this;exact this.symm
 ·exact ⟨[],h⟩
theorem OkI.moved {a b:List UInt8} {x:It} (ha:a≠[]) (hb:b≠[]) (hbp:cJ b=true) (hx:OkI x) (hc:(!(x.p == a) && !aM a x.p)=false) (hl:¬ decide ((120:Int)<(b.length+(x.p.drop a.length).length:Nat))=true):OkI ⟨b++x.p.drop a.length,x.n⟩:=by
 refine ⟨by simp [hb],?_,hx.2.2⟩
 simp only [decide_eq_true_eq] at hl;have hl2:(b++x.p.drop a.length).length≤120:=by rw [List.length_append];omega
 have hbq:(DP b).all bE=true:=by
  unfold cJ at hbp;have:(b == [])=false:=by simpa using hb
  rw [this,Bool.false_or,Bool.and_eq_true] at hbp;exact hbp.1
 have hxq:(DP x.p).all bE=true:=by
  have h:=hx.2.1;unfold cJ at h;have:(x.p == [])=false:=by simpa using hx.1
  rw [this,Bool.false_or,Bool.and_eq_true] at h;exact h.1
 unfold cJ;simp only [Bool.or_eq_true,Bool.and_eq_true,decide_eq_true_eq];refine .inr ⟨?_,by omega⟩
 cases he:x.p == a
 ·rw [he] at hc;have hbl:aM a x.p=true:=by simpa using hc
  obtain ⟨r,hr⟩:=fL ha hbl;have hdr:x.p.drop a.length=47::r:=by rw [hr];simp
  rw [hdr];rw [hr] at hxq;unfold DP at hxq hbq ⊢;rw [pD,List.all_append,Bool.and_eq_true] at hxq;rw [pD,List.all_append,hbq,hxq.2];rfl
 ·have hdr:x.p.drop a.length=[]:=by rw [eq_of_beq he];simp
  rw [hdr,List.append_nil];exact hbq
theorem tN {a b:List UInt8} (ha:a≠[]) (hb:b≠[]) (hbp:cJ b=true):∀ {t out:List It},(∀ x∈t,OkI x)→Srt out→(∀ x∈out,OkI x)→(eQ a b out t).2=0→Srt (eQ a b out t).1∧(∀ x∈(eQ a b out t).1,OkI x)
 | [],out,_,h2,h3,_=>⟨h2,h3⟩
 | x::r,out,h1,h2,h3,h4=>by
  have hr:∀ y∈r,OkI y:=fun y hy=>h1 y (List.mem_cons_of_mem _ hy);rw [eQ] at h4 ⊢;split at h4
  ·rename_i hc;rw [if_pos hc];exact tN ha hb hbp hr h2 h3 h4
  ·rename_i hc;split at h4
   ·cases h4
   ·rename_i hl;rw [if_neg hc,if_neg hl];have hc2:(!(x.p == a) && !aM a x.p)=false:=by simpa using hc
    have hxm:=(h1 x List.mem_cons_self).moved ha hb hbp hc2 hl;refine tN ha hb hbp hr (tR h2) (fun y hy=>?_) h4;rcases kY hy with rfl|hy
    ·exact hxm
    ·exact h3 y hy
def mvd (a:List UInt8) (x:It):Bool:=!(!(x.p == a) && !aM a x.p)
theorem vX {a b:List UInt8}:∀ (t out:List It),(eQ a b out t).1.length≤out.length+(t.filter (mvd a)).length
 | [],out=>by simp [eQ]
 | x::r,out=>by
  cases hm:mvd a x
  ·have hc:(!(x.p == a) && !aM a x.p)=true:=by simpa only [mvd,Bool.not_eq_false'] using hm
   rw [eQ,if_pos hc,List.filter_cons,if_neg (by rw [hm];decide)];exact vX r out
  ·have hc:¬ (!(x.p == a) && !aM a x.p)=true:=by simp only [mvd,Bool.not_eq_true'] at hm;rw [hm];decide
   rw [eQ,if_neg hc,List.filter_cons,if_pos hm,List.length_cons];split
   ·exact Nat.zero_le _
   ·have h1:=vX (a:=a) (b:=b) r (sZ out (b++x.p.drop a.length) x.n);have h2:=tQ out (b++x.p.drop a.length) x.n;omega
theorem qC (a:List UInt8):∀ t:List It,(bR t a).length+(t.filter (mvd a)).length=t.length
 | []=>rfl
 | x::r=>by
  have h:=qC a r;unfold bR nW bS at h ⊢;rw [List.filter_filter] at h ⊢;simp only [List.filter_cons];cases hm:mvd a x
  ·have hc:(!(x.p == a) && !aM a x.p)=true:=by simpa only [mvd,Bool.not_eq_false'] using hm
   rw [if_pos hc,if_neg (by decide),List.length_cons,List.length_cons];omega
  ·have hc:¬ (!(x.p == a) && !aM a x.p)=true:=by simp only [mvd,Bool.not_eq_true'] at hm;rw [hm];decide
   rw [if_neg hc,if_pos rfl,List.length_cons,List.length_cons];omega
theorem OkT0.move {t:List It} {a b:List UInt8} (h:OkT0 t) (he:(mE t a b).2=0):OkT0 (mE t a b).1:=by
 unfold mE at he ⊢;split at he
 ·cases he
 ·rename_i h1;rw [if_neg h1];split at he
  ·cases he
  ·rename_i h2;rw [if_neg h2];split at he
   ·cases he
   ·rename_i h3;rw [if_neg h3];split at he
    ·cases he
    ·rename_i h4;rw [if_neg h4];split at he
     ·cases he
     ·rename_i h5;rw [if_neg h5];simp only [Bool.or_eq_true,not_or,beq_iff_eq,Bool.not_eq_true',Bool.not_eq_false] at h1;have hr:=h.remove a;obtain ⟨k1,k2⟩:=tN h1.1.1.1 h1.1.1.2 h1.2 h.its hr.srt hr.its he;refine ⟨k1,k2,?_⟩;have k3:=vX (a:=a) (b:=b) t (bR t a);have k4:=qC a t;have k5:=h.len;omega
end Go.Dm
end
section
namespace Go.Dm
open Go
theorem cD {p:List UInt8} {n:Nd}:∀ {t:List It},aW t p=some n→∃ x∈t,x.p=p∧x.n=n
 | [],h=>by simp [aW] at h
 | x::r,h=>by
  rw [aW] at h;split at h
  ·rename_i hx;exact ⟨x,List.mem_cons_self,eq_of_beq hx,by simpa using h⟩
  ·obtain ⟨y,hy,h2⟩:=cD h;exact ⟨y,List.mem_cons_of_mem _ hy,h2⟩
def Par (t:List It):Prop:=∀ x∈t,aU t (aP x.p)=true
theorem gG (p:List UInt8):∀ k,k≤p.length→(dX p k=none∧∀ j (h:j<p.length),j<k→p[j]≠47)∨(∃ i,∃ h:i<p.length,dX p k=some i∧i<k∧p[i]=47∧∀ j (h:j<p.length),i<j→j<k→p[j]≠47)
 | 0,_=>.inl ⟨rfl,fun j _ h=>by omega⟩
 | k+1,hk=>by
  have hlt:k<p.length:=by omega
  have hg:p.getD k 0=p[k]:=by simp [List.getD_eq_getElem?_getD,hlt]
  rw [dX,hg];by_cases hb:p[k]=47
  ·rw [hb,if_pos (by decide)];exact .inr ⟨k,hlt,rfl,by omega,hb,fun j h h1 h2=>by omega⟩
  ·have:¬ ((p[k].toNat:Int) == 47)=true:=by
    intro h;have h:=eq_of_beq h;exact hb (UInt8.toNat_inj.1 (by have:(47:UInt8).toNat=47:=rfl;omega))
   rw [if_neg this];rcases gG p k (by omega) with ⟨h1,h2⟩|⟨i,h,h1,h2,h3,h4⟩
   ·refine .inl ⟨h1,fun j hj hjk=>?_⟩;rcases Nat.lt_or_ge j k with h|h
    ·exact h2 j hj h
    ·have:j=k:=by omega
     subst this;exact hb
   ·refine .inr ⟨i,h,h1,by omega,h3,fun j hj hij hjk=>?_⟩
    rcases Nat.lt_or_ge j k with h'|h'
    ·exact h4 j hj hij h'
    ·have:j=k:=by omega
     subst this;exact hb
theorem tH (p:List UInt8):(aP p=[]∧47 ∉ p)∨∃ n,p=aP p++47::n∧47 ∉ n:=by
 unfold aP;rcases gG p p.length (Nat.le_refl _) with ⟨h1,h2⟩|⟨i,h,h1,h2,h3,h4⟩
 ·rw [h1];refine .inl ⟨rfl,fun hm=>?_⟩;obtain ⟨j,hj,he⟩:=List.mem_iff_getElem.1 hm;exact h2 j hj hj he
 ·rw [h1];refine .inr ⟨p.drop (i+1),?_,fun hm=>?_⟩
  ·have:=List.take_append_drop i p;rw [List.drop_eq_getElem_cons h,h3] at this;exact this.symm
  ·obtain ⟨j,hj,he⟩:=List.mem_iff_getElem.1 hm;rw [List.getElem_drop] at he;rw [List.length_drop] at hj;exact h4 (i+1+j) (by omega) (by omega) (by omega) he
theorem JE {d n d' n':List UInt8} (h:d++47::n=d'++47::n') (hn:47 ∉ n) (hn':47 ∉ n'):d=d'∧n=n':=by
 rcases List.append_eq_append_iff.1 h with ⟨c,h1,h2⟩|⟨c,h1,h2⟩
 ·cases c with
  | nil=>simp at h1 h2;exact ⟨h1.symm,h2⟩
  | cons x c =>
   simp only [List.cons_append,List.cons.injEq] at h2;exact absurd (by rw [h2.2];simp) hn
 ·cases c with
  | nil=>simp at h1 h2;exact ⟨h1,h2.symm⟩
  | cons x c =>
   simp only [List.cons_append,List.cons.injEq] at h2;exact absurd (by rw [h2.2];simp) hn'
theorem zId {d n:List UInt8} (hn:47 ∉ n):aP (d++47::n)=d:=by
 rcases tH (d++47::n) with ⟨_,h⟩|⟨m,h,hm⟩
 ·exact absurd (by simp) h
 ·exact ((JE h hn hm).1).symm
theorem pH {p:List UInt8} (h:aP p≠[]):∃ n,p=aP p++47::n∧47 ∉ n:=by
 rcases tH p with ⟨h1,_⟩|h1
 ·exact absurd h1 h
 ·exact h1
theorem jA {a r:List UInt8} (ha:a≠[]):aM a (a++47::r)=true:=by
 unfold aM;rw [if_neg (by simpa using ha)];cases r with
 | nil=>simp
 | cons b r =>
  have h1:decide (((a++47::b::r).length:Int) > a.length+1)=true:=by simp;omega
  have h2:(a++47::b::r).take (a.length+1)=a++[47]:=by
   rw [List.take_append];simp [List.take_of_length_le]
  rw [h1,h2];simp
theorem WO {a q:List UInt8} (ha:a≠[]):aM a q=true↔∃ r,q=a++47::r:=⟨fL ha,fun ⟨_,h⟩=>h▸jA ha⟩
theorem dN {a q:List UInt8} (ha:a≠[]) (hd:aP q≠[]) (h:aP q=a∨aM a (aP q)=true):aM a q=true:=by
 obtain ⟨n,hn,_⟩:=pH hd;rcases h with h|h
 ·rw [hn,h];exact jA ha
 ·obtain ⟨r,hr⟩:=fL ha h;rw [hn,hr,List.append_assoc];exact jA ha
theorem gW {a q:List UInt8} (ha:a≠[]) (h:aM a q=true):aP q=a∨aM a (aP q)=true:=by
 obtain ⟨r,hr⟩:=fL ha h;rcases tH q with ⟨_,h1⟩|⟨n,h1,h2⟩
 ·exact absurd (by rw [hr];simp) h1
 ·rw [hr] at h1;rcases List.append_eq_append_iff.1 h1 with ⟨c,e1,e2⟩|⟨c,e1,e2⟩
  ·cases c with
   | nil=>left;rw [hr];simpa using e1
   | cons x c =>
    simp only [List.cons_append,List.cons.injEq] at e2;right;rw [hr,e1,← e2.1];exact jA ha
  ·cases c with
   | nil=>left;rw [hr];simpa using e1.symm
   | cons x c =>
    simp only [List.cons_append,List.cons.injEq] at e2;exact absurd (by rw [e2.2];simp) h2
theorem pI {p:List UInt8} (h:aP p≠[]):(aP p).length<p.length:=by
 obtain ⟨n,hn,_⟩:=pH h;have:=congrArg List.length hn;simp only [List.length_append,List.length_cons] at this;omega
theorem fE (g:List UInt8→Bool) (q:List UInt8):∀ t:List It,aW (t.filter fun x=>g x.p) q=if g q then aW t q else none
 | []=>by simp [aW]
 | x::r=>by
  rw [List.filter_cons];by_cases hx:x.p=q
  ·subst hx;cases hg:g x.p
   ·simp only [Bool.false_eq_true,if_false];have:=fE g x.p r;simpa [hg] using this
   ·simp [aW]
  ·have hb:(x.p == q)=false:=by simpa using hx
   split
   ·simp only [aW,hb,Bool.false_eq_true,if_false];exact fE g q r
   ·simp only [aW,hb,Bool.false_eq_true,if_false];exact fE g q r
theorem eW (t:List It) (p:List UInt8):bR t p=t.filter fun x=>!(x.p == p) && !aM p x.p:=by
 unfold bR nW bS;rw [List.filter_filter]
theorem vD (t:List It) (p q:List UInt8):aW (bR t p) q=if (!(q == p) && !aM p q) then aW t q else none:=by
 rw [eW];exact fE (fun q=>!(q == p) && !aM p q) q t
theorem xR (t:List It) (p q:List UInt8):aW (bS t p) q=if !aM p q then aW t q else none:=fE (fun q=>!aM p q) q t
theorem FZ {p q:List UInt8} (h:(q == p)=false) (t:List It):aW (nW t p) q=aW t q:=by
 unfold nW;rw [fE (fun q=>!(q == p)) q t,h];rfl
theorem GB {p q:List UInt8} {n:Nd}:∀ t:List It,aW (xM p n false t) q=if q == p then some n else aW t q
 | []=>by
  simp only [xM,Bool.false_eq_true,if_false,aW];rw [show (p == q)=(q == p) from BEq.comm]
 | x::r=>by
  have hc:(p == q)=(q == p):=BEq.comm;simp only [xM,Bool.not_false,Bool.true_and,Bool.false_or];cases hb:bZ x.p p
  ·simp only [Bool.not_false,if_true,List.singleton_append,aW,hc,qI];cases hq:q == p
   ·simp only [Bool.false_eq_true,if_false];have hd:=FZ hq r;cases hx:x.p == p
    ·simp only [Bool.not_false,if_true,List.singleton_append,aW,hd]
    ·have hxq:(x.p == q)=false:=by
      rw [eq_of_beq hx,hc];exact hq
     simp only [Bool.not_true,Bool.false_eq_true,if_false,List.nil_append,hd,hxq]
   ·rfl
  ·have ih:=GB (p:=p) (q:=q) (n:=n) r;have hx:(x.p == p)=false:=lC hb;simp only [Bool.not_true,Bool.false_eq_true,if_false,List.nil_append,hx,Bool.not_false,if_true,List.singleton_append,aW,ih];cases hq:q == p
   ·rfl
   ·have hxq:(x.p == q)=false:=by rw [eq_of_beq hq];exact hx
    simp [hxq]
theorem lW {p q:List UInt8} {n:Nd} (t:List It):aW (sZ t p n) q=if q == p then some n else aW t q:=GB t
theorem cG {t:List It} {q:List UInt8} (hq:q≠[]) (h:aU t q=true):∃ m,aW t q=some m∧m.k=2:=by
 unfold aU at h;have:(q == [])=false:=by simpa using hq
 rw [this,Bool.false_or] at h;cases hg:aW t q with
 | none=>rw [hg] at h;cases h
 | some m=>rw [hg] at h;exact ⟨m,rfl,by simpa using h⟩
theorem eO {t:List It} {q:List UInt8} {m:Nd} (h:aW t q=some m) (hk:m.k=2):aU t q=true:=by
 unfold aU;rw [h];simp [hk]
theorem Par.remove {t:List It} (h:Par t) (hne:∀ x∈t,x.p≠[]) (p:List UInt8):Par (bR t p):=by
 intro x hx;rw [eW,List.mem_filter] at hx;obtain ⟨hx,hg⟩:=hx;by_cases hq:aP x.p=[]
 ·rw [hq];rfl
 obtain ⟨m,h1,h2⟩:=cG hq (h x hx);refine eO (m:=m) ?_ h2;rw [vD,h1];simp only [Bool.and_eq_true,Bool.not_eq_true'] at hg;by_cases hp:p=[]
 ·subst hp;have:=hne x hx;simp [aM,this] at hg
 have k1:(aP x.p == p)=false:=by
  cases hc:aP x.p == p
  ·rfl
  ·rw [dN hp hq (.inl (eq_of_beq hc))] at hg;cases hg.2
 have k2:aM p (aP x.p)=false:=by
  cases hc:aM p (aP x.p)
  ·rfl
  ·rw [dN hp hq (.inr hc)] at hg;cases hg.2
 rw [k1,k2];rfl
theorem Par.set {t u:List It} {p:List UInt8} {n:Nd} (h:Par t) (hp:p≠[]) (hd:aU t (aP p)=true) (hu:u=if n.k != 2 then bS t p else t):Par (sZ u p n):=by
 have key:∀ q,q≠[]→q≠p→(n.k≠2→aM p q=false)→∀ m,aW t q=some m→aW (sZ u p n) q=some m:=by
  intro q h0 h1 h2 m hm;rw [lW];have:(q == p)=false:=by simpa using h1
  rw [this,hu];simp only [Bool.false_eq_true,if_false];split
  ·rename_i hk;rw [xR,h2 (by simpa using hk)];simpa using hm
  ·exact hm
 intro x hx;by_cases hq:aP x.p=[]
 ·rw [hq];rfl
 rcases kY hx with rfl|hx
 ·obtain ⟨m,h1,h2⟩:=cG hq hd;have hlt:=pI hq;simp only at hq hlt ⊢;refine eO (key _ hq (fun e=>by rw [e] at hlt;omega) (fun _=>?_) m h1) h2
  cases hb:aM p (aP p)
  ·rfl
  ·have:=dM hb;omega
 ·have hxt:x∈t∧(n.k≠2→aM p x.p=false):=by
   rw [hu] at hx;split at hx
   ·have:=List.mem_filter.1 hx;exact ⟨this.1,fun _=>by simpa using this.2⟩
   ·rename_i hk;exact ⟨hx,fun h=>absurd (by simpa using h) hk⟩
  obtain ⟨m,h1,h2⟩:=cG hq (h x hxt.1);by_cases he:aP x.p=p
  ·have hk:n.k=2:=by
    rcases Decidable.em (n.k=2) with h|h
    ·exact h
    ·have h3:=hxt.2 h;rw [dN hp hq (.inl he)] at h3;cases h3
   refine eO (m:=n) ?_ hk;rw [lW,he];simp
  ·refine eO (key _ hq he (fun hk=>?_) m h1) h2;have h3:=hxt.2 hk;cases hb:aM p (aP x.p)
   ·rfl
   ·rw [dN hp hq (.inr hb)] at h3;cases h3
theorem zBm {t:List It} {b:List UInt8} (h:Par t) (hb:b≠[]):∀ (n:Nat) (q:List UInt8),q.length≤n→(aW t q).isSome=true→aM b q=true→(aW t b).isSome=true
 | 0,q,hl,_,hq=>by
  have h1:q=[]:=by simpa using hl
  subst h1;have h2:=dM hq;have:b=[]:=by simpa using h2
  exact absurd this hb
 | n+1,q,hl,hs,hq=>by
  obtain ⟨m,hm⟩:=Option.isSome_iff_exists.1 hs;obtain ⟨x,hx,rfl,_⟩:=cD hm;have hdx:=h x hx;rcases gW hb hq with h1|h1
  ·rw [h1] at hdx;obtain ⟨m,h2,_⟩:=cG hb hdx;rw [h2];rfl
  ·have h0:aP x.p≠[]:=by
    intro h0;rw [h0] at h1;have:=dM h1;have:b=[]:=by simpa using this
    exact absurd this hb
   obtain ⟨m,h2,_⟩:=cG h0 hdx;have hlt:=pI h0;exact zBm h hb n _ (by omega) (by rw [h2];rfl) h1
theorem pT {a b:List UInt8} {z:It}:∀ {t out:List It},(eQ a b out t).2=0→z∈(eQ a b out t).1→z∈out∨∃ y∈t,mvd a y=true∧z=⟨b++y.p.drop a.length,y.n⟩
 | [],out,_,h=>.inl h
 | x::r,out,h0,h=>by
  rw [eQ] at h0 h;split at h0
  ·rename_i hc;rw [if_pos hc] at h;rcases pT h0 h with h|⟨y,hy,h⟩
   ·exact .inl h
   ·exact .inr ⟨y,List.mem_cons_of_mem _ hy,h⟩
  ·rename_i hc;split at h0
   ·cases h0
   ·rename_i hl;rw [if_neg hc,if_neg hl] at h;have hm:mvd a x=true:=by
     have hc2:(!(x.p == a) && !aM a x.p)=false:=by simpa only [Bool.not_eq_true] using hc
     rw [mvd,hc2];rfl
    rcases pT h0 h with h|⟨y,hy,h⟩
    ·rcases kY h with rfl|h
     ·exact .inr ⟨x,List.mem_cons_self,hm,rfl⟩
     ·exact .inl h
    ·exact .inr ⟨y,List.mem_cons_of_mem _ hy,h⟩
theorem gX {a:List UInt8} (ha:a≠[]) {y:It} (h:mvd a y=true):∃ s,y.p=a++s∧(s=[]∨∃ r,s=47::r):=by
 unfold mvd at h;simp only [Bool.not_eq_true',Bool.and_eq_false_iff,Bool.not_eq_false'] at h;rcases h with h|h
 ·exact ⟨[],by rw [List.append_nil];exact eq_of_beq h,.inl rfl⟩
 ·obtain ⟨r,hr⟩:=fL ha h;exact ⟨47::r,hr,.inr ⟨r,rfl⟩⟩
theorem mD {a b:List UInt8} (ha:a≠[]) {q:List UInt8}:∀ {t out:List It},(eQ a b out t).2=0→(∀ y∈t,mvd a y=true→b++y.p.drop a.length≠q)→aW (eQ a b out t).1 q=aW out q
 | [],_,_,_=>rfl
 | x::r,out,h0,h=>by
  have hr:∀ y∈r,mvd a y=true→b++y.p.drop a.length≠q:=fun y hy=>h y (List.mem_cons_of_mem _ hy);rw [eQ] at h0 ⊢;split at h0
  ·rename_i hc;rw [if_pos hc];exact mD ha h0 hr
  ·rename_i hc;split at h0
   ·cases h0
   ·rename_i hl;rw [if_neg hc,if_neg hl,mD ha h0 hr,lW];have hm:mvd a x=true:=by
     have hc2:(!(x.p == a) && !aM a x.p)=false:=by simpa only [Bool.not_eq_true] using hc
     rw [mvd,hc2];rfl
    have:=h x List.mem_cons_self hm;have e:(q == b++x.p.drop a.length)=false:=by simpa using fun e=>this e.symm
    rw [e];rfl
theorem pS {a b:List UInt8} (ha:a≠[]) {y:It} (hm:mvd a y=true):∀ {t out:List It},Srt t→(eQ a b out t).2=0→y∈t→aW (eQ a b out t).1 (b++y.p.drop a.length)=some y.n
 | x::r,out,hs,h0,hy=>by
  obtain ⟨hs1,hs2⟩:=List.pairwise_cons.1 hs;rw [eQ] at h0 ⊢;split at h0
  ·rename_i hc;rw [if_pos hc];rcases List.mem_cons.1 hy with rfl|hy
   ·unfold mvd at hm;rw [hc] at hm;cases hm
   ·exact pS ha hm hs2 h0 hy
  ·rename_i hc;split at h0
   ·cases h0
   ·rename_i hl;rw [if_neg hc,if_neg hl];rcases List.mem_cons.1 hy with rfl|hy
    ·rw [mD ha h0,lW];· simp
     intro z hz hmz he;obtain ⟨s,e1,_⟩:=gX ha hm;obtain ⟨s',e2,_⟩:=gX ha hmz;rw [e1,e2] at he;simp only [List.drop_left,List.append_cancel_left_eq] at he;have h1:=hs1 z hz;rw [e1,e2,he,cR] at h1;cases h1
    ·exact pS ha hm hs2 h0 hy
theorem Par.move {t:List It} {a b:List UInt8} (h:Par t) (hs:Srt t) (hne:∀ x∈t,x.p≠[]) (ha:a≠[]) (hb:b≠[]) (hab:aM a b=false) (hbt:(aW t b).isSome=false) (hdb:aU t (aP b)=true) (haa:a≠b)
  (h0:(eQ a b (bR t a) t).2=0):Par (eQ a b (bR t a) t).1:=by
 have stay:∀ q m,q≠[]→aW t q=some m→(q == a)=false→aM a q=false→aW (eQ a b (bR t a) t).1 q=some m:=by
  intro q m hq hm h1 h2;rw [mD ha h0,vD,h1,h2];· simpa using hm
  intro y hy hmy he;obtain ⟨s,e1,e2⟩:=gX ha hmy;rw [e1,List.drop_left] at he;rcases e2 with rfl|⟨r,rfl⟩
  ·rw [List.append_nil] at he;subst he;rw [hm] at hbt;cases hbt
  ·have:=zBm h hb q.length q (Nat.le_refl _) (by rw [hm];rfl) (by rw [← he];exact jA hb);rw [this] at hbt;cases hbt
 have up:∀ x∈t,(x.p == a)=false→aM a x.p=false→aU (eQ a b (bR t a) t).1 (aP x.p)=true:=by
  intro x hx h1 h2;by_cases hq:aP x.p=[]
  ·rw [hq];rfl
  obtain ⟨m,k1,k2⟩:=cG hq (h x hx);refine eO (stay _ m hq k1 ?_ ?_) k2
  ·cases hc:aP x.p == a
   ·rfl
   ·rw [dN ha hq (.inl (eq_of_beq hc))] at h2;cases h2
  ·cases hc:aM a (aP x.p)
   ·rfl
   ·rw [dN ha hq (.inr hc)] at h2;cases h2
 intro z hz;rcases pT h0 hz with hz|⟨y,hy,hm,rfl⟩
 ·rw [eW,List.mem_filter] at hz;obtain ⟨hz,hg⟩:=hz;simp only [Bool.and_eq_true,Bool.not_eq_true'] at hg;exact up z hz hg.1 hg.2
 ·obtain ⟨s,e1,e2⟩:=gX ha hm;simp only [e1,List.drop_left];rcases e2 with rfl|⟨r,rfl⟩
  ·rw [List.append_nil];by_cases hq:aP b=[]
   ·rw [hq];rfl
   obtain ⟨m,k1,k2⟩:=cG hq hdb;refine eO (stay _ m hq k1 ?_ ?_) k2
   ·cases hc:aP b == a
    ·rfl
    ·rw [dN ha hq (.inl (eq_of_beq hc))] at hab;cases hab
   ·cases hc:aM a (aP b)
    ·rfl
    ·rw [dN ha hq (.inr hc)] at hab;cases hab
  ·
   have hby:aM a y.p=true:=by rw [e1];exact jA ha
   have hq:aP y.p≠[]:=by
    rcases gW ha hby with h1|h1
    ·rw [h1];exact ha
    ·intro h2;rw [h2] at h1;have:=dM h1;have:a=[]:=by simpa using this
     exact absurd this ha
   obtain ⟨m,k1,k2⟩:=cG hq (h y hy);obtain ⟨w,hw,hwp,hwn⟩:=cD k1;have hmw:mvd a w=true:=by
    unfold mvd;rw [hwp];rcases gW ha hby with h1|h1
    ·rw [h1];simp
    ·rw [h1];simp
   have hgot:=pS (b:=b) (out:=bR t a) ha hmw hs h0 hw;obtain ⟨s',e3,_⟩:=gX ha hmw;obtain ⟨n,hn,hn47⟩:=pH hq;have he:aP (b++47::r)=b++w.p.drop a.length:=by
    rw [e3,List.drop_left];rw [hwp] at e3;rw [e3,e1,List.append_assoc] at hn;have hn2:(47::r:List UInt8)=s'++47::n:=List.append_cancel_left hn;rw [hn2,← List.append_assoc];exact zId hn47
   rw [he];exact eO hgot (by rw [hwn];exact k2)
end Go.Dm
end
section
namespace Go.Dm
open Go
structure OkT (t:List It):Prop extends OkT0 t where
 par:Par t
theorem OkT.nil:OkT []:=⟨OkT0.nil,fun x h=>by simp at h⟩
theorem OkT.ne {t:List It} (h:OkT t):∀ x∈t,x.p≠[]:=fun x hx=>(h.its x hx).1
theorem OkT.plen {t:List It} (h:OkT t):∀ x∈t,x.p.length≤120:=h.toOkT0.plen
theorem OkT.dlen {t:List It} (h:OkT t):∀ x∈t,x.n.d.length≤2000:=h.toOkT0.dlen
theorem OkT.tlen {t:List It} (h:OkT t):∀ x∈t,x.n.t<18446744073709551616:=h.toOkT0.tlen
theorem OkT.remove {t:List It} (h:OkT t) (p:List UInt8):OkT (bR t p):=⟨h.toOkT0.remove p,h.par.remove h.ne p⟩
theorem OkT.put {t:List It} {p:List UInt8} {n:Nd} (h:OkT t) (hnt:n.t<18446744073709551616) (he:(sL t p n).2=0):OkT (sL t p n).1:=by
 refine ⟨h.toOkT0.put hnt he,?_⟩;unfold sL at he ⊢;generalize hu:(if n.k != 2 then bS t p else t)=u at he ⊢
 split at he
 ·cases he
 ·rename_i h1;split at he
  ·cases he
  ·rename_i h2;split at he
   ·cases he
   ·rename_i h3;rw [if_neg h1,if_neg h2,if_neg h3];simp only [Bool.or_eq_true,not_or,beq_iff_eq,Bool.not_eq_true',Bool.not_eq_false] at h1 h2;exact h.par.set h1.1.1 h2 hu.symm
theorem OkT.move {t:List It} {a b:List UInt8} (h:OkT t) (he:(mE t a b).2=0):OkT (mE t a b).1:=by
 refine ⟨h.toOkT0.move he,?_⟩;unfold mE at he ⊢;split at he
 ·cases he
 ·rename_i h1;rw [if_neg h1];split at he
  ·cases he
  ·rename_i h2;rw [if_neg h2];split at he
   ·cases he
   ·rename_i h3;rw [if_neg h3];split at he
    ·cases he
    ·rename_i h4;rw [if_neg h4];split at he
     ·cases he
     ·rename_i h5;rw [if_neg h5];simp only [Bool.or_eq_true,not_or,beq_iff_eq,Bool.not_eq_true',Bool.not_eq_false] at h1 h2 h3 h4 h5;refine h.par.move h.srt h.ne h1.1.1.1 h1.1.1.2 (by simpa using h3) (by simpa using h4) h5 (fun e=>?_) he;rw [e] at h2;exact h4 h2
end Go.Dm
end
section
namespace Go.Dm
open Go
theorem zI3 {P:Program} {X0:Ctx} {s:DS} {Q:Exit→DS→Prop} {c:Code} (i k:Nat) (hn:look s.t i=.c (.p .nil)) (h:SWP P X0 c ⟨s.n,(i,.c (.p (.sl k [])))::s.t,s.h⟩ Q):SWP P X0 c s Q:=by
 intro gd X a hh hi hs ht;refine h gd X a hh hi hs ⟨ht.size,fun j=>?_,ht.defs⟩;simp only [look];split
 ·rename_i hij;subst hij;have:=ht.rel j;rw [hn] at this;exact wkD.rel (x:=.c (.p .nil)) (y:=.c (.p (.sl k []))) zCt this
 ·exact ht.rel j
theorem zKn {P:Program} {X0:Ctx} {n:Nat} {t:Fr} {h:aB} {Q:Exit→DS→Prop} {c:Code} (i k:Nat) (hn:look t i=.c (.p .nil)) (hd:SWP P X0 c ⟨n,(i,.c (.p (.sl k [])))::t,h⟩ Q):SWP P X0 c ⟨n,t,h⟩ Q :=
 zI3 i k hn hd
def zCB:List DV→List DV→Prop
 | [],[]=>True
 | x::xs,y::ys=>wkD x y∧zCB xs ys
 | _,_=>False
theorem zCB.rel {X:Ctx}:∀ {xs ys:List DV} {vs:List Value},zCB xs ys→cZ X xs vs→cZ X ys vs
 | [],[],_,_,h=>h
 | _::_,_::_,_::_,h,hr=>⟨wkD.rel h.1 hr.1,zCB.rel h.2 hr.2⟩
 | _::_,_::_,[],_,hr=>hr.elim
theorem aA.wkargs {P:Program} {f:FuncId} {args args':List DV} {h:aB} {R:DV→aB→Prop} (hw:zCB args args') (hc:aA P f args' h R):aA P f args h R :=
 fun X vals hh hi gd hr=>hc X vals hh hi gd (zCB.rel hw hr)
theorem OkT.getd {t:List It} (h:OkT t) (p:List UInt8):((aW t p).getD nd0).d.length≤2000:=by
 cases hg:aW t p with
 | none=>simp [nd0]
 | some n =>
  obtain ⟨x,hx,_,rfl⟩:=cD hg;exact h.dlen x hx
theorem OkT.gett {t:List It} (h:OkT t) (p:List UInt8):((aW t p).getD nd0).t<18446744073709551616:=by
 cases hg:aW t p with
 | none=>simp [nd0]
 | some n =>
  obtain ⟨x,hx,_,rfl⟩:=cD hg;exact h.tlen x hx
structure RI where
 p:Int
 n:RN
def RI.cs (x:RI):List PV:=[.i .i64 x.p,.i .i64 x.n.k,.i .i64 x.n.m,.i .i64 x.n.t,.f x.n.x,.sl 1 (bW x.n.d)]
def encI (l:List RI):List (List PV):=l.map RI.cs
theorem zDm (l:List RI):(encI l).length=l.length:=by simp [encI]
theorem zDn (t:List RI):(∀ x∈encI t,x.length=6)=True:=eq_true fun x hx=>by
 simp only [encI,List.mem_map] at hx;obtain ⟨y,_,rfl⟩:=hx;rfl
structure RU where
 what:Int
 at':Int
 to':Int
 n:RN
def RU.cs (x:RU):List PV:=[.i .i64 x.what,.i .i64 x.at',.i .i64 x.to',.i .i64 x.n.k,.i .i64 x.n.m,.i .i64 x.n.t,.f x.n.x,.sl 1 (bW x.n.d)]
def zIr (l:List RU):List (List PV):=l.map RU.cs
theorem zDG (l:List RU):(zIr l).length=l.length:=by simp [zIr]
theorem zDH (t:List RU):(∀ x∈zIr t,x.length=8)=True:=eq_true fun x hx=>by
 simp only [zIr,List.mem_map] at hx;obtain ⟨y,_,rfl⟩:=hx;rfl
theorem zIZ (x:RN):RN.mk x.k x.m x.t x.x x.d=x:=rfl
attribute [go_sem] zIZ zDm zDn zDG zDH
structure Ch where
 p:List UInt8
 k:Int
 o:Nd
 n:Nd
def Ch.cs (x:Ch):List PV:=[.s x.p,.i .i64 x.k,.i .i64 x.o.k,.i .i64 x.o.m,.f x.o.t,.sl 1 (bW x.o.d),.i .i64 x.n.k,.i .i64 x.n.m,.f x.n.t,.sl 1 (bW x.n.d)]
def DQ (l:List Ch):List (List PV):=l.map Ch.cs
theorem zDb (l:List Ch):(DQ l).length=l.length:=by simp [DQ]
theorem zDc:DQ []=[]:=rfl
theorem zDa (a b:List Ch):DQ a++DQ b=DQ (a++b):=by simp [DQ]
theorem YS (a:List Ch) (n:Nat):(DQ a).take n=DQ (a.take n):=by simp [DQ]
theorem YQ (a:List Ch) (n:Nat):(DQ a).drop n=DQ (a.drop n):=by simp [DQ]
theorem zDd (t:List Ch):(∀ x∈DQ t,x.length=10)=True:=eq_true fun x hx=>by
 simp only [DQ,List.mem_map] at hx;obtain ⟨y,_,rfl⟩:=hx;rfl
theorem YR (t:List Ch) (p:List UInt8) (k k1 m1 k2 m2:Int) (t1 t2:Nat) (d1 d2:List UInt8):DQ t++[[.s p,.i .i64 k,.i .i64 k1,.i .i64 m1,.f t1,.sl 1 (bW d1),.i .i64 k2,.i .i64 m2,.f t2,.sl 1 (bW d2)]]=DQ (t++[⟨p,k,⟨k1,m1,t1,d1⟩,⟨k2,m2,t2,d2⟩⟩]):=by simp [DQ,Ch.cs]
theorem zH4 (x:Ch):Ch.mk x.p x.k x.o x.n=x:=rfl
attribute [go_sem] zDb zDc zDa YS YQ zDd YR zH4
end Go.Dm
end
end
