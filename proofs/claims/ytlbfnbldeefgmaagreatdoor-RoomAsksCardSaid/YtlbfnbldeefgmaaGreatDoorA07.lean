/- Part 8 of the proof of roomAsks_card, set without needless blanks. No condition. -/
import Derived.Test.YtlbfnbldeefgmaaGreatDoorA06
set_option linter.all false
section
section
namespace Go.Dm
open Go
theorem cM:∀ a:List UInt8,bL a a=false
 | []=>rfl
 | x::a=>by
  show (decide (x<x) || (x == x && bL a a))=false;simp [cM a]
theorem qR (x y:UInt8) (a b:List UInt8):bL (x::a) (y::b)=(decide (x<y) || (x == y && bL a b)):=rfl
theorem EI (a:List UInt8):bL a []=false:=by cases a <;> rfl
theorem cC:∀ {a b c:List UInt8},bL a b=true→bL b c=true→bL a c=true
 | _,[],_,h,_=>by rw [EI] at h;cases h
 | _,_::_,[],_,h=>by rw [EI] at h;cases h
 | [],_::_,_::_,_,_=>rfl
 | x::a,y::b,z::c,h1,h2=>by
  rw [qR] at *;simp only [Bool.or_eq_true,Bool.and_eq_true,decide_eq_true_eq,beq_iff_eq] at *;rcases h1 with h1|⟨rfl,h1⟩ <;> rcases h2 with h2|⟨rfl,h2⟩
  ·exact .inl (UInt8.lt_trans h1 h2)
  ·exact .inl h1
  ·exact .inl h2
  ·exact .inr ⟨rfl,cC h1 h2⟩
theorem dV:∀ {a b:List UInt8},bL a b=false→bL b a=false→a=b
 | [],[],_,_=>rfl
 | [],_::_,h,_=>by cases h
 | _::_,[],_,h=>by cases h
 | x::a,y::b,h1,h2=>by
  rw [qR] at *;simp only [Bool.or_eq_false_iff,decide_eq_false_iff_not] at h1 h2;have hxy:x=y:=by
   have h3:=h1.1;have h4:=h2.1;rw [UInt8.lt_iff_toNat_lt] at h3 h4;exact UInt8.toNat_inj.1 (by omega)
  subst hxy;have h5:bL a b=false:=by simpa using h1.2
  have h6:bL b a=false:=by simpa using h2.2
  rw [dV h5 h6]
theorem eH {a b:List UInt8} (h:bL a b=true):bL b a=false:=by
 cases h2:bL b a
 ·rfl
 ·have:=cC h h2;rw [cM] at this;cases this
theorem jT {a b:List UInt8} (h:bL a b=true):(a == b)=false:=by
 cases h2:a == b
 ·rfl
 ·rw [eq_of_beq h2,cM] at h;cases h
abbrev Srt (t:List It):Prop:=t.Pairwise fun x y=>bL x.p y.p=true
theorem lY {p:List UInt8} {n:Nd} {y:It}:∀ {t:List It} {d:Bool},y∈vD p n d t→y=⟨p,n⟩∨y∈t
 | [],d,h=>by cases d <;> simp [vD] at h;exact .inl h
 | x::r,d,h=>by
  simp only [vD,List.mem_append] at h;rcases h with h|h|h
  ·split at h <;> simp at h;exact .inl h
  ·split at h <;> simp at h;exact .inr (by simp [h])
  ·rcases lY h with h|h
   ·exact .inl h
   ·exact .inr (List.mem_cons_of_mem _ h)
theorem sG (p:List UInt8) (n:Nd):∀ t:List It,vD p n true t=pI t p
 | []=>rfl
 | x::r=>by
  simp only [vD,Bool.not_true,Bool.false_and,Bool.true_or,Bool.false_eq_true,if_false,List.nil_append,sG p n r,pI,List.filter_cons];split <;> rfl
theorem wI {p:List UInt8} {n:Nd}:∀ {t:List It},Srt t→Srt (sP t p n)
 | [],_=>by simp [sP,vD]
 | x::r,h=>by
  have h1:=List.pairwise_cons.1 h;unfold sP;cases hb:bL x.p p
  ·simp only [vD,hb,Bool.not_false,Bool.true_and,if_true,Bool.false_or,sG];have hd:Srt (pI r p):=h1.2.filter _;have hlt:∀ y∈r,bL p y.p=true:=fun y hy=>by
    have:=h1.1 y hy;cases hp:bL p x.p
    ·rw [← dV hb hp];exact this
    ·exact cC hp this
   cases he:x.p == p
   ·have hp:bL p x.p=true:=by
     cases hp:bL p x.p
     ·rw [dV hb hp] at he;simp at he
     ·rfl
    simp only [Bool.not_false,if_true,List.cons_append,List.nil_append];refine List.pairwise_cons.2 ⟨fun y hy=>?_,List.pairwise_cons.2 ⟨fun y hy=>h1.1 y (List.mem_filter.1 hy).1,hd⟩⟩;rcases List.mem_cons.1 hy with rfl|hy
    ·exact hp
    ·exact hlt y (List.mem_filter.1 hy).1
   ·simp only [Bool.not_true,Bool.false_eq_true,if_false,List.cons_append,List.nil_append];exact List.pairwise_cons.2 ⟨fun y hy=>hlt y (List.mem_filter.1 hy).1,hd⟩
  ·simp only [vD,hb,Bool.not_true,Bool.and_false,Bool.false_eq_true,if_false,Bool.or_false,List.nil_append,jT hb,Bool.not_false,if_true,List.singleton_append];refine List.pairwise_cons.2 ⟨fun y hy=>?_,wI h1.2⟩;rcases lY hy with rfl|hy
   ·exact hb
   ·exact h1.1 y hy
def OkI (x:It):Prop:=x.p≠[]∧bT x.p=true∧aS x.n=true∧x.n.t<18446744073709551616
structure OkT0 (t:List It):Prop where
 srt:Srt t
 its:∀ x∈t,OkI x
 len:t.length≤120
theorem OkT0.nil:OkT0 []:=⟨List.Pairwise.nil,fun x h=>by simp at h,by simp⟩
theorem pP {p:List UInt8} (h:bT p=true):p.length≤120:=by
 unfold bT at h;simp only [Bool.or_eq_true,Bool.and_eq_true,decide_eq_true_eq,beq_iff_eq] at h;rcases h with rfl|h
 ·simp
 ·omega
theorem gR {n:Nd} (h:aS n=true):n.d.length≤2000:=by
 unfold aS jK at h;rw [Bool.and_eq_true] at h;have h:=h.2;split at h
 ·simp only [decide_eq_true_eq] at h;omega
 ·split at h
  ·simp only [beq_iff_eq] at h;omega
  ·split at h
   ·simp only [Bool.and_eq_true,decide_eq_true_eq] at h;omega
   ·cases h
theorem OkT0.plen {t:List It} (h:OkT0 t):∀ x∈t,x.p.length≤120:=fun x hx=>pP (h.its x hx).2.1
theorem OkT0.dlen {t:List It} (h:OkT0 t):∀ x∈t,x.n.d.length≤2000:=fun x hx=>gR (h.its x hx).2.2.1
theorem OkT0.filter {t:List It} (h:OkT0 t) (f:It→Bool):OkT0 (t.filter f) :=
 ⟨h.srt.filter _,fun x hx=>h.its x (List.mem_filter.1 hx).1,Nat.le_trans (List.length_filter_le ..) h.len⟩
theorem OkT0.remove {t:List It} (h:OkT0 t) (p:List UInt8):OkT0 (bU t p):=(h.filter _).filter _
theorem OkT0.tlen {t:List It} (h:OkT0 t):∀ x∈t,x.n.t<18446744073709551616:=fun x hx=>(h.its x hx).2.2.2
theorem OkT0.put {t:List It} {p:List UInt8} {n:Nd} (h:OkT0 t) (hnt:n.t<18446744073709551616) (he:(lV t p n).2=0):OkT0 (lV t p n).1:=by
 have hb:OkT0 (if n.k != 2 then bE t p else t):=by split;exact h.filter _;exact h
 unfold lV at he ⊢;generalize (if n.k != 2 then bE t p else t)=u at he hb ⊢
 split at he
 ·cases he
 ·rename_i h1;split at he
  ·cases he
  ·rename_i h2;split at he
   ·cases he
   ·rename_i h3;rw [if_neg h1,if_neg h2,if_neg h3];simp only [Bool.or_eq_true,not_or,beq_iff_eq,Bool.not_eq_true',Bool.not_eq_false] at h1;refine ⟨wI hb.srt,fun x hx=>?_,?_⟩
    ·rcases lY hx with rfl|hx
     ·exact ⟨h1.1.1,h1.1.2,h1.2,hnt⟩
     ·exact hb.its x hx
    ·simp only [decide_eq_true_eq] at h3;show (sP _ p n).length≤120;omega
theorem qT (r:List UInt8):∀ (s w:List UInt8),vU w (s++47::r)=vU w s++vU [] r
 | [],w=>by simp [vU]
 | b::s,w=>by
  simp only [List.cons_append,vU];split
  ·rw [qT r s []];rfl
  ·rw [qT r s (w++[b])]
theorem fY {a q:List UInt8} (ha:a≠[]) (h:aP a q=true):∃ r,q=a++47::r:=by
 unfold aP at h;rw [if_neg (by simpa using ha)] at h;simp only [Bool.or_eq_true,Bool.and_eq_true,decide_eq_true_eq,beq_iff_eq] at h;rcases h with ⟨_,h⟩|⟨_,h⟩
 ·refine ⟨q.drop (a.length+1),?_⟩;have:=List.take_append_drop (a.length+1) q;rw [h] at this;rw [List.append_assoc] at this;exact this.symm
 ·exact ⟨[],h⟩
theorem OkI.moved {a b:List UInt8} {x:It} (ha:a≠[]) (hb:b≠[]) (hbp:bT b=true) (hx:OkI x) (hc:(!(x.p == a) && !aP a x.p)=false) (hl:¬ decide ((120:Int)<(b.length+(x.p.drop a.length).length:Nat))=true):OkI ⟨b++x.p.drop a.length,x.n⟩:=by
 refine ⟨by simp [hb],?_,hx.2.2⟩
 simp only [decide_eq_true_eq] at hl;have hl2:(b++x.p.drop a.length).length≤120:=by rw [List.length_append];omega
 have hbq:(oK b).all aW=true:=by
  unfold bT at hbp;have:(b == [])=false:=by simpa using hb
  rw [this,Bool.false_or,Bool.and_eq_true] at hbp;exact hbp.1
 have hxq:(oK x.p).all aW=true:=by
  have h:=hx.2.1;unfold bT at h;have:(x.p == [])=false:=by simpa using hx.1
  rw [this,Bool.false_or,Bool.and_eq_true] at h;exact h.1
 unfold bT;simp only [Bool.or_eq_true,Bool.and_eq_true,decide_eq_true_eq];refine .inr ⟨?_,by omega⟩
 cases he:x.p == a
 ·rw [he] at hc;have hbl:aP a x.p=true:=by simpa using hc
  obtain ⟨r,hr⟩:=fY ha hbl;have hdr:x.p.drop a.length=47::r:=by rw [hr];simp
  rw [hdr];rw [hr] at hxq;unfold oK at hxq hbq ⊢;rw [qT,List.all_append,Bool.and_eq_true] at hxq;rw [qT,List.all_append,hbq,hxq.2];rfl
 ·have hdr:x.p.drop a.length=[]:=by rw [eq_of_beq he];simp
  rw [hdr,List.append_nil];exact hbq
theorem wF {a b:List UInt8} (ha:a≠[]) (hb:b≠[]) (hbp:bT b=true):∀ {t out:List It},(∀ x∈t,OkI x)→Srt out→(∀ x∈out,OkI x)→(eW a b out t).2=0→Srt (eW a b out t).1∧(∀ x∈(eW a b out t).1,OkI x)
 | [],out,_,h2,h3,_=>⟨h2,h3⟩
 | x::r,out,h1,h2,h3,h4=>by
  have hr:∀ y∈r,OkI y:=fun y hy=>h1 y (List.mem_cons_of_mem _ hy);rw [eW] at h4 ⊢;split at h4
  ·rename_i hc;rw [if_pos hc];exact wF ha hb hbp hr h2 h3 h4
  ·rename_i hc;split at h4
   ·cases h4
   ·rename_i hl;rw [if_neg hc,if_neg hl];have hc2:(!(x.p == a) && !aP a x.p)=false:=by simpa using hc
    have hxm:=(h1 x List.mem_cons_self).moved ha hb hbp hc2 hl;refine wF ha hb hbp hr (wI h2) (fun y hy=>?_) h4;rcases lY hy with rfl|hy
    ·exact hxm
    ·exact h3 y hy
def mvd (a:List UInt8) (x:It):Bool:=!(!(x.p == a) && !aP a x.p)
theorem yR {a b:List UInt8}:∀ (t out:List It),(eW a b out t).1.length≤out.length+(t.filter (mvd a)).length
 | [],out=>by simp [eW]
 | x::r,out=>by
  cases hm:mvd a x
  ·have hc:(!(x.p == a) && !aP a x.p)=true:=by simpa only [mvd,Bool.not_eq_false'] using hm
   rw [eW,if_pos hc,List.filter_cons,if_neg (by rw [hm];decide)];exact yR r out
  ·have hc:¬ (!(x.p == a) && !aP a x.p)=true:=by simp only [mvd,Bool.not_eq_true'] at hm;rw [hm];decide
   rw [eW,if_neg hc,List.filter_cons,if_pos hm,List.length_cons];split
   ·exact Nat.zero_le _
   ·have h1:=yR (a:=a) (b:=b) r (sP out (b++x.p.drop a.length) x.n);have h2:=oW out (b++x.p.drop a.length) x.n;omega
theorem rY (a:List UInt8):∀ t:List It,(bU t a).length+(t.filter (mvd a)).length=t.length
 | []=>rfl
 | x::r=>by
  have h:=rY a r;unfold bU pI bE at h ⊢;rw [List.filter_filter] at h ⊢;simp only [List.filter_cons];cases hm:mvd a x
  ·have hc:(!(x.p == a) && !aP a x.p)=true:=by simpa only [mvd,Bool.not_eq_false'] using hm
   rw [if_pos hc,if_neg (by decide),List.length_cons,List.length_cons];omega
  ·have hc:¬ (!(x.p == a) && !aP a x.p)=true:=by simp only [mvd,Bool.not_eq_true'] at hm;rw [hm];decide
   rw [if_neg hc,if_pos rfl,List.length_cons,List.length_cons];omega
theorem OkT0.move {t:List It} {a b:List UInt8} (h:OkT0 t) (he:(nN t a b).2=0):OkT0 (nN t a b).1:=by
 unfold nN at he ⊢;split at he
 ·cases he
 ·rename_i h1;rw [if_neg h1];split at he
  ·cases he
  ·rename_i h2;rw [if_neg h2];split at he
   ·cases he
   ·rename_i h3;rw [if_neg h3];split at he
    ·cases he
    ·rename_i h4;rw [if_neg h4];split at he
     ·cases he
     ·rename_i h5;rw [if_neg h5];simp only [Bool.or_eq_true,not_or,beq_iff_eq,Bool.not_eq_true',Bool.not_eq_false] at h1;have hr:=h.remove a;obtain ⟨k1,k2⟩:=wF h1.1.1.1 h1.1.1.2 h1.2 h.its hr.srt hr.its he;refine ⟨k1,k2,?_⟩;have k3:=yR (a:=a) (b:=b) t (bU t a);have k4:=rY a t;have k5:=h.len;omega
end Go.Dm
end
section
namespace Go.Dm
open Go
theorem bZ {p:List UInt8} {n:Nd}:∀ {t:List It},aQ t p=some n→∃ x∈t,x.p=p∧x.n=n
 | [],h=>by simp [aQ] at h
 | x::r,h=>by
  rw [aQ] at h;split at h
  ·rename_i hx;exact ⟨x,List.mem_cons_self,eq_of_beq hx,by simpa using h⟩
  ·obtain ⟨y,hy,h2⟩:=bZ h;exact ⟨y,List.mem_cons_of_mem _ hy,h2⟩
def Par (t:List It):Prop:=∀ x∈t,aV t (aR x.p)=true
theorem gQ (p:List UInt8):∀ k,k≤p.length→(dB p k=none∧∀ j (h:j<p.length),j<k→p[j]≠47)∨(∃ i,∃ h:i<p.length,dB p k=some i∧i<k∧p[i]=47∧∀ j (h:j<p.length),i<j→j<k→p[j]≠47)
 | 0,_=>.inl ⟨rfl,fun j _ h=>by omega⟩
 | k+1,hk=>by
  have hlt:k<p.length:=by omega
  have hg:p.getD k 0=p[k]:=by simp [List.getD_eq_getElem?_getD,hlt]
  rw [dB,hg];by_cases hb:p[k]=47
  ·rw [hb,if_pos (by decide)];exact .inr ⟨k,hlt,rfl,by omega,hb,fun j h h1 h2=>by omega⟩
  ·have:¬ ((p[k].toNat:Int) == 47)=true:=by
    intro h;have h:=eq_of_beq h;exact hb (UInt8.toNat_inj.1 (by have:(47:UInt8).toNat=47:=rfl;omega))
   rw [if_neg this];rcases gQ p k (by omega) with ⟨h1,h2⟩|⟨i,h,h1,h2,h3,h4⟩
   ·refine .inl ⟨h1,fun j hj hjk=>?_⟩;rcases Nat.lt_or_ge j k with h|h
    ·exact h2 j hj h
    ·have:j=k:=by omega
     subst this;exact hb
   ·refine .inr ⟨i,h,h1,by omega,h3,fun j hj hij hjk=>?_⟩
    rcases Nat.lt_or_ge j k with h'|h'
    ·exact h4 j hj hij h'
    ·have:j=k:=by omega
     subst this;exact hb
theorem vY (p:List UInt8):(aR p=[]∧47 ∉ p)∨∃ n,p=aR p++47::n∧47 ∉ n:=by
 unfold aR;rcases gQ p p.length (Nat.le_refl _) with ⟨h1,h2⟩|⟨i,h,h1,h2,h3,h4⟩
 ·rw [h1];refine .inl ⟨rfl,fun hm=>?_⟩;obtain ⟨j,hj,he⟩:=List.mem_iff_getElem.1 hm;exact h2 j hj hj he
 ·rw [h1];refine .inr ⟨p.drop (i+1),?_,fun hm=>?_⟩
  ·have:=List.take_append_drop i p;rw [List.drop_eq_getElem_cons h,h3] at this;exact this.symm
  ·obtain ⟨j,hj,he⟩:=List.mem_iff_getElem.1 hm;rw [List.getElem_drop] at he;rw [List.length_drop] at hj;exact h4 (i+1+j) (by omega) (by omega) (by omega) he
theorem NL {d n d' n':List UInt8} (h:d++47::n=d'++47::n') (hn:47 ∉ n) (hn':47 ∉ n'):d=d'∧n=n':=by
 rcases List.append_eq_append_iff.1 h with ⟨c,h1,h2⟩|⟨c,h1,h2⟩
 ·cases c with
  | nil=>simp at h1 h2;exact ⟨h1.symm,h2⟩
  | cons x c =>
   simp only [List.cons_append,List.cons.injEq] at h2;exact absurd (by rw [h2.2];simp) hn
 ·cases c with
  | nil=>simp at h1 h2;exact ⟨h1,h2.symm⟩
  | cons x c =>
   simp only [List.cons_append,List.cons.injEq] at h2;exact absurd (by rw [h2.2];simp) hn'
theorem zLb {d n:List UInt8} (hn:47 ∉ n):aR (d++47::n)=d:=by
 rcases vY (d++47::n) with ⟨_,h⟩|⟨m,h,hm⟩
 ·exact absurd (by simp) h
 ·exact ((NL h hn hm).1).symm
theorem qX {p:List UInt8} (h:aR p≠[]):∃ n,p=aR p++47::n∧47 ∉ n:=by
 rcases vY p with ⟨h1,_⟩|h1
 ·exact absurd h1 h
 ·exact h1
theorem jS {a r:List UInt8} (ha:a≠[]):aP a (a++47::r)=true:=by
 unfold aP;rw [if_neg (by simpa using ha)];cases r with
 | nil=>simp
 | cons b r =>
  have h1:decide (((a++47::b::r).length:Int) > a.length+1)=true:=by simp;omega
  have h2:(a++47::b::r).take (a.length+1)=a++[47]:=by
   rw [List.take_append];simp [List.take_of_length_le]
  rw [h1,h2];simp
theorem zBc {a q:List UInt8} (ha:a≠[]):aP a q=true↔∃ r,q=a++47::r:=⟨fY ha,fun ⟨_,h⟩=>h▸jS ha⟩
theorem dP {a q:List UInt8} (ha:a≠[]) (hd:aR q≠[]) (h:aR q=a∨aP a (aR q)=true):aP a q=true:=by
 obtain ⟨n,hn,_⟩:=qX hd;rcases h with h|h
 ·rw [hn,h];exact jS ha
 ·obtain ⟨r,hr⟩:=fY ha h;rw [hn,hr,List.append_assoc];exact jS ha
theorem iF {a q:List UInt8} (ha:a≠[]) (h:aP a q=true):aR q=a∨aP a (aR q)=true:=by
 obtain ⟨r,hr⟩:=fY ha h;rcases vY q with ⟨_,h1⟩|⟨n,h1,h2⟩
 ·exact absurd (by rw [hr];simp) h1
 ·rw [hr] at h1;rcases List.append_eq_append_iff.1 h1 with ⟨c,e1,e2⟩|⟨c,e1,e2⟩
  ·cases c with
   | nil=>left;rw [hr];simpa using e1
   | cons x c =>
    simp only [List.cons_append,List.cons.injEq] at e2;right;rw [hr,e1,← e2.1];exact jS ha
  ·cases c with
   | nil=>left;rw [hr];simpa using e1.symm
   | cons x c =>
    simp only [List.cons_append,List.cons.injEq] at e2;exact absurd (by rw [e2.2];simp) h2
theorem qY {p:List UInt8} (h:aR p≠[]):(aR p).length<p.length:=by
 obtain ⟨n,hn,_⟩:=qX h;have:=congrArg List.length hn;simp only [List.length_append,List.length_cons] at this;omega
theorem fK (g:List UInt8→Bool) (q:List UInt8):∀ t:List It,aQ (t.filter fun x=>g x.p) q=if g q then aQ t q else none
 | []=>by simp [aQ]
 | x::r=>by
  rw [List.filter_cons];by_cases hx:x.p=q
  ·subst hx;cases hg:g x.p
   ·simp only [Bool.false_eq_true,if_false];have:=fK g x.p r;simpa [hg] using this
   ·simp [aQ]
  ·have hb:(x.p == q)=false:=by simpa using hx
   split
   ·simp only [aQ,hb,Bool.false_eq_true,if_false];exact fK g q r
   ·simp only [aQ,hb,Bool.false_eq_true,if_false];exact fK g q r
theorem fE (t:List It) (p:List UInt8):bU t p=t.filter fun x=>!(x.p == p) && !aP p x.p:=by
 unfold bU pI bE;rw [List.filter_filter]
theorem yA (t:List It) (p q:List UInt8):aQ (bU t p) q=if (!(q == p) && !aP p q) then aQ t q else none:=by
 rw [fE];exact fK (fun q=>!(q == p) && !aP p q) q t
theorem AU (t:List It) (p q:List UInt8):aQ (bE t p) q=if !aP p q then aQ t q else none:=fK (fun q=>!aP p q) q t
theorem KQ {p q:List UInt8} (h:(q == p)=false) (t:List It):aQ (pI t p) q=aQ t q:=by
 unfold pI;rw [fK (fun q=>!(q == p)) q t,h];rfl
theorem KS {p q:List UInt8} {n:Nd}:∀ t:List It,aQ (vD p n false t) q=if q == p then some n else aQ t q
 | []=>by
  simp only [vD,Bool.false_eq_true,if_false,aQ];rw [show (p == q)=(q == p) from BEq.comm]
 | x::r=>by
  have hc:(p == q)=(q == p):=BEq.comm;simp only [vD,Bool.not_false,Bool.true_and,Bool.false_or];cases hb:bL x.p p
  ·simp only [Bool.not_false,if_true,List.singleton_append,aQ,hc,sG];cases hq:q == p
   ·simp only [Bool.false_eq_true,if_false];have hd:=KQ hq r;cases hx:x.p == p
    ·simp only [Bool.not_false,if_true,List.singleton_append,aQ,hd]
    ·have hxq:(x.p == q)=false:=by
      rw [eq_of_beq hx,hc];exact hq
     simp only [Bool.not_true,Bool.false_eq_true,if_false,List.nil_append,hd,hxq]
   ·rfl
  ·have ih:=KS (p:=p) (q:=q) (n:=n) r;have hx:(x.p == p)=false:=jT hb;simp only [Bool.not_true,Bool.false_eq_true,if_false,List.nil_append,hx,Bool.not_false,if_true,List.singleton_append,aQ,ih];cases hq:q == p
   ·rfl
   ·have hxq:(x.p == q)=false:=by rw [eq_of_beq hq];exact hx
    simp [hxq]
theorem nE {p q:List UInt8} {n:Nd} (t:List It):aQ (sP t p n) q=if q == p then some n else aQ t q:=KS t
theorem cN {t:List It} {q:List UInt8} (hq:q≠[]) (h:aV t q=true):∃ m,aQ t q=some m∧m.k=2:=by
 unfold aV at h;have:(q == [])=false:=by simpa using hq
 rw [this,Bool.false_or] at h;cases hg:aQ t q with
 | none=>rw [hg] at h;cases h
 | some m=>rw [hg] at h;exact ⟨m,rfl,by simpa using h⟩
theorem eU {t:List It} {q:List UInt8} {m:Nd} (h:aQ t q=some m) (hk:m.k=2):aV t q=true:=by
 unfold aV;rw [h];simp [hk]
theorem Par.remove {t:List It} (h:Par t) (hne:∀ x∈t,x.p≠[]) (p:List UInt8):Par (bU t p):=by
 intro x hx;rw [fE,List.mem_filter] at hx;obtain ⟨hx,hg⟩:=hx;by_cases hq:aR x.p=[]
 ·rw [hq];rfl
 obtain ⟨m,h1,h2⟩:=cN hq (h x hx);refine eU (m:=m) ?_ h2;rw [yA,h1];simp only [Bool.and_eq_true,Bool.not_eq_true'] at hg;by_cases hp:p=[]
 ·subst hp;have:=hne x hx;simp [aP,this] at hg
 have k1:(aR x.p == p)=false:=by
  cases hc:aR x.p == p
  ·rfl
  ·rw [dP hp hq (.inl (eq_of_beq hc))] at hg;cases hg.2
 have k2:aP p (aR x.p)=false:=by
  cases hc:aP p (aR x.p)
  ·rfl
  ·rw [dP hp hq (.inr hc)] at hg;cases hg.2
 rw [k1,k2];rfl
theorem Par.set {t u:List It} {p:List UInt8} {n:Nd} (h:Par t) (hp:p≠[]) (hd:aV t (aR p)=true) (hu:u=if n.k != 2 then bE t p else t):Par (sP u p n):=by
 have key:∀ q,q≠[]→q≠p→(n.k≠2→aP p q=false)→∀ m,aQ t q=some m→aQ (sP u p n) q=some m:=by
  intro q h0 h1 h2 m hm;rw [nE];have:(q == p)=false:=by simpa using h1
  rw [this,hu];simp only [Bool.false_eq_true,if_false];split
  ·rename_i hk;rw [AU,h2 (by simpa using hk)];simpa using hm
  ·exact hm
 intro x hx;by_cases hq:aR x.p=[]
 ·rw [hq];rfl
 rcases lY hx with rfl|hx
 ·obtain ⟨m,h1,h2⟩:=cN hq hd;have hlt:=qY hq;simp only at hq hlt ⊢;refine eU (key _ hq (fun e=>by rw [e] at hlt;omega) (fun _=>?_) m h1) h2
  cases hb:aP p (aR p)
  ·rfl
  ·have:=dO hb;omega
 ·have hxt:x∈t∧(n.k≠2→aP p x.p=false):=by
   rw [hu] at hx;split at hx
   ·have:=List.mem_filter.1 hx;exact ⟨this.1,fun _=>by simpa using this.2⟩
   ·rename_i hk;exact ⟨hx,fun h=>absurd (by simpa using h) hk⟩
  obtain ⟨m,h1,h2⟩:=cN hq (h x hxt.1);by_cases he:aR x.p=p
  ·have hk:n.k=2:=by
    rcases Decidable.em (n.k=2) with h|h
    ·exact h
    ·have h3:=hxt.2 h;rw [dP hp hq (.inl he)] at h3;cases h3
   refine eU (m:=n) ?_ hk;rw [nE,he];simp
  ·refine eU (key _ hq he (fun hk=>?_) m h1) h2;have h3:=hxt.2 hk;cases hb:aP p (aR x.p)
   ·rfl
   ·rw [dP hp hq (.inr hb)] at h3;cases h3
theorem zDW {t:List It} {b:List UInt8} (h:Par t) (hb:b≠[]):∀ (n:Nat) (q:List UInt8),q.length≤n→(aQ t q).isSome=true→aP b q=true→(aQ t b).isSome=true
 | 0,q,hl,_,hq=>by
  have h1:q=[]:=by simpa using hl
  subst h1;have h2:=dO hq;have:b=[]:=by simpa using h2
  exact absurd this hb
 | n+1,q,hl,hs,hq=>by
  obtain ⟨m,hm⟩:=Option.isSome_iff_exists.1 hs;obtain ⟨x,hx,rfl,_⟩:=bZ hm;have hdx:=h x hx;rcases iF hb hq with h1|h1
  ·rw [h1] at hdx;obtain ⟨m,h2,_⟩:=cN hb hdx;rw [h2];rfl
  ·have h0:aR x.p≠[]:=by
    intro h0;rw [h0] at h1;have:=dO h1;have:b=[]:=by simpa using this
    exact absurd this hb
   obtain ⟨m,h2,_⟩:=cN h0 hdx;have hlt:=qY h0;exact zDW h hb n _ (by omega) (by rw [h2];rfl) h1
theorem rN {a b:List UInt8} {z:It}:∀ {t out:List It},(eW a b out t).2=0→z∈(eW a b out t).1→z∈out∨∃ y∈t,mvd a y=true∧z=⟨b++y.p.drop a.length,y.n⟩
 | [],out,_,h=>.inl h
 | x::r,out,h0,h=>by
  rw [eW] at h0 h;split at h0
  ·rename_i hc;rw [if_pos hc] at h;rcases rN h0 h with h|⟨y,hy,h⟩
   ·exact .inl h
   ·exact .inr ⟨y,List.mem_cons_of_mem _ hy,h⟩
  ·rename_i hc;split at h0
   ·cases h0
   ·rename_i hl;rw [if_neg hc,if_neg hl] at h;have hm:mvd a x=true:=by
     have hc2:(!(x.p == a) && !aP a x.p)=false:=by simpa only [Bool.not_eq_true] using hc
     rw [mvd,hc2];rfl
    rcases rN h0 h with h|⟨y,hy,h⟩
    ·rcases lY h with rfl|h
     ·exact .inr ⟨x,List.mem_cons_self,hm,rfl⟩
     ·exact .inl h
    ·exact .inr ⟨y,List.mem_cons_of_mem _ hy,h⟩
theorem iG {a:List UInt8} (ha:a≠[]) {y:It} (h:mvd a y=true):∃ s,y.p=a++s∧(s=[]∨∃ r,s=47::r):=by
 unfold mvd at h;simp only [Bool.not_eq_true',Bool.and_eq_false_iff,Bool.not_eq_false'] at h;rcases h with h|h
 ·exact ⟨[],by rw [List.append_nil];exact eq_of_beq h,.inl rfl⟩
 ·obtain ⟨r,hr⟩:=fY ha h;exact ⟨47::r,hr,.inr ⟨r,rfl⟩⟩
theorem nM {a b:List UInt8} (ha:a≠[]) {q:List UInt8}:∀ {t out:List It},(eW a b out t).2=0→(∀ y∈t,mvd a y=true→b++y.p.drop a.length≠q)→aQ (eW a b out t).1 q=aQ out q
 | [],_,_,_=>rfl
 | x::r,out,h0,h=>by
  have hr:∀ y∈r,mvd a y=true→b++y.p.drop a.length≠q:=fun y hy=>h y (List.mem_cons_of_mem _ hy);rw [eW] at h0 ⊢;split at h0
  ·rename_i hc;rw [if_pos hc];exact nM ha h0 hr
  ·rename_i hc;split at h0
   ·cases h0
   ·rename_i hl;rw [if_neg hc,if_neg hl,nM ha h0 hr,nE];have hm:mvd a x=true:=by
     have hc2:(!(x.p == a) && !aP a x.p)=false:=by simpa only [Bool.not_eq_true] using hc
     rw [mvd,hc2];rfl
    have:=h x List.mem_cons_self hm;have e:(q == b++x.p.drop a.length)=false:=by simpa using fun e=>this e.symm
    rw [e];rfl
theorem rM {a b:List UInt8} (ha:a≠[]) {y:It} (hm:mvd a y=true):∀ {t out:List It},Srt t→(eW a b out t).2=0→y∈t→aQ (eW a b out t).1 (b++y.p.drop a.length)=some y.n
 | x::r,out,hs,h0,hy=>by
  obtain ⟨hs1,hs2⟩:=List.pairwise_cons.1 hs;rw [eW] at h0 ⊢;split at h0
  ·rename_i hc;rw [if_pos hc];rcases List.mem_cons.1 hy with rfl|hy
   ·unfold mvd at hm;rw [hc] at hm;cases hm
   ·exact rM ha hm hs2 h0 hy
  ·rename_i hc;split at h0
   ·cases h0
   ·rename_i hl;rw [if_neg hc,if_neg hl];rcases List.mem_cons.1 hy with rfl|hy
    ·rw [nM ha h0,nE];· simp
     intro z hz hmz he;obtain ⟨s,e1,_⟩:=iG ha hm;obtain ⟨s',e2,_⟩:=iG ha hmz;rw [e1,e2] at he;simp only [List.drop_left,List.append_cancel_left_eq] at he;have h1:=hs1 z hz;rw [e1,e2,he,cM] at h1;cases h1
    ·exact rM ha hm hs2 h0 hy
theorem Par.move {t:List It} {a b:List UInt8} (h:Par t) (hs:Srt t) (hne:∀ x∈t,x.p≠[]) (ha:a≠[]) (hb:b≠[]) (hab:aP a b=false) (hbt:(aQ t b).isSome=false) (hdb:aV t (aR b)=true) (haa:a≠b)
  (h0:(eW a b (bU t a) t).2=0):Par (eW a b (bU t a) t).1:=by
 have stay:∀ q m,q≠[]→aQ t q=some m→(q == a)=false→aP a q=false→aQ (eW a b (bU t a) t).1 q=some m:=by
  intro q m hq hm h1 h2;rw [nM ha h0,yA,h1,h2];· simpa using hm
  intro y hy hmy he;obtain ⟨s,e1,e2⟩:=iG ha hmy;rw [e1,List.drop_left] at he;rcases e2 with rfl|⟨r,rfl⟩
  ·rw [List.append_nil] at he;subst he;rw [hm] at hbt;cases hbt
  ·have:=zDW h hb q.length q (Nat.le_refl _) (by rw [hm];rfl) (by rw [← he];exact jS hb);rw [this] at hbt;cases hbt
 have up:∀ x∈t,(x.p == a)=false→aP a x.p=false→aV (eW a b (bU t a) t).1 (aR x.p)=true:=by
  intro x hx h1 h2;by_cases hq:aR x.p=[]
  ·rw [hq];rfl
  obtain ⟨m,k1,k2⟩:=cN hq (h x hx);refine eU (stay _ m hq k1 ?_ ?_) k2
  ·cases hc:aR x.p == a
   ·rfl
   ·rw [dP ha hq (.inl (eq_of_beq hc))] at h2;cases h2
  ·cases hc:aP a (aR x.p)
   ·rfl
   ·rw [dP ha hq (.inr hc)] at h2;cases h2
 intro z hz;rcases rN h0 hz with hz|⟨y,hy,hm,rfl⟩
 ·rw [fE,List.mem_filter] at hz;obtain ⟨hz,hg⟩:=hz;simp only [Bool.and_eq_true,Bool.not_eq_true'] at hg;exact up z hz hg.1 hg.2
 ·obtain ⟨s,e1,e2⟩:=iG ha hm;simp only [e1,List.drop_left];rcases e2 with rfl|⟨r,rfl⟩
  ·rw [List.append_nil];by_cases hq:aR b=[]
   ·rw [hq];rfl
   obtain ⟨m,k1,k2⟩:=cN hq hdb;refine eU (stay _ m hq k1 ?_ ?_) k2
   ·cases hc:aR b == a
    ·rfl
    ·rw [dP ha hq (.inl (eq_of_beq hc))] at hab;cases hab
   ·cases hc:aP a (aR b)
    ·rfl
    ·rw [dP ha hq (.inr hc)] at hab;cases hab
  ·
   have hby:aP a y.p=true:=by rw [e1];exact jS ha
   have hq:aR y.p≠[]:=by
    rcases iF ha hby with h1|h1
    ·rw [h1];exact ha
    ·intro h2;rw [h2] at h1;have:=dO h1;have:a=[]:=by simpa using this
     exact absurd this ha
   obtain ⟨m,k1,k2⟩:=cN hq (h y hy);obtain ⟨w,hw,hwp,hwn⟩:=bZ k1;have hmw:mvd a w=true:=by
    unfold mvd;rw [hwp];rcases iF ha hby with h1|h1
    ·rw [h1];simp
    ·rw [h1];simp
   have hgot:=rM (b:=b) (out:=bU t a) ha hmw hs h0 hw;obtain ⟨s',e3,_⟩:=iG ha hmw;obtain ⟨n,hn,hn47⟩:=qX hq;have he:aR (b++47::r)=b++w.p.drop a.length:=by
    rw [e3,List.drop_left];rw [hwp] at e3;rw [e3,e1,List.append_assoc] at hn;have hn2:(47::r:List UInt8)=s'++47::n:=List.append_cancel_left hn;rw [hn2,← List.append_assoc];exact zLb hn47
   rw [he];exact eU hgot (by rw [hwn];exact k2)
end Go.Dm
end
section
namespace Go.Dm
open Go
structure OkT (t:List It):Prop extends OkT0 t where
 par:Par t
theorem OkT.nil:OkT []:=⟨OkT0.nil,fun x h=>by simp at h⟩
theorem OkT.ne {t:List It} (h:OkT t):∀ x∈t,x.p≠[]:=fun x hx=>(h.its x hx).1
theorem OkT.plen {t:List It} (h:OkT t):∀ x∈t,x.p.length≤120:=h.toOkT0.plen
theorem OkT.dlen {t:List It} (h:OkT t):∀ x∈t,x.n.d.length≤2000:=h.toOkT0.dlen
theorem OkT.tlen {t:List It} (h:OkT t):∀ x∈t,x.n.t<18446744073709551616:=h.toOkT0.tlen
theorem OkT.remove {t:List It} (h:OkT t) (p:List UInt8):OkT (bU t p):=⟨h.toOkT0.remove p,h.par.remove h.ne p⟩
theorem OkT.put {t:List It} {p:List UInt8} {n:Nd} (h:OkT t) (hnt:n.t<18446744073709551616) (he:(lV t p n).2=0):OkT (lV t p n).1:=by
 refine ⟨h.toOkT0.put hnt he,?_⟩;unfold lV at he ⊢;generalize hu:(if n.k != 2 then bE t p else t)=u at he ⊢
 split at he
 ·cases he
 ·rename_i h1;split at he
  ·cases he
  ·rename_i h2;split at he
   ·cases he
   ·rename_i h3;rw [if_neg h1,if_neg h2,if_neg h3];simp only [Bool.or_eq_true,not_or,beq_iff_eq,Bool.not_eq_true',Bool.not_eq_false] at h1 h2;exact h.par.set h1.1.1 h2 hu.symm
theorem OkT.move {t:List It} {a b:List UInt8} (h:OkT t) (he:(nN t a b).2=0):OkT (nN t a b).1:=by
 refine ⟨h.toOkT0.move he,?_⟩;unfold nN at he ⊢;split at he
 ·cases he
 ·rename_i h1;rw [if_neg h1];split at he
  ·cases he
  ·rename_i h2;rw [if_neg h2];split at he
   ·cases he
   ·rename_i h3;rw [if_neg h3];split at he
    ·cases he
    ·rename_i h4;rw [if_neg h4];split at he
     ·cases he
     ·rename_i h5;rw [if_neg h5];simp only [Bool.or_eq_true,not_or,beq_iff_eq,Bool.not_eq_true',Bool.not_eq_false] at h1 h2 h3 h4 h5;refine h.par.move h.srt h.ne h1.1.1.1 h1.1.1.2 (by simpa using h3) (by simpa using h4) h5 (fun e=>?_) he;rw [e] at h2;exact h4 h2
end Go.Dm
end
section
namespace Go.Dm
open Go
theorem zL5 {P:Program} {X0:Ctx} {s:DS} {Q:Exit→DS→Prop} {c:Code} (i k:Nat) (hn:look s.t i=.c (.p .nil)) (h:SWP P X0 c ⟨s.n,(i,.c (.p (.sl k [])))::s.t,s.h⟩ Q):SWP P X0 c s Q:=by
 intro gd X a hh hi hs ht;refine h gd X a hh hi hs ⟨ht.size,fun j=>?_,ht.defs⟩;simp only [look];split
 ·rename_i hij;subst hij;have:=ht.rel j;rw [hn] at this;exact wkD.rel (x:=.c (.p .nil)) (y:=.c (.p (.sl k []))) TH this
 ·exact ht.rel j
theorem zKC {P:Program} {X0:Ctx} {n:Nat} {t:Fr} {h:aC} {Q:Exit→DS→Prop} {c:Code} (i k:Nat) (hn:look t i=.c (.p .nil)) (hd:SWP P X0 c ⟨n,(i,.c (.p (.sl k [])))::t,h⟩ Q):SWP P X0 c ⟨n,t,h⟩ Q :=
 zL5 i k hn hd
def zE8:List DV→List DV→Prop
 | [],[]=>True
 | x::xs,y::ys=>wkD x y∧zE8 xs ys
 | _,_=>False
theorem zE8.rel {X:Ctx}:∀ {xs ys:List DV} {vs:List Value},zE8 xs ys→dC X xs vs→dC X ys vs
 | [],[],_,_,h=>h
 | _::_,_::_,_::_,h,hr=>⟨wkD.rel h.1 hr.1,zE8.rel h.2 hr.2⟩
 | _::_,_::_,[],_,hr=>hr.elim
theorem aA.wkargs {P:Program} {f:FuncId} {args args':List DV} {h:aC} {R:DV→aC→Prop} (hw:zE8 args args') (hc:aA P f args' h R):aA P f args h R :=
 fun X vals hh hi gd hr=>hc X vals hh hi gd (zE8.rel hw hr)
theorem OkT.getd {t:List It} (h:OkT t) (p:List UInt8):((aQ t p).getD nd0).d.length≤2000:=by
 cases hg:aQ t p with
 | none=>simp [nd0]
 | some n =>
  obtain ⟨x,hx,_,rfl⟩:=bZ hg;exact h.dlen x hx
theorem OkT.gett {t:List It} (h:OkT t) (p:List UInt8):((aQ t p).getD nd0).t<18446744073709551616:=by
 cases hg:aQ t p with
 | none=>simp [nd0]
 | some n =>
  obtain ⟨x,hx,_,rfl⟩:=bZ hg;exact h.tlen x hx
def iW (p q:Bool) (x y:Nd):Int:=if p then (if q then (if mI x y then 0 else if x.k != y.k then 4 else if !(x.d == y.d) then 3 else 5) else 2) else (if q then 1 else 0)
structure RI where
 p:Int
 n:RN
def RI.cs (x:RI):List PV:=[.i .i64 x.p,.i .i64 x.n.k,.i .i64 x.n.m,.i .i64 x.n.t,.f x.n.x,.sl 1 (bO x.n.d)]
def encI (l:List RI):List (List PV):=l.map RI.cs
theorem zF1 (l:List RI):(encI l).length=l.length:=by simp [encI]
theorem zJj {t:List RI} {k:Nat} {x:RI} (h:t[k]? = some x):(encI t).getD k []=[.i .i64 x.p,.i .i64 x.n.k,.i .i64 x.n.m,.i .i64 x.n.t,.f x.n.x,.sl 1 (bO x.n.d)]:=by
 simp only [encI,List.getD_eq_getElem?_getD,List.getElem?_map,h];rfl
theorem zF2 (t:List RI):(∀ x∈encI t,x.length=6)=True:=eq_true fun x hx=>by
 simp only [encI,List.mem_map] at hx;obtain ⟨y,_,rfl⟩:=hx;rfl
structure RU where
 what:Int
 at':Int
 to':Int
 n:RN
def RU.cs (x:RU):List PV:=[.i .i64 x.what,.i .i64 x.at',.i .i64 x.to',.i .i64 x.n.k,.i .i64 x.n.m,.i .i64 x.n.t,.f x.n.x,.sl 1 (bO x.n.d)]
def zLp (l:List RU):List (List PV):=l.map RU.cs
theorem zGl (l:List RU):(zLp l).length=l.length:=by simp [zLp]
theorem zGm (t:List RU):(∀ x∈zLp t,x.length=8)=True:=eq_true fun x hx=>by
 simp only [zLp,List.mem_map] at hx;obtain ⟨y,_,rfl⟩:=hx;rfl
theorem zL1 (x:RN):RN.mk x.k x.m x.t x.x x.d=x:=rfl
attribute [go_sem] zL1 zF1 zF2 zGl zGm
structure Ch where
 p:List UInt8
 k:Int
 o:Nd
 n:Nd
def Ch.cs (x:Ch):List PV:=[.s x.p,.i .i64 x.k,.i .i64 x.o.k,.i .i64 x.o.m,.f x.o.t,.sl 1 (bO x.o.d),.i .i64 x.n.k,.i .i64 x.n.m,.f x.n.t,.sl 1 (bO x.n.d)]
def pD (l:List Ch):List (List PV):=l.map Ch.cs
theorem zFR (l:List Ch):(pD l).length=l.length:=by simp [pD]
theorem vZ:pD []=[]:=rfl
theorem zFQ (a b:List Ch):pD a++pD b=pD (a++b):=by simp [pD]
theorem zB5 (a:List Ch) (n:Nat):(pD a).take n=pD (a.take n):=by simp [pD]
theorem zB3 (a:List Ch) (n:Nat):(pD a).drop n=pD (a.drop n):=by simp [pD]
theorem ET {t:List Ch} {k:Nat} {x:Ch} (h:t[k]? = some x):(pD t).getD k []=[.s x.p,.i .i64 x.k,.i .i64 x.o.k,.i .i64 x.o.m,.f x.o.t,.sl 1 (bO x.o.d),.i .i64 x.n.k,.i .i64 x.n.m,.f x.n.t,.sl 1 (bO x.n.d)]:=by
 simp only [pD,List.getD_eq_getElem?_getD,List.getElem?_map,h];rfl
theorem zFS (t:List Ch):(∀ x∈pD t,x.length=10)=True:=eq_true fun x hx=>by
 simp only [pD,List.mem_map] at hx;obtain ⟨y,_,rfl⟩:=hx;rfl
theorem zB4 (t:List Ch) (p:List UInt8) (k k1 m1 k2 m2:Int) (t1 t2:Nat) (d1 d2:List UInt8):pD t++[[.s p,.i .i64 k,.i .i64 k1,.i .i64 m1,.f t1,.sl 1 (bO d1),.i .i64 k2,.i .i64 m2,.f t2,.sl 1 (bO d2)]]=pD (t++[⟨p,k,⟨k1,m1,t1,d1⟩,⟨k2,m2,t2,d2⟩⟩]):=by simp [pD,Ch.cs]
theorem zK1 (x:Ch):Ch.mk x.p x.k x.o x.n=x:=rfl
attribute [go_sem] zFR vZ zFQ zB5 zB3 zFS zB4 zK1
def chF (a b:List It) (p:List UInt8):List Ch :=
 if iW (aQ a p).isSome (aQ b p).isSome ((aQ a p).getD nd0) ((aQ b p).getD nd0) != 0 then [⟨p,iW (aQ a p).isSome (aQ b p).isSome ((aQ a p).getD nd0) ((aQ b p).getD nd0),(aQ a p).getD nd0,(aQ b p).getD nd0⟩] else []
def zAU (a b:List It):List (List UInt8)→List Ch
 | []=>[]
 | p::r=>chF a b p++zAU a b r
end Go.Dm
end
end
