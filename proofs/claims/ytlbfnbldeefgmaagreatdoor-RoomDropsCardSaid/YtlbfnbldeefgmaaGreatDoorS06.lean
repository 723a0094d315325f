/- Part 7 of the proof of roomDrops_card, set without needless blanks. No condition. -/
import Derived.Test.YtlbfnbldeefgmaaGreatDoorS05
set_option linter.all false
set_option maxRecDepth 100000
set_option maxHeartbeats 16000000
section
section
namespace Go.Dm
open Go
variable {t:List It}
theorem bM: ∀a:List UInt8,bS a a=false
 | []=>rfl
 | x::a=>by
  show (decide (x<x) || (x==x && bS a a))=false;simp[bM a]
theorem sH(x y:UInt8)(a b:List UInt8):bS (x::a) (y::b)=(decide (x<y) || (x==y && bS a b)):=rfl
theorem GG(a:List UInt8):bS a []=false:=by cases a<;>rfl
theorem cB: ∀{a b c:List UInt8},bS a b=true->bS b c=true->bS a c=true
 | _,[],_,h,_=>by rw[GG] at h;cases h
 | _,_::_,[],_,h=>by rw[GG] at h;cases h
 | [],_::_,_::_,_,_=>rfl
 | x::a,y::b,z::c,h1,h2=>by
  rw[sH] at *;simp only[Bool.or_eq_true,Bool.and_eq_true,decide_eq_true_eq,beq_iff_eq] at *;rcases h1 with h1|⟨rfl,h1⟩<;>rcases h2 with h2|⟨rfl,h2⟩
  .exact .inl (UInt8.lt_trans h1 h2)
  .exact .inl h1
  .exact .inl h2
  .exact .inr ⟨rfl,cB h1 h2⟩
theorem eE: ∀{a b:List UInt8},bS a b=false->bS b a=false->a=b
 | [],[],_,_=>rfl
 | [],_::_,h,_=>by cases h
 | _::_,[],_,h=>by cases h
 | x::a,y::b,h1,h2=>by
  rw [sH] at *;simp only[Bool.or_eq_false_iff,decide_eq_false_iff_not] at h1 h2;have hxy:x=y:=by
   have h3:=h1.1;have h4:=h2.1;rw[UInt8.lt_iff_toNat_lt] at h3 h4;exact UInt8.toNat_inj.1 (by omega)
  subst hxy;have h5:bS a b=false:=by simpa using h1.2
  have h6:bS b a=false:=by simpa using h2.2
  rw[eE h5 h6]
theorem fQ{a b:List UInt8}(h:bS a b=true):bS b a=false:=by
 cases h2:bS b a
 .rfl
 .have:=cB h h2;rw[bM] at this;cases this
theorem lC{a b:List UInt8}(h:bS a b=true):(a==b)=false:=by
 cases h2:a==b
 .rfl
 .rw[eq_of_beq h2,bM] at h;cases h
abbrev Srt(t:List It):Prop:=t.Pairwise λx y=>bS x.p y.p=true
theorem nL{p:List UInt8}{n:Nd}{y:It}:∀{t:List It} {d:Bool},y∈CH p n d t->y=⟨p,n⟩∨y∈t
 | [],d,h=>by cases d<;>simp[CH] at h;exact .inl h
 | x::r,d,h=>by
  simp only[CH,List.mem_append] at h;rcases h with h|h|h
  .split at h<;>simp at h;exact .inl h
  .split at h<;>simp at h;exact .inr (by simp[h])
  .rcases nL h with h|h
   .exact .inl h
   .exact .inr (List.mem_cons_of_mem _ h)
theorem uC(p:List UInt8)(n:Nd):∀t:List It,CH p n true t=qX t p
 | []=>rfl
 | x::r=>by
  simp only[CH,Bool.not_true,Bool.false_and,Bool.true_or,Bool.false_eq_true,if_false,List.nil_append,uC p n r,qX,List.filter_cons];split<;>rfl
theorem yA{p:List UInt8}{n:Nd}:∀{t:List It},Srt t->Srt (xC t p n)
 | [],_=>by simp[xC,CH]
 | x::r,h=>by
  have h1:=List.pairwise_cons.1 h;unfold xC;cases hb:bS x.p p
  .simp only[CH,hb,Bool.not_false,Bool.true_and,if_true,Bool.false_or,uC];have hd:Srt (qX r p):=h1.2.filter _;have hlt:∀y∈r,bS p y.p=true:=λy hy=>by
    have:=h1.1 y hy;cases hp:bS p x.p
    .rw[<- eE hb hp];exact this
    .exact cB hp this
   cases he:x.p==p
   .have hp:bS p x.p=true:=by
     cases hp:bS p x.p
     .rw[eE hb hp] at he;simp at he
     .rfl
    simp only[Bool.not_false,if_true,List.cons_append,List.nil_append];refine List.pairwise_cons.2 ⟨λy hy=>?_,List.pairwise_cons.2 ⟨λy hy=>h1.1 y (List.mem_filter.1 hy).1,hd⟩⟩;rcases List.mem_cons.1 hy with rfl|hy
    .exact hp
    .exact hlt y (List.mem_filter.1 hy).1
   .simp only[Bool.not_true,Bool.false_eq_true,if_false,List.cons_append,List.nil_append];exact List.pairwise_cons.2 ⟨λy hy=>hlt y (List.mem_filter.1 hy).1,hd⟩
  .simp only[CH,hb,Bool.not_true,Bool.and_false,Bool.false_eq_true,if_false,Bool.or_false,List.nil_append,lC hb,Bool.not_false,if_true,List.singleton_append];refine List.pairwise_cons.2 ⟨λy hy=>?_,yA h1.2⟩;rcases nL hy with rfl|hy
   .exact hb
   .exact h1.1 y hy
def OkI(x:It):Prop:=x.p≠[]/\cC x.p=true/\aO x.n=true/\x.n.t<18446744073709551616
structure OkT0 (t:List It):Prop where
 srt:Srt t
 its:∀x∈t,OkI x
 len:t.length<=120
theorem OkT0.nil: OkT0 []:=⟨List.Pairwise.nil,λx h=>by simp at h,by simp⟩
theorem rC{p:List UInt8}(h:cC p=true):p.length<=120:=by
 unfold cC at h;simp only[Bool.or_eq_true,Bool.and_eq_true,decide_eq_true_eq,beq_iff_eq] at h;rcases h with rfl|h
 .simp
 .omega
theorem iO{n:Nd}(h:aO n=true):n.d.length<=2000:=by
 unfold aO pD at h;rw[Bool.and_eq_true] at h;have h:=h.2;split at h
 .simp only[decide_eq_true_eq] at h;omega
 .split at h
  .simp only[beq_iff_eq] at h;omega
  .split at h
   .simp only[Bool.and_eq_true,decide_eq_true_eq] at h;omega
   .cases h
theorem OkT0.plen(h:OkT0 t):∀x∈t,x.p.length<=120:=λx hx=>rC (h.its x hx).2.1
theorem OkT0.dlen(h:OkT0 t):∀x∈t,x.n.d.length<=2000:=λx hx=>iO (h.its x hx).2.2.1
theorem OkT0.filter(h:OkT0 t)(f:It->Bool):OkT0 (t.filter f) :=
 ⟨h.srt.filter _,λx hx=>h.its x (List.mem_filter.1 hx).1,Nat.le_trans (List.length_filter_le ..) h.len⟩
theorem OkT0.remove(h:OkT0 t)(p:List UInt8):OkT0 (bX t p):=(h.filter _).filter _
theorem OkT0.tlen(h:OkT0 t):∀x∈t,x.n.t<18446744073709551616:=λx hx=>(h.its x hx).2.2.2
theorem OkT0.put{p:List UInt8}{n:Nd}(h:OkT0 t)(hnt:n.t<18446744073709551616)(he:(wJ t p n).2=0):OkT0 (wJ t p n).1:=by
 have hb:OkT0 (if n.k != 2 then bY t p else t):=by split;exact h.filter _;exact h
 unfold wJ at he ⊢;generalize (if n.k != 2 then bY t p else t)=u at he hb ⊢
 split at he
 .cases he
 .rename_i h1;split at he
  .cases he
  .rename_i h2;split at he
   .cases he
   .rename_i h3;rw[if_neg h1,if_neg h2,if_neg h3];simp only[Bool.or_eq_true,not_or,beq_iff_eq,Bool.not_eq_true',Bool.not_eq_false] at h1;refine⟨yA hb.srt,λx hx=>?_,?_⟩
    .rcases nL hx with rfl|hx
     .exact⟨h1.1.1,h1.1.2,h1.2,hnt⟩
     .exact hb.its x hx
    .simp only[decide_eq_true_eq] at h3;show (xC _ p n).length<=120;omega
theorem sJ(r:List UInt8):∀(s w:List UInt8),CJ w (s++47::r)=CJ w s++CJ [] r
 | [],w=>by simp[CJ]
 | b::s,w=>by
  simp only[List.cons_append,CJ];split
  .rw[sJ r s []];rfl
  .rw[sJ r s (w++[b])]
theorem gH{a q:List UInt8}(ha:a≠[])(h:aJ a q=true):∃r,q=a++47::r:=by
 unfold aJ at h;rw[if_neg (by simpa using ha)] at h;simp only[Bool.or_eq_true,Bool.and_eq_true,decide_eq_true_eq,beq_iff_eq] at h;rcases h with⟨_,h⟩|⟨_,h⟩
 .refine⟨q.drop (a.length+1),?_⟩;have:=List.take_append_drop (a.length+1) q;rw[h] at this;rw[List.append_assoc] at this;exact this.symm
 .exact⟨[],h⟩
theorem OkI.moved{a b:List UInt8}{x:It}(ha:a≠[])(hb:b≠[])(hbp:cC b=true)(hx:OkI x)(hc:(!(x.p==a) && !aJ a x.p)=false)(hl:¬ decide ((120:Int)<(b.length+(x.p.drop a.length).length:Nat))=true):OkI ⟨b++x.p.drop a.length,x.n⟩:=by
 refine⟨by simp[hb],?_,hx.2.2⟩
 simp only[decide_eq_true_eq] at hl;have hl2:(b++x.p.drop a.length).length<=120:=by rw[List.length_append];omega
 have hbq:(JV b).all bD=true:=by
  unfold cC at hbp;have:(b == [])=false:=by simpa using hb
  rw[this,Bool.false_or,Bool.and_eq_true] at hbp;exact hbp.1
 have hxq:(JV x.p).all bD=true:=by
  have h:=hx.2.1;unfold cC at h;have:(x.p == [])=false:=by simpa using hx.1
  rw[this,Bool.false_or,Bool.and_eq_true] at h;exact h.1
 unfold cC;simp only[Bool.or_eq_true,Bool.and_eq_true,decide_eq_true_eq];refine .inr ⟨?_,by omega⟩
 cases he:x.p==a
 .rw[he] at hc;have hbl:aJ a x.p=true:=by simpa using hc
  obtain⟨r,hr⟩:=gH ha hbl;have hdr:x.p.drop a.length=47::r:=by rw[hr];simp
  rw[hdr];rw[hr] at hxq;unfold JV at hxq hbq ⊢;rw[sJ,List.all_append,Bool.and_eq_true] at hxq;rw[sJ,List.all_append,hbq,hxq.2];rfl
 .have hdr:x.p.drop a.length=[]:=by rw[eq_of_beq he];simp
  rw[hdr,List.append_nil];exact hbq
theorem xW{a b:List UInt8}(ha:a≠[])(hb:b≠[])(hbp:cC b=true):∀{t out:List It},(∀x∈t,OkI x)->Srt out->(∀x∈out,OkI x)->(fJ a b out t).2=0->Srt (fJ a b out t).1/\(∀x∈(fJ a b out t).1,OkI x)
 | [],out,_,h2,h3,_=>⟨h2,h3⟩
 | x::r,out,h1,h2,h3,h4=>by
  have hr:∀y∈r,OkI y:=λy hy=>h1 y (List.mem_cons_of_mem _ hy);rw[fJ] at h4 ⊢;split at h4
  .rename_i hc;rw[if_pos hc];exact xW ha hb hbp hr h2 h3 h4
  .rename_i hc;split at h4
   .cases h4
   .rename_i hl;rw[if_neg hc,if_neg hl];have hc2:(!(x.p==a) && !aJ a x.p)=false:=by simpa using hc
    have hxm:=(h1 x List.mem_cons_self).moved ha hb hbp hc2 hl;refine xW ha hb hbp hr (yA h2) (λy hy=>?_) h4;rcases nL hy with rfl|hy
    .exact hxm
    .exact h3 y hy
def mvd(a:List UInt8)(x:It):Bool:=!(!(x.p==a) && !aJ a x.p)
theorem AF{a b:List UInt8}:∀(t out:List It),(fJ a b out t).1.length<=out.length+(t.filter (mvd a)).length
 | [],out=>by simp[fJ]
 | x::r,out=>by
  cases hm:mvd a x
  .have hc:(!(x.p==a) && !aJ a x.p)=true:=by simpa only[mvd,Bool.not_eq_false'] using hm
   rw[fJ,if_pos hc,List.filter_cons,if_neg (by rw[hm];decide)];exact AF r out
  .have hc:¬ (!(x.p==a) && !aJ a x.p)=true:=by simp only[mvd,Bool.not_eq_true'] at hm;rw[hm];decide
   rw[fJ,if_neg hc,List.filter_cons,if_pos hm,List.length_cons];split
   .exact Nat.zero_le _
   .have h1:=AF (a:=a) (b:=b) r (xC out (b++x.p.drop a.length) x.n);have h2:=xZ out (b++x.p.drop a.length) x.n;omega
theorem tU(a:List UInt8):∀t:List It,(bX t a).length+(t.filter (mvd a)).length=t.length
 | []=>rfl
 | x::r=>by
  have h:=tU a r;unfold bX qX bY at h ⊢;rw[List.filter_filter] at h ⊢;simp only[List.filter_cons];cases hm:mvd a x
  .have hc:(!(x.p==a) && !aJ a x.p)=true:=by simpa only[mvd,Bool.not_eq_false'] using hm
   rw[if_pos hc,if_neg (by decide),List.length_cons,List.length_cons];omega
  .have hc:¬ (!(x.p==a) && !aJ a x.p)=true:=by simp only[mvd,Bool.not_eq_true'] at hm;rw[hm];decide
   rw[if_neg hc,if_pos rfl,List.length_cons,List.length_cons];omega
theorem OkT0.move{a b:List UInt8}(h:OkT0 t)(he:(oS t a b).2=0):OkT0 (oS t a b).1:=by
 unfold oS at he ⊢;split at he
 .cases he
 .rename_i h1;rw[if_neg h1];split at he
  .cases he
  .rename_i h2;rw[if_neg h2];split at he
   .cases he
   .rename_i h3;rw[if_neg h3];split at he
    .cases he
    .rename_i h4;rw[if_neg h4];split at he
     .cases he
     .rename_i h5;rw[if_neg h5];simp only[Bool.or_eq_true,not_or,beq_iff_eq,Bool.not_eq_true',Bool.not_eq_false] at h1;have hr:=h.remove a;obtain⟨k1,k2⟩:=xW h1.1.1.1 h1.1.1.2 h1.2 h.its hr.srt hr.its he;refine⟨k1,k2,?_⟩;have k3:=AF (a:=a) (b:=b) t (bX t a);have k4:=tU a t;have k5:=h.len;omega
end Go.Dm
end
section
namespace Go.Dm
open Go
variable {d:List UInt8}{t:List It}
theorem cE{p:List UInt8}{n:Nd}:∀{t:List It},aN t p=some n->∃x∈t,x.p=p/\x.n=n
 | [],h=>by simp[aN] at h
 | x::r,h=>by
  rw[aN] at h;split at h
  .rename_i hx;exact⟨x,List.mem_cons_self,eq_of_beq hx,by simpa using h⟩
  .obtain⟨y,hy,h2⟩:=cE h;exact⟨y,List.mem_cons_of_mem _ hy,h2⟩
def Par(t:List It):Prop:=∀x∈t,aW t (aM x.p)=true
theorem iL(p:List UInt8):∀k,k<=p.length->(eM p k=none/\∀j (h:j<p.length),j<k->p[j]≠47)∨(∃i,∃h:i<p.length,eM p k=some i/\i<k/\p[i]=47/\∀j (h:j<p.length),i<j->j<k->p[j]≠47)
 | 0,_=>.inl ⟨rfl,λj _ h=>by omega⟩
 | k+1,hk=>by
  have hlt:k<p.length:=by omega
  have hg:p.getD k 0=p[k]:=by simp[List.getD_eq_getElem?_getD,hlt]
  rw[eM,hg];by_cases hb:p[k]=47
  .rw[hb,if_pos (by decide)];exact .inr ⟨k,hlt,rfl,by omega,hb,λj h h1 h2=>by omega⟩
  .have:¬ ((p[k].toNat:Int)==47)=true:=by
    intro h;have h:=eq_of_beq h;exact hb (UInt8.toNat_inj.1 (by have:(47:UInt8).toNat=47:=rfl;omega))
   rw[if_neg this];rcases iL p k (by omega) with⟨h1,h2⟩|⟨i,h,h1,h2,h3,h4⟩
   .refine .inl ⟨h1,λj hj hjk=>?_⟩;rcases Nat.lt_or_ge j k with h|h
    .exact h2 j hj h
    .have:j=k:=by omega
     subst this;exact hb
   .refine .inr ⟨i,h,h1,by omega,h3,λj hj hij hjk=>?_⟩
    rcases Nat.lt_or_ge j k with h'|h'
    .exact h4 j hj hij h'
    .have:j=k:=by omega
     subst this;exact hb
theorem xJ(p:List UInt8):(aM p=[]/\47 ∉ p)∨∃n,p=aM p++47::n/\47 ∉ n:=by
 unfold aM;rcases iL p p.length (Nat.le_refl _) with⟨h1,h2⟩|⟨i,h,h1,h2,h3,h4⟩
 .rw[h1];refine .inl ⟨rfl,λhm=>?_⟩;obtain⟨j,hj,he⟩:=List.mem_iff_getElem.1 hm;exact h2 j hj hj he
 .rw[h1];refine .inr ⟨p.drop (i+1),?_,λhm=>?_⟩
  .have:=List.take_append_drop i p;rw[List.drop_eq_getElem_cons h,h3] at this;exact this.symm
  .obtain⟨j,hj,he⟩:=List.mem_iff_getElem.1 hm;rw[List.getElem_drop] at he;rw[List.length_drop] at hj;exact h4 (i+1+j) (by omega) (by omega) (by omega) he
theorem QB{n d' n':List UInt8}(h:d++47::n=d'++47::n')(hn:47 ∉ n)(hn':47 ∉ n'):d=d'/\n=n':=by
 rcases List.append_eq_append_iff.1 h with⟨c,h1,h2⟩|⟨c,h1,h2⟩
 .cases c with
  | nil=>simp at h1 h2;exact⟨h1.symm,h2⟩
  | cons x c =>
   simp only[List.cons_append,List.cons.injEq] at h2;exact absurd (by rw[h2.2];simp) hn
 .cases c with
  | nil=>simp at h1 h2;exact⟨h1,h2.symm⟩
  | cons x c =>
   simp only[List.cons_append,List.cons.injEq] at h2;exact absurd (by rw[h2.2];simp) hn'
theorem zMD{n:List UInt8}(hn:47 ∉ n):aM (d++47::n)=d:=by
 rcases xJ (d++47::n) with⟨_,h⟩|⟨m,h,hm⟩
 .exact absurd (by simp) h
 .exact((QB h hn hm).1).symm
theorem sO{p:List UInt8}(h:aM p≠[]):∃n,p=aM p++47::n/\47 ∉ n:=by
 rcases xJ p with⟨h1,_⟩|h1
 .exact absurd h1 h
 .exact h1
theorem lB{a r:List UInt8}(ha:a≠[]):aJ a (a++47::r)=true:=by
 unfold aJ;rw[if_neg (by simpa using ha)];cases r with
 | nil=>simp
 | cons b r =>
  have h1:decide (((a++47::b::r).length:Int) > a.length+1)=true:=by simp;omega
  have h2:(a++47::b::r).take (a.length+1)=a++[47]:=by
   rw[List.take_append];simp[List.take_of_length_le]
  rw[h1,h2];simp
theorem zBF{a q:List UInt8}(ha:a≠[]):aJ a q=true↔∃r,q=a++47::r:=⟨gH ha,λ⟨_,h⟩=>h▸lB ha⟩
theorem eA{a q:List UInt8}(ha:a≠[])(hd:aM q≠[])(h:aM q=a∨aJ a (aM q)=true):aJ a q=true:=by
 obtain⟨n,hn,_⟩:=sO hd;rcases h with h|h
 .rw[hn,h];exact lB ha
 .obtain⟨r,hr⟩:=gH ha h;rw[hn,hr,List.append_assoc];exact lB ha
theorem jJ{a q:List UInt8}(ha:a≠[])(h:aJ a q=true):aM q=a∨aJ a (aM q)=true:=by
 obtain⟨r,hr⟩:=gH ha h;rcases xJ q with⟨_,h1⟩|⟨n,h1,h2⟩
 .exact absurd (by rw[hr];simp) h1
 .rw [hr] at h1;rcases List.append_eq_append_iff.1 h1 with⟨c,e1,e2⟩|⟨c,e1,e2⟩
  .cases c with
   | nil=>left;rw[hr];simpa using e1
   | cons x c =>
    simp only[List.cons_append,List.cons.injEq] at e2;right;rw[hr,e1,<- e2.1];exact lB ha
  .cases c with
   | nil=>left;rw[hr];simpa using e1.symm
   | cons x c =>
    simp only[List.cons_append,List.cons.injEq] at e2;exact absurd (by rw[e2.2];simp) h2
theorem sP{p:List UInt8}(h:aM p≠[]):(aM p).length<p.length:=by
 obtain⟨n,hn,_⟩:=sO h;have:=congrArg List.length hn;simp only[List.length_append,List.length_cons] at this;omega
theorem fW(g:List UInt8->Bool)(q:List UInt8):∀t:List It,aN (t.filter λx=>g x.p) q=if g q then aN t q else none
 | []=>by simp[aN]
 | x::r=>by
  rw[List.filter_cons];by_cases hx:x.p=q
  .subst hx;cases hg:g x.p
   .simp only[Bool.false_eq_true,if_false];have:=fW g x.p r;simpa[hg] using this
   .simp[aN]
  .have hb:(x.p==q)=false:=by simpa using hx
   split
   .simp only[aN,hb,Bool.false_eq_true,if_false];exact fW g q r
   .simp only[aN,hb,Bool.false_eq_true,if_false];exact fW g q r
theorem fR(t:List It)(p:List UInt8):bX t p=t.filter λx=>!(x.p==p) && !aJ p x.p:=by
 unfold bX qX bY;rw[List.filter_filter]
theorem zP(t:List It)(p q:List UInt8):aN (bX t p) q=if (!(q==p) && !aJ p q) then aN t q else none:=by
 rw[fR];exact fW (λq=>!(q==p) && !aJ p q) q t
theorem CP(t:List It)(p q:List UInt8):aN (bY t p) q=if !aJ p q then aN t q else none:=fW (λq=>!aJ p q) q t
theorem MC{p q:List UInt8}(h:(q==p)=false)(t:List It):aN (qX t p) q=aN t q:=by
 unfold qX;rw[fW (λq=>!(q==p)) q t,h];rfl
theorem ME{p q:List UInt8}{n:Nd}:∀t:List It,aN (CH p n false t) q=if q==p then some n else aN t q
 | []=>by
  simp only[CH,Bool.false_eq_true,if_false,aN];rw[show (p==q)=(q==p) from BEq.comm]
 | x::r=>by
  have hc:(p==q)=(q==p):=BEq.comm;simp only[CH,Bool.not_false,Bool.true_and,Bool.false_or];cases hb:bS x.p p
  .simp only[Bool.not_false,if_true,List.singleton_append,aN,hc,uC];cases hq:q==p
   .simp only[Bool.false_eq_true,if_false];have hd:=MC hq r;cases hx:x.p==p
    .simp only[Bool.not_false,if_true,List.singleton_append,aN,hd]
    .have hxq:(x.p==q)=false:=by
      rw[eq_of_beq hx,hc];exact hq
     simp only[Bool.not_true,Bool.false_eq_true,if_false,List.nil_append,hd,hxq]
   .rfl
  .have ih:=ME (p:=p) (q:=q) (n:=n) r;have hx:(x.p==p)=false:=lC hb;simp only[Bool.not_true,Bool.false_eq_true,if_false,List.nil_append,hx,Bool.not_false,if_true,List.singleton_append,aN,ih];cases hq:q==p
   .rfl
   .have hxq:(x.p==q)=false:=by rw[eq_of_beq hq];exact hx
    simp[hxq]
theorem oJ{p q:List UInt8}{n:Nd}(t:List It):aN (xC t p n) q=if q==p then some n else aN t q:=ME t
theorem cS{q:List UInt8}(hq:q≠[])(h:aW t q=true):∃m,aN t q=some m/\m.k=2:=by
 unfold aW at h;have:(q == [])=false:=by simpa using hq
 rw[this,Bool.false_or] at h;cases hg:aN t q with
 | none=>rw[hg] at h;cases h
 | some m=>rw[hg] at h;exact⟨m,rfl,by simpa using h⟩
theorem fH{q:List UInt8}{m:Nd}(h:aN t q=some m)(hk:m.k=2):aW t q=true:=by
 unfold aW;rw[h];simp[hk]
theorem Par.remove(h:Par t)(hne:∀x∈t,x.p≠[])(p:List UInt8):Par (bX t p):=by
 intro x hx;rw[fR,List.mem_filter] at hx;obtain⟨hx,hg⟩:=hx;by_cases hq:aM x.p=[]
 .rw[hq];rfl
 obtain⟨m,h1,h2⟩:=cS hq (h x hx);refine fH (m:=m) ?_ h2;rw[zP,h1];simp only[Bool.and_eq_true,Bool.not_eq_true'] at hg;by_cases hp:p=[]
 .subst hp;have:=hne x hx;simp[aJ,this] at hg
 have k1:(aM x.p==p)=false:=by
  cases hc:aM x.p==p
  .rfl
  .rw[eA hp hq (.inl (eq_of_beq hc))] at hg;cases hg.2
 have k2:aJ p (aM x.p)=false:=by
  cases hc:aJ p (aM x.p)
  .rfl
  .rw[eA hp hq (.inr hc)] at hg;cases hg.2
 rw[k1,k2];rfl
theorem Par.set{u:List It}{p:List UInt8}{n:Nd}(h:Par t)(hp:p≠[])(hd:aW t (aM p)=true)(hu:u=if n.k != 2 then bY t p else t):Par (xC u p n):=by
 have key:∀q,q≠[]->q≠p->(n.k≠2->aJ p q=false)->∀m,aN t q=some m->aN (xC u p n) q=some m:=by
  intro q h0 h1 h2 m hm;rw[oJ];have:(q==p)=false:=by simpa using h1
  rw[this,hu];simp only[Bool.false_eq_true,if_false];split
  .rename_i hk;rw[CP,h2 (by simpa using hk)];simpa using hm
  .exact hm
 intro x hx;by_cases hq:aM x.p=[]
 .rw[hq];rfl
 rcases nL hx with rfl|hx
 .obtain⟨m,h1,h2⟩:=cS hq hd;have hlt:=sP hq;simp only at hq hlt ⊢;refine fH (key _ hq (λe=>by rw[e] at hlt;omega) (λ_=>?_) m h1) h2
  cases hb:aJ p (aM p)
  .rfl
  .have:=dZ hb;omega
 .have hxt:x∈t/\(n.k≠2->aJ p x.p=false):=by
   rw[hu] at hx;split at hx
   .have:=List.mem_filter.1 hx;exact⟨this.1,λ_=>by simpa using this.2⟩
   .rename_i hk;exact⟨hx,λh=>absurd (by simpa using h) hk⟩
  obtain⟨m,h1,h2⟩:=cS hq (h x hxt.1);by_cases he:aM x.p=p
  .have hk:n.k=2:=by
    rcases Decidable.em (n.k=2) with h|h
    .exact h
    .have h3:=hxt.2 h;rw[eA hp hq (.inl he)] at h3;cases h3
   refine fH (m:=n) ?_ hk;rw[oJ,he];simp
  .refine fH (key _ hq he (λhk=>?_) m h1) h2;have h3:=hxt.2 hk;cases hb:aJ p (aM x.p)
   .rfl
   .rw[eA hp hq (.inr hb)] at h3;cases h3
theorem zEC{b:List UInt8}(h:Par t)(hb:b≠[]):∀(n:Nat) (q:List UInt8),q.length<=n->(aN t q).isSome=true->aJ b q=true->(aN t b).isSome=true
 | 0,q,hl,_,hq=>by
  have h1:q=[]:=by simpa using hl
  subst h1;have h2:=dZ hq;have:b=[]:=by simpa using h2
  exact absurd this hb
 | n+1,q,hl,hs,hq=>by
  obtain⟨m,hm⟩:=Option.isSome_iff_exists.1 hs;obtain⟨x,hx,rfl,_⟩:=cE hm;have hdx:=h x hx;rcases jJ hb hq with h1|h1
  .rw[h1] at hdx;obtain⟨m,h2,_⟩:=cS hb hdx;rw[h2];rfl
  .have h0:aM x.p≠[]:=by
    intro h0;rw[h0] at h1;have:=dZ h1;have:b=[]:=by simpa using this
    exact absurd this hb
   obtain⟨m,h2,_⟩:=cS h0 hdx;have hlt:=sP h0;exact zEC h hb n _ (by omega) (by rw[h2];rfl) h1
theorem tG{a b:List UInt8}{z:It}:∀{t out:List It},(fJ a b out t).2=0->z∈(fJ a b out t).1->z∈out∨∃y∈t,mvd a y=true/\z=⟨b++y.p.drop a.length,y.n⟩
 | [],out,_,h=>.inl h
 | x::r,out,h0,h=>by
  rw[fJ] at h0 h;split at h0
  .rename_i hc;rw[if_pos hc] at h;rcases tG h0 h with h|⟨y,hy,h⟩
   .exact .inl h
   .exact .inr ⟨y,List.mem_cons_of_mem _ hy,h⟩
  .rename_i hc;split at h0
   .cases h0
   .rename_i hl;rw[if_neg hc,if_neg hl] at h;have hm:mvd a x=true:=by
     have hc2:(!(x.p==a) && !aJ a x.p)=false:=by simpa only[Bool.not_eq_true] using hc
     rw[mvd,hc2];rfl
    rcases tG h0 h with h|⟨y,hy,h⟩
    .rcases nL h with rfl|h
     .exact .inr ⟨x,List.mem_cons_self,hm,rfl⟩
     .exact .inl h
    .exact .inr ⟨y,List.mem_cons_of_mem _ hy,h⟩
theorem jM{a:List UInt8}(ha:a≠[]){y:It}(h:mvd a y=true):∃s,y.p=a++s/\(s=[]∨∃r,s=47::r):=by
 unfold mvd at h;simp only[Bool.not_eq_true',Bool.and_eq_false_iff,Bool.not_eq_false'] at h;rcases h with h|h
 .exact⟨[],by rw[List.append_nil];exact eq_of_beq h,.inl rfl⟩
 .obtain⟨r,hr⟩:=gH ha h;exact⟨47::r,hr,.inr ⟨r,rfl⟩⟩
theorem oR{a b:List UInt8}(ha:a≠[]){q:List UInt8}:∀{t out:List It},(fJ a b out t).2=0->(∀y∈t,mvd a y=true->b++y.p.drop a.length≠q)->aN (fJ a b out t).1 q=aN out q
 | [],_,_,_=>rfl
 | x::r,out,h0,h=>by
  have hr:∀y∈r,mvd a y=true->b++y.p.drop a.length≠q:=λy hy=>h y (List.mem_cons_of_mem _ hy);rw[fJ] at h0 ⊢;split at h0
  .rename_i hc;rw[if_pos hc];exact oR ha h0 hr
  .rename_i hc;split at h0
   .cases h0
   .rename_i hl;rw[if_neg hc,if_neg hl,oR ha h0 hr,oJ];have hm:mvd a x=true:=by
     have hc2:(!(x.p==a) && !aJ a x.p)=false:=by simpa only[Bool.not_eq_true] using hc
     rw[mvd,hc2];rfl
    have:=h x List.mem_cons_self hm;have e:(q==b++x.p.drop a.length)=false:=by simpa using λe=>this e.symm
    rw[e];rfl
theorem tF{a b:List UInt8}(ha:a≠[]){y:It}(hm:mvd a y=true):∀{t out:List It},Srt t->(fJ a b out t).2=0->y∈t->aN (fJ a b out t).1 (b++y.p.drop a.length)=some y.n
 | x::r,out,hs,h0,hy=>by
  obtain⟨hs1,hs2⟩:=List.pairwise_cons.1 hs;rw[fJ] at h0 ⊢;split at h0
  .rename_i hc;rw[if_pos hc];rcases List.mem_cons.1 hy with rfl|hy
   .unfold mvd at hm;rw[hc] at hm;cases hm
   .exact tF ha hm hs2 h0 hy
  .rename_i hc;split at h0
   .cases h0
   .rename_i hl;rw[if_neg hc,if_neg hl];rcases List.mem_cons.1 hy with rfl|hy
    .rw[oR ha h0,oJ];· simp
     intro z hz hmz he;obtain⟨s,e1,_⟩:=jM ha hm;obtain⟨s',e2,_⟩:=jM ha hmz;rw[e1,e2] at he;simp only[List.drop_left,List.append_cancel_left_eq] at he;have h1:=hs1 z hz;rw[e1,e2,he,bM] at h1;cases h1
    .exact tF ha hm hs2 h0 hy
theorem Par.move{a b:List UInt8}(h:Par t)(hs:Srt t)(hne:∀x∈t,x.p≠[])(ha:a≠[])(hb:b≠[])(hab:aJ a b=false)(hbt:(aN t b).isSome=false)(hdb:aW t (aM b)=true)(haa:a≠b)
 (h0:(fJ a b (bX t a) t).2=0):Par (fJ a b (bX t a) t).1:=by
 have stay:∀q m,q≠[]->aN t q=some m->(q==a)=false->aJ a q=false->aN (fJ a b (bX t a) t).1 q=some m:=by
  intro q m hq hm h1 h2;rw[oR ha h0,zP,h1,h2];· simpa using hm
  intro y hy hmy he;obtain⟨s,e1,e2⟩:=jM ha hmy;rw[e1,List.drop_left] at he;rcases e2 with rfl|⟨r,rfl⟩
  .rw[List.append_nil] at he;subst he;rw[hm] at hbt;cases hbt
  .have:=zEC h hb q.length q (Nat.le_refl _) (by rw[hm];rfl) (by rw[<- he];exact lB hb);rw[this] at hbt;cases hbt
 have up:∀x∈t,(x.p==a)=false->aJ a x.p=false->aW (fJ a b (bX t a) t).1 (aM x.p)=true:=by
  intro x hx h1 h2;by_cases hq:aM x.p=[]
  .rw[hq];rfl
  obtain⟨m,k1,k2⟩:=cS hq (h x hx);refine fH (stay _ m hq k1 ?_ ?_) k2
  .cases hc:aM x.p==a
   .rfl
   .rw[eA ha hq (.inl (eq_of_beq hc))] at h2;cases h2
  .cases hc:aJ a (aM x.p)
   .rfl
   .rw[eA ha hq (.inr hc)] at h2;cases h2
 intro z hz;rcases tG h0 hz with hz|⟨y,hy,hm,rfl⟩
 .rw[fR,List.mem_filter] at hz;obtain⟨hz,hg⟩:=hz;simp only[Bool.and_eq_true,Bool.not_eq_true'] at hg;exact up z hz hg.1 hg.2
 .obtain ⟨s,e1,e2⟩:=jM ha hm;simp only[e1,List.drop_left];rcases e2 with rfl|⟨r,rfl⟩
  .rw [List.append_nil];by_cases hq:aM b=[]
   .rw[hq];rfl
   obtain⟨m,k1,k2⟩:=cS hq hdb;refine fH (stay _ m hq k1 ?_ ?_) k2
   .cases hc:aM b==a
    .rfl
    .rw[eA ha hq (.inl (eq_of_beq hc))] at hab;cases hab
   .cases hc:aJ a (aM b)
    .rfl
    .rw[eA ha hq (.inr hc)] at hab;cases hab
  ·
   have hby:aJ a y.p=true:=by rw[e1];exact lB ha
   have hq:aM y.p≠[]:=by
    rcases jJ ha hby with h1|h1
    .rw[h1];exact ha
    .intro h2;rw[h2] at h1;have:=dZ h1;have:a=[]:=by simpa using this
     exact absurd this ha
   obtain ⟨m,k1,k2⟩:=cS hq (h y hy);obtain⟨w,hw,hwp,hwn⟩:=cE k1;have hmw:mvd a w=true:=by
    unfold mvd;rw[hwp];rcases jJ ha hby with h1|h1
    .rw[h1];simp
    .rw[h1];simp
   have hgot:=tF (b:=b) (out:=bX t a) ha hmw hs h0 hw;obtain⟨s',e3,_⟩:=jM ha hmw;obtain⟨n,hn,hn47⟩:=sO hq;have he:aM (b++47::r)=b++w.p.drop a.length:=by
    rw[e3,List.drop_left];rw[hwp] at e3;rw[e3,e1,List.append_assoc] at hn;have hn2:(47::r:List UInt8)=s'++47::n:=List.append_cancel_left hn;rw[hn2,<- List.append_assoc];exact zMD hn47
   rw[he];exact fH hgot (by rw[hwn];exact k2)
end Go.Dm
end
section
namespace Go.Dm
open Go
variable {t:List It}
structure OkT (t:List It):Prop extends OkT0 t where
 par:Par t
theorem OkT.nil: OkT []:=⟨OkT0.nil,λx h=>by simp at h⟩
theorem OkT.ne(h:OkT t):∀x∈t,x.p≠[]:=λx hx=>(h.its x hx).1
theorem OkT.plen(h:OkT t):∀x∈t,x.p.length<=120:=h.toOkT0.plen
theorem OkT.dlen(h:OkT t):∀x∈t,x.n.d.length<=2000:=h.toOkT0.dlen
theorem OkT.tlen(h:OkT t):∀x∈t,x.n.t<18446744073709551616:=h.toOkT0.tlen
theorem OkT.remove(h:OkT t)(p:List UInt8):OkT (bX t p):=⟨h.toOkT0.remove p,h.par.remove h.ne p⟩
theorem OkT.put{p:List UInt8}{n:Nd}(h:OkT t)(hnt:n.t<18446744073709551616)(he:(wJ t p n).2=0):OkT (wJ t p n).1:=by
 refine⟨h.toOkT0.put hnt he,?_⟩;unfold wJ at he ⊢;generalize hu:(if n.k != 2 then bY t p else t)=u at he ⊢
 split at he
 .cases he
 .rename_i h1;split at he
  .cases he
  .rename_i h2;split at he
   .cases he
   .rename_i h3;rw[if_neg h1,if_neg h2,if_neg h3];simp only[Bool.or_eq_true,not_or,beq_iff_eq,Bool.not_eq_true',Bool.not_eq_false] at h1 h2;exact h.par.set h1.1.1 h2 hu.symm
theorem OkT.move{a b:List UInt8}(h:OkT t)(he:(oS t a b).2=0):OkT (oS t a b).1:=by
 refine⟨h.toOkT0.move he,?_⟩;unfold oS at he ⊢;split at he
 .cases he
 .rename_i h1;rw[if_neg h1];split at he
  .cases he
  .rename_i h2;rw[if_neg h2];split at he
   .cases he
   .rename_i h3;rw[if_neg h3];split at he
    .cases he
    .rename_i h4;rw[if_neg h4];split at he
     .cases he
     .rename_i h5;rw[if_neg h5];simp only[Bool.or_eq_true,not_or,beq_iff_eq,Bool.not_eq_true',Bool.not_eq_false] at h1 h2 h3 h4 h5;refine h.par.move h.srt h.ne h1.1.1.1 h1.1.1.2 (by simpa using h3) (by simpa using h4) h5 (λe=>?_) he;rw[e] at h2;exact h4 h2
end Go.Dm
end
section
namespace Go.Dm
open Go
variable {P:Program}{X0:Ctx}{Q:Exit->DS->Prop}{c:Code}{t:List It}{h:aC}
theorem zNB{s:DS}(i k:Nat)(hn:look s.t i=.c (.p .nil))(h:SWP P X0 c ⟨s.n,(i,.c (.p (.sl k [])))::s.t,s.h⟩ Q):SWP P X0 c s Q:=by
 intro gd X a hh hi hs ht;refine h gd X a hh hi hs ⟨ht.size,λj=>?_,ht.defs⟩;simp only[look];split
 .rename_i hij;subst hij;have:=ht.rel j;rw[hn] at this;exact wkD.rel (x:=.c (.p .nil)) (y:=.c (.p (.sl k []))) zFW this
 .exact ht.rel j
theorem zOR{n:Nat}{t:Fr}(i k:Nat)(hn:look t i=.c (.p .nil))(hd:SWP P X0 c ⟨n,(i,.c (.p (.sl k [])))::t,h⟩ Q):SWP P X0 c ⟨n,t,h⟩ Q :=
 zNB i k hn hd
def zF5: List DV->List DV->Prop
 | [],[]=>True
 | x::xs,y::ys=>wkD x y/\zF5 xs ys
 | _,_=>False
theorem zF5.rel{X:Ctx}:∀{xs ys:List DV} {vs:List Value},zF5 xs ys->dG X xs vs->dG X ys vs
 | [],[],_,_,h=>h
 | _::_,_::_,_::_,h,hr=>⟨wkD.rel h.1 hr.1,zF5.rel h.2 hr.2⟩
 | _::_,_::_,[],_,hr=>hr.elim
theorem aA.wkargs{f:FuncId}{args args':List DV}{R:DV->aC->Prop}(hw:zF5 args args')(hc:aA P f args' h R):aA P f args h R :=
 λX vals hh hi gd hr=>hc X vals hh hi gd (zF5.rel hw hr)
theorem OkT.getd(h:OkT t)(p:List UInt8):((aN t p).getD nd0).d.length<=2000:=by
 cases hg:aN t p with
 | none=>simp[nd0]
 | some n =>
  obtain⟨x,hx,_,rfl⟩:=cE hg;exact h.dlen x hx
theorem OkT.gett(h:OkT t)(p:List UInt8):((aN t p).getD nd0).t<18446744073709551616:=by
 cases hg:aN t p with
 | none=>simp[nd0]
 | some n =>
  obtain⟨x,hx,_,rfl⟩:=cE hg;exact h.tlen x hx
def rG(p q:Bool)(x y:Nd):Int:=if p then (if q then (if qM x y then 0 else if x.k != y.k then 4 else if !(x.d==y.d) then 3 else 5) else 2) else (if q then 1 else 0)
structure RI where
 p:Int
 n:RN
def RI.cs(x:RI):List PV:=[.i .i64 x.p,.i .i64 x.n.k,.i .i64 x.n.m,.i .i64 x.n.t,.f x.n.x,.sl 1 (bJ x.n.d)]
def encI(l:List RI):List (List PV):=l.map RI.cs
theorem zGX(l:List RI):(encI l).length=l.length:=by simp[encI]
theorem zGY(t:List RI):(∀x∈encI t,x.length=6)=True:=eq_true λx hx=>by
 simp only[encI,List.mem_map] at hx;obtain⟨y,_,rfl⟩:=hx;rfl
structure RU where
 what:Int
 at':Int
 to':Int
 n:RN
def RU.cs(x:RU):List PV:=[.i .i64 x.what,.i .i64 x.at',.i .i64 x.to',.i .i64 x.n.k,.i .i64 x.n.m,.i .i64 x.n.t,.f x.n.x,.sl 1 (bJ x.n.d)]
def zMR(l:List RU):List (List PV):=l.map RU.cs
theorem zHm(l:List RU):(zMR l).length=l.length:=by simp[zMR]
theorem zHn(t:List RU):(∀x∈zMR t,x.length=8)=True:=eq_true λx hx=>by
 simp only[zMR,List.mem_map] at hx;obtain⟨y,_,rfl⟩:=hx;rfl
theorem zNv(x:RN):RN.mk x.k x.m x.t x.x x.d=x:=rfl
attribute [go_sem] zNv zGX zGY zHm zHn
structure Ch where
 p:List UInt8
 k:Int
 o:Nd
 n:Nd
def Ch.cs(x:Ch):List PV:=[.s x.p,.i .i64 x.k,.i .i64 x.o.k,.i .i64 x.o.m,.f x.o.t,.sl 1 (bJ x.o.d),.i .i64 x.n.k,.i .i64 x.n.m,.f x.n.t,.sl 1 (bJ x.n.d)]
def mE(l:List Ch):List (List PV):=l.map Ch.cs
theorem zGJ(l:List Ch):(mE l).length=l.length:=by simp[mE]
theorem WV: mE []=[]:=rfl
theorem zGI(a b:List Ch):mE a++mE b=mE (a++b):=by simp[mE]
theorem zCA(a:List Ch)(n:Nat):(mE a).take n=mE (a.take n):=by simp[mE]
theorem zCy(a:List Ch)(n:Nat):(mE a).drop n=mE (a.drop n):=by simp[mE]
theorem uY{t:List Ch}{k:Nat}{x:Ch}(h:t[k]?=some x):(mE t).getD k []=[.s x.p,.i .i64 x.k,.i .i64 x.o.k,.i .i64 x.o.m,.f x.o.t,.sl 1 (bJ x.o.d),.i .i64 x.n.k,.i .i64 x.n.m,.f x.n.t,.sl 1 (bJ x.n.d)]:=by
 simp only[mE,List.getD_eq_getElem?_getD,List.getElem?_map,h];rfl
theorem zGK(t:List Ch):(∀x∈mE t,x.length=10)=True:=eq_true λx hx=>by
 simp only[mE,List.mem_map] at hx;obtain⟨y,_,rfl⟩:=hx;rfl
theorem zCz(t:List Ch)(p:List UInt8)(k k1 m1 k2 m2:Int)(t1 t2:Nat)(d1 d2:List UInt8):mE t++[[.s p,.i .i64 k,.i .i64 k1,.i .i64 m1,.f t1,.sl 1 (bJ d1),.i .i64 k2,.i .i64 m2,.f t2,.sl 1 (bJ d2)]]=mE (t++[⟨p,k,⟨k1,m1,t1,d1⟩,⟨k2,m2,t2,d2⟩⟩]):=by simp[mE,Ch.cs]
theorem zMt(x:Ch):Ch.mk x.p x.k x.o x.n=x:=rfl
attribute [go_sem] zGJ WV zGI zCA zCy zGK zCz zMt
def chF(a b:List It)(p:List UInt8):List Ch :=
 if rG (aN a p).isSome (aN b p).isSome ((aN a p).getD nd0) ((aN b p).getD nd0) != 0 then [⟨p,rG (aN a p).isSome (aN b p).isSome ((aN a p).getD nd0) ((aN b p).getD nd0),(aN a p).getD nd0,(aN b p).getD nd0⟩] else []
def zBR(a b:List It):List (List UInt8)->List Ch
 | []=>[]
 | p::r=>chF a b p++zBR a b r
end Go.Dm
end
end
