/- Part 7 of the proof of roomMerges_card, set without needless blanks. No condition. -/
import Derived.Test.YtflcjdohmojepaaGreatDoorM05
set_option linter.all false
set_option maxRecDepth 100000
set_option maxHeartbeats 16000000
section
section
namespace Go.Dm
open Go
variable {t:List It}
theorem cF: ∀a:List UInt8,cD a a=false
 | []=>rfl
 | x::a=>by
  show (decide (x<x) || (x==x && cD a a))=false;simp[cF a]
theorem tW(x y:UInt8)(a b:List UInt8):cD (x::a) (y::b)=(decide (x<y) || (x==y && cD a b)):=rfl
theorem JR(a:List UInt8):cD a []=false:=by cases a<;>rfl
theorem cL: ∀{a b c:List UInt8},cD a b=true->cD b c=true->cD a c=true
 | _,[],_,h,_=>by rw[JR] at h;cases h
 | _,_::_,[],_,h=>by rw[JR] at h;cases h
 | [],_::_,_::_,_,_=>rfl
 | x::a,y::b,z::c,h1,h2=>by
  rw[tW] at *;simp only[Bool.or_eq_true,Bool.and_eq_true,decide_eq_true_eq,beq_iff_eq] at *;rcases h1 with h1|⟨rfl,h1⟩<;>rcases h2 with h2|⟨rfl,h2⟩
  .exact .inl (UInt8.lt_trans h1 h2)
  .exact .inl h1
  .exact .inl h2
  .exact .inr ⟨rfl,cL h1 h2⟩
theorem eI: ∀{a b:List UInt8},cD a b=false->cD b a=false->a=b
 | [],[],_,_=>rfl
 | [],_::_,h,_=>by cases h
 | _::_,[],_,h=>by cases h
 | x::a,y::b,h1,h2=>by
  rw [tW] at *;simp only[Bool.or_eq_false_iff,decide_eq_false_iff_not] at h1 h2;have hxy:x=y:=by
   have h3:=h1.1;have h4:=h2.1;rw[UInt8.lt_iff_toNat_lt] at h3 h4;exact UInt8.toNat_inj.1 (by omega)
  subst hxy;have h5:cD a b=false:=by simpa using h1.2
  have h6:cD b a=false:=by simpa using h2.2
  rw[eI h5 h6]
theorem eS{a b:List UInt8}(h:cD a b=true):cD b a=false:=by
 cases h2:cD b a
 .rfl
 .have:=cL h h2;rw[cF] at this;cases this
theorem jH{a b:List UInt8}(h:cD a b=true):(a==b)=false:=by
 cases h2:a==b
 .rfl
 .rw[eq_of_beq h2,cF] at h;cases h
abbrev Srt(t:List It):Prop:=t.Pairwise λx y=>cD x.p y.p=true
theorem oJ{p:List UInt8}{n:Nd}{y:It}:∀{t:List It} {d:Bool},y∈xW p n d t->y=⟨p,n⟩∨y∈t
 | [],d,h=>by cases d<;>simp[xW] at h;exact .inl h
 | x::r,d,h=>by
  simp only[xW,List.mem_append] at h;rcases h with h|h|h
  .split at h<;>simp at h;exact .inl h
  .split at h<;>simp at h;exact .inr (by simp[h])
  .rcases oJ h with h|h
   .exact .inl h
   .exact .inr (List.mem_cons_of_mem _ h)
theorem vK(p:List UInt8)(n:Nd):∀t:List It,xW p n true t=mM t p
 | []=>rfl
 | x::r=>by
  simp only[xW,Bool.not_true,Bool.false_and,Bool.true_or,Bool.false_eq_true,if_false,List.nil_append,vK p n r,mM,List.filter_cons];split<;>rfl
theorem zU{p:List UInt8}{n:Nd}:∀{t:List It},Srt t->Srt (tP t p n)
 | [],_=>by simp[tP,xW]
 | x::r,h=>by
  have h1:=List.pairwise_cons.1 h;unfold tP;cases hb:cD x.p p
  .simp only[xW,hb,Bool.not_false,Bool.true_and,if_true,Bool.false_or,vK];have hd:Srt (mM r p):=h1.2.filter _;have hlt:∀y∈r,cD p y.p=true:=λy hy=>by
    have:=h1.1 y hy;cases hp:cD p x.p
    .rw[<- eI hb hp];exact this
    .exact cL hp this
   cases he:x.p==p
   .have hp:cD p x.p=true:=by
     cases hp:cD p x.p
     .rw[eI hb hp] at he;simp at he
     .rfl
    simp only[Bool.not_false,if_true,List.cons_append,List.nil_append];refine List.pairwise_cons.2 ⟨λy hy=>?_,List.pairwise_cons.2 ⟨λy hy=>h1.1 y (List.mem_filter.1 hy).1,hd⟩⟩;rcases List.mem_cons.1 hy with rfl|hy
    .exact hp
    .exact hlt y (List.mem_filter.1 hy).1
   .simp only[Bool.not_true,Bool.false_eq_true,if_false,List.cons_append,List.nil_append];exact List.pairwise_cons.2 ⟨λy hy=>hlt y (List.mem_filter.1 hy).1,hd⟩
  .simp only[xW,hb,Bool.not_true,Bool.and_false,Bool.false_eq_true,if_false,Bool.or_false,List.nil_append,jH hb,Bool.not_false,if_true,List.singleton_append];refine List.pairwise_cons.2 ⟨λy hy=>?_,zU h1.2⟩;rcases oJ hy with rfl|hy
   .exact hb
   .exact h1.1 y hy
def OkI(x:It):Prop:=x.p≠[]/\bW x.p=true/\aR x.n=true/\x.n.t<18446744073709551616
structure OkT0 (t:List It):Prop where
 srt:Srt t
 its:∀x∈t,OkI x
 len:t.length<=120
theorem OkT0.nil: OkT0 []:=⟨List.Pairwise.nil,λx h=>by simp at h,by simp⟩
theorem sQ{p:List UInt8}(h:bW p=true):p.length<=120:=by
 unfold bW at h;simp only[Bool.or_eq_true,Bool.and_eq_true,decide_eq_true_eq,beq_iff_eq] at h;rcases h with rfl|h
 .simp
 .omega
theorem iP{n:Nd}(h:aR n=true):n.d.length<=2000:=by
 unfold aR lA at h;rw[Bool.and_eq_true] at h;have h:=h.2;split at h
 .simp only[decide_eq_true_eq] at h;omega
 .split at h
  .simp only[beq_iff_eq] at h;omega
  .split at h
   .simp only[Bool.and_eq_true,decide_eq_true_eq] at h;omega
   .cases h
theorem OkT0.plen(h:OkT0 t):∀x∈t,x.p.length<=120:=λx hx=>sQ (h.its x hx).2.1
theorem OkT0.dlen(h:OkT0 t):∀x∈t,x.n.d.length<=2000:=λx hx=>iP (h.its x hx).2.2.1
theorem OkT0.filter(h:OkT0 t)(f:It->Bool):OkT0 (t.filter f) :=
 ⟨h.srt.filter _,λx hx=>h.its x (List.mem_filter.1 hx).1,Nat.le_trans (List.length_filter_le ..) h.len⟩
theorem OkT0.remove(h:OkT0 t)(p:List UInt8):OkT0 (bR t p):=(h.filter _).filter _
theorem OkT0.tlen(h:OkT0 t):∀x∈t,x.n.t<18446744073709551616:=λx hx=>(h.its x hx).2.2.2
theorem OkT0.put{p:List UInt8}{n:Nd}(h:OkT0 t)(hnt:n.t<18446744073709551616)(he:(mE t p n).2=0):OkT0 (mE t p n).1:=by
 have hb:OkT0 (if n.k != 2 then bG t p else t):=by split;exact h.filter _;exact h
 unfold mE at he ⊢;generalize (if n.k != 2 then bG t p else t)=u at he hb ⊢
 split at he
 .cases he
 .rename_i h1;split at he
  .cases he
  .rename_i h2;split at he
   .cases he
   .rename_i h3;rw[if_neg h1,if_neg h2,if_neg h3];simp only[Bool.or_eq_true,not_or,beq_iff_eq,Bool.not_eq_true',Bool.not_eq_false] at h1;refine⟨zU hb.srt,λx hx=>?_,?_⟩
    .rcases oJ hx with rfl|hx
     .exact⟨h1.1.1,h1.1.2,h1.2,hnt⟩
     .exact hb.its x hx
    .simp only[decide_eq_true_eq] at h3;show (tP _ p n).length<=120;omega
theorem yX(r:List UInt8):∀(s w:List UInt8),yW w (s++47::r)=yW w s++yW [] r
 | [],w=>by simp[yW]
 | b::s,w=>by
  simp only[List.cons_append,yW];split
  .rw[yX r s []];rfl
  .rw[yX r s (w++[b])]
theorem gV{a q:List UInt8}(ha:a≠[])(h:aO a q=true):∃r,q=a++47::r:=by
 unfold aO at h;rw[if_neg (by simpa using ha)] at h;simp only[Bool.or_eq_true,Bool.and_eq_true,decide_eq_true_eq,beq_iff_eq] at h;rcases h with⟨_,h⟩|⟨_,h⟩
 .refine⟨q.drop (a.length+1),?_⟩;have:=List.take_append_drop (a.length+1) q;rw[h] at this;rw[List.append_assoc] at this;exact this.symm
 .exact⟨[],h⟩
theorem OkI.moved{a b:List UInt8}{x:It}(ha:a≠[])(hb:b≠[])(hbp:bW b=true)(hx:OkI x)(hc:(!(x.p==a) && !aO a x.p)=false)(hl:¬ decide ((120:Int)<(b.length+(x.p.drop a.length).length:Nat))=true):OkI ⟨b++x.p.drop a.length,x.n⟩:=by
 refine⟨by simp[hb],?_,hx.2.2⟩
 simp only[decide_eq_true_eq] at hl;have hl2:(b++x.p.drop a.length).length<=120:=by rw[List.length_append];omega
 have hbq:(qW b).all aZ=true:=by
  unfold bW at hbp;have:(b == [])=false:=by simpa using hb
  rw[this,Bool.false_or,Bool.and_eq_true] at hbp;exact hbp.1
 have hxq:(qW x.p).all aZ=true:=by
  have h:=hx.2.1;unfold bW at h;have:(x.p == [])=false:=by simpa using hx.1
  rw[this,Bool.false_or,Bool.and_eq_true] at h;exact h.1
 unfold bW;simp only[Bool.or_eq_true,Bool.and_eq_true,decide_eq_true_eq];refine .inr ⟨?_,by omega⟩
 cases he:x.p==a
 .rw[he] at hc;have hbl:aO a x.p=true:=by simpa using hc
  obtain⟨r,hr⟩:=gV ha hbl;have hdr:x.p.drop a.length=47::r:=by rw[hr];simp
  rw[hdr];rw[hr] at hxq;unfold qW at hxq hbq ⊢;rw[yX,List.all_append,Bool.and_eq_true] at hxq;rw[yX,List.all_append,hbq,hxq.2];rfl
 .have hdr:x.p.drop a.length=[]:=by rw[eq_of_beq he];simp
  rw[hdr,List.append_nil];exact hbq
theorem zP{a b:List UInt8}(ha:a≠[])(hb:b≠[])(hbp:bW b=true):∀{t out:List It},(∀x∈t,OkI x)->Srt out->(∀x∈out,OkI x)->(eN a b out t).2=0->Srt (eN a b out t).1/\(∀x∈(eN a b out t).1,OkI x)
 | [],out,_,h2,h3,_=>⟨h2,h3⟩
 | x::r,out,h1,h2,h3,h4=>by
  have hr:∀y∈r,OkI y:=λy hy=>h1 y (List.mem_cons_of_mem _ hy);rw[eN] at h4 ⊢;split at h4
  .rename_i hc;rw[if_pos hc];exact zP ha hb hbp hr h2 h3 h4
  .rename_i hc;split at h4
   .cases h4
   .rename_i hl;rw[if_neg hc,if_neg hl];have hc2:(!(x.p==a) && !aO a x.p)=false:=by simpa using hc
    have hxm:=(h1 x List.mem_cons_self).moved ha hb hbp hc2 hl;refine zP ha hb hbp hr (zU h2) (λy hy=>?_) h4;rcases oJ hy with rfl|hy
    .exact hxm
    .exact h3 y hy
def mvd(a:List UInt8)(x:It):Bool:=!(!(x.p==a) && !aO a x.p)
theorem CB{a b:List UInt8}:∀(t out:List It),(eN a b out t).1.length<=out.length+(t.filter (mvd a)).length
 | [],out=>by simp[eN]
 | x::r,out=>by
  cases hm:mvd a x
  .have hc:(!(x.p==a) && !aO a x.p)=true:=by simpa only[mvd,Bool.not_eq_false'] using hm
   rw[eN,if_pos hc,List.filter_cons,if_neg (by rw[hm];decide)];exact CB r out
  .have hc:¬ (!(x.p==a) && !aO a x.p)=true:=by simp only[mvd,Bool.not_eq_true'] at hm;rw[hm];decide
   rw[eN,if_neg hc,List.filter_cons,if_pos hm,List.length_cons];split
   .exact Nat.zero_le _
   .have h1:=CB (a:=a) (b:=b) r (tP out (b++x.p.drop a.length) x.n);have h2:=oL out (b++x.p.drop a.length) x.n;omega
theorem vA(a:List UInt8):∀t:List It,(bR t a).length+(t.filter (mvd a)).length=t.length
 | []=>rfl
 | x::r=>by
  have h:=vA a r;unfold bR mM bG at h ⊢;rw[List.filter_filter] at h ⊢;simp only[List.filter_cons];cases hm:mvd a x
  .have hc:(!(x.p==a) && !aO a x.p)=true:=by simpa only[mvd,Bool.not_eq_false'] using hm
   rw[if_pos hc,if_neg (by decide),List.length_cons,List.length_cons];omega
  .have hc:¬ (!(x.p==a) && !aO a x.p)=true:=by simp only[mvd,Bool.not_eq_true'] at hm;rw[hm];decide
   rw[if_neg hc,if_pos rfl,List.length_cons,List.length_cons];omega
theorem OkT0.move{a b:List UInt8}(h:OkT0 t)(he:(jQ t a b).2=0):OkT0 (jQ t a b).1:=by
 unfold jQ at he ⊢;split at he
 .cases he
 .rename_i h1;rw[if_neg h1];split at he
  .cases he
  .rename_i h2;rw[if_neg h2];split at he
   .cases he
   .rename_i h3;rw[if_neg h3];split at he
    .cases he
    .rename_i h4;rw[if_neg h4];split at he
     .cases he
     .rename_i h5;rw[if_neg h5];simp only[Bool.or_eq_true,not_or,beq_iff_eq,Bool.not_eq_true',Bool.not_eq_false] at h1;have hr:=h.remove a;obtain⟨k1,k2⟩:=zP h1.1.1.1 h1.1.1.2 h1.2 h.its hr.srt hr.its he;refine⟨k1,k2,?_⟩;have k3:=CB (a:=a) (b:=b) t (bR t a);have k4:=vA a t;have k5:=h.len;omega
end Go.Dm
end
section
namespace Go.Dm
open Go
variable {d:List UInt8}{t:List It}
theorem cB{p:List UInt8}{n:Nd}:∀{t:List It},aM t p=some n->∃x∈t,x.p=p/\x.n=n
 | [],h=>by simp[aM] at h
 | x::r,h=>by
  rw[aM] at h;split at h
  .rename_i hx;exact⟨x,List.mem_cons_self,eq_of_beq hx,by simpa using h⟩
  .obtain⟨y,hy,h2⟩:=cB h;exact⟨y,List.mem_cons_of_mem _ hy,h2⟩
def Par(t:List It):Prop:=∀x∈t,bC t (aU x.p)=true
theorem iN(p:List UInt8):∀k,k<=p.length->(dG p k=none/\∀j (h:j<p.length),j<k->p[j]≠47)∨(∃i,∃h:i<p.length,dG p k=some i/\i<k/\p[i]=47/\∀j (h:j<p.length),i<j->j<k->p[j]≠47)
 | 0,_=>.inl ⟨rfl,λj _ h=>by omega⟩
 | k+1,hk=>by
  have hlt:k<p.length:=by omega
  have hg:p.getD k 0=p[k]:=by simp[List.getD_eq_getElem?_getD,hlt]
  rw[dG,hg];by_cases hb:p[k]=47
  .rw[hb,if_pos (by decide)];exact .inr ⟨k,hlt,rfl,by omega,hb,λj h h1 h2=>by omega⟩
  .have:¬ ((p[k].toNat:Int)==47)=true:=by
    intro h;have h:=eq_of_beq h;exact hb (UInt8.toNat_inj.1 (by have:(47:UInt8).toNat=47:=rfl;omega))
   rw[if_neg this];rcases iN p k (by omega) with⟨h1,h2⟩|⟨i,h,h1,h2,h3,h4⟩
   .refine .inl ⟨h1,λj hj hjk=>?_⟩;rcases Nat.lt_or_ge j k with h|h
    .exact h2 j hj h
    .have:j=k:=by omega
     subst this;exact hb
   .refine .inr ⟨i,h,h1,by omega,h3,λj hj hij hjk=>?_⟩
    rcases Nat.lt_or_ge j k with h'|h'
    .exact h4 j hj hij h'
    .have:j=k:=by omega
     subst this;exact hb
theorem zC(p:List UInt8):(aU p=[]/\47 ∉ p)∨∃n,p=aU p++47::n/\47 ∉ n:=by
 unfold aU;rcases iN p p.length (Nat.le_refl _) with⟨h1,h2⟩|⟨i,h,h1,h2,h3,h4⟩
 .rw[h1];refine .inl ⟨rfl,λhm=>?_⟩;obtain⟨j,hj,he⟩:=List.mem_iff_getElem.1 hm;exact h2 j hj hj he
 .rw[h1];refine .inr ⟨p.drop (i+1),?_,λhm=>?_⟩
  .have:=List.take_append_drop i p;rw[List.drop_eq_getElem_cons h,h3] at this;exact this.symm
  .obtain⟨j,hj,he⟩:=List.mem_iff_getElem.1 hm;rw[List.getElem_drop] at he;rw[List.length_drop] at hj;exact h4 (i+1+j) (by omega) (by omega) (by omega) he
theorem TV{n d' n':List UInt8}(h:d++47::n=d'++47::n')(hn:47 ∉ n)(hn':47 ∉ n'):d=d'/\n=n':=by
 rcases List.append_eq_append_iff.1 h with⟨c,h1,h2⟩|⟨c,h1,h2⟩
 .cases c with
  | nil=>simp at h1 h2;exact⟨h1.symm,h2⟩
  | cons x c =>
   simp only[List.cons_append,List.cons.injEq] at h2;exact absurd (by rw[h2.2];simp) hn
 .cases c with
  | nil=>simp at h1 h2;exact⟨h1,h2.symm⟩
  | cons x c =>
   simp only[List.cons_append,List.cons.injEq] at h2;exact absurd (by rw[h2.2];simp) hn'
theorem zOz{n:List UInt8}(hn:47 ∉ n):aU (d++47::n)=d:=by
 rcases zC (d++47::n) with⟨_,h⟩|⟨m,h,hm⟩
 .exact absurd (by simp) h
 .exact((TV h hn hm).1).symm
theorem uC{p:List UInt8}(h:aU p≠[]):∃n,p=aU p++47::n/\47 ∉ n:=by
 rcases zC p with⟨h1,_⟩|h1
 .exact absurd h1 h
 .exact h1
theorem lM{a r:List UInt8}(ha:a≠[]):aO a (a++47::r)=true:=by
 unfold aO;rw[if_neg (by simpa using ha)];cases r with
 | nil=>simp
 | cons b r =>
  have h1:decide (((a++47::b::r).length:Int) > a.length+1)=true:=by simp;omega
  have h2:(a++47::b::r).take (a.length+1)=a++[47]:=by
   rw[List.take_append];simp[List.take_of_length_le]
  rw[h1,h2];simp
theorem zDs{a q:List UInt8}(ha:a≠[]):aO a q=true↔∃r,q=a++47::r:=⟨gV ha,λ⟨_,h⟩=>h▸lM ha⟩
theorem eE{a q:List UInt8}(ha:a≠[])(hd:aU q≠[])(h:aU q=a∨aO a (aU q)=true):aO a q=true:=by
 obtain⟨n,hn,_⟩:=uC hd;rcases h with h|h
 .rw[hn,h];exact lM ha
 .obtain⟨r,hr⟩:=gV ha h;rw[hn,hr,List.append_assoc];exact lM ha
theorem jN{a q:List UInt8}(ha:a≠[])(h:aO a q=true):aU q=a∨aO a (aU q)=true:=by
 obtain⟨r,hr⟩:=gV ha h;rcases zC q with⟨_,h1⟩|⟨n,h1,h2⟩
 .exact absurd (by rw[hr];simp) h1
 .rw [hr] at h1;rcases List.append_eq_append_iff.1 h1 with⟨c,e1,e2⟩|⟨c,e1,e2⟩
  .cases c with
   | nil=>left;rw[hr];simpa using e1
   | cons x c =>
    simp only[List.cons_append,List.cons.injEq] at e2;right;rw[hr,e1,<- e2.1];exact lM ha
  .cases c with
   | nil=>left;rw[hr];simpa using e1.symm
   | cons x c =>
    simp only[List.cons_append,List.cons.injEq] at e2;exact absurd (by rw[e2.2];simp) h2
theorem uD{p:List UInt8}(h:aU p≠[]):(aU p).length<p.length:=by
 obtain⟨n,hn,_⟩:=uC h;have:=congrArg List.length hn;simp only[List.length_append,List.length_cons] at this;omega
theorem gJ(g:List UInt8->Bool)(q:List UInt8):∀t:List It,aM (t.filter λx=>g x.p) q=if g q then aM t q else none
 | []=>by simp[aM]
 | x::r=>by
  rw[List.filter_cons];by_cases hx:x.p=q
  .subst hx;cases hg:g x.p
   .simp only[Bool.false_eq_true,if_false];have:=gJ g x.p r;simpa[hg] using this
   .simp[aM]
  .have hb:(x.p==q)=false:=by simpa using hx
   split
   .simp only[aM,hb,Bool.false_eq_true,if_false];exact gJ g q r
   .simp only[aM,hb,Bool.false_eq_true,if_false];exact gJ g q r
theorem gD(t:List It)(p:List UInt8):bR t p=t.filter λx=>!(x.p==p) && !aO p x.p:=by
 unfold bR mM bG;rw[List.filter_filter]
theorem BL(t:List It)(p q:List UInt8):aM (bR t p) q=if (!(q==p) && !aO p q) then aM t q else none:=by
 rw[gD];exact gJ (λq=>!(q==p) && !aO p q) q t
theorem ES(t:List It)(p q:List UInt8):aM (bG t p) q=if !aO p q then aM t q else none:=gJ (λq=>!aO p q) q t
theorem QK{p q:List UInt8}(h:(q==p)=false)(t:List It):aM (mM t p) q=aM t q:=by
 unfold mM;rw[gJ (λq=>!(q==p)) q t,h];rfl
theorem QM{p q:List UInt8}{n:Nd}:∀t:List It,aM (xW p n false t) q=if q==p then some n else aM t q
 | []=>by
  simp only[xW,Bool.false_eq_true,if_false,aM];rw[show (p==q)=(q==p) from BEq.comm]
 | x::r=>by
  have hc:(p==q)=(q==p):=BEq.comm;simp only[xW,Bool.not_false,Bool.true_and,Bool.false_or];cases hb:cD x.p p
  .simp only[Bool.not_false,if_true,List.singleton_append,aM,hc,vK];cases hq:q==p
   .simp only[Bool.false_eq_true,if_false];have hd:=QK hq r;cases hx:x.p==p
    .simp only[Bool.not_false,if_true,List.singleton_append,aM,hd]
    .have hxq:(x.p==q)=false:=by
      rw[eq_of_beq hx,hc];exact hq
     simp only[Bool.not_true,Bool.false_eq_true,if_false,List.nil_append,hd,hxq]
   .rfl
  .have ih:=QM (p:=p) (q:=q) (n:=n) r;have hx:(x.p==p)=false:=jH hb;simp only[Bool.not_true,Bool.false_eq_true,if_false,List.nil_append,hx,Bool.not_false,if_true,List.singleton_append,aM,ih];cases hq:q==p
   .rfl
   .have hxq:(x.p==q)=false:=by rw[eq_of_beq hq];exact hx
    simp[hxq]
theorem pN{p q:List UInt8}{n:Nd}(t:List It):aM (tP t p n) q=if q==p then some n else aM t q:=QM t
theorem cS{q:List UInt8}(hq:q≠[])(h:bC t q=true):∃m,aM t q=some m/\m.k=2:=by
 unfold bC at h;have:(q == [])=false:=by simpa using hq
 rw[this,Bool.false_or] at h;cases hg:aM t q with
 | none=>rw[hg] at h;cases h
 | some m=>rw[hg] at h;exact⟨m,rfl,by simpa using h⟩
theorem fS{q:List UInt8}{m:Nd}(h:aM t q=some m)(hk:m.k=2):bC t q=true:=by
 unfold bC;rw[h];simp[hk]
theorem Par.remove(h:Par t)(hne:∀x∈t,x.p≠[])(p:List UInt8):Par (bR t p):=by
 intro x hx;rw[gD,List.mem_filter] at hx;obtain⟨hx,hg⟩:=hx;by_cases hq:aU x.p=[]
 .rw[hq];rfl
 obtain⟨m,h1,h2⟩:=cS hq (h x hx);refine fS (m:=m) ?_ h2;rw[BL,h1];simp only[Bool.and_eq_true,Bool.not_eq_true'] at hg;by_cases hp:p=[]
 .subst hp;have:=hne x hx;simp[aO,this] at hg
 have k1:(aU x.p==p)=false:=by
  cases hc:aU x.p==p
  .rfl
  .rw[eE hp hq (.inl (eq_of_beq hc))] at hg;cases hg.2
 have k2:aO p (aU x.p)=false:=by
  cases hc:aO p (aU x.p)
  .rfl
  .rw[eE hp hq (.inr hc)] at hg;cases hg.2
 rw[k1,k2];rfl
theorem Par.set{u:List It}{p:List UInt8}{n:Nd}(h:Par t)(hp:p≠[])(hd:bC t (aU p)=true)(hu:u=if n.k != 2 then bG t p else t):Par (tP u p n):=by
 have key:∀q,q≠[]->q≠p->(n.k≠2->aO p q=false)->∀m,aM t q=some m->aM (tP u p n) q=some m:=by
  intro q h0 h1 h2 m hm;rw[pN];have:(q==p)=false:=by simpa using h1
  rw[this,hu];simp only[Bool.false_eq_true,if_false];split
  .rename_i hk;rw[ES,h2 (by simpa using hk)];simpa using hm
  .exact hm
 intro x hx;by_cases hq:aU x.p=[]
 .rw[hq];rfl
 rcases oJ hx with rfl|hx
 .obtain⟨m,h1,h2⟩:=cS hq hd;have hlt:=uD hq;simp only at hq hlt ⊢;refine fS (key _ hq (λe=>by rw[e] at hlt;omega) (λ_=>?_) m h1) h2
  cases hb:aO p (aU p)
  .rfl
  .have:=dR hb;omega
 .have hxt:x∈t/\(n.k≠2->aO p x.p=false):=by
   rw[hu] at hx;split at hx
   .have:=List.mem_filter.1 hx;exact⟨this.1,λ_=>by simpa using this.2⟩
   .rename_i hk;exact⟨hx,λh=>absurd (by simpa using h) hk⟩
  obtain⟨m,h1,h2⟩:=cS hq (h x hxt.1);by_cases he:aU x.p=p
  .have hk:n.k=2:=by
    rcases Decidable.em (n.k=2) with h|h
    .exact h
    .have h3:=hxt.2 h;rw[eE hp hq (.inl he)] at h3;cases h3
   refine fS (m:=n) ?_ hk;rw[pN,he];simp
  .refine fS (key _ hq he (λhk=>?_) m h1) h2;have h3:=hxt.2 hk;cases hb:aO p (aU x.p)
   .rfl
   .rw[eE hp hq (.inr hb)] at h3;cases h3
theorem zGt{b:List UInt8}(h:Par t)(hb:b≠[]):∀(n:Nat) (q:List UInt8),q.length<=n->(aM t q).isSome=true->aO b q=true->(aM t b).isSome=true
 | 0,q,hl,_,hq=>by
  have h1:q=[]:=by simpa using hl
  subst h1;have h2:=dR hq;have:b=[]:=by simpa using h2
  exact absurd this hb
 | n+1,q,hl,hs,hq=>by
  obtain⟨m,hm⟩:=Option.isSome_iff_exists.1 hs;obtain⟨x,hx,rfl,_⟩:=cB hm;have hdx:=h x hx;rcases jN hb hq with h1|h1
  .rw[h1] at hdx;obtain⟨m,h2,_⟩:=cS hb hdx;rw[h2];rfl
  .have h0:aU x.p≠[]:=by
    intro h0;rw[h0] at h1;have:=dR h1;have:b=[]:=by simpa using this
    exact absurd this hb
   obtain⟨m,h2,_⟩:=cS h0 hdx;have hlt:=uD h0;exact zGt h hb n _ (by omega) (by rw[h2];rfl) h1
theorem uT{a b:List UInt8}{z:It}:∀{t out:List It},(eN a b out t).2=0->z∈(eN a b out t).1->z∈out∨∃y∈t,mvd a y=true/\z=⟨b++y.p.drop a.length,y.n⟩
 | [],out,_,h=>.inl h
 | x::r,out,h0,h=>by
  rw[eN] at h0 h;split at h0
  .rename_i hc;rw[if_pos hc] at h;rcases uT h0 h with h|⟨y,hy,h⟩
   .exact .inl h
   .exact .inr ⟨y,List.mem_cons_of_mem _ hy,h⟩
  .rename_i hc;split at h0
   .cases h0
   .rename_i hl;rw[if_neg hc,if_neg hl] at h;have hm:mvd a x=true:=by
     have hc2:(!(x.p==a) && !aO a x.p)=false:=by simpa only[Bool.not_eq_true] using hc
     rw[mvd,hc2];rfl
    rcases uT h0 h with h|⟨y,hy,h⟩
    .rcases oJ h with rfl|h
     .exact .inr ⟨x,List.mem_cons_self,hm,rfl⟩
     .exact .inl h
    .exact .inr ⟨y,List.mem_cons_of_mem _ hy,h⟩
theorem jR{a:List UInt8}(ha:a≠[]){y:It}(h:mvd a y=true):∃s,y.p=a++s/\(s=[]∨∃r,s=47::r):=by
 unfold mvd at h;simp only[Bool.not_eq_true',Bool.and_eq_false_iff,Bool.not_eq_false'] at h;rcases h with h|h
 .exact⟨[],by rw[List.append_nil];exact eq_of_beq h,.inl rfl⟩
 .obtain⟨r,hr⟩:=gV ha h;exact⟨47::r,hr,.inr ⟨r,rfl⟩⟩
theorem pU{a b:List UInt8}(ha:a≠[]){q:List UInt8}:∀{t out:List It},(eN a b out t).2=0->(∀y∈t,mvd a y=true->b++y.p.drop a.length≠q)->aM (eN a b out t).1 q=aM out q
 | [],_,_,_=>rfl
 | x::r,out,h0,h=>by
  have hr:∀y∈r,mvd a y=true->b++y.p.drop a.length≠q:=λy hy=>h y (List.mem_cons_of_mem _ hy);rw[eN] at h0 ⊢;split at h0
  .rename_i hc;rw[if_pos hc];exact pU ha h0 hr
  .rename_i hc;split at h0
   .cases h0
   .rename_i hl;rw[if_neg hc,if_neg hl,pU ha h0 hr,pN];have hm:mvd a x=true:=by
     have hc2:(!(x.p==a) && !aO a x.p)=false:=by simpa only[Bool.not_eq_true] using hc
     rw[mvd,hc2];rfl
    have:=h x List.mem_cons_self hm;have e:(q==b++x.p.drop a.length)=false:=by simpa using λe=>this e.symm
    rw[e];rfl
theorem uR{a b:List UInt8}(ha:a≠[]){y:It}(hm:mvd a y=true):∀{t out:List It},Srt t->(eN a b out t).2=0->y∈t->aM (eN a b out t).1 (b++y.p.drop a.length)=some y.n
 | x::r,out,hs,h0,hy=>by
  obtain⟨hs1,hs2⟩:=List.pairwise_cons.1 hs;rw[eN] at h0 ⊢;split at h0
  .rename_i hc;rw[if_pos hc];rcases List.mem_cons.1 hy with rfl|hy
   .unfold mvd at hm;rw[hc] at hm;cases hm
   .exact uR ha hm hs2 h0 hy
  .rename_i hc;split at h0
   .cases h0
   .rename_i hl;rw[if_neg hc,if_neg hl];rcases List.mem_cons.1 hy with rfl|hy
    .rw[pU ha h0,pN];· simp
     intro z hz hmz he;obtain⟨s,e1,_⟩:=jR ha hm;obtain⟨s',e2,_⟩:=jR ha hmz;rw[e1,e2] at he;simp only[List.drop_left,List.append_cancel_left_eq] at he;have h1:=hs1 z hz;rw[e1,e2,he,cF] at h1;cases h1
    .exact uR ha hm hs2 h0 hy
theorem Par.move{a b:List UInt8}(h:Par t)(hs:Srt t)(hne:∀x∈t,x.p≠[])(ha:a≠[])(hb:b≠[])(hab:aO a b=false)(hbt:(aM t b).isSome=false)(hdb:bC t (aU b)=true)(haa:a≠b)
 (h0:(eN a b (bR t a) t).2=0):Par (eN a b (bR t a) t).1:=by
 have stay:∀q m,q≠[]->aM t q=some m->(q==a)=false->aO a q=false->aM (eN a b (bR t a) t).1 q=some m:=by
  intro q m hq hm h1 h2;rw[pU ha h0,BL,h1,h2];· simpa using hm
  intro y hy hmy he;obtain⟨s,e1,e2⟩:=jR ha hmy;rw[e1,List.drop_left] at he;rcases e2 with rfl|⟨r,rfl⟩
  .rw[List.append_nil] at he;subst he;rw[hm] at hbt;cases hbt
  .have:=zGt h hb q.length q (Nat.le_refl _) (by rw[hm];rfl) (by rw[<- he];exact lM hb);rw[this] at hbt;cases hbt
 have up:∀x∈t,(x.p==a)=false->aO a x.p=false->bC (eN a b (bR t a) t).1 (aU x.p)=true:=by
  intro x hx h1 h2;by_cases hq:aU x.p=[]
  .rw[hq];rfl
  obtain⟨m,k1,k2⟩:=cS hq (h x hx);refine fS (stay _ m hq k1 ?_ ?_) k2
  .cases hc:aU x.p==a
   .rfl
   .rw[eE ha hq (.inl (eq_of_beq hc))] at h2;cases h2
  .cases hc:aO a (aU x.p)
   .rfl
   .rw[eE ha hq (.inr hc)] at h2;cases h2
 intro z hz;rcases uT h0 hz with hz|⟨y,hy,hm,rfl⟩
 .rw[gD,List.mem_filter] at hz;obtain⟨hz,hg⟩:=hz;simp only[Bool.and_eq_true,Bool.not_eq_true'] at hg;exact up z hz hg.1 hg.2
 .obtain ⟨s,e1,e2⟩:=jR ha hm;simp only[e1,List.drop_left];rcases e2 with rfl|⟨r,rfl⟩
  .rw [List.append_nil];by_cases hq:aU b=[]
   .rw[hq];rfl
   obtain⟨m,k1,k2⟩:=cS hq hdb;refine fS (stay _ m hq k1 ?_ ?_) k2
   .cases hc:aU b==a
    .rfl
    .rw[eE ha hq (.inl (eq_of_beq hc))] at hab;cases hab
   .cases hc:aO a (aU b)
    .rfl
    .rw[eE ha hq (.inr hc)] at hab;cases hab
  ·
   have hby:aO a y.p=true:=by rw[e1];exact lM ha
   have hq:aU y.p≠[]:=by
    rcases jN ha hby with h1|h1
    .rw[h1];exact ha
    .intro h2;rw[h2] at h1;have:=dR h1;have:a=[]:=by simpa using this
     exact absurd this ha
   obtain ⟨m,k1,k2⟩:=cS hq (h y hy);obtain⟨w,hw,hwp,hwn⟩:=cB k1;have hmw:mvd a w=true:=by
    unfold mvd;rw[hwp];rcases jN ha hby with h1|h1
    .rw[h1];simp
    .rw[h1];simp
   have hgot:=uR (b:=b) (out:=bR t a) ha hmw hs h0 hw;obtain⟨s',e3,_⟩:=jR ha hmw;obtain⟨n,hn,hn47⟩:=uC hq;have he:aU (b++47::r)=b++w.p.drop a.length:=by
    rw[e3,List.drop_left];rw[hwp] at e3;rw[e3,e1,List.append_assoc] at hn;have hn2:(47::r:List UInt8)=s'++47::n:=List.append_cancel_left hn;rw[hn2,<- List.append_assoc];exact zOz hn47
   rw[he];exact fS hgot (by rw[hwn];exact k2)
end Go.Dm
end
section
namespace Go.Dm
open Go
variable {t:List It}
structure OkT (t:List It):Prop extends OkT0 t where
 par:Par t
theorem OkT.nil: OkT []:=⟨OkT0.nil,λx h=>by simp at h⟩
theorem OkT.ne(h:OkT t):∀x∈t,x.p≠[]:=λx hx=>(h.its x hx).1
theorem OkT.plen(h:OkT t):∀x∈t,x.p.length<=120:=h.toOkT0.plen
theorem OkT.dlen(h:OkT t):∀x∈t,x.n.d.length<=2000:=h.toOkT0.dlen
theorem OkT.tlen(h:OkT t):∀x∈t,x.n.t<18446744073709551616:=h.toOkT0.tlen
theorem OkT.remove(h:OkT t)(p:List UInt8):OkT (bR t p):=⟨h.toOkT0.remove p,h.par.remove h.ne p⟩
theorem OkT.put{p:List UInt8}{n:Nd}(h:OkT t)(hnt:n.t<18446744073709551616)(he:(mE t p n).2=0):OkT (mE t p n).1:=by
 refine⟨h.toOkT0.put hnt he,?_⟩;unfold mE at he ⊢;generalize hu:(if n.k != 2 then bG t p else t)=u at he ⊢
 split at he
 .cases he
 .rename_i h1;split at he
  .cases he
  .rename_i h2;split at he
   .cases he
   .rename_i h3;rw[if_neg h1,if_neg h2,if_neg h3];simp only[Bool.or_eq_true,not_or,beq_iff_eq,Bool.not_eq_true',Bool.not_eq_false] at h1 h2;exact h.par.set h1.1.1 h2 hu.symm
theorem OkT.move{a b:List UInt8}(h:OkT t)(he:(jQ t a b).2=0):OkT (jQ t a b).1:=by
 refine⟨h.toOkT0.move he,?_⟩;unfold jQ at he ⊢;split at he
 .cases he
 .rename_i h1;rw[if_neg h1];split at he
  .cases he
  .rename_i h2;rw[if_neg h2];split at he
   .cases he
   .rename_i h3;rw[if_neg h3];split at he
    .cases he
    .rename_i h4;rw[if_neg h4];split at he
     .cases he
     .rename_i h5;rw[if_neg h5];simp only[Bool.or_eq_true,not_or,beq_iff_eq,Bool.not_eq_true',Bool.not_eq_false] at h1 h2 h3 h4 h5;refine h.par.move h.srt h.ne h1.1.1.1 h1.1.1.2 (by simpa using h3) (by simpa using h4) h5 (λe=>?_) he;rw[e] at h2;exact h4 h2
end Go.Dm
end
section
namespace Go.Dm
open Go
variable {P:Program}{X0:Ctx}{Q:Exit->DS->Prop}{c:Code}{t:List It}{h:aD}
theorem zPz{s:DS}(i k:Nat)(hn:look s.t i=.c (.p .nil))(h:SWP P X0 c ⟨s.n,(i,.c (.p (.sl k [])))::s.t,s.h⟩ Q):SWP P X0 c s Q:=by
 intro gd X a hh hi hs ht;refine h gd X a hh hi hs ⟨ht.size,λj=>?_,ht.defs⟩;simp only[look];split
 .rename_i hij;subst hij;have:=ht.rel j;rw[hn] at this;exact wkD.rel (x:=.c (.p .nil)) (y:=.c (.p (.sl k []))) ZN this
 .exact ht.rel j
theorem zNW{n:Nat}{t:Fr}(i k:Nat)(hn:look t i=.c (.p .nil))(hd:SWP P X0 c ⟨n,(i,.c (.p (.sl k [])))::t,h⟩ Q):SWP P X0 c ⟨n,t,h⟩ Q :=
 zPz i k hn hd
def zHX: List DV->List DV->Prop
 | [],[]=>True
 | x::xs,y::ys=>wkD x y/\zHX xs ys
 | _,_=>False
theorem zHX.rel{X:Ctx}:∀{xs ys:List DV} {vs:List Value},zHX xs ys->dI X xs vs->dI X ys vs
 | [],[],_,_,h=>h
 | _::_,_::_,_::_,h,hr=>⟨wkD.rel h.1 hr.1,zHX.rel h.2 hr.2⟩
 | _::_,_::_,[],_,hr=>hr.elim
theorem aA.wkargs{f:FuncId}{args args':List DV}{R:DV->aD->Prop}(hw:zHX args args')(hc:aA P f args' h R):aA P f args h R :=
 λX vals hh hi gd hr=>hc X vals hh hi gd (zHX.rel hw hr)
theorem OkT.getd(h:OkT t)(p:List UInt8):((aM t p).getD nd0).d.length<=2000:=by
 cases hg:aM t p with
 | none=>simp[nd0]
 | some n =>
  obtain⟨x,hx,_,rfl⟩:=cB hg;exact h.dlen x hx
theorem OkT.gett(h:OkT t)(p:List UInt8):((aM t p).getD nd0).t<18446744073709551616:=by
 cases hg:aM t p with
 | none=>simp[nd0]
 | some n =>
  obtain⟨x,hx,_,rfl⟩:=cB hg;exact h.tlen x hx
def lG(p q:Bool)(x y:Nd):Int:=if p then (if q then (if mT x y then 0 else if x.k != y.k then 4 else if !(x.d==y.d) then 3 else 5) else 2) else (if q then 1 else 0)
structure RI where
 p:Int
 n:RN
def RI.cs(x:RI):List PV:=[.i .i64 x.p,.i .i64 x.n.k,.i .i64 x.n.m,.i .i64 x.n.t,.f x.n.x,.sl 1 (bU x.n.d)]
def encI(l:List RI):List (List PV):=l.map RI.cs
theorem zIN(l:List RI):(encI l).length=l.length:=by simp[encI]
theorem zMq{t:List RI}{k:Nat}{x:RI}(h:t[k]?=some x):(encI t).getD k []=[.i .i64 x.p,.i .i64 x.n.k,.i .i64 x.n.m,.i .i64 x.n.t,.f x.n.x,.sl 1 (bU x.n.d)]:=by
 simp only[encI,List.getD_eq_getElem?_getD,List.getElem?_map,h];rfl
theorem zIO(t:List RI):(∀x∈encI t,x.length=6)=True:=eq_true λx hx=>by
 simp only[encI,List.mem_map] at hx;obtain⟨y,_,rfl⟩:=hx;rfl
structure RU where
 what:Int
 at':Int
 to':Int
 n:RN
def RU.cs(x:RU):List PV:=[.i .i64 x.what,.i .i64 x.at',.i .i64 x.to',.i .i64 x.n.k,.i .i64 x.n.m,.i .i64 x.n.t,.f x.n.x,.sl 1 (bU x.n.d)]
def encU(l:List RU):List (List PV):=l.map RU.cs
theorem zI6(l:List RU):(encU l).length=l.length:=by simp[encU]
theorem zMt{t:List RU}{k:Nat}{x:RU}(h:t[k]?=some x):(encU t).getD k []=[.i .i64 x.what,.i .i64 x.at',.i .i64 x.to',.i .i64 x.n.k,.i .i64 x.n.m,.i .i64 x.n.t,.f x.n.x,.sl 1 (bU x.n.d)]:=by
 simp only[encU,List.getD_eq_getElem?_getD,List.getElem?_map,h];rfl
theorem zI7(t:List RU):(∀x∈encU t,x.length=8)=True:=eq_true λx hx=>by
 simp only[encU,List.mem_map] at hx;obtain⟨y,_,rfl⟩:=hx;rfl
theorem zPt(x:RN):RN.mk x.k x.m x.t x.x x.d=x:=rfl
attribute [go_sem] zPt zIN zIO zI6 zI7
structure Ch where
 p:List UInt8
 k:Int
 o:Nd
 n:Nd
def Ch.cs(x:Ch):List PV:=[.s x.p,.i .i64 x.k,.i .i64 x.o.k,.i .i64 x.o.m,.f x.o.t,.sl 1 (bU x.o.d),.i .i64 x.n.k,.i .i64 x.n.m,.f x.n.t,.sl 1 (bU x.n.d)]
def lE(l:List Ch):List (List PV):=l.map Ch.cs
theorem zIz(l:List Ch):(lE l).length=l.length:=by simp[lE]
theorem zD: lE []=[]:=rfl
theorem zIy(a b:List Ch):lE a++lE b=lE (a++b):=by simp[lE]
theorem zEo(a:List Ch)(n:Nat):(lE a).take n=lE (a.take n):=by simp[lE]
theorem zEm(a:List Ch)(n:Nat):(lE a).drop n=lE (a.drop n):=by simp[lE]
theorem mA{t:List Ch}{k:Nat}{x:Ch}(h:t[k]?=some x):(lE t).getD k []=[.s x.p,.i .i64 x.k,.i .i64 x.o.k,.i .i64 x.o.m,.f x.o.t,.sl 1 (bU x.o.d),.i .i64 x.n.k,.i .i64 x.n.m,.f x.n.t,.sl 1 (bU x.n.d)]:=by
 simp only[lE,List.getD_eq_getElem?_getD,List.getElem?_map,h];rfl
theorem zIA(t:List Ch):(∀x∈lE t,x.length=10)=True:=eq_true λx hx=>by
 simp only[lE,List.mem_map] at hx;obtain⟨y,_,rfl⟩:=hx;rfl
theorem zEn(t:List Ch)(p:List UInt8)(k k1 m1 k2 m2:Int)(t1 t2:Nat)(d1 d2:List UInt8):lE t++[[.s p,.i .i64 k,.i .i64 k1,.i .i64 m1,.f t1,.sl 1 (bU d1),.i .i64 k2,.i .i64 m2,.f t2,.sl 1 (bU d2)]]=lE (t++[⟨p,k,⟨k1,m1,t1,d1⟩,⟨k2,m2,t2,d2⟩⟩]):=by simp[lE,Ch.cs]
theorem zOo(x:Ch):Ch.mk x.p x.k x.o x.n=x:=rfl
attribute [go_sem] zIz zD zIy zEo zEm zIA zEn zOo
def chF(a b:List It)(p:List UInt8):List Ch :=
 if lG (aM a p).isSome (aM b p).isSome ((aM a p).getD nd0) ((aM b p).getD nd0) != 0 then [⟨p,lG (aM a p).isSome (aM b p).isSome ((aM a p).getD nd0) ((aM b p).getD nd0),(aM a p).getD nd0,(aM b p).getD nd0⟩] else []
def VO(a b:List It):List (List UInt8)->List Ch
 | []=>[]
 | p::r=>chF a b p++VO a b r
end Go.Dm
end
end
