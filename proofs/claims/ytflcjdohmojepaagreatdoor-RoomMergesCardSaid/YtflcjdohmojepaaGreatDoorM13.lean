/- Part 14 of the proof of roomMerges_card, set without needless blanks. No condition. -/
import Derived.Test.YtflcjdohmojepaaGreatDoorM12
set_option linter.all false
set_option maxRecDepth 100000
set_option maxHeartbeats 16000000
section
namespace Go.Dm
open Go
section
variable {a p:List UInt8}{x e:En}{l:List En}{t w:List It}{os:List (List UInt8)}
theorem FZ(t:List It)(x:En)(p:List UInt8):aM (oV t x) p=if ((p==x.p) || (pG t x && aO x.p p)) then none else aM t p:=by
 have:=gJ (λq=>!((q==x.p) || (pG t x && aO x.p q))) p t;unfold oV goE;rw[this];cases ((p==x.p) || (pG t x && aO x.p p))<;>rfl
theorem kM(t:List It)(x:En)(p:List UInt8):aM (mC t x) p=if p==x.p then (if x.k==2 then none else some x.n) else if pG t x && aO x.p p then none else aM t p:=by
 unfold mC;split
 .rw[FZ];cases p==x.p<;>simp
 .rw[pN,FZ];cases p==x.p<;>simp
theorem zDr(ha:a≠[])(h:aO a p=true):cD a p=true:=by
 obtain⟨r,rfl⟩:=gV ha h;exact zDw a 47 r
theorem AA{b c:List UInt8}(ha:a≠[])(h:aO a b=true)(k:aO b c=true):aO a c=true:=by
 obtain⟨r,rfl⟩:=gV ha h;obtain⟨s,rfl⟩:=gV (by simp) k;rw[List.append_assoc,List.cons_append];exact lM ha
theorem NO(ha:a≠[])(h:aO a p=true):a.length<p.length:=by
 obtain⟨r,rfl⟩:=gV ha h;simp
theorem yV(ha:a≠[]):aO a []=false:=by
 cases h:aO a []
 .rfl
 .have:=NO ha h;simp at this
theorem mX(t:List It)(x:En)(l:List En):fV t (x::l)=fV (mC t x) l:=rfl
theorem GV: ∀{l:List En} {t:List It},(∀x∈l,(p==x.p)=false/\aO x.p p=false)->aM (fV t l) p=aM t p
 | [],_,_=>rfl
 | x::l,t,h=>by
  obtain⟨h1,h2⟩:=h x List.mem_cons_self;rw[mX,GV λy hy=>h y (List.mem_cons_of_mem _ hy),kM,h1,h2,Bool.and_false];rfl
theorem GW: ∀{l:List En} {t:List It},(∀x∈l,(p==x.p)=false)->aM t p=none->aM (fV t l) p=none
 | [],_,_,h=>h
 | x::l,t,h,h0=>by
  rw[mX];refine GW (λy hy=>h y (List.mem_cons_of_mem _ hy)) ?_;rw[kM,h x List.mem_cons_self,h0];simp
theorem CH: ∀{l:List En} {t:List It},zBc l->(∀y∈l,y.p≠[])->x∈l->aM (fV t l) x.p=if x.k==2 then none else some x.n
 | [],_,_,_,h=>by cases h
 | y::l,t,hs,hn,hx=>by
  obtain⟨h1,h2⟩:=List.pairwise_cons.1 hs;rw[mX];rcases List.mem_cons.1 hx with rfl|hx
  .rw[GV λz hz=>⟨jH (h1 z hz),?_⟩,kM,beq_self_eq_true,if_pos rfl];cases hb:aO z.p x.p
   .rfl
   .have:=zDr (hn z (List.mem_cons_of_mem _ hz)) hb;rw[eS (h1 z hz)] at this;cases this
  .exact CH h2 (λz hz=>hn z (List.mem_cons_of_mem _ hz)) hx
theorem GY: ∀{l:List En} {t:List It},(∀x∈l,(p==x.p)=false)->e∈l->aO e.p p=true->(e.o || jF e)=true->aM (fV t l) p=none
 | [],_,_,h,_,_=>by cases h
 | y::l,t,h,he,hb,hs=>by
  rw[mX];rcases List.mem_cons.1 he with rfl|he
  .refine GW (λx hx=>h x (List.mem_cons_of_mem _ hx)) ?_;have hc:pG t e=true:=by
    unfold pG;rw[<- Bool.or_assoc,hs,Bool.true_or]
   rw[kM,h e List.mem_cons_self,hc,hb];rfl
  .exact GY (λx hx=>h x (List.mem_cons_of_mem _ hx)) he hb hs
theorem GX: ∀{l:List En} {t:List It},(∀x∈l,x.p≠[]/\(p==x.p)=false/\(aO x.p p=true->(x.o || jF x)=false))->(∀q,(aM t p).isSome=true->aO q p=true->q≠[]->bC t q=true)->aM (fV t l) p=aM t p
 | [],_,_,_=>rfl
 | x::l,t,h,hc=>by
  obtain ⟨h0,h1,h2⟩:=h x List.mem_cons_self;have hcov:aO x.p p=true->(aM t p).isSome=true->pG t x=false:=λhb hs=>by
   have h3:=h2 hb;rw[Bool.or_eq_false_iff] at h3;unfold pG;rw[h3.1,h3.2,hc x.p hs hb h0];rfl
  have he:aM (mC t x) p=aM t p:=by
   rw[kM,h1];cases hb:aO x.p p
   .simp
   .cases hs:aM t p with
    | none=>simp
    | some n=>rw[hcov hb (by rw[hs];rfl)];simp
  rw[mX,GX (λy hy=>h y (List.mem_cons_of_mem _ hy)) ?_,he];intro q hs hb hq;rw[he] at hs;obtain⟨m,hm,hk⟩:=cS hq (hc q hs hb hq);cases hqx:q==x.p
  .refine fS (m:=m) ?_ hk;rw[kM,hqx];cases hbx:aO x.p q
   .simpa using hm
   .rw[hcov (AA h0 hbx hb) hs];simpa using hm
  .have e:=eq_of_beq hqx;rw[e] at hb;have h3:=h2 hb;rw[Bool.or_eq_false_iff] at h3;have h4:=h3.2;unfold jF at h4;rw[Bool.or_eq_false_iff] at h4;refine fS (m:=x.n) ?_ (by simpa using h4.2);rw[kM,hqx,if_pos rfl,h4.1];rfl
theorem MU: ∀{l:List En},zBc l->∀x∈l,∀y∈l,x.p=y.p->x=y
 | [],_,x,hx,_,_,_=>by cases hx
 | z::l,h,x,hx,y,hy,e=>by
  obtain⟨h1,h2⟩:=List.pairwise_cons.1 h;rcases List.mem_cons.1 hx with e1|g1<;>rcases List.mem_cons.1 hy with e2|g2
  .rw[e1,e2]
  .have:=jH (h1 y g2);rw[<- e1,e] at this;simp at this
  .have:=jH (h1 x g1);rw[<- e2,e] at this;simp at this
  .exact MU h2 x g1 y g2 e
theorem zE2(h:zBc l)(hx:x∈l):jJ l x.p=some x:=by
 cases hf:jJ l x.p with
 | none=>exact absurd (beq_self_eq_true x.p) (by simpa using List.find?_eq_none.1 hf x hx)
 | some y =>
  have h1:=eq_of_beq (List.find?_some (p:=λz:En=>z.p==x.p) hf);rw[MU h y (List.mem_of_find?_eq_some hf) x hx h1]
theorem wB(h:jJ l p=some x):x∈l/\x.p=p:=⟨List.mem_of_find?_eq_some h,eq_of_beq (List.find?_some (p:=λz:En=>z.p==p) h)⟩
theorem QB(h:jJ l p=none):∀x∈l,(p==x.p)=false:=λx hx=>by
 have h1:=List.find?_eq_none.1 h x hx;cases hp:p==x.p
 .rfl
 .rw[eq_of_beq hp] at h1;simp at h1
theorem zNo(hs:zBc l)(hn:∀x∈l,x.p≠[]):∀(n:Nat) (q:List UInt8),q.length<=n->(shF l n q=true↔∃e∈l,(e.p=q∨aO e.p q=true)/\(e.o || jF e)=true):=by
 have h00:¬ ∃e∈l,(e.p=[]∨aO e.p []=true)/\(e.o || jF e)=true:=by
  rintro⟨e,he,h|h,_⟩
  .exact hn e he h
  .rw[yV (hn e he)] at h;cases h
 intro n
 induction n with
 | zero =>
  intro q hl;have h1:q=[]:=by simpa using hl
  subst h1;exact⟨λh=>(by simp[shF] at h),λh=>absurd h h00⟩
 | succ n ih =>
  intro q hl;by_cases h0:q=[]
  .subst h0;exact⟨λh=>(by rw[zNp] at h;cases h),λh=>absurd h h00⟩
  .have hdl:(aU q).length<=n:=by
    by_cases h:aU q=[]
    .rw[h];exact Nat.zero_le _
    .have:=uD h;omega
   have hsh:∀e:En,(e.k==2 || (e.o || e.n.k != 2))=(e.o || jF e):=λe=>by
    unfold jF;cases e.k==2<;>cases e.o<;>rfl
   rw[zKx h0];split
   .rename_i hc;refine⟨λ_=>?_,λ_=>rfl⟩;cases he:jJ l q with
    | none=>rw[he] at hc;cases hc
    | some e =>
     rw[he,Option.getD_some,hsh] at hc;obtain⟨h1,h2⟩:=wB he;exact⟨e,h1,.inl h2,by simpa using hc⟩
   .rename_i hc;rw[ih _ hdl];constructor
    .rintro⟨e,he,h1,h2⟩;refine⟨e,he,.inr ?_,h2⟩;refine eE (hn e he) (λhd=>?_) (h1.imp Eq.symm id);rw[hd] at h1;exact h00 ⟨e,he,h1,h2⟩
    .rintro⟨e,he,h1,h2⟩;rcases h1 with h1|h1
     .rw[<- h1,zE2 hs he,Option.getD_some,hsh,h2] at hc;exact absurd rfl hc
     .exact⟨e,he,(jN (hn e he) h1).imp Eq.symm id,h2⟩
theorem vL(hs:zBc l)(hn:∀x∈l,x.p≠[])(p:List UInt8):zG1 l p=true↔∃e∈l,aO e.p p=true/\(e.o || jF e)=true:=by
 unfold zG1;rw[zNo hs hn _ _ (zDX p)];constructor
 .rintro⟨e,he,h1,h2⟩;refine⟨e,he,eE (hn e he) (λhd=>?_) (h1.imp Eq.symm id),h2⟩;rw[hd] at h1;rcases h1 with h1|h1
  .exact hn e he h1
  .rw[yV (hn e he)] at h1;cases h1
 .rintro⟨e,he,h1,h2⟩;exact⟨e,he,(jN (hn e he) h1).imp Eq.symm id,h2⟩
theorem zGq(hp:Par t)(hs:zBc l)(hn:∀x∈l,x.p≠[])(p:List UInt8):
  aM (fV t l) p=match jJ l p with
   | some e=>if e.k==2 then none else some e.n
   | none=>if zG1 l p then none else aM t p:=by
 cases he:jJ l p with
 | some e =>
  obtain⟨h1,rfl⟩:=wB he;exact CH hs hn h1
 | none =>
  have hno:=QB he;cases hsh:zG1 l p
  .refine GX (λx hx=>⟨hn x hx,hno x hx,λhb=>?_⟩) λq h1 h2 h3=>?_
   .cases h:(x.o || jF x)
    .rfl
    .rw[(vL hs hn p).2 ⟨x,hx,hb,h⟩] at hsh;cases hsh
   .obtain⟨m,h4,h5⟩:=uU hp h3 _ _ (Nat.le_refl _) h1 h2;exact fS h4 (by simpa using h5)
  .obtain⟨e,h1,h2,h3⟩:=(vL hs hn p).1 hsh;exact GY hno h1 h2 h3
theorem OkE.ne(h:OkE l):∀x∈l,x.p≠[]:=λx hx e=>by
 have:=h.may x hx;unfold zLs at this;rw[e] at this;cases this
theorem zCD{x y:Nd}(hx:aR x=true)(hxt:x.t<18446744073709551616)(hy:aR y=true)(hyt:y.t<18446744073709551616)(h:cH x y=true):x=y:=by
 have e1:=(gM hx hxt).2;have e2:=(gM hy hyt).2;simp only[cH,Bool.and_eq_true,beq_iff_eq] at h;obtain⟨⟨⟨h1,h2⟩,h3⟩,h4⟩:=h;rw[e1,e2] at h4;cases x;cases y;simp only at h1 h2 h3 h4;subst h1;subst h2;subst h3;subst h4;rfl
theorem NZ: ∀(n:Nat) (q:List UInt8),zHS w os n q=true->∃a,a≠[]/\(q=a∨aO a q=true)/\(!(aM w a).isSome || (((aM w a).getD nd0).k != 2 || isB os a))=true
 | 0,_,h=>by cases h
 | n+1,q,h=>by
  by_cases h0:q=[]
  .rw[h0,zAd] at h;cases h
  .rw [AL h0] at h;split at h
   .rename_i hc;exact⟨q,h0,.inl rfl,hc⟩
   .obtain⟨a,h1,h2,h3⟩:=NZ n _ h;refine⟨a,h1,.inr (eE h1 (λhd=>?_) h2),h3⟩;rw[hd] at h2;rcases h2 with h2|h2
    .exact h1 h2.symm
    .rw[yV h1] at h2;cases h2
theorem zDM(h:NG w os p=true):∃a,a≠[]/\aO a p=true/\(!(aM w a).isSome || (((aM w a).getD nd0).k != 2 || isB os a))=true:=by
 obtain⟨a,h1,h2,h3⟩:=NZ _ _ h;refine⟨a,h1,eE h1 (λhd=>?_) h2,h3⟩;rw[hd] at h2;rcases h2 with h2|h2
 .exact h1 h2.symm
 .rw[yV h1] at h2;cases h2
theorem LV{x:It}(hx:x∈w)(he:e∈YG t os x):e∈jE t os w:=List.mem_flatMap.2 ⟨x,hx,he⟩
theorem zAe(ht:OkT t)(hw:OkT w):∀(n:Nat) (p:List UInt8),p.length<=n->(aM t p).isSome=true->NG w (lD t w) p=true->∃e∈eF t w,aO e.p p=true/\(e.o || jF e)=true
 | 0,p,hl,_,hc=>by
  have h1:p=[]:=by simpa using hl
  subst h1;cases hc
 | n+1,p,hl,hs,hc=>by
  obtain⟨_,hm⟩:=oF ht hw;obtain⟨a,h1,h2,h3⟩:=zDM hc;obtain⟨m,h4,h5⟩:=uU ht.par h1 _ _ (Nat.le_refl _) hs h2;cases hg:aM w a with
  | none =>
   cases hca:NG w (lD t w) a
   .obtain⟨y,hy,rfl,_⟩:=cB h4;exact⟨mB y.p,(hm _).2 (.inr ⟨y,hy,rfl,by rw[hg];rfl,hca⟩),h2,rfl⟩
   .have:=NO h1 h2;obtain⟨e,h6,h7,h8⟩:=zAe ht hw n a (by omega) (by rw[h4];rfl) hca;exact⟨e,h6,AA ((XS ht hw).ne e h6) h7 h2,h8⟩
  | some k =>
   obtain⟨x,hx,rfl,rfl⟩:=cB hg;rw[hg,Option.getD_some,Option.isSome_some,Bool.not_true,Bool.false_or] at h3;cases hi:isB (lD t w) x.p
   .rw [hi,Bool.or_false] at h3;refine⟨⟨x.p,1,false,x.n⟩,(hm _).2 (.inl (LV hx ?_)),h2,?_⟩
    .unfold YG;rw[hi,if_neg (by decide),h4,Option.getD_some];have:cH m x.n=false:=by
      unfold cH;have:(m.k==x.n.k)=false:=by
       cases hq:m.k==x.n.k
       .rfl
       .rw[<- eq_of_beq hq,bne,h5] at h3;cases h3
      rw[this];rfl
     rw[this];exact List.mem_singleton.2 rfl
    .unfold jF;rw[h3];rfl
   .refine⟨⟨x.p,1,true,x.n⟩,(hm _).2 (.inl (LV hx ?_)),h2,rfl⟩;unfold YG;rw[hi,if_pos rfl];exact List.mem_singleton.2 rfl
theorem zJH(ht:OkT t)(hw:OkT w)(p:List UInt8):aM (fV t (eF t w)) p=aM w p:=by
 obtain⟨hs,hm⟩:=oF ht hw;have hok:=XS ht hw;have hn:=hok.ne;rw[zGq ht.par hs hn];cases he:jJ (eF t w) p with
 | some e =>
  obtain⟨h1,rfl⟩:=wB he;rcases (hm e).1 h1 with h|⟨y,hy,rfl,h3,_⟩
  .obtain⟨x,hx,rfl⟩:=kQ h;exact(cP hw.srt hx).symm
  .show none=aM w y.p;cases hg:aM w y.p with
   | none=>rfl
   | some n=>rw[hg] at h3;cases h3
 | none =>
  have hno:=QB he;have hput:∀x∈w,x.p=p->isB (lD t w) p=false/\∃m,aM t p=some m/\cH m x.n=true:=λx hx hp=>by
   subst hp;cases hi:isB (lD t w) x.p
   .refine ⟨rfl,?_⟩;cases hc:(!(aM t x.p).isSome || !cH ((aM t x.p).getD nd0) x.n)
    .cases hg:aM t x.p with
     | none=>rw[hg] at hc;cases hc
     | some m =>
      rw[hg,Option.getD_some] at hc;exact⟨m,rfl,by simpa using hc⟩
    .have:=hno ⟨x.p,1,false,x.n⟩ ((hm _).2 (.inl (LV hx (by
      unfold YG;rw[hi,if_neg (by decide),hc];exact List.mem_singleton.2 rfl))))
     simp at this
   .have:=hno ⟨x.p,1,true,x.n⟩ ((hm _).2 (.inl (LV hx (by
     unfold YG;rw[hi,if_pos rfl];exact List.mem_singleton.2 rfl))))
    simp at this
  cases hsh:zG1 (eF t w) p
  .show aM t p=aM w p;cases hg:aM w p with
   | some n =>
    obtain⟨x,hx,rfl,rfl⟩:=cB hg;obtain⟨_,m,h1,h2⟩:=hput x hx rfl;obtain⟨y,hy,_,rfl⟩:=cB h1;rw[h1,zCD (ht.its y hy).2.2.1 (ht.its y hy).2.2.2 (hw.its x hx).2.2.1 (hw.its x hx).2.2.2 h2]
   | none =>
    cases hgt:aM t p with
    | none=>rfl
    | some n =>
     exfalso;obtain⟨y,hy,rfl,_⟩:=cB hgt;cases hc:NG w (lD t w) y.p
     .have:=hno (mB y.p) ((hm _).2 (.inr ⟨y,hy,rfl,by rw[hg];rfl,hc⟩))
      rw[show (mB y.p).p=y.p from rfl] at this
      simp at this
     .obtain⟨e,h1,h2,h3⟩:=zAe ht hw _ _ (Nat.le_refl _) (by rw[hgt];rfl) hc;rw[(vL hs hn _).2 ⟨e,h1,h2,h3⟩] at hsh;cases hsh
  .show none=aM w p;cases hg:aM w p with
   | none=>rfl
   | some n =>
    exfalso;obtain⟨e,h1,h2,h3⟩:=(vL hs hn p).1 hsh;obtain⟨m,h4,h5⟩:=uU hw.par (hn e h1) _ _ (Nat.le_refl _) (by rw[hg];rfl) h2;rcases (hm e).1 h1 with h|⟨y,hy,rfl,h6,_⟩
    .obtain ⟨x,hx,rfl⟩:=kQ h;rw[show (En.mk x.p 1 (isB (lD t w) x.p) x.n).p=x.p from rfl,cP hw.srt hx] at h4
     have h4:=Option.some.inj h4;have hsf:jF ⟨x.p,1,isB (lD t w) x.p,x.n⟩=false:=by
      unfold jF;simp only[h4,bne,h5];rfl
     rw[hsf,Bool.or_false] at h3;have hb:=LO hw hx h3;unfold zJY at hb;simp only[Bool.and_eq_true,Bool.not_eq_true'] at hb;have hst:=hb.2;obtain⟨v,hv,rfl,rfl⟩:=cB hg;obtain⟨_,k,h7,_⟩:=hput v hv rfl;obtain⟨z,hz,hzp,_⟩:=cB h7;have:VA t w x.p=true:=List.any_eq_true.2 ⟨z,hz,by rw[hzp,hg];exact h2⟩
     rw[this] at hst;cases hst
    .rw[show (mB y.p).p=y.p from rfl] at h4
     rw[h4] at h6;cases h6
theorem zNA{s:List It}(hs:Srt s)(ht:Srt t)(h:∀p,aM s p=aM t p):s=t:=by
 have key:∀{a b:List It},Srt a->(∀p,aM a p=aM b p)->∀x,x∈a->x∈b:=λha he x hx=>by
  have h1:=cP ha hx;rw[he] at h1;obtain⟨y,hy,h2,h3⟩:=cB h1;have:y=x:=by cases y;cases x;simp only at h2 h3;subst h2;subst h3;rfl
  rw[<- this];exact hy
 exact xA hs ht λx=>⟨key hs h x,key ht (λp=>(h p).symm) x⟩
theorem zGp(ht:OkT t)(hw:OkT w):sZ t (eF t w)=(w,true):=by
 have e:fV t (eF t w)=w:=zNA (CJ ht.srt) hw.srt (zJH ht hw);unfold sZ;rw[e,SX hw,if_pos rfl]
theorem FW: ∀{ls:List (List En)} {t:List It},pL t (ls++[l])=if (pL t ls).2 then (if (sZ (pL t ls).1 l).2 then ((sZ (pL t ls).1 l).1,true) else ([],false)) else ([],false)
 | [],_=>rfl
 | x::r,t=>by
  rw[List.cons_append,pL,pL];cases (sZ t x).2
  .rfl
  .exact FW
end
end Go.Dm
end
section
section
namespace Go.Dm
open Go
variable {n i k bl:Nat}{rs:List ResultVar}{R:DV->aD->Prop}{s:DS}{t:Fr}{h:aD}{P:Program}{T:Tab}{f:FuncId}{fn:Func}{c:Code}{args:List DV}{w:World}{S:Nat->Prop}
def vO(n:Nat)(h:aD)(R:DV->aD->Prop):DV->Prop
 | .c (.own id off len)=>off=0/\n<=id/\(h.take n).all (bP n)=true/\∃k es,h[id]?=some (.arr k es false)/\R (.c (.own n 0 len)) (h.take n++[.arr k es false])
 | _=>False
def ZL(n:Nat)(t:Fr)(h:aD)(R:DV->aD->Prop):List ResultVar->Prop
 | [.tmp i]=>vO n h R (look t i)
 | _=>False
def zA9(n:Nat)(rs:List ResultVar)(R:DV->aD->Prop):Exit->DS->Prop
 | .normal,s=>ZL n s.t s.h R rs
 | .ret,s=>ZL n s.t s.h R rs
 | _,_=>False
theorem zKZ: zA9 n rs R .normal s=ZL n s.t s.h R rs:=nr rfl
theorem zK0: zA9 n rs R .ret s=ZL n s.t s.h R rs:=nr rfl
theorem zHF: ZL n t h R [.tmp i]=vO n h R (look t i):=nr rfl
attribute [go_sem] zKZ zK0 zHF
theorem zPI{d:DV}(hv:vO n h R d):Fin n h d R:=by
 unfold vO at hv;split at hv
 .obtain⟨rfl,h1,h2,k,es,h3,h4⟩:=hv;exact .inr (.inr ⟨_,_,k,es,rfl,h1,h3,h2,h4⟩)
 .exact hv.elim
theorem zQp (hT:bM P T) (hm:P.follows .mixedOrders=true) (hf:P.funcs[f]?=some fn) (hb:fn.body=some c)
 (hc:(Nat.ble args.length fn.ntmps && !(fn.name == "runtime.NumGoroutine"))=true)
 (hs:∀X0:Ctx,X0.h=h->vc P T X0 c ⟨fn.ntmps,jA 0 args,h⟩ (zA9 h.length fn.results.toList R)):aA P f args h R:=by
 simp only[Bool.and_eq_true,Bool.not_eq_true'] at hc;refine eM hT hf hb (Nat.le_of_ble_eq_true hc.1) hc.2 λX0 hX=>?_;rw[fK];refine fW (dP hT hm c (hs X0 hX)) λe s hv=>?_;have key:ZL h.length s.t s.h R fn.results.toList->dpost T h.length fn.results.toList R .normal s/\dpost T h.length fn.results.toList R .ret s:=by
  intro hr;generalize fn.results.toList=rs at hr;unfold ZL at hr;split at hr
  .rename_i i;have hf:=zPI hr;have:∃x,look s.t i=.c x:=by
    unfold vO at hr;split at hr
    .rename_i he;exact⟨_,he⟩
    .exact hr.elim
   obtain⟨x,hx⟩:=this;rw[hx] at hf;simp only[dpost,nR,hx];exact⟨hf,hf⟩
  .exact hr.elim
 cases e<;>simp only[zA9] at hv
 case normal=>exact(key hv).1
 case ret=>exact(key hv).2
theorem zC5{args':List DV}{K:DV->aD->Prop}{es:List (List PV)}(hc:aA P f args' [] λd h'=>d=.c (.own 0 0 n)/\h'=[.arr k es false])(hp:iF h args=some args')
 (hk:K (.c (.own h.length 0 n)) (sN h (lZ args)++[.arr k es false])):aA P f args h K :=
 (aA.frame h hp hc).mono λd h' ⟨d0,h0,⟨h1,h2⟩,h3,h4⟩=>by
  subst h1;subst h2;subst h3;subst h4;simpa[DV.sh,CV.sh,DB.sh] using hk
def vR(h:aD)(R:DV->aD->Prop):DV->Prop
 | .c x=>R (.c x) h
 | _=>False
def ZM(t:Fr)(h:aD)(R:DV->aD->Prop):List ResultVar->Prop
 | [.tmp i]=>vR h R (look t i)
 | _=>False
def zBa(rs:List ResultVar)(R:DV->aD->Prop):Exit->DS->Prop
 | .normal,s=>ZM s.t s.h R rs
 | .ret,s=>ZM s.t s.h R rs
 | _,_=>False
theorem zK1: zBa rs R .normal s=ZM s.t s.h R rs:=nr rfl
theorem zK2: zBa rs R .ret s=ZM s.t s.h R rs:=nr rfl
theorem zHG: ZM t h R [.tmp i]=vR h R (look t i):=nr rfl
theorem vR_c{x:CV}:vR h R (.c x)=R (.c x) h:=nr rfl
attribute [go_sem] zK1 zK2 zHG vR_c
theorem VP (hT:bM P T) (hm:P.follows .mixedOrders=true) (hf:P.funcs[f]?=some fn) (hb:fn.body=some c)
 (hc:(Nat.ble args.length fn.ntmps && !(fn.name == "runtime.NumGoroutine"))=true)
 (hs:∀X0:Ctx,X0.h=h->vc P T X0 c ⟨fn.ntmps,jA 0 args,h⟩ (zBa fn.results.toList R)):aA P f args h R:=by
 simp only[Bool.and_eq_true,Bool.not_eq_true'] at hc;refine eM hT hf hb (Nat.le_of_ble_eq_true hc.1) hc.2 λX0 hX=>?_;rw[fK];refine fW (dP hT hm c (hs X0 hX)) λe s hv=>?_;have key:ZM s.t s.h R fn.results.toList->dpost T h.length fn.results.toList R .normal s/\dpost T h.length fn.results.toList R .ret s:=by
  intro hr;generalize fn.results.toList=rs at hr;unfold ZM at hr;split at hr
  .rename_i i;unfold vR at hr;split at hr
   .rename_i x hx;simp only[dpost,nR,hx];exact⟨.inl hr,.inl hr⟩
   .exact hr.elim
  .exact hr.elim
 cases e<;>simp only[zBa] at hv
 case normal=>exact(key hv).1
 case ret=>exact(key hv).2
def zK6: List PV->List PV->Prop
 | [],[]=>True
 | x::xs,y::ys=>wkP x y/\zK6 xs ys
 | _,_=>False
def lC: List (List PV)->List (List PV)->Prop
 | [],[]=>True
 | e::es,f::fs=>zK6 e f/\lC es fs
 | _,_=>False
theorem zK6.len: ∀{e f:List PV},zK6 e f->f.length=e.length
 | [],[],_=>rfl
 | _::_,_::_,h=>by simp[zK6.len h.2]
 | [],_::_,h=>h.elim
 | _::_,[],h=>h.elim
theorem lC.len: ∀{e f:List (List PV)},lC e f->f.length=e.length
 | [],[],_=>rfl
 | _::_,_::_,h=>by simp[lC.len h.2]
 | [],_::_,h=>h.elim
 | _::_,[],h=>h.elim
theorem wkP.relP{x y:PV}{v:Value}(h:wkP x y)(hr:cZ w S x v):cZ w S y v:=by
 rcases h with rfl|⟨rfl,k,rfl⟩
 .exact hr
 .exact cZ.nilOf k hr
theorem zK6.relE: ∀{e f:List PV} {off:Nat},zK6 e f->gT w S bl off e->gT w S bl off f
 | [],[],_,_,_=>True.intro
 | _::_,_::_,_,h,⟨⟨v,h1,h2⟩,h3⟩=>⟨⟨v,h1,h.1.relP h2⟩,zK6.relE h.2 h3⟩
 | [],_::_,_,h,_=>h.elim
 | _::_,[],_,h,_=>h.elim
theorem lC.relL: ∀{e f:List (List PV)} {off:Nat},lC e f->fP w S k bl off e->fP w S k bl off f
 | [],[],_,_,_=>True.intro
 | _::_,_::_,_,h,⟨⟨h1,h2⟩,h3⟩=>⟨⟨h.1.len.trans h1,h.1.relE h2⟩,lC.relL h.2 h3⟩
 | [],_::_,_,h,_=>h.elim
 | _::_,[],_,h,_=>h.elim
end Go.Dm
end
section
namespace Go.Dm
open Go
variable {X Y:Ctx}{v:Value}{bl i:Nat}{G:Nat->Option (Nat × Nat)}{h:aD}{P:Program}{f:FuncId}{c0 c1:List CV}{r:DV}{K:DV->aD->Prop}
def JX: CV->Bool
 | .p _=>true
 | _=>false
def zP3: EV->Bool
 | .c x=>JX x
 | .agg xs=>xs.all JX
def zDO: DV->Bool
 | .jk=>true
 | .c x=>JX x
 | .agg xs=>xs.all JX
 | .tup xs=>xs.all zP3
theorem yZ(hw:Y.w=X.w)(hS:Y.S=X.S){x:CV}(hf:JX x=true)(h:cA X x v):cA Y x v:=by
 cases x<;>simp only[JX] at hf
 .simp only[cA] at h ⊢;rw[hw,hS];exact h
 all_goals cases hf
theorem AO(hw:Y.w=X.w)(hS:Y.S=X.S):∀{xs:List CV} {vs:List Value},xs.all JX=true->bF X xs vs->bF Y xs vs
 | [],[],_,_=>True.intro
 | _::_,_::_,hf,h=>by
  simp only[List.all_cons,Bool.and_eq_true] at hf;exact⟨yZ hw hS hf.1 h.1,AO hw hS hf.2 h.2⟩
 | [],_::_,_,h=>h.elim
 | _::_,[],_,h=>h.elim
theorem zIg(hw:Y.w=X.w)(hS:Y.S=X.S){x:EV}(hf:zP3 x=true)(h:eD X x v):eD Y x v:=by
 cases x<;>simp only[zP3] at hf<;>simp only[eD] at h ⊢
 .exact yZ hw hS hf h
 .obtain⟨vs,h1,h2⟩:=h;exact⟨vs,h1,AO hw hS hf h2⟩
theorem PC(hw:Y.w=X.w)(hS:Y.S=X.S):∀{xs:List EV} {vs:List Value},xs.all zP3=true->cO X xs vs->cO Y xs vs
 | [],[],_,_=>True.intro
 | _::_,_::_,hf,h=>by
  simp only[List.all_cons,Bool.and_eq_true] at hf;exact⟨zIg hw hS hf.1 h.1,PC hw hS hf.2 h.2⟩
 | [],_::_,_,h=>h.elim
 | _::_,[],_,h=>h.elim
theorem zA(hw:Y.w=X.w)(hS:Y.S=X.S){x:DV}(hf:zDO x=true)(h:bD X x v):bD Y x v:=by
 cases x<;>simp only[zDO] at hf<;>simp only[bD] at h ⊢
 .exact yZ hw hS hf h
 .obtain⟨vs,h1,h2⟩:=h;exact⟨vs,h1,AO hw hS hf h2⟩
 .obtain⟨vs,h1,h2⟩:=h;exact⟨vs,h1,PC hw hS hf h2⟩
theorem FM(hw:Y.w=X.w)(hS:Y.S=X.S):∀{off:Nat} {cs:List CV},cs.all JX=true->cU X bl off cs->cU Y bl off cs
 | _,[],_,_=>True.intro
 | _,_::_,hf,h=>by
  simp only[List.all_cons,Bool.and_eq_true] at hf;obtain⟨⟨v,h1,h2⟩,h3⟩:=h;exact⟨⟨v,by rw[hw];exact h1,yZ hw hS hf.1 h2⟩,FM hw hS hf.2 h3⟩
theorem SP(hw:Y.w=X.w)(hS:Y.S=X.S):∀{ps:List PV} {vs:List Value},dI X (ps.map λx=>.c (.p x)) vs->dI Y (ps.map λx=>.c (.p x)) vs
 | [],[],_=>True.intro
 | _::_,_::_,h=>⟨zA hw hS rfl h.1,SP hw hS h.2⟩
 | [],_::_,h=>h.elim
 | _::_,[],h=>h.elim
theorem tZ{off:Nat}{cs:List CV}(hf:cs.all JX=true)(hb:cU X bl off cs):cU ⟨X.w,X.S,G,h⟩ bl off cs:=FM (X:=X) (Y:=⟨X.w,X.S,G,h⟩) rfl rfl hf hb
theorem WM{d:DV}(hf:zDO d=true)(hd:bD X d v):bD ⟨X.w,X.S,G,h⟩ d v:=zA (X:=X) (Y:=⟨X.w,X.S,G,h⟩) rfl rfl hf hd
theorem aA.box{ps:List PV}
 (hc:aA P f (.c (.ptr 0 0)::ps.map λx=>.c (.p x)) [.box c0] λd h'=>d=r/\h'=[.box c1])
 (h0:h[i]?=some (.box c0))(hd:(c0.all JX && (c1.all JX && zDO r))=true)(hk:K r (h.set i (.box c1))):
  aA P f (.c (.ptr i 0)::ps.map λx=>.c (.p x)) h K:=by
 simp only[Bool.and_eq_true] at hd;obtain⟨hd0,hd1,hdr⟩:=hd;intro X vals hh hi gd hr;subst hh;have hlt:=aK h0;obtain⟨g,arr,el,fz,hg,hb1,hb2,hb3,hb4⟩:=hi.blk i _ h0
 let Y:Ctx:=⟨X.w,X.S,λj=>if j=0 then some g else none,[.box c0]⟩
 have hiY:HInv Y:=by
  refine⟨hi.slt,λid db hdb=>?_,λid db g' hdb hl hg'=>?_,λid db id' db' g1 g2 hdb _ _ hdb' _ _ _ _=>?_⟩
  .cases id with
   | zero =>
    simp only[Y,List.getElem?_cons_zero,Option.some.injEq] at hdb;subst hdb;exact⟨g,arr,el,fz,rfl,hb1,hb2,hb3,tZ hd0 hb4⟩
   | succ n=>simp[Y] at hdb
  .cases id with
   | zero =>
    simp only[Y,List.getElem?_cons_zero,Option.some.injEq,if_true] at hdb hg';subst hdb;subst hg';exact hi.own i _ g h0 rfl hg
   | succ n=>simp[Y] at hdb
  .have e1:=aK hdb;have e2:=aK hdb';simp only[Y,List.length_cons,List.length_nil] at e1 e2;omega
 cases vals with
 | nil=>exact hr.elim
 | cons v0 vs =>
  obtain ⟨⟨_,hv1,hv2⟩,hr2⟩:=hr;obtain⟨g',hg',rfl⟩:=hv2 _ h0;rw[hg] at hg';cases hg';have hrY:dI Y (.c (.ptr 0 0)::ps.map λx=>.c (.p x)) (.pointer (some ⟨g.1,g.2+0,none⟩)::vs) :=
   ⟨⟨Nat.zero_lt_one,rfl,λcells hcells=>⟨g,rfl,rfl⟩⟩,SP (X:=X) (Y:=Y) rfl rfl hr2⟩
  have key:∀v w',Ret Y (λd h'=>d=r/\h'=[.box c1]) v w'->Ret X K v w':=by
   rintro v w' ⟨d,Z,h1,h2,h3,h4,rfl,h5⟩;have hZ0:Z.h[0]?=some (.box c1):=by rw[h5];rfl
   obtain ⟨db,e1,e2,e3,e4⟩:=h3.ids 0 _ (by simp[Y]) hZ0 rfl;have hGZ:Z.G 0=some g:=e3;have e4:=e4 g rfl;have hfr:∀b,b<X.w.heap.size->b≠g.1->Z.w.heap[b]?=X.w.heap[b]? := λb hb hne=>h3.frame b hb λid db g' hdb hl hf hg'=>by
    have e1:=aK hdb;simp only[Y,List.length_cons,List.length_nil] at e1;have:id=0:=by omega
    subst this;simp only[Y,if_true,Option.some.injEq] at hg';subst hg';exactλe=>hne e.symm
   have hst:Step X ⟨Z.w,Z.S,X.G,X.h.set i (.box c1)⟩:=by
    refine⟨h3.size,h3.os,h3.tape,h3.output,h3.kept,by simp,λid db' hl' hdb' hlv=>?_,λb hb hno=>?_,λid db g' hdb hl hf hg'=>?_,λb hb=>?_⟩
    .rcases cG hdb' with⟨rfl,rfl,_⟩|⟨hne,h'⟩
     .exact⟨_,h0,True.intro,rfl,λg' hg'=>by rw[hg] at hg';cases hg';exact e4⟩
     .refine⟨db',h',cM.refl hlv,rfl,λg' hg'=>?_⟩;rw[show Z.w.heap[g'.1]?=X.w.heap[g'.1]? from hfr _ (hi.block_lt h' hlv hg') λe=>hne (hi.inj i _ id db' g g' h0 rfl rfl h' hlv hg hg' e.symm).symm]
      exact(hi.blk id db' h').same hlv g' hg'
    .exact hfr b hb λe=>hno i _ g h0 rfl rfl hg e.symm
    .rcases cG hdb with⟨rfl,rfl,_⟩|⟨hne,h'⟩
     .exact .inr ⟨id,_,g',h0,rfl,rfl,hg',rfl⟩
     .exact .inr ⟨id,db,g',h',hl,hf,hg',rfl⟩
    .rcases h3.upper b hb with h|h|⟨id,db,g',hdb,hl,hg',e⟩
     .exact .inl h
     .exact .inr (.inl h)
     .have e1:=aK hdb;simp only[Y,List.length_cons,List.length_nil] at e1;have:id=0:=by omega
      subst this;simp only[Y,if_true,Option.some.injEq] at hg';subst hg';exact .inr (.inr ⟨i,_,g,h0,rfl,hg,e⟩)
   refine⟨d,⟨Z.w,Z.S,X.G,X.h.set i (.box c1)⟩,h1,⟨h2.slt,λid db hdb=>?_,λid db g' hdb hl hg'=>?_,λid db id' db' g1 g2 hdb hl hf hdb' hl' hg1 hg2 he=>?_⟩,hst,WM hdr h4,hk⟩
   .rcases cG hdb with⟨rfl,rfl,_⟩|⟨hne,h'⟩
    .obtain⟨g',arr',el',fz',k1,k2,k3,k4,k5⟩:=h2.blk 0 _ hZ0;rw[hGZ] at k1;cases k1;exact⟨g,arr',el',fz',hg,k2,k3,k4,tZ hd1 k5⟩
    .by_cases hl:db.live=true
     .exact(hi.blk id db h').move hst rfl λg' hg'=>hfr _ (hi.block_lt h' hl hg') λe=>hne (hi.inj i _ id db g g' h0 rfl rfl h' hl hg hg' e.symm).symm
     .cases db<;>simp_all[DB.live,eC]
   .rcases cG hdb with⟨rfl,rfl,_⟩|⟨hne,h'⟩
    .have hgg:g'=g:=by
      have:X.G id=some g':=hg';rw[hg] at this;cases this;rfl
     subst hgg;exact h2.own 0 _ g' hZ0 rfl hGZ
    .have ho:=hi.own id db g' h' hl hg';refine⟨λhf hS=>?_,λhf=>(h3.kept _ (ho.2 hf)).1⟩;rcases h3.upper _ hS with h|h|⟨j,d',g2,hdb2,hl2,hg2,e⟩
     .exact ho.1 hf h
     .have:=hi.block_lt h' hl hg';have hYw:Y.w.heap.size=X.w.heap.size:=rfl;omega
     .have e1:=aK hdb2;simp only[Y,List.length_cons,List.length_nil] at e1;have:j=0:=by omega
      subst this;simp only[Y,if_true,Option.some.injEq] at hg2;subst hg2;exact hne (hi.inj i _ id db g g' h0 rfl rfl h' hl hg hg' e).symm
   .rcases cG hdb with⟨rfl,rfl,_⟩|⟨hne,h1'⟩<;>rcases cG hdb' with⟨rfl,rfl,_⟩|⟨hne',h2'⟩
    .rfl
    .exact hi.inj id _ id' db' g1 g2 h0 rfl rfl h2' hl' hg1 hg2 he
    .exact hi.inj id db id' _ g1 g2 h1' hl hf h0 rfl hg1 hg2 he
    .exact hi.inj id db id' db' g1 g2 h1' hl hf h2' hl' hg1 hg2 he
  have gdY:Gnd P Y:=gd;rcases hc Y _ rfl hiY gdY hrY with⟨h1,h2⟩|⟨v,w',h1,h2⟩
  .exact .inl ⟨h1,h2.mono λe w' ⟨v,he,hv⟩=>⟨v,he,key v w' hv⟩⟩
  .exact .inr ⟨v,w',h1,key v w' h2⟩
theorem zPE{x:PV}
 (hc:aA P f [.c (.ptr 0 0),.c (.p x)] [.box c0] λd h'=>d=r/\h'=[.box c1])
 (h0:h[i]?=some (.box c0))(hd:(c0.all JX && (c1.all JX && zDO r))=true)(hk:K r (h.set i (.box c1))):
  aA P f [.c (.ptr i 0),.c (.p x)] h K:=aA.box (ps:=[x]) hc h0 hd hk
section
variable {P:Program}{T:Tab}{X0:Ctx}{Q:Exit->DS->Prop}
end
end Go.Dm
end
section
namespace Go.Dm
open Go
section
variable {P:Program}{T:Tab}{X0:Ctx}{Q:Exit->DS->Prop}
variable {c x y:Code}{s:DS}{id:Nat}{h:aD}
theorem zA3(i id off len:Nat){x:PV}(hl:look s.t i=.c (.own id off len))(hp:SK s.h (.own id off len)=some x)
 (h:SWP P X0 c ⟨s.n,(i,.c (.p x))::s.t,sN s.h [id]⟩ Q):SWP P X0 c s Q:=by
 intro gd X a hh hi hs ht;obtain⟨X',h1,h2,h3,h4,h5,h6⟩:=jD [id] hi;rw[<- h1];refine h gd X' a (by rw[h2,hh]) h5 (hs.trans hi h4) ⟨ht.size,λj=>?_,ht.defs⟩;simp only[look];split
 .rename_i hij;subst hij;have:=ht.rel j;rw[hl] at this;simp only[bD] at this;simp only[bD,cA];exact rL hi h4 h1 this (by rw[hh];exact hp) h6
 .exact(ht.rel j).step h4
def WkS(P:Program)(X0:Ctx)(s s':DS):Prop:=∀(c:Code) (Q:Exit->DS->Prop),SWP P X0 c s' Q->SWP P X0 c s Q
def zCn{α:Type}(P:Program)(X0:Ctx)(I:α->DS)(J:α->Prop)(Q:Exit->DS->Prop):Exit->DS->Prop:=λe s'=>match e with
 | .normal=>∃y,J y/\WkS P X0 s' (I y)
 | e=>Q e s'
theorem oN(hT:bM P T)(hm:P.follows .mixedOrders=true){α:Type}(I:α->DS)(J:α->Prop)(h1:vc P T X0 x s (zCn P X0 I J Q))
 (h2:∀a,J a->SWP P X0 y (I a) Q):SWP P X0 (.seq x y) s Q :=
 DQ (fW (dP hT hm x h1) λe s' hq=>by
  cases e<;>simp only[zCn] at hq ⊢
  case normal =>
   obtain⟨a,ha,hw⟩:=hq;exact hw _ _ (h2 a ha)
  all_goals exact hq)
section
variable {P:Program}{T:Tab}{X0:Ctx}{Q:Exit->DS->Prop}
end
section
variable {P:Program}{T:Tab}{X0:Ctx}{Q:Exit->DS->Prop}
end
theorem qj_e{α:Type}{I:α->DS}{J:α->Prop}:zCn P X0 I J Q (.exit id) s=Q (.exit id) s:=nr rfl
theorem qj_r{α:Type}{I:α->DS}{J:α->Prop}:zCn P X0 I J Q .ret s=Q .ret s:=nr rfl
theorem zOd{α:Type}{I:α->DS}{J:α->Prop}(y:α)(h1:J y)(h3:FE X0.h.length s (I y)):zCn P X0 I J Q .normal s:=⟨y,h1,λ_ _ h=>zA4 h3 h⟩
section
variable {P:Program}{T:Tab}{X0:Ctx}{Q:Exit->DS->Prop}
end
section
variable {P:Program}{T:Tab}{X0:Ctx}{Q:Exit->DS->Prop}
end
def YI(P:Program)(X0:Ctx)(y:Code)(Q:Exit->DS->Prop):Exit->DS->Prop:=λe s'=>match e with
 | .normal=>SWP P X0 y s' Q
 | e=>Q e s'
theorem bE(hT:bM P T)(hm:P.follows .mixedOrders=true)(h1:vc P T X0 x s (YI P X0 y Q)):SWP P X0 (.seq x y) s Q :=
 DQ (fW (dP hT hm x h1) λe s' hq=>by
  cases e<;>simp only[YI] at hq ⊢<;>exact hq)
theorem qf_n: YI P X0 y Q .normal s=SWP P X0 y s Q:=nr rfl
theorem qf_e: YI P X0 y Q (.exit id) s=Q (.exit id) s:=nr rfl
theorem qf_r: YI P X0 y Q .ret s=Q .ret s:=nr rfl
attribute [go_sem] qj_e qj_r qf_n qf_e qf_r
theorem zS{k n:Nat}{es:List (List PV)}{ro:Bool}(h0:h[id]?=some (.arr k es ro))(hn:es.length=n):SK h (.own id 0 n)=some (.sl k es):=by
 subst hn;simp[SK,h0]
section
variable {P:Program}{T:Tab}{X0:Ctx}{Q:Exit->DS->Prop}
end
theorem zOO {f:FuncId} {fn:Func} {args:List DV} {R:DV->aD->Prop} (hT:bM P T) (hf:P.funcs[f]?=some fn) (hb:fn.body=some c)
 (hc:(Nat.ble args.length fn.ntmps && !(fn.name == "runtime.NumGoroutine"))=true)
 (hs:∀X0:Ctx,X0.h=h->SWP P X0 c ⟨fn.ntmps,jA 0 args,h⟩ (ZK T h.length fn.results.toList R)):aA P f args h R:=by
 simp only[Bool.and_eq_true,Bool.not_eq_true'] at hc;refine eM hT hf hb (Nat.le_of_ble_eq_true hc.1) hc.2 λX0 hX=>?_;rw[fK];exact fW (hs X0 hX) λe s=>DY
end
end Go.Dm
end
end
