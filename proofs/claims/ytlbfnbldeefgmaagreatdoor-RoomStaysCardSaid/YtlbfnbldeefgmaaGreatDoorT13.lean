/- Part 14 of the proof of roomStays_card, set without needless blanks. No condition. -/
import Derived.Test.YtlbfnbldeefgmaaGreatDoorT12
set_option linter.all false
set_option maxRecDepth 100000
set_option maxHeartbeats 16000000
section
namespace Go.Dm
open Go
section
variable {t:List It}{a p:List UInt8}{l:List En}
theorem tS{b:List UInt8}(h:Par t)(hb:b≠[]):∀(n:Nat) (q:List UInt8),q.length<=n->(aN t q).isSome=true->aJ b q=true->∃m,aN t b=some m/\(m.k==2)=true
 | 0,q,hl,_,hq=>by
  have h1:q=[]:=by simpa using hl
  subst h1;have h2:=eE hq;have:b=[]:=by simpa using h2
  exact absurd this hb
 | n+1,q,hl,hs,hq=>by
  obtain⟨m,hm⟩:=Option.isSome_iff_exists.1 hs;obtain⟨x,hx,rfl,_⟩:=cL hm;have hdx:=h x hx;rcases jU hb hq with h1|h1
  .rw[h1] at hdx;obtain⟨m,h2,h3⟩:=cW hb hdx;exact⟨m,h2,by first|exact h3|simpa using h3⟩
  .have h0:aM x.p≠[]:=by
    intro h0;rw[h0] at h1;have:=eE h1;have:b=[]:=by simpa using this
    exact absurd this hb
   obtain⟨m,h2,_⟩:=cW h0 hdx;have hlt:=sZ h0;exact tS h hb n _ (by omega) (by rw[h2];rfl) h1
theorem LP{w:List It}{os:List (List UInt8)}(ha:a≠[]):∀(n:Nat) (q:List UInt8),q.length<=n->zGS w os n q=false->(q=a∨aJ a q=true)->(∃m,aN w a=some m/\(m.k==2)=true)/\isB os a=false
 | 0,q,hl,_,hq=>by
  have h1:q=[]:=by simpa using hl
  subst h1;rcases hq with hq|hq
  .exact absurd hq.symm ha
  .have h2:=eE hq;have:a=[]:=by simpa using h2
   exact absurd this ha
 | n+1,q,hl,hc,hq=>by
  by_cases h0:q=[]
  .subst h0;rcases hq with hq|hq
   .exact absurd hq.symm ha
   .have h2:=eE hq;have:a=[]:=by simpa using h2
    exact absurd this ha
  .rw [zD h0] at hc;split at hc
   .cases hc
   .rename_i h1;simp only[Bool.not_eq_true,Bool.or_eq_false_iff] at h1;obtain⟨h2,h3,h4⟩:=h1;rcases hq with rfl|hq
    .refine⟨?_,h4⟩;cases hg:aN w q with
     | none=>rw[hg] at h2;simp at h2
     | some m=>rw[hg] at h3;exact⟨m,rfl,by simpa using h3⟩
    .have hdl:(aM q).length<=n:=by
      by_cases h:aM q=[]
      .rw[h];exact Nat.zero_le _
      .have:=sZ h;omega
     exact LP ha n _ hdl hc (jU ha hq)
theorem zCM{w:List It}{os:List (List UInt8)}(ha:a≠[])(hc:KS w os p=false)(hb:aJ a p=true):(∃m,aN w a=some m/\(m.k==2)=true)/\isB os a=false :=
 LP ha _ _ (zCZ p) hc (jU ha hb)
theorem kS{os:List (List UInt8)}{w:List It}{e:En}(h:e∈jL t os w):∃x∈w,e=⟨x.p,1,isB os x.p,x.n⟩:=by
 unfold jL at h;obtain⟨x,hx,h⟩:=List.mem_flatMap.1 h;refine⟨x,hx,?_⟩;unfold WK at h;split at h
 .rename_i h1;rw[List.mem_singleton.1 h,h1]
 .rename_i h1;split at h
  .rw[List.mem_singleton.1 h];simp only[Bool.not_eq_true] at h1;rw[h1]
  .simp at h
def ZY(l:List En):Prop:=l.Pairwise λx y=>bT x.p y.p=true
theorem MR(y:En)(l:List En)(e:En):zGT (y::l) e=if bT y.p e.p then y::zGT l e else e::y::l:=by
 unfold zGT zO1;rw[List.takeWhile_cons];split<;>simp
theorem YG(e:En):zGT [] e=[e]:=rfl
theorem HO{e x:En}:x∈zGT l e↔x∈l∨x=e:=by
 induction l with
 | nil=>simp[YG]
 | cons y l ih =>
  rw[MR];split
  .rw[List.mem_cons,ih,List.mem_cons,or_assoc]
  .simp only[List.mem_cons];constructor
   .rintro (h|h|h)
    .exact .inr h
    .exact .inl (.inl h)
    .exact .inl (.inr h)
   .rintro ((h|h)|h)
    .exact .inr (.inl h)
    .exact .inr (.inr h)
    .exact .inl h
theorem zIh{e:En}(h:ZY l)(hn:∀x∈l,x.p≠e.p):ZY (zGT l e):=by
 induction l with
 | nil=>rw[YG];exact List.pairwise_singleton _ _
 | cons y l ih =>
  obtain⟨h1,h2⟩:=List.pairwise_cons.1 h;rw[MR];split
  .rename_i hb;refine List.pairwise_cons.2 ⟨λx hx=>?_,ih h2 λx hx=>hn x (List.mem_cons_of_mem _ hx)⟩;rcases HO.1 hx with hx|rfl
   .exact h1 x hx
   .exact hb
  .rename_i hb;have hlt:bT e.p y.p=true:=by
    cases hc:bT e.p y.p
    .exact absurd (eL (by simpa using hb) hc) (hn y List.mem_cons_self)
    .rfl
   refine List.pairwise_cons.2 ⟨λx hx=>?_,h⟩;rcases List.mem_cons.1 hx with rfl|hx
   .exact hlt
   .exact cH hlt (h1 x hx)
theorem PS{os:List (List UInt8)}{w:List It}(h:Srt w):ZY (jL t os w):=by
 induction w with
 | nil=>exact List.Pairwise.nil
 | cons x w ih =>
  obtain⟨h1,h2⟩:=List.pairwise_cons.1 h;have e:jL t os (x::w)=WK t os x++jL t os w:=by unfold jL;rw[List.flatMap_cons]
  rw [e];have hl:∀y∈WK t os x,y.p=x.p:=λy hy=>by
   have:y∈jL t os [x]:=by unfold jL;simpa using hy
   obtain⟨z,hz,e⟩:=kS this;rw[List.mem_singleton.1 hz] at e;rw[e]
  refine List.pairwise_append.2 ⟨?_,ih h2,λy hy z hz=>?_⟩
  .unfold WK;split
   .exact List.pairwise_singleton _ _
   .split
    .exact List.pairwise_singleton _ _
    .exact List.Pairwise.nil
  .obtain⟨v,hv,e⟩:=kS hz;rw[hl y hy,e];exact h1 v hv
theorem HV{w:List It}{os:List (List UInt8)}:∀{r:List It} {out:List En},Srt r->ZY out->(∀e∈out,∀y∈r,(aN w y.p).isSome=false->e.p≠y.p) ->
  ZY (r.foldl (NF w os) out)/\∀e,e∈r.foldl (NF w os) out↔e∈out∨∃y∈r,e=mA y.p/\(aN w y.p).isSome=false/\KS w os y.p=false
 | [],out,_,h,_=>⟨h,λe=>by simp⟩
 | y::r,out,hr,h,hn=>by
  obtain⟨h1,h2⟩:=List.pairwise_cons.1 hr;rw[List.foldl_cons];unfold NF;split
  .rename_i hc;obtain⟨h3,h4⟩:=HV (w:=w) (os:=os) h2 h λe he z hz=>hn e he z (List.mem_cons_of_mem _ hz);refine⟨h3,λe=>(h4 e).trans ?_⟩;constructor
   .rintro (h|⟨z,hz,h⟩)
    .exact .inl h
    .exact .inr ⟨z,List.mem_cons_of_mem _ hz,h⟩
   .rintro (h|⟨z,hz,h,h5,h6⟩)
    .exact .inl h
    .rcases List.mem_cons.1 hz with rfl|hz
     .rw[h5,h6] at hc;cases hc
     .exact .inr ⟨z,hz,h,h5,h6⟩
  .rename_i hc;simp only[Bool.not_eq_true,Bool.or_eq_false_iff] at hc;have hs:=zIh (e:=mA y.p) h λx hx=>hn x hx y List.mem_cons_self hc.1;obtain⟨h3,h4⟩:=HV (w:=w) (os:=os) (out:=zGT out (mA y.p)) h2 hs λe he z hz hg=>by
    rcases HO.1 he with he|rfl
    .exact hn e he z (List.mem_cons_of_mem _ hz) hg
    .intro e2;have:=h1 z hz;rw[show (mA y.p).p=y.p from rfl] at e2
     rw[e2,bX] at this;cases this
   refine⟨h3,λe=>(h4 e).trans ?_⟩;rw[HO];constructor
   .rintro ((h|h)|⟨z,hz,h⟩)
    .exact .inl h
    .exact .inr ⟨y,List.mem_cons_self,h,hc⟩
    .exact .inr ⟨z,List.mem_cons_of_mem _ hz,h⟩
   .rintro (h|⟨z,hz,h⟩)
    .exact .inl (.inl h)
    .rcases List.mem_cons.1 hz with rfl|hz
     .exact .inl (.inr h.1)
     .exact .inr ⟨z,hz,h⟩
theorem NG(w:List It)(os:List (List UInt8)):∀(r:List It) (out:List En),(r.foldl (NF w os) out).length<=out.length+r.length
 | [],out=>Nat.le_refl _
 | y::r,out=>by
  have h1:=zEe w os out y;have h2:=NG w os r (NF w os out y);rw[List.foldl_cons,List.length_cons];omega
theorem VC{w:List It}(h:(aN w p).isSome=false):∀x∈w,Srt w->x.p≠p:=λx hx hs e=>by
 rw[<- e,dH hs hx] at h;cases h
theorem nS{w:List It}(ht:OkT t)(hw:OkT w):ZY (eG t w)/\∀e,e∈eG t w↔e∈jL t (kO t w) w∨∃y∈t,e=mA y.p/\(aN w y.p).isSome=false/\KS w (kO t w) y.p=false :=
 HV ht.srt (PS hw.srt) λe he y _ hg=>by
  obtain⟨x,hx,rfl⟩:=kS he;exact VC hg x hx hw.srt
theorem JS{w:List It}(hw:OkT w){x:It}(hx:x∈w)(h:isB (kO t w) x.p=true):zFc t w x=true:=by
 unfold isB kO at h;rw[List.any_eq_true] at h;obtain⟨q,hq,e⟩:=h;obtain⟨z,hz,rfl⟩:=List.mem_map.1 hq;obtain⟨hz,hb⟩:=List.mem_filter.1 hz;have e:=eq_of_beq e;have h1:=dH hw.srt hz;have h2:=dH hw.srt hx;rw[e,h2] at h1;have hn:x.n=z.n:=Option.some.inj h1;have:x=z:=by cases x;cases z;simp only at e hn;subst e;subst hn;rfl
 rw[this];exact hb
theorem VT{w:List It}(ht:OkT t)(hw:OkT w):OkE (eG t w):=by
 obtain ⟨hs,hm⟩:=nS ht hw;have hc:∀e∈eG t w,(∃x∈w,e=⟨x.p,1,isB (kO t w) x.p,x.n⟩)∨∃y∈t,e=mA y.p/\(aN w y.p).isSome=false/\KS w (kO t w) y.p=false:=λe he=>by
  rcases (hm e).1 he with h|h
  .exact .inl (kS h)
  .exact .inr h
 refine⟨λe he=>?_,hs,List.pairwise_iff_getElem.2 λi j hi hj _=>?_,λe he=>?_,?_⟩
 .rcases hc e he with⟨x,hx,rfl⟩|⟨y,hy,rfl,_⟩
  .obtain⟨h1,h2,h3,_⟩:=hw.its x hx;have h1:(x.p == [])=false:=by simpa using h1
   simp only[zKq,h1,h2,h3,Bool.not_false,Bool.true_and,show ((1:Int)==2)=false from rfl,show ((1:Int)==1)=true from rfl,Bool.false_eq_true,if_false]
   cases ho:isB (kO t w) x.p
   .rfl
   .have:=JS hw hx ho;unfold zFc at this;simp only[Bool.and_eq_true] at this;rw[this.1.1];rfl
  .obtain⟨h1,h2,_⟩:=ht.its y hy;have h1:(y.p == [])=false:=by simpa using h1
   simp only[zKq,mA,h1,h2];rfl
 .have hy:=hc _ (List.getElem_mem hi);have hx:=hc _ (List.getElem_mem hj);generalize (eG t w)[i]=y at hy;generalize (eG t w)[j]=x at hx;cases hsh:jN y
  .rfl
  .cases hb:aJ y.p x.p
   .rfl
   .exfalso;have hyp:y.p≠[]:=by
     rcases hy with⟨v,hv,rfl⟩|⟨v,hv,rfl,_⟩
     .exact hw.ne v hv
     .exact ht.ne v hv
    have hdir:∃m,aN w y.p=some m/\(m.k==2)=true:=by
     rcases hx with⟨v,hv,rfl⟩|⟨v,hv,rfl,_,h6⟩
     .exact tS hw.par hyp _ _ (Nat.le_refl _) (by rw[dH hw.srt hv];rfl) hb
     .exact(zCM hyp h6 hb).1
    obtain⟨m,h1,h2⟩:=hdir;rcases hy with⟨v,hv,rfl⟩|⟨v,hv,rfl,h5,_⟩
    .rw[show (En.mk v.p 1 (isB (kO t w) v.p) v.n).p=v.p from rfl,dH hw.srt hv] at h1
     have h1:=Option.some.inj h1;unfold jN at hsh;simp only[h1,bne,h2] at hsh;cases hsh
    .rw[show (mA v.p).p=v.p from rfl] at h1
     rw[h1] at h5;cases h5
 .rcases hc e he with⟨x,hx,rfl⟩|⟨y,hy,rfl,_⟩
  .exact hw.tlen x hx
  .show (0:Nat)<18446744073709551616;decide
 .have h1:=NG w (kO t w) t (jL t (kO t w) w);have h2:=tZ t (kO t w) w;have h3:=ht.len;have h4:=hw.len;unfold eG;omega
end
def GP:En:=⟨[],0,false,nd0⟩
def En.cv(x:En):List CV:=[.p (.s x.p),.p (.i .i64 x.k),.p (.b x.o),.p (.i .i64 x.n.k),.p (.i .i64 x.n.m),.p (.f x.n.t),.p (.sl 1 (bJ x.n.d))]
def jQ(l:List En)(p:List UInt8):Option En:=l.find? λx=>x.p==p
def shF(l:List En):Nat->List UInt8->Bool
 | 0,_=>false
 | n+1,q=>if q == [] then false else if ((jQ l q).isSome && (((jQ l q).getD GP).k==2 || (((jQ l q).getD GP).o || ((jQ l q).getD GP).n.k != 2))) then true else shF l n (aM q)
def zF6(l:List En)(p:List UInt8):Bool:=shF l p.length (aM p)
theorem zJu{l:List En}{n:Nat}{q:List UInt8}(h:q≠[]):shF l (n+1) q=if ((jQ l q).isSome && (((jQ l q).getD GP).k==2 || (((jQ l q).getD GP).o || ((jQ l q).getD GP).n.k != 2))) then true else shF l n (aM q):=by
 rw[shF,if_neg (by simpa using h)]
theorem zMo{l:List En}:∀n:Nat,shF l n []=false
 | 0=>rfl
 | n+1=>by rw[shF];simp
def zLu(l:List (List RI)):List (List PV):=l.map λx=>[.sl 6 (encI x)]
def zLw(l:List (List RU)):List (List PV):=l.map λx=>[.sl 8 (zNL x)]
def vH(l:List (List It)):List (List PV):=l.map λx=>[.sl 5 (aQ x)]
theorem zDB(l:List (List RI)):(zLu l).length=l.length:=by simp[zLu]
theorem zDY(l:List (List RU)):(zLw l).length=l.length:=by simp[zLw]
theorem MQ(l:List (List It)):(vH l).length=l.length:=by simp[vH]
theorem zDC(t:List (List RI)):(∀x∈zLu t,x.length=1)=True:=eq_true λx hx=>by
 obtain⟨y,_,rfl⟩:=List.mem_map.1 hx;rfl
theorem zDZ(t:List (List RU)):(∀x∈zLw t,x.length=1)=True:=eq_true λx hx=>by
 obtain⟨y,_,rfl⟩:=List.mem_map.1 hx;rfl
theorem zDX(t:List (List It)):(∀x∈vH t,x.length=1)=True:=eq_true λx hx=>by
 obtain⟨y,_,rfl⟩:=List.mem_map.1 hx;rfl
theorem zAD(t:List (List It))(l:List It):vH t++[[.sl 5 (aQ l)]]=vH (t++[l]):=by simp[vH]
theorem zDW:vH []=[]:=rfl
attribute [go_sem] zDB zDY MQ zDC zDZ zDX zAD zDW
section
variable {a p:List UInt8}{x e:En}{l:List En}{t w:List It}{os:List (List UInt8)}
theorem EO(t:List It)(x:En)(p:List UInt8):aN (oF t x) p=if ((p==x.p) || (oO t x && aJ x.p p)) then none else aN t p:=by
 have:=gL (λq=>!((q==x.p) || (oO t x && aJ x.p q))) p t;unfold oF goE;rw[this];cases ((p==x.p) || (oO t x && aJ x.p p))<;>rfl
theorem kQ(t:List It)(x:En)(p:List UInt8):aN (mB t x) p=if p==x.p then (if x.k==2 then none else some x.n) else if oO t x && aJ x.p p then none else aN t p:=by
 unfold mB;split
 .rw[EO];cases p==x.p<;>simp
 .rw[oU,EO];cases p==x.p<;>simp
theorem zCp(ha:a≠[])(h:aJ a p=true):bT a p=true:=by
 obtain⟨r,rfl⟩:=hU ha h;exact zCu a 47 r
theorem yT{b c:List UInt8}(ha:a≠[])(h:aJ a b=true)(k:aJ b c=true):aJ a c=true:=by
 obtain⟨r,rfl⟩:=hU ha h;obtain⟨s,rfl⟩:=hU (by simp) k;rw[List.append_assoc,List.cons_append];exact lN ha
theorem LA(ha:a≠[])(h:aJ a p=true):a.length<p.length:=by
 obtain⟨r,rfl⟩:=hU ha h;simp
theorem xN(ha:a≠[]):aJ a []=false:=by
 cases h:aJ a []
 .rfl
 .have:=LA ha h;simp at this
theorem mR(t:List It)(x:En)(l:List En):fU t (x::l)=fU (mB t x) l:=rfl
theorem FB: ∀{l:List En} {t:List It},(∀x∈l,(p==x.p)=false/\aJ x.p p=false)->aN (fU t l) p=aN t p
 | [],_,_=>rfl
 | x::l,t,h=>by
  obtain⟨h1,h2⟩:=h x List.mem_cons_self;rw[mR,FB λy hy=>h y (List.mem_cons_of_mem _ hy),kQ,h1,h2,Bool.and_false];rfl
theorem FC: ∀{l:List En} {t:List It},(∀x∈l,(p==x.p)=false)->aN t p=none->aN (fU t l) p=none
 | [],_,_,h=>h
 | x::l,t,h,h0=>by
  rw[mR];refine FC (λy hy=>h y (List.mem_cons_of_mem _ hy)) ?_;rw[kQ,h x List.mem_cons_self,h0];simp
theorem BC: ∀{l:List En} {t:List It},ZY l->(∀y∈l,y.p≠[])->x∈l->aN (fU t l) x.p=if x.k==2 then none else some x.n
 | [],_,_,_,h=>by cases h
 | y::l,t,hs,hn,hx=>by
  obtain⟨h1,h2⟩:=List.pairwise_cons.1 hs;rw[mR];rcases List.mem_cons.1 hx with rfl|hx
  .rw[FB λz hz=>⟨lO (h1 z hz),?_⟩,kQ,beq_self_eq_true,if_pos rfl];cases hb:aJ z.p x.p
   .rfl
   .have:=zCp (hn z (List.mem_cons_of_mem _ hz)) hb;rw[gB (h1 z hz)] at this;cases this
  .exact BC h2 (λz hz=>hn z (List.mem_cons_of_mem _ hz)) hx
theorem FE: ∀{l:List En} {t:List It},(∀x∈l,(p==x.p)=false)->e∈l->aJ e.p p=true->(e.o || jN e)=true->aN (fU t l) p=none
 | [],_,_,h,_,_=>by cases h
 | y::l,t,h,he,hb,hs=>by
  rw[mR];rcases List.mem_cons.1 he with rfl|he
  .refine FC (λx hx=>h x (List.mem_cons_of_mem _ hx)) ?_;have hc:oO t e=true:=by
    unfold oO;rw[<- Bool.or_assoc,hs,Bool.true_or]
   rw[kQ,h e List.mem_cons_self,hc,hb];rfl
  .exact FE (λx hx=>h x (List.mem_cons_of_mem _ hx)) he hb hs
theorem FD: ∀{l:List En} {t:List It},(∀x∈l,x.p≠[]/\(p==x.p)=false/\(aJ x.p p=true->(x.o || jN x)=false))->(∀q,(aN t p).isSome=true->aJ q p=true->q≠[]->aX t q=true)->aN (fU t l) p=aN t p
 | [],_,_,_=>rfl
 | x::l,t,h,hc=>by
  obtain ⟨h0,h1,h2⟩:=h x List.mem_cons_self;have hcov:aJ x.p p=true->(aN t p).isSome=true->oO t x=false:=λhb hs=>by
   have h3:=h2 hb;rw[Bool.or_eq_false_iff] at h3;unfold oO;rw[h3.1,h3.2,hc x.p hs hb h0];rfl
  have he:aN (mB t x) p=aN t p:=by
   rw[kQ,h1];cases hb:aJ x.p p
   .simp
   .cases hs:aN t p with
    | none=>simp
    | some n=>rw[hcov hb (by rw[hs];rfl)];simp
  rw[mR,FD (λy hy=>h y (List.mem_cons_of_mem _ hy)) ?_,he];intro q hs hb hq;rw[he] at hs;obtain⟨m,hm,hk⟩:=cW hq (hc q hs hb hq);cases hqx:q==x.p
  .refine fQ (m:=m) ?_ hk;rw[kQ,hqx];cases hbx:aJ x.p q
   .simpa using hm
   .rw[hcov (yT h0 hbx hb) hs];simpa using hm
  .have e:=eq_of_beq hqx;rw[e] at hb;have h3:=h2 hb;rw[Bool.or_eq_false_iff] at h3;have h4:=h3.2;unfold jN at h4;rw[Bool.or_eq_false_iff] at h4;refine fQ (m:=x.n) ?_ (by simpa using h4.2);rw[kQ,hqx,if_pos rfl,h4.1];rfl
theorem KN: ∀{l:List En},ZY l->∀x∈l,∀y∈l,x.p=y.p->x=y
 | [],_,x,hx,_,_,_=>by cases hx
 | z::l,h,x,hx,y,hy,e=>by
  obtain⟨h1,h2⟩:=List.pairwise_cons.1 h;rcases List.mem_cons.1 hx with e1|g1<;>rcases List.mem_cons.1 hy with e2|g2
  .rw[e1,e2]
  .have:=lO (h1 y g2);rw[<- e1,e] at this;simp at this
  .have:=lO (h1 x g1);rw[<- e2,e] at this;simp at this
  .exact KN h2 x g1 y g2 e
theorem zD0(h:ZY l)(hx:x∈l):jQ l x.p=some x:=by
 cases hf:jQ l x.p with
 | none=>exact absurd (beq_self_eq_true x.p) (by simpa using List.find?_eq_none.1 hf x hx)
 | some y =>
  have h1:=eq_of_beq (List.find?_some (p:=λz:En=>z.p==x.p) hf);rw[KN h y (List.mem_of_find?_eq_some hf) x hx h1]
theorem vI(h:jQ l p=some x):x∈l/\x.p=p:=⟨List.mem_of_find?_eq_some h,eq_of_beq (List.find?_some (p:=λz:En=>z.p==p) h)⟩
theorem MS(h:jQ l p=none):∀x∈l,(p==x.p)=false:=λx hx=>by
 have h1:=List.find?_eq_none.1 h x hx;cases hp:p==x.p
 .rfl
 .rw[eq_of_beq hp] at h1;simp at h1
theorem zMn(hs:ZY l)(hn:∀x∈l,x.p≠[]):∀(n:Nat) (q:List UInt8),q.length<=n->(shF l n q=true↔∃e∈l,(e.p=q∨aJ e.p q=true)/\(e.o || jN e)=true):=by
 have h00:¬ ∃e∈l,(e.p=[]∨aJ e.p []=true)/\(e.o || jN e)=true:=by
  rintro⟨e,he,h|h,_⟩
  .exact hn e he h
  .rw[xN (hn e he)] at h;cases h
 intro n
 induction n with
 | zero =>
  intro q hl;have h1:q=[]:=by simpa using hl
  subst h1;exact⟨λh=>(by simp[shF] at h),λh=>absurd h h00⟩
 | succ n ih =>
  intro q hl;by_cases h0:q=[]
  .subst h0;exact⟨λh=>(by rw[zMo] at h;cases h),λh=>absurd h h00⟩
  .have hdl:(aM q).length<=n:=by
    by_cases h:aM q=[]
    .rw[h];exact Nat.zero_le _
    .have:=sZ h;omega
   have hsh:∀e:En,(e.k==2 || (e.o || e.n.k != 2))=(e.o || jN e):=λe=>by
    unfold jN;cases e.k==2<;>cases e.o<;>rfl
   rw[zJu h0];split
   .rename_i hc;refine⟨λ_=>?_,λ_=>rfl⟩;cases he:jQ l q with
    | none=>rw[he] at hc;cases hc
    | some e =>
     rw[he,Option.getD_some,hsh] at hc;obtain⟨h1,h2⟩:=vI he;exact⟨e,h1,.inl h2,by simpa using hc⟩
   .rename_i hc;rw[ih _ hdl];constructor
    .rintro⟨e,he,h1,h2⟩;refine⟨e,he,.inr ?_,h2⟩;refine eF (hn e he) (λhd=>?_) (h1.imp Eq.symm id);rw[hd] at h1;exact h00 ⟨e,he,h1,h2⟩
    .rintro⟨e,he,h1,h2⟩;rcases h1 with h1|h1
     .rw[<- h1,zD0 hs he,Option.getD_some,hsh,h2] at hc;exact absurd rfl hc
     .exact⟨e,he,(jU (hn e he) h1).imp Eq.symm id,h2⟩
theorem uM(hs:ZY l)(hn:∀x∈l,x.p≠[])(p:List UInt8):zF6 l p=true↔∃e∈l,aJ e.p p=true/\(e.o || jN e)=true:=by
 unfold zF6;rw[zMn hs hn _ _ (zCZ p)];constructor
 .rintro⟨e,he,h1,h2⟩;refine⟨e,he,eF (hn e he) (λhd=>?_) (h1.imp Eq.symm id),h2⟩;rw[hd] at h1;rcases h1 with h1|h1
  .exact hn e he h1
  .rw[xN (hn e he)] at h1;cases h1
 .rintro⟨e,he,h1,h2⟩;exact⟨e,he,(jU (hn e he) h1).imp Eq.symm id,h2⟩
theorem zFm(hp:Par t)(hs:ZY l)(hn:∀x∈l,x.p≠[])(p:List UInt8):
  aN (fU t l) p=match jQ l p with
   | some e=>if e.k==2 then none else some e.n
   | none=>if zF6 l p then none else aN t p:=by
 cases he:jQ l p with
 | some e =>
  obtain⟨h1,rfl⟩:=vI he;exact BC hs hn h1
 | none =>
  have hno:=MS he;cases hsh:zF6 l p
  .refine FD (λx hx=>⟨hn x hx,hno x hx,λhb=>?_⟩) λq h1 h2 h3=>?_
   .cases h:(x.o || jN x)
    .rfl
    .rw[(uM hs hn p).2 ⟨x,hx,hb,h⟩] at hsh;cases hsh
   .obtain⟨m,h4,h5⟩:=tS hp h3 _ _ (Nat.le_refl _) h1 h2;exact fQ h4 (by simpa using h5)
  .obtain⟨e,h1,h2,h3⟩:=(uM hs hn p).1 hsh;exact FE hno h1 h2 h3
theorem OkE.ne(h:OkE l):∀x∈l,x.p≠[]:=λx hx e=>by
 have:=h.may x hx;unfold zKq at this;rw[e] at this;cases this
theorem zBD{x y:Nd}(hx:aP x=true)(hxt:x.t<18446744073709551616)(hy:aP y=true)(hyt:y.t<18446744073709551616)(h:lC x y=true):x=y:=by
 have e1:=(gO hx hxt).2;have e2:=(gO hy hyt).2;simp only[lC,Bool.and_eq_true,beq_iff_eq] at h;obtain⟨⟨⟨h1,h2⟩,h3⟩,h4⟩:=h;rw[e1,e2] at h4;cases x;cases y;simp only at h1 h2 h3 h4;subst h1;subst h2;subst h3;subst h4;rfl
theorem LO: ∀(n:Nat) (q:List UInt8),zGS w os n q=true->∃a,a≠[]/\(q=a∨aJ a q=true)/\(!(aN w a).isSome || (((aN w a).getD nd0).k != 2 || isB os a))=true
 | 0,_,h=>by cases h
 | n+1,q,h=>by
  by_cases h0:q=[]
  .rw[h0,XQ] at h;cases h
  .rw [zD h0] at h;split at h
   .rename_i hc;exact⟨q,h0,.inl rfl,hc⟩
   .obtain⟨a,h1,h2,h3⟩:=LO n _ h;refine⟨a,h1,.inr (eF h1 (λhd=>?_) h2),h3⟩;rw[hd] at h2;rcases h2 with h2|h2
    .exact h1 h2.symm
    .rw[xN h1] at h2;cases h2
theorem zCL(h:KS w os p=true):∃a,a≠[]/\aJ a p=true/\(!(aN w a).isSome || (((aN w a).getD nd0).k != 2 || isB os a))=true:=by
 obtain⟨a,h1,h2,h3⟩:=LO _ _ h;refine⟨a,h1,eF h1 (λhd=>?_) h2,h3⟩;rw[hd] at h2;rcases h2 with h2|h2
 .exact h1 h2.symm
 .rw[xN h1] at h2;cases h2
theorem KB{x:It}(hx:x∈w)(he:e∈WK t os x):e∈jL t os w:=List.mem_flatMap.2 ⟨x,hx,he⟩
theorem XR(ht:OkT t)(hw:OkT w):∀(n:Nat) (p:List UInt8),p.length<=n->(aN t p).isSome=true->KS w (kO t w) p=true->∃e∈eG t w,aJ e.p p=true/\(e.o || jN e)=true
 | 0,p,hl,_,hc=>by
  have h1:p=[]:=by simpa using hl
  subst h1;cases hc
 | n+1,p,hl,hs,hc=>by
  obtain⟨_,hm⟩:=nS ht hw;obtain⟨a,h1,h2,h3⟩:=zCL hc;obtain⟨m,h4,h5⟩:=tS ht.par h1 _ _ (Nat.le_refl _) hs h2;cases hg:aN w a with
  | none =>
   cases hca:KS w (kO t w) a
   .obtain⟨y,hy,rfl,_⟩:=cL h4;exact⟨mA y.p,(hm _).2 (.inr ⟨y,hy,rfl,by rw[hg];rfl,hca⟩),h2,rfl⟩
   .have:=LA h1 h2;obtain⟨e,h6,h7,h8⟩:=XR ht hw n a (by omega) (by rw[h4];rfl) hca;exact⟨e,h6,yT ((VT ht hw).ne e h6) h7 h2,h8⟩
  | some k =>
   obtain⟨x,hx,rfl,rfl⟩:=cL hg;rw[hg,Option.getD_some,Option.isSome_some,Bool.not_true,Bool.false_or] at h3;cases hi:isB (kO t w) x.p
   .rw [hi,Bool.or_false] at h3;refine⟨⟨x.p,1,false,x.n⟩,(hm _).2 (.inl (KB hx ?_)),h2,?_⟩
    .unfold WK;rw[hi,if_neg (by decide),h4,Option.getD_some];have:lC m x.n=false:=by
      unfold lC;have:(m.k==x.n.k)=false:=by
       cases hq:m.k==x.n.k
       .rfl
       .rw[<- eq_of_beq hq,bne,h5] at h3;cases h3
      rw[this];rfl
     rw[this];exact List.mem_singleton.2 rfl
    .unfold jN;rw[h3];rfl
   .refine⟨⟨x.p,1,true,x.n⟩,(hm _).2 (.inl (KB hx ?_)),h2,rfl⟩;unfold WK;rw[hi,if_pos rfl];exact List.mem_singleton.2 rfl
theorem zIQ(ht:OkT t)(hw:OkT w)(p:List UInt8):aN (fU t (eG t w)) p=aN w p:=by
 obtain⟨hs,hm⟩:=nS ht hw;have hok:=VT ht hw;have hn:=hok.ne;rw[zFm ht.par hs hn];cases he:jQ (eG t w) p with
 | some e =>
  obtain⟨h1,rfl⟩:=vI he;rcases (hm e).1 h1 with h|⟨y,hy,rfl,h3,_⟩
  .obtain⟨x,hx,rfl⟩:=kS h;exact(dH hw.srt hx).symm
  .show none=aN w y.p;cases hg:aN w y.p with
   | none=>rfl
   | some n=>rw[hg] at h3;cases h3
 | none =>
  have hno:=MS he;have hput:∀x∈w,x.p=p->isB (kO t w) p=false/\∃m,aN t p=some m/\lC m x.n=true:=λx hx hp=>by
   subst hp;cases hi:isB (kO t w) x.p
   .refine ⟨rfl,?_⟩;cases hc:(!(aN t x.p).isSome || !lC ((aN t x.p).getD nd0) x.n)
    .cases hg:aN t x.p with
     | none=>rw[hg] at hc;cases hc
     | some m =>
      rw[hg,Option.getD_some] at hc;exact⟨m,rfl,by simpa using hc⟩
    .have:=hno ⟨x.p,1,false,x.n⟩ ((hm _).2 (.inl (KB hx (by
      unfold WK;rw[hi,if_neg (by decide),hc];exact List.mem_singleton.2 rfl))))
     simp at this
   .have:=hno ⟨x.p,1,true,x.n⟩ ((hm _).2 (.inl (KB hx (by
     unfold WK;rw[hi,if_pos rfl];exact List.mem_singleton.2 rfl))))
    simp at this
  cases hsh:zF6 (eG t w) p
  .show aN t p=aN w p;cases hg:aN w p with
   | some n =>
    obtain⟨x,hx,rfl,rfl⟩:=cL hg;obtain⟨_,m,h1,h2⟩:=hput x hx rfl;obtain⟨y,hy,_,rfl⟩:=cL h1;rw[h1,zBD (ht.its y hy).2.2.1 (ht.its y hy).2.2.2 (hw.its x hx).2.2.1 (hw.its x hx).2.2.2 h2]
   | none =>
    cases hgt:aN t p with
    | none=>rfl
    | some n =>
     exfalso;obtain⟨y,hy,rfl,_⟩:=cL hgt;cases hc:KS w (kO t w) y.p
     .have:=hno (mA y.p) ((hm _).2 (.inr ⟨y,hy,rfl,by rw[hg];rfl,hc⟩))
      rw[show (mA y.p).p=y.p from rfl] at this
      simp at this
     .obtain⟨e,h1,h2,h3⟩:=XR ht hw _ _ (Nat.le_refl _) (by rw[hgt];rfl) hc;rw[(uM hs hn _).2 ⟨e,h1,h2,h3⟩] at hsh;cases hsh
  .show none=aN w p;cases hg:aN w p with
   | none=>rfl
   | some n =>
    exfalso;obtain⟨e,h1,h2,h3⟩:=(uM hs hn p).1 hsh;obtain⟨m,h4,h5⟩:=tS hw.par (hn e h1) _ _ (Nat.le_refl _) (by rw[hg];rfl) h2;rcases (hm e).1 h1 with h|⟨y,hy,rfl,h6,_⟩
    .obtain ⟨x,hx,rfl⟩:=kS h;rw[show (En.mk x.p 1 (isB (kO t w) x.p) x.n).p=x.p from rfl,dH hw.srt hx] at h4
     have h4:=Option.some.inj h4;have hsf:jN ⟨x.p,1,isB (kO t w) x.p,x.n⟩=false:=by
      unfold jN;simp only[h4,bne,h5];rfl
     rw[hsf,Bool.or_false] at h3;have hb:=JS hw hx h3;unfold zFc at hb;simp only[Bool.and_eq_true,Bool.not_eq_true'] at hb;have hst:=hb.2;obtain⟨v,hv,rfl,rfl⟩:=cL hg;obtain⟨_,k,h7,_⟩:=hput v hv rfl;obtain⟨z,hz,hzp,_⟩:=cL h7;have:RL t w x.p=true:=List.any_eq_true.2 ⟨z,hz,by rw[hzp,hg];exact h2⟩
     rw[this] at hst;cases hst
    .rw[show (mA y.p).p=y.p from rfl] at h4
     rw[h4] at h6;cases h6
theorem zMz{s:List It}(hs:Srt s)(ht:Srt t)(h:∀p,aN s p=aN t p):s=t:=by
 have key:∀{a b:List It},Srt a->(∀p,aN a p=aN b p)->∀x,x∈a->x∈b:=λha he x hx=>by
  have h1:=dH ha hx;rw[he] at h1;obtain⟨y,hy,h2,h3⟩:=cL h1;have:y=x:=by cases y;cases x;simp only at h2 h3;subst h2;subst h3;rfl
  rw[<- this];exact hy
 exact GF hs ht λx=>⟨key hs h x,key ht (λp=>(h p).symm) x⟩
theorem zFl(ht:OkT t)(hw:OkT w):rY t (eG t w)=(w,true):=by
 have e:fU t (eG t w)=w:=zMz (BE ht.srt) hw.srt (zIQ ht hw);unfold rY;rw[e,zFU hw,if_pos rfl]
theorem EK: ∀{ls:List (List En)} {t:List It},oT t (ls++[l])=if (oT t ls).2 then (if (rY (oT t ls).1 l).2 then ((rY (oT t ls).1 l).1,true) else ([],false)) else ([],false)
 | [],_=>rfl
 | x::r,t=>by
  rw[List.cons_append,oT,oT];cases (rY t x).2
  .rfl
  .exact EK
end
end Go.Dm
end
