/- Part 15 of the proof of roomForks_card, set without needless blanks. No condition. -/
import Derived.Test.YtbpblnmhlhpebaaGreatDoorC13
set_option linter.unusedSimpArgs false
set_option linter.unusedVariables false
namespace Go.Dm
open Go
section
theorem qZ {t:List It} {b:List UInt8} (h:Par t) (hb:b≠[]):∀ (n:Nat) (q:List UInt8),q.length≤n→(aR t q).isSome=true→aO b q=true→∃ m,aR t b=some m∧(m.k == 2)=true
 | 0,q,hl,_,hq=>by
  have h1:q=[]:=by simpa using hl
  subst h1
  have h2:=dG hq
  have:b=[]:=by simpa using h2
  exact absurd this hb
 | n+1,q,hl,hs,hq=>by
  obtain ⟨m,hm⟩:=Option.isSome_iff_exists.1 hs
  obtain ⟨x,hx,rfl,_⟩:=bZ hm
  have hdx:=h x hx
  rcases gY hb hq with h1|h1
  ·rw [h1] at hdx
   obtain ⟨m,h2,h3⟩:=cO hb hdx
   exact ⟨m,h2,by first|exact h3|simpa using h3⟩
  ·have h0:aS x.p≠[]:=by
    intro h0
    rw [h0] at h1
    have:=dG h1
    have:b=[]:=by simpa using this
    exact absurd this hb
   obtain ⟨m,h2,_⟩:=cO h0 hdx
   have hlt:=sD h0
   exact qZ h hb n _ (by omega) (by rw [h2];rfl) h1
theorem HT {w:List It} {os:List (List UInt8)} {a:List UInt8} (ha:a≠[]):∀ (n:Nat) (q:List UInt8),q.length≤n→zEo w os n q=false→(q=a∨aO a q=true)→(∃ m,aR w a=some m∧(m.k == 2)=true)∧isB os a=false
 | 0,q,hl,_,hq=>by
  have h1:q=[]:=by simpa using hl
  subst h1
  rcases hq with hq|hq
  ·exact absurd hq.symm ha
  ·have h2:=dG hq
   have:a=[]:=by simpa using h2
   exact absurd this ha
 | n+1,q,hl,hc,hq=>by
  by_cases h0:q=[]
  ·subst h0
   rcases hq with hq|hq
   ·exact absurd hq.symm ha
   ·have h2:=dG hq
    have:a=[]:=by simpa using h2
    exact absurd this ha
  ·rw [zQ h0] at hc
   split at hc
   ·cases hc
   ·rename_i h1
    simp only [Bool.not_eq_true,Bool.or_eq_false_iff] at h1
    obtain ⟨h2,h3,h4⟩:=h1
    rcases hq with rfl|hq
    ·refine ⟨?_,h4⟩
     cases hg:aR w q with
     | none=>rw [hg] at h2;simp at h2
     | some m=>rw [hg] at h3;exact ⟨m,rfl,by simpa using h3⟩
    ·have hdl:(aS q).length≤n:=by
      by_cases h:aS q=[]
      ·rw [h];exact Nat.zero_le _
      ·have:=sD h;omega
     exact HT ha n _ hdl hc (gY ha hq)
theorem zCQ {w:List It} {os:List (List UInt8)} {a p:List UInt8} (ha:a≠[]) (hc:HC w os p=false) (hb:aO a p=true):(∃ m,aR w a=some m∧(m.k == 2)=true)∧isB os a=false :=
 HT ha _ _ (zAS p) hc (gY ha hb)
theorem iJ {t:List It} {os:List (List UInt8)} {w:List It} {e:En} (h:e∈gN t os w):∃ x∈w,e=⟨x.p,1,isB os x.p,x.n⟩:=by
 unfold gN at h
 obtain ⟨x,hx,h⟩:=List.mem_flatMap.1 h
 refine ⟨x,hx,?_⟩
 unfold QX at h
 split at h
 ·rename_i h1;rw [List.mem_singleton.1 h,h1]
 ·rename_i h1
  split at h
  ·rw [List.mem_singleton.1 h];simp only [Bool.not_eq_true] at h1;rw [h1]
  ·simp at h
def ZP (l:List En):Prop:=l.Pairwise fun x y=>bO x.p y.p=true
theorem NC (y:En) (l:List En) (e:En):zEq (y::l) e=if bO y.p e.p then y::zEq l e else e::y::l:=by
 unfold zEq zLy
 rw [List.takeWhile_cons]
 split <;> simp
theorem VY (e:En):zEq [] e=[e]:=rfl
theorem FD {l:List En} {e x:En}:x∈zEq l e↔x∈l∨x=e:=by
 induction l with
 | nil=>simp [VY]
 | cons y l ih =>
  rw [NC]
  split
  ·rw [List.mem_cons,ih,List.mem_cons,or_assoc]
  ·simp only [List.mem_cons]
   constructor
   ·rintro (h|h|h)
    ·exact .inr h
    ·exact .inl (.inl h)
    ·exact .inl (.inr h)
   ·rintro ((h|h)|h)
    ·exact .inr (.inl h)
    ·exact .inr (.inr h)
    ·exact .inl h
theorem zFG {l:List En} {e:En} (h:ZP l) (hn:∀ x∈l,x.p≠e.p):ZP (zEq l e):=by
 induction l with
 | nil=>rw [VY];exact List.pairwise_singleton _ _
 | cons y l ih =>
  obtain ⟨h1,h2⟩:=List.pairwise_cons.1 h
  rw [NC]
  split
  ·rename_i hb
   refine List.pairwise_cons.2 ⟨fun x hx=>?_,ih h2 fun x hx=>hn x (List.mem_cons_of_mem _ hx)⟩
   rcases FD.1 hx with hx|rfl
   ·exact h1 x hx
   ·exact hb
  ·rename_i hb
   have hlt:bO e.p y.p=true:=by
    cases hc:bO e.p y.p
    ·exact absurd (dS (by simpa using hb) hc) (hn y List.mem_cons_self)
    ·rfl
   refine List.pairwise_cons.2 ⟨fun x hx=>?_,h⟩
   rcases List.mem_cons.1 hx with rfl|hx
   ·exact hlt
   ·exact cD hlt (h1 x hx)
theorem HK {t:List It} {os:List (List UInt8)} {w:List It} (h:Srt w):ZP (gN t os w):=by
 induction w with
 | nil=>exact List.Pairwise.nil
 | cons x w ih =>
  obtain ⟨h1,h2⟩:=List.pairwise_cons.1 h
  have e:gN t os (x::w)=QX t os x++gN t os w:=by unfold gN;rw [List.flatMap_cons]
  rw [e]
  have hl:∀ y∈QX t os x,y.p=x.p:=fun y hy=>by
   have:y∈gN t os [x]:=by unfold gN;simpa using hy
   obtain ⟨z,hz,e⟩:=iJ this
   rw [List.mem_singleton.1 hz] at e
   rw [e]
  refine List.pairwise_append.2 ⟨?_,ih h2,fun y hy z hz=>?_⟩
  ·unfold QX
   split
   ·exact List.pairwise_singleton _ _
   ·split
    ·exact List.pairwise_singleton _ _
    ·exact List.Pairwise.nil
  ·obtain ⟨v,hv,e⟩:=iJ hz
   rw [hl y hy,e]
   exact h1 v hv
theorem EB {w:List It} {os:List (List UInt8)}:∀ {r:List It} {out:List En},Srt r→ZP out→(∀ e∈out,∀ y∈r,(aR w y.p).isSome=false→e.p≠y.p) →
  ZP (r.foldl (HX w os) out)∧∀ e,e∈r.foldl (HX w os) out↔e∈out∨∃ y∈r,e=jX y.p∧(aR w y.p).isSome=false∧HC w os y.p=false
 | [],out,_,h,_=>⟨h,fun e=>by simp⟩
 | y::r,out,hr,h,hn=>by
  obtain ⟨h1,h2⟩:=List.pairwise_cons.1 hr
  rw [List.foldl_cons]
  unfold HX
  split
  ·rename_i hc
   obtain ⟨h3,h4⟩:=EB (w:=w) (os:=os) h2 h fun e he z hz=>hn e he z (List.mem_cons_of_mem _ hz)
   refine ⟨h3,fun e=>(h4 e).trans ?_⟩
   constructor
   ·rintro (h|⟨z,hz,h⟩)
    ·exact .inl h
    ·exact .inr ⟨z,List.mem_cons_of_mem _ hz,h⟩
   ·rintro (h|⟨z,hz,h,h5,h6⟩)
    ·exact .inl h
    ·rcases List.mem_cons.1 hz with rfl|hz
     ·rw [h5,h6] at hc;cases hc
     ·exact .inr ⟨z,hz,h,h5,h6⟩
  ·rename_i hc
   simp only [Bool.not_eq_true,Bool.or_eq_false_iff] at hc
   have hs:=zFG (e:=jX y.p) h fun x hx=>hn x hx y List.mem_cons_self hc.1
   obtain ⟨h3,h4⟩:=EB (w:=w) (os:=os) (out:=zEq out (jX y.p)) h2 hs fun e he z hz hg=>by
    rcases FD.1 he with he|rfl
    ·exact hn e he z (List.mem_cons_of_mem _ hz) hg
    ·intro e2
     have:=h1 z hz
     rw [show (jX y.p).p=y.p from rfl] at e2
     rw [e2,cM] at this
     cases this
   refine ⟨h3,fun e=>(h4 e).trans ?_⟩
   rw [FD]
   constructor
   ·rintro ((h|h)|⟨z,hz,h⟩)
    ·exact .inl h
    ·exact .inr ⟨y,List.mem_cons_self,h,hc⟩
    ·exact .inr ⟨z,List.mem_cons_of_mem _ hz,h⟩
   ·rintro (h|⟨z,hz,h⟩)
    ·exact .inl (.inl h)
    ·rcases List.mem_cons.1 hz with rfl|hz
     ·exact .inl (.inr h.1)
     ·exact .inr ⟨z,hz,h⟩
theorem JO (w:List It) (os:List (List UInt8)):∀ (r:List It) (out:List En),(r.foldl (HX w os) out).length≤out.length+r.length
 | [],out=>Nat.le_refl _
 | y::r,out=>by
  have h1:=zBL w os out y
  have h2:=JO w os r (HX w os out y)
  rw [List.foldl_cons,List.length_cons]
  omega
theorem PF {w:List It} {p:List UInt8} (h:(aR w p).isSome=false):∀ x∈w,Srt w→x.p≠p:=fun x hx hs e=>by
 rw [← e,cL hs hx] at h
 cases h
theorem lW {t w:List It} (ht:OkT t) (hw:OkT w):ZP (fM t w)∧∀ e,e∈fM t w↔e∈gN t (iM t w) w∨∃ y∈t,e=jX y.p∧(aR w y.p).isSome=false∧HC w (iM t w) y.p=false :=
 EB ht.srt (HK hw.srt) fun e he y _ hg=>by
  obtain ⟨x,hx,rfl⟩:=iJ he
  exact PF hg x hx hw.srt
theorem GN {t w:List It} (hw:OkT w) {x:It} (hx:x∈w) (h:isB (iM t w) x.p=true):zBC t w x=true:=by
 unfold isB iM at h
 rw [List.any_eq_true] at h
 obtain ⟨q,hq,e⟩:=h
 obtain ⟨z,hz,rfl⟩:=List.mem_map.1 hq
 obtain ⟨hz,hb⟩:=List.mem_filter.1 hz
 have e:=eq_of_beq e
 have h1:=cL hw.srt hz
 have h2:=cL hw.srt hx
 rw [e,h2] at h1
 have hn:x.n=z.n:=Option.some.inj h1
 have:x=z:=by cases x;cases z;simp only at e hn;subst e;subst hn;rfl
 rw [this];exact hb
theorem PK {t w:List It} (ht:OkT t) (hw:OkT w):OkE (fM t w):=by
 obtain ⟨hs,hm⟩:=lW ht hw
 have hc:∀ e∈fM t w,(∃ x∈w,e=⟨x.p,1,isB (iM t w) x.p,x.n⟩)∨∃ y∈t,e=jX y.p∧(aR w y.p).isSome=false∧HC w (iM t w) y.p=false:=fun e he=>by
  rcases (hm e).1 he with h|h
  ·exact .inl (iJ h)
  ·exact .inr h
 refine ⟨fun e he=>?_,hs,List.pairwise_iff_getElem.2 fun i j hi hj _=>?_,fun e he=>?_,?_⟩
 ·rcases hc e he with ⟨x,hx,rfl⟩|⟨y,hy,rfl,_⟩
  ·obtain ⟨h1,h2,h3,_⟩:=hw.its x hx
   have h1:(x.p == [])=false:=by simpa using h1
   simp only [zHu,h1,h2,h3,Bool.not_false,Bool.true_and,show ((1:Int) == 2)=false from rfl,show ((1:Int) == 1)=true from rfl,Bool.false_eq_true,if_false]
   cases ho:isB (iM t w) x.p
   ·rfl
   ·have:=GN hw hx ho
    unfold zBC at this
    simp only [Bool.and_eq_true] at this
    rw [this.1.1];rfl
  ·obtain ⟨h1,h2,_⟩:=ht.its y hy
   have h1:(y.p == [])=false:=by simpa using h1
   simp only [zHu,jX,h1,h2]
   rfl
 ·have hy:=hc _ (List.getElem_mem hi)
  have hx:=hc _ (List.getElem_mem hj)
  generalize (fM t w)[i]=y at hy
  generalize (fM t w)[j]=x at hx
  cases hsh:gO y
  ·rfl
  ·cases hb:aO y.p x.p
   ·rfl
   ·exfalso
    have hyp:y.p≠[]:=by
     rcases hy with ⟨v,hv,rfl⟩|⟨v,hv,rfl,_⟩
     ·exact hw.ne v hv
     ·exact ht.ne v hv
    have hdir:∃ m,aR w y.p=some m∧(m.k == 2)=true:=by
     rcases hx with ⟨v,hv,rfl⟩|⟨v,hv,rfl,_,h6⟩
     ·exact qZ hw.par hyp _ _ (Nat.le_refl _) (by rw [cL hw.srt hv];rfl) hb
     ·exact (zCQ hyp h6 hb).1
    obtain ⟨m,h1,h2⟩:=hdir
    rcases hy with ⟨v,hv,rfl⟩|⟨v,hv,rfl,h5,_⟩
    ·rw [show (En.mk v.p 1 (isB (iM t w) v.p) v.n).p=v.p from rfl,cL hw.srt hv] at h1
     have h1:=Option.some.inj h1
     unfold gO at hsh
     simp only [h1,bne,h2] at hsh
     cases hsh
    ·rw [show (jX v.p).p=v.p from rfl] at h1
     rw [h1] at h5
     cases h5
 ·rcases hc e he with ⟨x,hx,rfl⟩|⟨y,hy,rfl,_⟩
  ·exact hw.tlen x hx
  ·show (0:Nat)<18446744073709551616;decide
 ·have h1:=JO w (iM t w) t (gN t (iM t w) w)
  have h2:=rP t (iM t w) w
  have h3:=ht.len
  have h4:=hw.len
  unfold fM
  omega
end
section
def DJ:En:=⟨[],0,false,nd0⟩
def En.cv (x:En):List CV:=[.p (.s x.p),.p (.i .i64 x.k),.p (.b x.o),.p (.i .i64 x.n.k),.p (.i .i64 x.n.m),.p (.f x.n.t),.p (.sl 1 (bT x.n.d))]
def gV (l:List En) (p:List UInt8):Option En:=l.find? fun x=>x.p == p
def shF (l:List En):Nat→List UInt8→Bool
 | 0,_=>false
 | n+1,q=>if q == [] then false else if ((gV l q).isSome && (((gV l q).getD DJ).k == 2 || (((gV l q).getD DJ).o || ((gV l q).getD DJ).n.k != 2))) then true else shF l n (aS q)
def zAC (l:List En) (p:List UInt8):Bool:=shF l p.length (aS p)
theorem zFy {l:List En} {n:Nat} {q:List UInt8} (h:q≠[]):shF l (n+1) q=if ((gV l q).isSome && (((gV l q).getD DJ).k == 2 || (((gV l q).getD DJ).o || ((gV l q).getD DJ).n.k != 2))) then true else shF l n (aS q):=by
 rw [shF,if_neg (by simpa using h)]
theorem zIa {l:List En}:∀ n:Nat,shF l n []=false
 | 0=>rfl
 | n+1=>by rw [shF];simp
end
section
def zIP (l:List (List RI)):List (List PV):=l.map fun x=>[.sl 6 (encI x)]
def zH0 (l:List (List RU)):List (List PV):=l.map fun x=>[.sl 8 (encU x)]
def PC (l:List (List It)):List (List PV):=l.map fun x=>[.sl 5 (aT x)]
theorem zDS (l:List (List RI)):(zIP l).length=l.length:=by simp [zIP]
theorem zAq (l:List (List RU)):(zH0 l).length=l.length:=by simp [zH0]
theorem zCO (l:List (List It)):(PC l).length=l.length:=by simp [PC]
theorem zDx (t:List (List RI)):(∀ x∈zIP t,x.length=1)=True:=eq_true fun x hx=>by
 obtain ⟨y,_,rfl⟩:=List.mem_map.1 hx;rfl
theorem zA3 (t:List (List RU)):(∀ x∈zH0 t,x.length=1)=True:=eq_true fun x hx=>by
 obtain ⟨y,_,rfl⟩:=List.mem_map.1 hx;rfl
theorem zDj (t:List (List It)):(∀ x∈PC t,x.length=1)=True:=eq_true fun x hx=>by
 obtain ⟨y,_,rfl⟩:=List.mem_map.1 hx;rfl
theorem XC (t:List (List It)) (l:List It):PC t++[[.sl 5 (aT l)]]=PC (t++[l]):=by simp [PC]
theorem zEd:PC []=[]:=rfl
attribute [go_sem] zDS zAq zCO zDx zA3 zDj XC zEd
end
section
theorem DL (t:List It) (x:En) (p:List UInt8):aR (mJ t x) p=if ((p == x.p) || (nQ t x && aO x.p p)) then none else aR t p:=by
 have:=fI (fun q=>!((q == x.p) || (nQ t x && aO x.p q))) p t
 unfold mJ goE
 rw [this]
 cases ((p == x.p) || (nQ t x && aO x.p p)) <;> rfl
theorem jA (t:List It) (x:En) (p:List UInt8):aR (jV t x) p=if p == x.p then (if x.k == 2 then none else some x.n) else if nQ t x && aO x.p p then none else aR t p:=by
 unfold jV
 split
 ·rw [DL]
  cases p == x.p <;> simp
 ·rw [nT,DL]
  cases p == x.p <;> simp
theorem zBK {a p:List UInt8} (ha:a≠[]) (h:aO a p=true):bO a p=true:=by
 obtain ⟨r,rfl⟩:=fR ha h
 exact zDP a 47 r
theorem wT {a b c:List UInt8} (ha:a≠[]) (h:aO a b=true) (k:aO b c=true):aO a c=true:=by
 obtain ⟨r,rfl⟩:=fR ha h
 obtain ⟨s,rfl⟩:=fR (by simp) k
 rw [List.append_assoc,List.cons_append]
 exact jC ha
theorem HP {a p:List UInt8} (ha:a≠[]) (h:aO a p=true):a.length<p.length:=by
 obtain ⟨r,rfl⟩:=fR ha h
 simp
theorem vY {a:List UInt8} (ha:a≠[]):aO a []=false:=by
 cases h:aO a []
 ·rfl
 ·have:=HP ha h
  simp at this
theorem kX (t:List It) (x:En) (l:List En):eS t (x::l)=eS (jV t x) l:=rfl
theorem CF {p:List UInt8}:∀ {l:List En} {t:List It},(∀ x∈l,(p == x.p)=false∧aO x.p p=false)→aR (eS t l) p=aR t p
 | [],_,_=>rfl
 | x::l,t,h=>by
  obtain ⟨h1,h2⟩:=h x List.mem_cons_self
  rw [kX,CF fun y hy=>h y (List.mem_cons_of_mem _ hy),jA,h1,h2,Bool.and_false]
  rfl
theorem DE {p:List UInt8}:∀ {l:List En} {t:List It},(∀ x∈l,(p == x.p)=false)→aR t p=none→aR (eS t l) p=none
 | [],_,_,h=>h
 | x::l,t,h,h0=>by
  rw [kX]
  refine DE (fun y hy=>h y (List.mem_cons_of_mem _ hy)) ?_
  rw [jA,h x List.mem_cons_self,h0]
  simp
theorem wJ {x:En}:∀ {l:List En} {t:List It},ZP l→(∀ y∈l,y.p≠[])→x∈l→aR (eS t l) x.p=if x.k == 2 then none else some x.n
 | [],_,_,_,h=>by cases h
 | y::l,t,hs,hn,hx=>by
  obtain ⟨h1,h2⟩:=List.pairwise_cons.1 hs
  rw [kX]
  rcases List.mem_cons.1 hx with rfl|hx
  ·rw [CF fun z hz=>⟨jP (h1 z hz),?_⟩,jA,beq_self_eq_true,if_pos rfl]
   cases hb:aO z.p x.p
   ·rfl
   ·have:=zBK (hn z (List.mem_cons_of_mem _ hz)) hb
    rw [eE (h1 z hz)] at this
    cases this
  ·exact wJ h2 (fun z hz=>hn z (List.mem_cons_of_mem _ hz)) hx
theorem BW {p:List UInt8} {e:En}:∀ {l:List En} {t:List It},(∀ x∈l,(p == x.p)=false)→e∈l→aO e.p p=true→(e.o || gO e)=true→aR (eS t l) p=none
 | [],_,_,h,_,_=>by cases h
 | y::l,t,h,he,hb,hs=>by
  rw [kX]
  rcases List.mem_cons.1 he with rfl|he
  ·refine DE (fun x hx=>h x (List.mem_cons_of_mem _ hx)) ?_
   have hc:nQ t e=true:=by
    unfold nQ
    rw [← Bool.or_assoc,hs,Bool.true_or]
   rw [jA,h e List.mem_cons_self,hc,hb]
   rfl
  ·exact BW (fun x hx=>h x (List.mem_cons_of_mem _ hx)) he hb hs
theorem DD {p:List UInt8}:∀ {l:List En} {t:List It},(∀ x∈l,x.p≠[]∧(p == x.p)=false∧(aO x.p p=true→(x.o || gO x)=false))→(∀ q,(aR t p).isSome=true→aO q p=true→q≠[]→aW t q=true)→aR (eS t l) p=aR t p
 | [],_,_,_=>rfl
 | x::l,t,h,hc=>by
  obtain ⟨h0,h1,h2⟩:=h x List.mem_cons_self
  have hcov:aO x.p p=true→(aR t p).isSome=true→nQ t x=false:=fun hb hs=>by
   have h3:=h2 hb
   rw [Bool.or_eq_false_iff] at h3
   unfold nQ
   rw [h3.1,h3.2,hc x.p hs hb h0]
   rfl
  have he:aR (jV t x) p=aR t p:=by
   rw [jA,h1]
   cases hb:aO x.p p
   ·simp
   ·cases hs:aR t p with
    | none=>simp
    | some n=>rw [hcov hb (by rw [hs];rfl)];simp
  rw [kX,DD (fun y hy=>h y (List.mem_cons_of_mem _ hy)) ?_,he]
  intro q hs hb hq
  rw [he] at hs
  obtain ⟨m,hm,hk⟩:=cO hq (hc q hs hb hq)
  cases hqx:q == x.p
  ·refine eR (m:=m) ?_ hk
   rw [jA,hqx]
   cases hbx:aO x.p q
   ·simpa using hm
   ·rw [hcov (wT h0 hbx hb) hs]
    simpa using hm
  ·have e:=eq_of_beq hqx
   rw [e] at hb
   have h3:=h2 hb
   rw [Bool.or_eq_false_iff] at h3
   have h4:=h3.2
   unfold gO at h4
   rw [Bool.or_eq_false_iff] at h4
   refine eR (m:=x.n) ?_ (by simpa using h4.2)
   rw [jA,hqx,if_pos rfl,h4.1]
   rfl
theorem DZ:∀ {l:List En},ZP l→∀ x∈l,∀ y∈l,x.p=y.p→x=y
 | [],_,x,hx,_,_,_=>by cases hx
 | z::l,h,x,hx,y,hy,e=>by
  obtain ⟨h1,h2⟩:=List.pairwise_cons.1 h
  rcases List.mem_cons.1 hx with e1|g1 <;> rcases List.mem_cons.1 hy with e2|g2
  ·rw [e1,e2]
  ·have:=jP (h1 y g2);rw [← e1,e] at this;simp at this
  ·have:=jP (h1 x g1);rw [← e2,e] at this;simp at this
  ·exact DZ h2 x g1 y g2 e
theorem zAH {l:List En} (h:ZP l) {x:En} (hx:x∈l):gV l x.p=some x:=by
 cases hf:gV l x.p with
 | none=>exact absurd (beq_self_eq_true x.p) (by simpa using List.find?_eq_none.1 hf x hx)
 | some y =>
  have h1:=eq_of_beq (List.find?_some (p:=fun z:En=>z.p == x.p) hf)
  rw [DZ h y (List.mem_of_find?_eq_some hf) x hx h1]
theorem tN {l:List En} {p:List UInt8} {x:En} (h:gV l p=some x):x∈l∧x.p=p:=⟨List.mem_of_find?_eq_some h,eq_of_beq (List.find?_some (p:=fun z:En=>z.p == p) h)⟩
theorem KA {l:List En} {p:List UInt8} (h:gV l p=none):∀ x∈l,(p == x.p)=false:=fun x hx=>by
 have h1:=List.find?_eq_none.1 h x hx
 cases hp:p == x.p
 ·rfl
 ·rw [eq_of_beq hp] at h1;simp at h1
theorem zIS {l:List En} (hs:ZP l) (hn:∀ x∈l,x.p≠[]):∀ (n:Nat) (q:List UInt8),q.length≤n→(shF l n q=true↔∃ e∈l,(e.p=q∨aO e.p q=true)∧(e.o || gO e)=true):=by
 have h00:¬ ∃ e∈l,(e.p=[]∨aO e.p []=true)∧(e.o || gO e)=true:=by
  rintro ⟨e,he,h|h,_⟩
  ·exact hn e he h
  ·rw [vY (hn e he)] at h;cases h
 intro n
 induction n with
 | zero =>
  intro q hl
  have h1:q=[]:=by simpa using hl
  subst h1
  exact ⟨fun h=>(by simp [shF] at h),fun h=>absurd h h00⟩
 | succ n ih =>
  intro q hl
  by_cases h0:q=[]
  ·subst h0
   exact ⟨fun h=>(by rw [zIa] at h;cases h),fun h=>absurd h h00⟩
  ·have hdl:(aS q).length≤n:=by
    by_cases h:aS q=[]
    ·rw [h];exact Nat.zero_le _
    ·have:=sD h;omega
   have hsh:∀ e:En,(e.k == 2 || (e.o || e.n.k != 2))=(e.o || gO e):=fun e=>by
    unfold gO
    cases e.k == 2 <;> cases e.o <;> rfl
   rw [zFy h0]
   split
   ·rename_i hc
    refine ⟨fun _=>?_,fun _=>rfl⟩
    cases he:gV l q with
    | none=>rw [he] at hc;cases hc
    | some e =>
     rw [he,Option.getD_some,hsh] at hc
     obtain ⟨h1,h2⟩:=tN he
     exact ⟨e,h1,.inl h2,by simpa using hc⟩
   ·rename_i hc
    rw [ih _ hdl]
    constructor
    ·rintro ⟨e,he,h1,h2⟩
     refine ⟨e,he,.inr ?_,h2⟩
     refine dQ (hn e he) (fun hd=>?_) (h1.imp Eq.symm id)
     rw [hd] at h1
     exact h00 ⟨e,he,h1,h2⟩
    ·rintro ⟨e,he,h1,h2⟩
     rcases h1 with h1|h1
     ·rw [← h1,zAH hs he,Option.getD_some,hsh,h2] at hc
      exact absurd rfl hc
     ·exact ⟨e,he,(gY (hn e he) h1).imp Eq.symm id,h2⟩
theorem qH {l:List En} (hs:ZP l) (hn:∀ x∈l,x.p≠[]) (p:List UInt8):zAC l p=true↔∃ e∈l,aO e.p p=true∧(e.o || gO e)=true:=by
 unfold zAC
 rw [zIS hs hn _ _ (zAS p)]
 constructor
 ·rintro ⟨e,he,h1,h2⟩
  refine ⟨e,he,dQ (hn e he) (fun hd=>?_) (h1.imp Eq.symm id),h2⟩
  rw [hd] at h1
  rcases h1 with h1|h1
  ·exact hn e he h1
  ·rw [vY (hn e he)] at h1;cases h1
 ·rintro ⟨e,he,h1,h2⟩
  exact ⟨e,he,(gY (hn e he) h1).imp Eq.symm id,h2⟩
theorem zBa {t:List It} {l:List En} (hp:Par t) (hs:ZP l) (hn:∀ x∈l,x.p≠[]) (p:List UInt8):
  aR (eS t l) p=match gV l p with
   | some e=>if e.k == 2 then none else some e.n
   | none=>if zAC l p then none else aR t p:=by
 cases he:gV l p with
 | some e =>
  obtain ⟨h1,rfl⟩:=tN he
  exact wJ hs hn h1
 | none =>
  have hno:=KA he
  cases hsh:zAC l p
  ·refine DD (fun x hx=>⟨hn x hx,hno x hx,fun hb=>?_⟩) fun q h1 h2 h3=>?_
   ·cases h:(x.o || gO x)
    ·rfl
    ·rw [(qH hs hn p).2 ⟨x,hx,hb,h⟩] at hsh;cases hsh
   ·obtain ⟨m,h4,h5⟩:=qZ hp h3 _ _ (Nat.le_refl _) h1 h2
    exact eR h4 (by simpa using h5)
  ·obtain ⟨e,h1,h2,h3⟩:=(qH hs hn p).1 hsh
   exact BW hno h1 h2 h3
theorem OkE.ne {l:List En} (h:OkE l):∀ x∈l,x.p≠[]:=fun x hx e=>by
 have:=h.may x hx
 unfold zHu at this
 rw [e] at this
 cases this
theorem YU {x y:Nd} (hx:aU x=true) (hxt:x.t<18446744073709551616) (hy:aU y=true) (hyt:y.t<18446744073709551616) (h:fS x y=true):x=y:=by
 have e1:=(iX hx hxt).2
 have e2:=(iX hy hyt).2
 simp only [fS,Bool.and_eq_true,beq_iff_eq] at h
 obtain ⟨⟨⟨h1,h2⟩,h3⟩,h4⟩:=h
 rw [e1,e2] at h4
 cases x;cases y
 simp only at h1 h2 h3 h4
 subst h1;subst h2;subst h3;subst h4
 rfl
theorem HM {w:List It} {os:List (List UInt8)}:∀ (n:Nat) (q:List UInt8),zEo w os n q=true→∃ a,a≠[]∧(q=a∨aO a q=true)∧(!(aR w a).isSome || (((aR w a).getD nd0).k != 2 || isB os a))=true
 | 0,_,h=>by cases h
 | n+1,q,h=>by
  by_cases h0:q=[]
  ·rw [h0,SJ] at h;cases h
  ·rw [zQ h0] at h
   split at h
   ·rename_i hc
    exact ⟨q,h0,.inl rfl,hc⟩
   ·obtain ⟨a,h1,h2,h3⟩:=HM n _ h
    refine ⟨a,h1,.inr (dQ h1 (fun hd=>?_) h2),h3⟩
    rw [hd] at h2
    rcases h2 with h2|h2
    ·exact h1 h2.symm
    ·rw [vY h1] at h2;cases h2
theorem zAk {w:List It} {os:List (List UInt8)} {p:List UInt8} (h:HC w os p=true):∃ a,a≠[]∧aO a p=true∧(!(aR w a).isSome || (((aR w a).getD nd0).k != 2 || isB os a))=true:=by
 obtain ⟨a,h1,h2,h3⟩:=HM _ _ h
 refine ⟨a,h1,dQ h1 (fun hd=>?_) h2,h3⟩
 rw [hd] at h2
 rcases h2 with h2|h2
 ·exact h1 h2.symm
 ·rw [vY h1] at h2;cases h2
theorem EM {t:List It} {os:List (List UInt8)} {w:List It} {x:It} (hx:x∈w) {e:En} (he:e∈QX t os x):e∈gN t os w:=List.mem_flatMap.2 ⟨x,hx,he⟩
theorem VM {t w:List It} (ht:OkT t) (hw:OkT w):∀ (n:Nat) (p:List UInt8),p.length≤n→(aR t p).isSome=true→HC w (iM t w) p=true→∃ e∈fM t w,aO e.p p=true∧(e.o || gO e)=true
 | 0,p,hl,_,hc=>by
  have h1:p=[]:=by simpa using hl
  subst h1
  cases hc
 | n+1,p,hl,hs,hc=>by
  obtain ⟨_,hm⟩:=lW ht hw
  obtain ⟨a,h1,h2,h3⟩:=zAk hc
  obtain ⟨m,h4,h5⟩:=qZ ht.par h1 _ _ (Nat.le_refl _) hs h2
  cases hg:aR w a with
  | none =>
   cases hca:HC w (iM t w) a
   ·obtain ⟨y,hy,rfl,_⟩:=bZ h4
    exact ⟨jX y.p,(hm _).2 (.inr ⟨y,hy,rfl,by rw [hg];rfl,hca⟩),h2,rfl⟩
   ·have:=HP h1 h2
    obtain ⟨e,h6,h7,h8⟩:=VM ht hw n a (by omega) (by rw [h4];rfl) hca
    exact ⟨e,h6,wT ((PK ht hw).ne e h6) h7 h2,h8⟩
  | some k =>
   obtain ⟨x,hx,rfl,rfl⟩:=bZ hg
   rw [hg,Option.getD_some,Option.isSome_some,Bool.not_true,Bool.false_or] at h3
   cases hi:isB (iM t w) x.p
   ·rw [hi,Bool.or_false] at h3
    refine ⟨⟨x.p,1,false,x.n⟩,(hm _).2 (.inl (EM hx ?_)),h2,?_⟩
    ·unfold QX
     rw [hi,if_neg (by decide),h4,Option.getD_some]
     have:fS m x.n=false:=by
      unfold fS
      have:(m.k == x.n.k)=false:=by
       cases hq:m.k == x.n.k
       ·rfl
       ·rw [← eq_of_beq hq,bne,h5] at h3;cases h3
      rw [this];rfl
     rw [this]
     exact List.mem_singleton.2 rfl
    ·unfold gO
     rw [h3];rfl
   ·refine ⟨⟨x.p,1,true,x.n⟩,(hm _).2 (.inl (EM hx ?_)),h2,rfl⟩
    unfold QX
    rw [hi,if_pos rfl]
    exact List.mem_singleton.2 rfl
theorem zFZ {t w:List It} (ht:OkT t) (hw:OkT w) (p:List UInt8):aR (eS t (fM t w)) p=aR w p:=by
 obtain ⟨hs,hm⟩:=lW ht hw
 have hok:=PK ht hw
 have hn:=hok.ne
 rw [zBa ht.par hs hn]
 cases he:gV (fM t w) p with
 | some e =>
  obtain ⟨h1,rfl⟩:=tN he
  rcases (hm e).1 h1 with h|⟨y,hy,rfl,h3,_⟩
  ·obtain ⟨x,hx,rfl⟩:=iJ h
   exact (cL hw.srt hx).symm
  ·show none=aR w y.p
   cases hg:aR w y.p with
   | none=>rfl
   | some n=>rw [hg] at h3;cases h3
 | none =>
  have hno:=KA he
  have hput:∀ x∈w,x.p=p→isB (iM t w) p=false∧∃ m,aR t p=some m∧fS m x.n=true:=fun x hx hp=>by
   subst hp
   cases hi:isB (iM t w) x.p
   ·refine ⟨rfl,?_⟩
    cases hc:(!(aR t x.p).isSome || !fS ((aR t x.p).getD nd0) x.n)
    ·cases hg:aR t x.p with
     | none=>rw [hg] at hc;cases hc
     | some m =>
      rw [hg,Option.getD_some] at hc
      exact ⟨m,rfl,by simpa using hc⟩
    ·have:=hno ⟨x.p,1,false,x.n⟩ ((hm _).2 (.inl (EM hx (by
      unfold QX
      rw [hi,if_neg (by decide),hc]
      exact List.mem_singleton.2 rfl))))
     simp at this
   ·have:=hno ⟨x.p,1,true,x.n⟩ ((hm _).2 (.inl (EM hx (by
     unfold QX
     rw [hi,if_pos rfl]
     exact List.mem_singleton.2 rfl))))
    simp at this
  cases hsh:zAC (fM t w) p
  ·show aR t p=aR w p
   cases hg:aR w p with
   | some n =>
    obtain ⟨x,hx,rfl,rfl⟩:=bZ hg
    obtain ⟨_,m,h1,h2⟩:=hput x hx rfl
    obtain ⟨y,hy,_,rfl⟩:=bZ h1
    rw [h1,YU (ht.its y hy).2.2.1 (ht.its y hy).2.2.2 (hw.its x hx).2.2.1 (hw.its x hx).2.2.2 h2]
   | none =>
    cases hgt:aR t p with
    | none=>rfl
    | some n =>
     exfalso
     obtain ⟨y,hy,rfl,_⟩:=bZ hgt
     cases hc:HC w (iM t w) y.p
     ·have:=hno (jX y.p) ((hm _).2 (.inr ⟨y,hy,rfl,by rw [hg];rfl,hc⟩))
      rw [show (jX y.p).p=y.p from rfl] at this
      simp at this
     ·obtain ⟨e,h1,h2,h3⟩:=VM ht hw _ _ (Nat.le_refl _) (by rw [hgt];rfl) hc
      rw [(qH hs hn _).2 ⟨e,h1,h2,h3⟩] at hsh
      cases hsh
  ·show none=aR w p
   cases hg:aR w p with
   | none=>rfl
   | some n =>
    exfalso
    obtain ⟨e,h1,h2,h3⟩:=(qH hs hn p).1 hsh
    obtain ⟨m,h4,h5⟩:=qZ hw.par (hn e h1) _ _ (Nat.le_refl _) (by rw [hg];rfl) h2
    rcases (hm e).1 h1 with h|⟨y,hy,rfl,h6,_⟩
    ·obtain ⟨x,hx,rfl⟩:=iJ h
     rw [show (En.mk x.p 1 (isB (iM t w) x.p) x.n).p=x.p from rfl,cL hw.srt hx] at h4
     have h4:=Option.some.inj h4
     have hsf:gO ⟨x.p,1,isB (iM t w) x.p,x.n⟩=false:=by
      unfold gO
      simp only [h4,bne,h5]
      rfl
     rw [hsf,Bool.or_false] at h3
     have hb:=GN hw hx h3
     unfold zBC at hb
     simp only [Bool.and_eq_true,Bool.not_eq_true'] at hb
     have hst:=hb.2
     obtain ⟨v,hv,rfl,rfl⟩:=bZ hg
     obtain ⟨_,k,h7,_⟩:=hput v hv rfl
     obtain ⟨z,hz,hzp,_⟩:=bZ h7
     have:LA t w x.p=true:=List.any_eq_true.2 ⟨z,hz,by rw [hzp,hg];exact h2⟩
     rw [this] at hst
     cases hst
    ·rw [show (jX y.p).p=y.p from rfl] at h4
     rw [h4] at h6
     cases h6
theorem zJN {s t:List It} (hs:Srt s) (ht:Srt t) (h:∀ p,aR s p=aR t p):s=t:=by
 have key:∀ {a b:List It},Srt a→(∀ p,aR a p=aR b p)→∀ x,x∈a→x∈b:=fun ha he x hx=>by
  have h1:=cL ha hx
  rw [he] at h1
  obtain ⟨y,hy,h2,h3⟩:=bZ h1
  have:y=x:=by cases y;cases x;simp only at h2 h3;subst h2;subst h3;rfl
  rw [← this];exact hy
 exact tL hs ht fun x=>⟨key hs h x,key ht (fun p=>(h p).symm) x⟩
theorem zCA {t w:List It} (ht:OkT t) (hw:OkT w):pI t (fM t w)=(w,true):=by
 have e:eS t (fM t w)=w:=zJN (xZ ht.srt) hw.srt (zFZ ht hw)
 unfold pI
 rw [e,KM hw,if_pos rfl]
theorem BS {l:List En}:∀ {ls:List (List En)} {t:List It},nE t (ls++[l])=if (nE t ls).2 then (if (pI (nE t ls).1 l).2 then ((pI (nE t ls).1 l).1,true) else ([],false)) else ([],false)
 | [],_=>rfl
 | x::r,t=>by
  rw [List.cons_append,nE,nE]
  cases (pI t x).2
  ·rfl
  ·exact BS
end
end Go.Dm
