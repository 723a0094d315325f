/- Part 15 of the proof of roomDeep_card, set without needless blanks. No condition. -/
import Derived.Test.YtlbfnbldeefgmaaGreatDoorC13
set_option linter.all false
section
namespace Go.Dm
open Go
theorem pU {t:List It} {b:List UInt8} (h:Par t) (hb:b≠[]):∀ (n:Nat) (q:List UInt8),q.length≤n→(aW t q).isSome=true→aM b q=true→∃ m,aW t b=some m∧(m.k == 2)=true
 | 0,q,hl,_,hq=>by
  have h1:q=[]:=by simpa using hl
  subst h1;have h2:=dM hq;have:b=[]:=by simpa using h2
  exact absurd this hb
 | n+1,q,hl,hs,hq=>by
  obtain ⟨m,hm⟩:=Option.isSome_iff_exists.1 hs;obtain ⟨x,hx,rfl,_⟩:=cD hm;have hdx:=h x hx;rcases gW hb hq with h1|h1
  ·rw [h1] at hdx;obtain ⟨m,h2,h3⟩:=cG hb hdx;exact ⟨m,h2,by first|exact h3|simpa using h3⟩
  ·have h0:aP x.p≠[]:=by
    intro h0;rw [h0] at h1;have:=dM h1;have:b=[]:=by simpa using this
    exact absurd this hb
   obtain ⟨m,h2,_⟩:=cG h0 hdx;have hlt:=pI h0;exact pU h hb n _ (by omega) (by rw [h2];rfl) h1
theorem EP {w:List It} {os:List (List UInt8)} {a:List UInt8} (ha:a≠[]):∀ (n:Nat) (q:List UInt8),q.length≤n→zCx w os n q=false→(q=a∨aM a q=true)→(∃ m,aW w a=some m∧(m.k == 2)=true)∧isB os a=false
 | 0,q,hl,_,hq=>by
  have h1:q=[]:=by simpa using hl
  subst h1;rcases hq with hq|hq
  ·exact absurd hq.symm ha
  ·have h2:=dM hq;have:a=[]:=by simpa using h2
   exact absurd this ha
 | n+1,q,hl,hc,hq=>by
  by_cases h0:q=[]
  ·subst h0;rcases hq with hq|hq
   ·exact absurd hq.symm ha
   ·have h2:=dM hq;have:a=[]:=by simpa using h2
    exact absurd this ha
  ·rw [uH h0] at hc;split at hc
   ·cases hc
   ·rename_i h1;simp only [Bool.not_eq_true,Bool.or_eq_false_iff] at h1;obtain ⟨h2,h3,h4⟩:=h1;rcases hq with rfl|hq
    ·refine ⟨?_,h4⟩;cases hg:aW w q with
     | none=>rw [hg] at h2;simp at h2
     | some m=>rw [hg] at h3;exact ⟨m,rfl,by simpa using h3⟩
    ·have hdl:(aP q).length≤n:=by
      by_cases h:aP q=[]
      ·rw [h];exact Nat.zero_le _
      ·have:=pI h;omega
     exact EP ha n _ hdl hc (gW ha hq)
theorem XI {w:List It} {os:List (List UInt8)} {a p:List UInt8} (ha:a≠[]) (hc:DO w os p=false) (hb:aM a p=true):(∃ m,aW w a=some m∧(m.k == 2)=true)∧isB os a=false :=
 EP ha _ _ (XT p) hc (gW ha hb)
theorem iL {t:List It} {os:List (List UInt8)} {w:List It} {e:En} (h:e∈gO t os w):∃ x∈w,e=⟨x.p,1,isB os x.p,x.n⟩:=by
 unfold gO at h;obtain ⟨x,hx,h⟩:=List.mem_flatMap.1 h;refine ⟨x,hx,?_⟩;unfold MC at h;split at h
 ·rename_i h1;rw [List.mem_singleton.1 h,h1]
 ·rename_i h1;split at h
  ·rw [List.mem_singleton.1 h];simp only [Bool.not_eq_true] at h1;rw [h1]
  ·simp at h
def QL (l:List En):Prop:=l.Pairwise fun x y=>bZ x.p y.p=true
theorem FP (y:En) (l:List En) (e:En):zCy (y::l) e=if bZ y.p e.p then y::zCy l e else e::y::l:=by
 unfold zCy zJt;rw [List.takeWhile_cons];split <;> simp
theorem PB (e:En):zCy [] e=[e]:=rfl
theorem BJ {l:List En} {e x:En}:x∈zCy l e↔x∈l∨x=e:=by
 induction l with
 | nil=>simp [PB]
 | cons y l ih =>
  rw [FP];split
  ·rw [List.mem_cons,ih,List.mem_cons,or_assoc]
  ·simp only [List.mem_cons];constructor
   ·rintro (h|h|h)
    ·exact .inr h
    ·exact .inl (.inl h)
    ·exact .inl (.inr h)
   ·rintro ((h|h)|h)
    ·exact .inr (.inl h)
    ·exact .inr (.inr h)
    ·exact .inl h
theorem zDJ {l:List En} {e:En} (h:QL l) (hn:∀ x∈l,x.p≠e.p):QL (zCy l e):=by
 induction l with
 | nil=>rw [PB];exact List.pairwise_singleton _ _
 | cons y l ih =>
  obtain ⟨h1,h2⟩:=List.pairwise_cons.1 h;rw [FP];split
  ·rename_i hb;refine List.pairwise_cons.2 ⟨fun x hx=>?_,ih h2 fun x hx=>hn x (List.mem_cons_of_mem _ hx)⟩;rcases BJ.1 hx with hx|rfl
   ·exact h1 x hx
   ·exact hb
  ·rename_i hb;have hlt:bZ e.p y.p=true:=by
    cases hc:bZ e.p y.p
    ·exact absurd (fM (by simpa using hb) hc) (hn y List.mem_cons_self)
    ·rfl
   refine List.pairwise_cons.2 ⟨fun x hx=>?_,h⟩;rcases List.mem_cons.1 hx with rfl|hx
   ·exact hlt
   ·exact cO hlt (h1 x hx)
theorem HJ {t:List It} {os:List (List UInt8)} {w:List It} (h:Srt w):QL (gO t os w):=by
 induction w with
 | nil=>exact List.Pairwise.nil
 | cons x w ih =>
  obtain ⟨h1,h2⟩:=List.pairwise_cons.1 h;have e:gO t os (x::w)=MC t os x++gO t os w:=by unfold gO;rw [List.flatMap_cons]
  rw [e];have hl:∀ y∈MC t os x,y.p=x.p:=fun y hy=>by
   have:y∈gO t os [x]:=by unfold gO;simpa using hy
   obtain ⟨z,hz,e⟩:=iL this;rw [List.mem_singleton.1 hz] at e;rw [e]
  refine List.pairwise_append.2 ⟨?_,ih h2,fun y hy z hz=>?_⟩
  ·unfold MC;split
   ·exact List.pairwise_singleton _ _
   ·split
    ·exact List.pairwise_singleton _ _
    ·exact List.Pairwise.nil
  ·obtain ⟨v,hv,e⟩:=iL hz;rw [hl y hy,e];exact h1 v hv
theorem BS {w:List It} {os:List (List UInt8)}:∀ {r:List It} {out:List En},Srt r→QL out→(∀ e∈out,∀ y∈r,(aW w y.p).isSome=false→e.p≠y.p) →
  QL (r.foldl (GC w os) out)∧∀ e,e∈r.foldl (GC w os) out↔e∈out∨∃ y∈r,e=jH y.p∧(aW w y.p).isSome=false∧DO w os y.p=false
 | [],out,_,h,_=>⟨h,fun e=>by simp⟩
 | y::r,out,hr,h,hn=>by
  obtain ⟨h1,h2⟩:=List.pairwise_cons.1 hr;rw [List.foldl_cons];unfold GC;split
  ·rename_i hc;obtain ⟨h3,h4⟩:=BS (w:=w) (os:=os) h2 h fun e he z hz=>hn e he z (List.mem_cons_of_mem _ hz);refine ⟨h3,fun e=>(h4 e).trans ?_⟩;constructor
   ·rintro (h|⟨z,hz,h⟩)
    ·exact .inl h
    ·exact .inr ⟨z,List.mem_cons_of_mem _ hz,h⟩
   ·rintro (h|⟨z,hz,h,h5,h6⟩)
    ·exact .inl h
    ·rcases List.mem_cons.1 hz with rfl|hz
     ·rw [h5,h6] at hc;cases hc
     ·exact .inr ⟨z,hz,h,h5,h6⟩
  ·rename_i hc;simp only [Bool.not_eq_true,Bool.or_eq_false_iff] at hc;have hs:=zDJ (e:=jH y.p) h fun x hx=>hn x hx y List.mem_cons_self hc.1;obtain ⟨h3,h4⟩:=BS (w:=w) (os:=os) (out:=zCy out (jH y.p)) h2 hs fun e he z hz hg=>by
    rcases BJ.1 he with he|rfl
    ·exact hn e he z (List.mem_cons_of_mem _ hz) hg
    ·intro e2;have:=h1 z hz;rw [show (jH y.p).p=y.p from rfl] at e2
     rw [e2,cR] at this;cases this
   refine ⟨h3,fun e=>(h4 e).trans ?_⟩;rw [BJ];constructor
   ·rintro ((h|h)|⟨z,hz,h⟩)
    ·exact .inl h
    ·exact .inr ⟨y,List.mem_cons_self,h,hc⟩
    ·exact .inr ⟨z,List.mem_cons_of_mem _ hz,h⟩
   ·rintro (h|⟨z,hz,h⟩)
    ·exact .inl (.inl h)
    ·rcases List.mem_cons.1 hz with rfl|hz
     ·exact .inl (.inr h.1)
     ·exact .inr ⟨z,hz,h⟩
theorem GD (w:List It) (os:List (List UInt8)):∀ (r:List It) (out:List En),(r.foldl (GC w os) out).length≤out.length+r.length
 | [],out=>Nat.le_refl _
 | y::r,out=>by
  have h1:=zAs w os out y;have h2:=GD w os r (GC w os out y);rw [List.foldl_cons,List.length_cons];omega
theorem LC {w:List It} {p:List UInt8} (h:(aW w p).isSome=false):∀ x∈w,Srt w→x.p≠p:=fun x hx hs e=>by
 rw [← e,cP hs hx] at h;cases h
theorem kT {t w:List It} (ht:OkT t) (hw:OkT w):QL (fR t w)∧∀ e,e∈fR t w↔e∈gO t (iI t w) w∨∃ y∈t,e=jH y.p∧(aW w y.p).isSome=false∧DO w (iI t w) y.p=false :=
 BS ht.srt (HJ hw.srt) fun e he y _ hg=>by
  obtain ⟨x,hx,rfl⟩:=iL he;exact LC hg x hx hw.srt
theorem CN {t w:List It} (hw:OkT w) {x:It} (hx:x∈w) (h:isB (iI t w) x.p=true):zBe t w x=true:=by
 unfold isB iI at h;rw [List.any_eq_true] at h;obtain ⟨q,hq,e⟩:=h;obtain ⟨z,hz,rfl⟩:=List.mem_map.1 hq;obtain ⟨hz,hb⟩:=List.mem_filter.1 hz;have e:=eq_of_beq e;have h1:=cP hw.srt hz;have h2:=cP hw.srt hx;rw [e,h2] at h1;have hn:x.n=z.n:=Option.some.inj h1;have:x=z:=by cases x;cases z;simp only at e hn;subst e;subst hn;rfl
 rw [this];exact hb
theorem LR {t w:List It} (ht:OkT t) (hw:OkT w):OkE (fR t w):=by
 obtain ⟨hs,hm⟩:=kT ht hw;have hc:∀ e∈fR t w,(∃ x∈w,e=⟨x.p,1,isB (iI t w) x.p,x.n⟩)∨∃ y∈t,e=jH y.p∧(aW w y.p).isSome=false∧DO w (iI t w) y.p=false:=fun e he=>by
  rcases (hm e).1 he with h|h
  ·exact .inl (iL h)
  ·exact .inr h
 refine ⟨fun e he=>?_,hs,List.pairwise_iff_getElem.2 fun i j hi hj _=>?_,fun e he=>?_,?_⟩
 ·rcases hc e he with ⟨x,hx,rfl⟩|⟨y,hy,rfl,_⟩
  ·obtain ⟨h1,h2,h3,_⟩:=hw.its x hx;have h1:(x.p == [])=false:=by simpa using h1
   simp only [zFz,h1,h2,h3,Bool.not_false,Bool.true_and,show ((1:Int) == 2)=false from rfl,show ((1:Int) == 1)=true from rfl,Bool.false_eq_true,if_false]
   cases ho:isB (iI t w) x.p
   ·rfl
   ·have:=CN hw hx ho;unfold zBe at this;simp only [Bool.and_eq_true] at this;rw [this.1.1];rfl
  ·obtain ⟨h1,h2,_⟩:=ht.its y hy;have h1:(y.p == [])=false:=by simpa using h1
   simp only [zFz,jH,h1,h2];rfl
 ·have hy:=hc _ (List.getElem_mem hi);have hx:=hc _ (List.getElem_mem hj);generalize (fR t w)[i]=y at hy;generalize (fR t w)[j]=x at hx;cases hsh:gP y
  ·rfl
  ·cases hb:aM y.p x.p
   ·rfl
   ·exfalso;have hyp:y.p≠[]:=by
     rcases hy with ⟨v,hv,rfl⟩|⟨v,hv,rfl,_⟩
     ·exact hw.ne v hv
     ·exact ht.ne v hv
    have hdir:∃ m,aW w y.p=some m∧(m.k == 2)=true:=by
     rcases hx with ⟨v,hv,rfl⟩|⟨v,hv,rfl,_,h6⟩
     ·exact pU hw.par hyp _ _ (Nat.le_refl _) (by rw [cP hw.srt hv];rfl) hb
     ·exact (XI hyp h6 hb).1
    obtain ⟨m,h1,h2⟩:=hdir;rcases hy with ⟨v,hv,rfl⟩|⟨v,hv,rfl,h5,_⟩
    ·rw [show (En.mk v.p 1 (isB (iI t w) v.p) v.n).p=v.p from rfl,cP hw.srt hv] at h1
     have h1:=Option.some.inj h1;unfold gP at hsh;simp only [h1,bne,h2] at hsh;cases hsh
    ·rw [show (jH v.p).p=v.p from rfl] at h1
     rw [h1] at h5;cases h5
 ·rcases hc e he with ⟨x,hx,rfl⟩|⟨y,hy,rfl,_⟩
  ·exact hw.tlen x hx
  ·show (0:Nat)<18446744073709551616;decide
 ·have h1:=GD w (iI t w) t (gO t (iI t w) w);have h2:=pZ t (iI t w) w;have h3:=ht.len;have h4:=hw.len;unfold fR;omega
end Go.Dm
end
section
namespace Go.Dm
open Go
def AP:En:=⟨[],0,false,nd0⟩
def En.cv (x:En):List CV:=[.p (.s x.p),.p (.i .i64 x.k),.p (.b x.o),.p (.i .i64 x.n.k),.p (.i .i64 x.n.m),.p (.f x.n.t),.p (.sl 1 (bW x.n.d))]
def gS (l:List En) (p:List UInt8):Option En:=l.find? fun x=>x.p == p
def shF (l:List En):Nat→List UInt8→Bool
 | 0,_=>false
 | n+1,q=>if q == [] then false else if ((gS l q).isSome && (((gS l q).getD AP).k == 2 || (((gS l q).getD AP).o || ((gS l q).getD AP).n.k != 2))) then true else shF l n (aP q)
def zBU (l:List En) (p:List UInt8):Bool:=shF l p.length (aP p)
theorem zEM {l:List En} {n:Nat} {q:List UInt8} (h:q≠[]):shF l (n+1) q=if ((gS l q).isSome && (((gS l q).getD AP).k == 2 || (((gS l q).getD AP).o || ((gS l q).getD AP).n.k != 2))) then true else shF l n (aP q):=by
 rw [shF,if_neg (by simpa using h)]
theorem zHh {l:List En}:∀ n:Nat,shF l n []=false
 | 0=>rfl
 | n+1=>by rw [shF];simp
end Go.Dm
end
section
namespace Go.Dm
open Go
def zGv (l:List (List RI)):List (List PV):=l.map fun x=>[.sl 6 (encI x)]
def zGx (l:List (List RU)):List (List PV):=l.map fun x=>[.sl 8 (zIr x)]
def KW (l:List (List It)):List (List PV):=l.map fun x=>[.sl 5 (aZ x)]
theorem ZD (l:List (List RI)):(zGv l).length=l.length:=by simp [zGv]
theorem zAb (l:List (List RU)):(zGx l).length=l.length:=by simp [zGx]
theorem ZY (l:List (List It)):(KW l).length=l.length:=by simp [KW]
theorem ZE (t:List (List RI)):(∀ x∈zGv t,x.length=1)=True:=eq_true fun x hx=>by
 obtain ⟨y,_,rfl⟩:=List.mem_map.1 hx;rfl
theorem zAc (t:List (List RU)):(∀ x∈zGx t,x.length=1)=True:=eq_true fun x hx=>by
 obtain ⟨y,_,rfl⟩:=List.mem_map.1 hx;rfl
theorem zAa (t:List (List It)):(∀ x∈KW t,x.length=1)=True:=eq_true fun x hx=>by
 obtain ⟨y,_,rfl⟩:=List.mem_map.1 hx;rfl
theorem RW (t:List (List It)) (l:List It):KW t++[[.sl 5 (aZ l)]]=KW (t++[l]):=by simp [KW]
theorem ZZ:KW []=[]:=rfl
attribute [go_sem] ZD zAb ZY ZE zAc zAa RW ZZ
end Go.Dm
end
section
namespace Go.Dm
open Go
theorem yS (t:List It) (x:En) (p:List UInt8):aW (lJ t x) p=if ((p == x.p) || (lQ t x && aM x.p p)) then none else aW t p:=by
 have:=fE (fun q=>!((q == x.p) || (lQ t x && aM x.p q))) p t;unfold lJ goE;rw [this];cases ((p == x.p) || (lQ t x && aM x.p p)) <;> rfl
theorem iJ (t:List It) (x:En) (p:List UInt8):aW (jI t x) p=if p == x.p then (if x.k == 2 then none else some x.n) else if lQ t x && aM x.p p then none else aW t p:=by
 unfold jI;split
 ·rw [yS];cases p == x.p <;> simp
 ·rw [lW,yS];cases p == x.p <;> simp
theorem WN {a p:List UInt8} (ha:a≠[]) (h:aM a p=true):bZ a p=true:=by
 obtain ⟨r,rfl⟩:=fL ha h;exact WU a 47 r
theorem tX {a b c:List UInt8} (ha:a≠[]) (h:aM a b=true) (k:aM b c=true):aM a c=true:=by
 obtain ⟨r,rfl⟩:=fL ha h;obtain ⟨s,rfl⟩:=fL (by simp) k;rw [List.append_assoc,List.cons_append];exact jA ha
theorem EB {a p:List UInt8} (ha:a≠[]) (h:aM a p=true):a.length<p.length:=by
 obtain ⟨r,rfl⟩:=fL ha h;simp
theorem tC {a:List UInt8} (ha:a≠[]):aM a []=false:=by
 cases h:aM a []
 ·rfl
 ·have:=EB ha h;simp at this
theorem jU (t:List It) (x:En) (l:List En):eR t (x::l)=eR (jI t x) l:=rfl
theorem zC {p:List UInt8}:∀ {l:List En} {t:List It},(∀ x∈l,(p == x.p)=false∧aM x.p p=false)→aW (eR t l) p=aW t p
 | [],_,_=>rfl
 | x::l,t,h=>by
  obtain ⟨h1,h2⟩:=h x List.mem_cons_self;rw [jU,zC fun y hy=>h y (List.mem_cons_of_mem _ hy),iJ,h1,h2,Bool.and_false];rfl
theorem zD {p:List UInt8}:∀ {l:List En} {t:List It},(∀ x∈l,(p == x.p)=false)→aW t p=none→aW (eR t l) p=none
 | [],_,_,h=>h
 | x::l,t,h,h0=>by
  rw [jU];refine zD (fun y hy=>h y (List.mem_cons_of_mem _ hy)) ?_;rw [iJ,h x List.mem_cons_self,h0];simp
theorem wC {x:En}:∀ {l:List En} {t:List It},QL l→(∀ y∈l,y.p≠[])→x∈l→aW (eR t l) x.p=if x.k == 2 then none else some x.n
 | [],_,_,_,h=>by cases h
 | y::l,t,hs,hn,hx=>by
  obtain ⟨h1,h2⟩:=List.pairwise_cons.1 hs;rw [jU];rcases List.mem_cons.1 hx with rfl|hx
  ·rw [zC fun z hz=>⟨lC (h1 z hz),?_⟩,iJ,beq_self_eq_true,if_pos rfl];cases hb:aM z.p x.p
   ·rfl
   ·have:=WN (hn z (List.mem_cons_of_mem _ hz)) hb;rw [gJ (h1 z hz)] at this;cases this
  ·exact wC h2 (fun z hz=>hn z (List.mem_cons_of_mem _ hz)) hx
theorem zG {p:List UInt8} {e:En}:∀ {l:List En} {t:List It},(∀ x∈l,(p == x.p)=false)→e∈l→aM e.p p=true→(e.o || gP e)=true→aW (eR t l) p=none
 | [],_,_,h,_,_=>by cases h
 | y::l,t,h,he,hb,hs=>by
  rw [jU];rcases List.mem_cons.1 he with rfl|he
  ·refine zD (fun x hx=>h x (List.mem_cons_of_mem _ hx)) ?_;have hc:lQ t e=true:=by
    unfold lQ;rw [← Bool.or_assoc,hs,Bool.true_or]
   rw [iJ,h e List.mem_cons_self,hc,hb];rfl
  ·exact zG (fun x hx=>h x (List.mem_cons_of_mem _ hx)) he hb hs
theorem zF {p:List UInt8}:∀ {l:List En} {t:List It},(∀ x∈l,x.p≠[]∧(p == x.p)=false∧(aM x.p p=true→(x.o || gP x)=false))→(∀ q,(aW t p).isSome=true→aM q p=true→q≠[]→aU t q=true)→aW (eR t l) p=aW t p
 | [],_,_,_=>rfl
 | x::l,t,h,hc=>by
  obtain ⟨h0,h1,h2⟩:=h x List.mem_cons_self;have hcov:aM x.p p=true→(aW t p).isSome=true→lQ t x=false:=fun hb hs=>by
   have h3:=h2 hb;rw [Bool.or_eq_false_iff] at h3;unfold lQ;rw [h3.1,h3.2,hc x.p hs hb h0];rfl
  have he:aW (jI t x) p=aW t p:=by
   rw [iJ,h1];cases hb:aM x.p p
   ·simp
   ·cases hs:aW t p with
    | none=>simp
    | some n=>rw [hcov hb (by rw [hs];rfl)];simp
  rw [jU,zF (fun y hy=>h y (List.mem_cons_of_mem _ hy)) ?_,he];intro q hs hb hq;rw [he] at hs;obtain ⟨m,hm,hk⟩:=cG hq (hc q hs hb hq);cases hqx:q == x.p
  ·refine eO (m:=m) ?_ hk;rw [iJ,hqx];cases hbx:aM x.p q
   ·simpa using hm
   ·rw [hcov (tX h0 hbx hb) hs];simpa using hm
  ·have e:=eq_of_beq hqx;rw [e] at hb;have h3:=h2 hb;rw [Bool.or_eq_false_iff] at h3;have h4:=h3.2;unfold gP at h4;rw [Bool.or_eq_false_iff] at h4;refine eO (m:=x.n) ?_ (by simpa using h4.2);rw [iJ,hqx,if_pos rfl,h4.1];rfl
theorem DH:∀ {l:List En},QL l→∀ x∈l,∀ y∈l,x.p=y.p→x=y
 | [],_,x,hx,_,_,_=>by cases hx
 | z::l,h,x,hx,y,hy,e=>by
  obtain ⟨h1,h2⟩:=List.pairwise_cons.1 h;rcases List.mem_cons.1 hx with e1|g1 <;> rcases List.mem_cons.1 hy with e2|g2
  ·rw [e1,e2]
  ·have:=lC (h1 y g2);rw [← e1,e] at this;simp at this
  ·have:=lC (h1 x g1);rw [← e2,e] at this;simp at this
  ·exact DH h2 x g1 y g2 e
theorem zAd {l:List En} (h:QL l) {x:En} (hx:x∈l):gS l x.p=some x:=by
 cases hf:gS l x.p with
 | none=>exact absurd (beq_self_eq_true x.p) (by simpa using List.find?_eq_none.1 hf x hx)
 | some y =>
  have h1:=eq_of_beq (List.find?_some (p:=fun z:En=>z.p == x.p) hf);rw [DH h y (List.mem_of_find?_eq_some hf) x hx h1]
theorem rE {l:List En} {p:List UInt8} {x:En} (h:gS l p=some x):x∈l∧x.p=p:=⟨List.mem_of_find?_eq_some h,eq_of_beq (List.find?_some (p:=fun z:En=>z.p == p) h)⟩
theorem FQ {l:List En} {p:List UInt8} (h:gS l p=none):∀ x∈l,(p == x.p)=false:=fun x hx=>by
 have h1:=List.find?_eq_none.1 h x hx;cases hp:p == x.p
 ·rfl
 ·rw [eq_of_beq hp] at h1;simp at h1
theorem zHg {l:List En} (hs:QL l) (hn:∀ x∈l,x.p≠[]):∀ (n:Nat) (q:List UInt8),q.length≤n→(shF l n q=true↔∃ e∈l,(e.p=q∨aM e.p q=true)∧(e.o || gP e)=true):=by
 have h00:¬ ∃ e∈l,(e.p=[]∨aM e.p []=true)∧(e.o || gP e)=true:=by
  rintro ⟨e,he,h|h,_⟩
  ·exact hn e he h
  ·rw [tC (hn e he)] at h;cases h
 intro n
 induction n with
 | zero =>
  intro q hl;have h1:q=[]:=by simpa using hl
  subst h1;exact ⟨fun h=>(by simp [shF] at h),fun h=>absurd h h00⟩
 | succ n ih =>
  intro q hl;by_cases h0:q=[]
  ·subst h0;exact ⟨fun h=>(by rw [zHh] at h;cases h),fun h=>absurd h h00⟩
  ·have hdl:(aP q).length≤n:=by
    by_cases h:aP q=[]
    ·rw [h];exact Nat.zero_le _
    ·have:=pI h;omega
   have hsh:∀ e:En,(e.k == 2 || (e.o || e.n.k != 2))=(e.o || gP e):=fun e=>by
    unfold gP;cases e.k == 2 <;> cases e.o <;> rfl
   rw [zEM h0];split
   ·rename_i hc;refine ⟨fun _=>?_,fun _=>rfl⟩;cases he:gS l q with
    | none=>rw [he] at hc;cases hc
    | some e =>
     rw [he,Option.getD_some,hsh] at hc;obtain ⟨h1,h2⟩:=rE he;exact ⟨e,h1,.inl h2,by simpa using hc⟩
   ·rename_i hc;rw [ih _ hdl];constructor
    ·rintro ⟨e,he,h1,h2⟩;refine ⟨e,he,.inr ?_,h2⟩;refine dN (hn e he) (fun hd=>?_) (h1.imp Eq.symm id);rw [hd] at h1;exact h00 ⟨e,he,h1,h2⟩
    ·rintro ⟨e,he,h1,h2⟩;rcases h1 with h1|h1
     ·rw [← h1,zAd hs he,Option.getD_some,hsh,h2] at hc;exact absurd rfl hc
     ·exact ⟨e,he,(gW (hn e he) h1).imp Eq.symm id,h2⟩
theorem qJ {l:List En} (hs:QL l) (hn:∀ x∈l,x.p≠[]) (p:List UInt8):zBU l p=true↔∃ e∈l,aM e.p p=true∧(e.o || gP e)=true:=by
 unfold zBU;rw [zHg hs hn _ _ (XT p)];constructor
 ·rintro ⟨e,he,h1,h2⟩;refine ⟨e,he,dN (hn e he) (fun hd=>?_) (h1.imp Eq.symm id),h2⟩;rw [hd] at h1;rcases h1 with h1|h1
  ·exact hn e he h1
  ·rw [tC (hn e he)] at h1;cases h1
 ·rintro ⟨e,he,h1,h2⟩;exact ⟨e,he,(gW (hn e he) h1).imp Eq.symm id,h2⟩
theorem zBk {t:List It} {l:List En} (hp:Par t) (hs:QL l) (hn:∀ x∈l,x.p≠[]) (p:List UInt8):
  aW (eR t l) p=match gS l p with
   | some e=>if e.k == 2 then none else some e.n
   | none=>if zBU l p then none else aW t p:=by
 cases he:gS l p with
 | some e =>
  obtain ⟨h1,rfl⟩:=rE he;exact wC hs hn h1
 | none =>
  have hno:=FQ he;cases hsh:zBU l p
  ·refine zF (fun x hx=>⟨hn x hx,hno x hx,fun hb=>?_⟩) fun q h1 h2 h3=>?_
   ·cases h:(x.o || gP x)
    ·rfl
    ·rw [(qJ hs hn p).2 ⟨x,hx,hb,h⟩] at hsh;cases hsh
   ·obtain ⟨m,h4,h5⟩:=pU hp h3 _ _ (Nat.le_refl _) h1 h2;exact eO h4 (by simpa using h5)
  ·obtain ⟨e,h1,h2,h3⟩:=(qJ hs hn p).1 hsh;exact zG hno h1 h2 h3
theorem OkE.ne {l:List En} (h:OkE l):∀ x∈l,x.p≠[]:=fun x hx e=>by
 have:=h.may x hx;unfold zFz at this;rw [e] at this;cases this
theorem TU {x y:Nd} (hx:aV x=true) (hxt:x.t<18446744073709551616) (hy:aV y=true) (hyt:y.t<18446744073709551616) (h:iS x y=true):x=y:=by
 have e1:=(iO hx hxt).2;have e2:=(iO hy hyt).2;simp only [iS,Bool.and_eq_true,beq_iff_eq] at h;obtain ⟨⟨⟨h1,h2⟩,h3⟩,h4⟩:=h;rw [e1,e2] at h4;cases x;cases y;simp only at h1 h2 h3 h4;subst h1;subst h2;subst h3;subst h4;rfl
theorem EO {w:List It} {os:List (List UInt8)}:∀ (n:Nat) (q:List UInt8),zCx w os n q=true→∃ a,a≠[]∧(q=a∨aM a q=true)∧(!(aW w a).isSome || (((aW w a).getD nd0).k != 2 || isB os a))=true
 | 0,_,h=>by cases h
 | n+1,q,h=>by
  by_cases h0:q=[]
  ·rw [h0,NQ] at h;cases h
  ·rw [uH h0] at h;split at h
   ·rename_i hc;exact ⟨q,h0,.inl rfl,hc⟩
   ·obtain ⟨a,h1,h2,h3⟩:=EO n _ h;refine ⟨a,h1,.inr (dN h1 (fun hd=>?_) h2),h3⟩;rw [hd] at h2;rcases h2 with h2|h2
    ·exact h1 h2.symm
    ·rw [tC h1] at h2;cases h2
theorem XH {w:List It} {os:List (List UInt8)} {p:List UInt8} (h:DO w os p=true):∃ a,a≠[]∧aM a p=true∧(!(aW w a).isSome || (((aW w a).getD nd0).k != 2 || isB os a))=true:=by
 obtain ⟨a,h1,h2,h3⟩:=EO _ _ h;refine ⟨a,h1,dN h1 (fun hd=>?_) h2,h3⟩;rw [hd] at h2;rcases h2 with h2|h2
 ·exact h1 h2.symm
 ·rw [tC h1] at h2;cases h2
theorem CU {t:List It} {os:List (List UInt8)} {w:List It} {x:It} (hx:x∈w) {e:En} (he:e∈MC t os x):e∈gO t os w:=List.mem_flatMap.2 ⟨x,hx,he⟩
theorem NR {t w:List It} (ht:OkT t) (hw:OkT w):∀ (n:Nat) (p:List UInt8),p.length≤n→(aW t p).isSome=true→DO w (iI t w) p=true→∃ e∈fR t w,aM e.p p=true∧(e.o || gP e)=true
 | 0,p,hl,_,hc=>by
  have h1:p=[]:=by simpa using hl
  subst h1;cases hc
 | n+1,p,hl,hs,hc=>by
  obtain ⟨_,hm⟩:=kT ht hw;obtain ⟨a,h1,h2,h3⟩:=XH hc;obtain ⟨m,h4,h5⟩:=pU ht.par h1 _ _ (Nat.le_refl _) hs h2;cases hg:aW w a with
  | none =>
   cases hca:DO w (iI t w) a
   ·obtain ⟨y,hy,rfl,_⟩:=cD h4;exact ⟨jH y.p,(hm _).2 (.inr ⟨y,hy,rfl,by rw [hg];rfl,hca⟩),h2,rfl⟩
   ·have:=EB h1 h2;obtain ⟨e,h6,h7,h8⟩:=NR ht hw n a (by omega) (by rw [h4];rfl) hca;exact ⟨e,h6,tX ((LR ht hw).ne e h6) h7 h2,h8⟩
  | some k =>
   obtain ⟨x,hx,rfl,rfl⟩:=cD hg;rw [hg,Option.getD_some,Option.isSome_some,Bool.not_true,Bool.false_or] at h3;cases hi:isB (iI t w) x.p
   ·rw [hi,Bool.or_false] at h3;refine ⟨⟨x.p,1,false,x.n⟩,(hm _).2 (.inl (CU hx ?_)),h2,?_⟩
    ·unfold MC;rw [hi,if_neg (by decide),h4,Option.getD_some];have:iS m x.n=false:=by
      unfold iS;have:(m.k == x.n.k)=false:=by
       cases hq:m.k == x.n.k
       ·rfl
       ·rw [← eq_of_beq hq,bne,h5] at h3;cases h3
      rw [this];rfl
     rw [this];exact List.mem_singleton.2 rfl
    ·unfold gP;rw [h3];rfl
   ·refine ⟨⟨x.p,1,true,x.n⟩,(hm _).2 (.inl (CU hx ?_)),h2,rfl⟩;unfold MC;rw [hi,if_pos rfl];exact List.mem_singleton.2 rfl
theorem zEe {t w:List It} (ht:OkT t) (hw:OkT w) (p:List UInt8):aW (eR t (fR t w)) p=aW w p:=by
 obtain ⟨hs,hm⟩:=kT ht hw;have hok:=LR ht hw;have hn:=hok.ne;rw [zBk ht.par hs hn];cases he:gS (fR t w) p with
 | some e =>
  obtain ⟨h1,rfl⟩:=rE he;rcases (hm e).1 h1 with h|⟨y,hy,rfl,h3,_⟩
  ·obtain ⟨x,hx,rfl⟩:=iL h;exact (cP hw.srt hx).symm
  ·show none=aW w y.p;cases hg:aW w y.p with
   | none=>rfl
   | some n=>rw [hg] at h3;cases h3
 | none =>
  have hno:=FQ he;have hput:∀ x∈w,x.p=p→isB (iI t w) p=false∧∃ m,aW t p=some m∧iS m x.n=true:=fun x hx hp=>by
   subst hp;cases hi:isB (iI t w) x.p
   ·refine ⟨rfl,?_⟩;cases hc:(!(aW t x.p).isSome || !iS ((aW t x.p).getD nd0) x.n)
    ·cases hg:aW t x.p with
     | none=>rw [hg] at hc;cases hc
     | some m =>
      rw [hg,Option.getD_some] at hc;exact ⟨m,rfl,by simpa using hc⟩
    ·have:=hno ⟨x.p,1,false,x.n⟩ ((hm _).2 (.inl (CU hx (by
      unfold MC;rw [hi,if_neg (by decide),hc];exact List.mem_singleton.2 rfl))))
     simp at this
   ·have:=hno ⟨x.p,1,true,x.n⟩ ((hm _).2 (.inl (CU hx (by
     unfold MC;rw [hi,if_pos rfl];exact List.mem_singleton.2 rfl))))
    simp at this
  cases hsh:zBU (fR t w) p
  ·show aW t p=aW w p;cases hg:aW w p with
   | some n =>
    obtain ⟨x,hx,rfl,rfl⟩:=cD hg;obtain ⟨_,m,h1,h2⟩:=hput x hx rfl;obtain ⟨y,hy,_,rfl⟩:=cD h1;rw [h1,TU (ht.its y hy).2.2.1 (ht.its y hy).2.2.2 (hw.its x hx).2.2.1 (hw.its x hx).2.2.2 h2]
   | none =>
    cases hgt:aW t p with
    | none=>rfl
    | some n =>
     exfalso;obtain ⟨y,hy,rfl,_⟩:=cD hgt;cases hc:DO w (iI t w) y.p
     ·have:=hno (jH y.p) ((hm _).2 (.inr ⟨y,hy,rfl,by rw [hg];rfl,hc⟩))
      rw [show (jH y.p).p=y.p from rfl] at this
      simp at this
     ·obtain ⟨e,h1,h2,h3⟩:=NR ht hw _ _ (Nat.le_refl _) (by rw [hgt];rfl) hc;rw [(qJ hs hn _).2 ⟨e,h1,h2,h3⟩] at hsh;cases hsh
  ·show none=aW w p;cases hg:aW w p with
   | none=>rfl
   | some n =>
    exfalso;obtain ⟨e,h1,h2,h3⟩:=(qJ hs hn p).1 hsh;obtain ⟨m,h4,h5⟩:=pU hw.par (hn e h1) _ _ (Nat.le_refl _) (by rw [hg];rfl) h2;rcases (hm e).1 h1 with h|⟨y,hy,rfl,h6,_⟩
    ·obtain ⟨x,hx,rfl⟩:=iL h;rw [show (En.mk x.p 1 (isB (iI t w) x.p) x.n).p=x.p from rfl,cP hw.srt hx] at h4
     have h4:=Option.some.inj h4;have hsf:gP ⟨x.p,1,isB (iI t w) x.p,x.n⟩=false:=by
      unfold gP;simp only [h4,bne,h5];rfl
     rw [hsf,Bool.or_false] at h3;have hb:=CN hw hx h3;unfold zBe at hb;simp only [Bool.and_eq_true,Bool.not_eq_true'] at hb;have hst:=hb.2;obtain ⟨v,hv,rfl,rfl⟩:=cD hg;obtain ⟨_,k,h7,_⟩:=hput v hv rfl;obtain ⟨z,hz,hzp,_⟩:=cD h7;have:JJ t w x.p=true:=List.any_eq_true.2 ⟨z,hz,by rw [hzp,hg];exact h2⟩
     rw [this] at hst;cases hst
    ·rw [show (jH y.p).p=y.p from rfl] at h4
     rw [h4] at h6;cases h6
theorem zHq {s t:List It} (hs:Srt s) (ht:Srt t) (h:∀ p,aW s p=aW t p):s=t:=by
 have key:∀ {a b:List It},Srt a→(∀ p,aW a p=aW b p)→∀ x,x∈a→x∈b:=fun ha he x hx=>by
  have h1:=cP ha hx;rw [he] at h1;obtain ⟨y,hy,h2,h3⟩:=cD h1;have:y=x:=by cases y;cases x;simp only at h2 h3;subst h2;subst h3;rfl
  rw [← this];exact hy
 exact AG hs ht fun x=>⟨key hs h x,key ht (fun p=>(h p).symm) x⟩
theorem zBj {t w:List It} (ht:OkT t) (hw:OkT w):oF t (fR t w)=(w,true):=by
 have e:eR t (fR t w)=w:=zHq (wE ht.srt) hw.srt (zEe ht hw);unfold oF;rw [e,zBH hw,if_pos rfl]
theorem yO {l:List En}:∀ {ls:List (List En)} {t:List It},lV t (ls++[l])=if (lV t ls).2 then (if (oF (lV t ls).1 l).2 then ((oF (lV t ls).1 l).1,true) else ([],false)) else ([],false)
 | [],_=>rfl
 | x::r,t=>by
  rw [List.cons_append,lV,lV];cases (oF t x).2
  ·rfl
  ·exact yO
end Go.Dm
end
