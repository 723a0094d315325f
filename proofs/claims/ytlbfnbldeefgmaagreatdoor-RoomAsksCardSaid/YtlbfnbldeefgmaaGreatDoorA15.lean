/- Part 16 of the proof of roomAsks_card, set without needless blanks. No condition. -/
import Derived.Test.YtlbfnbldeefgmaaGreatDoorA14
set_option linter.all false
section
namespace Go.Dm
open Go
theorem rR {t:List It} {b:List UInt8} (h:Par t) (hb:b≠[]):∀ (n:Nat) (q:List UInt8),q.length≤n→(aQ t q).isSome=true→aP b q=true→∃ m,aQ t b=some m∧(m.k == 2)=true
 | 0,q,hl,_,hq=>by
  have h1:q=[]:=by simpa using hl
  subst h1;have h2:=dO hq;have:b=[]:=by simpa using h2
  exact absurd this hb
 | n+1,q,hl,hs,hq=>by
  obtain ⟨m,hm⟩:=Option.isSome_iff_exists.1 hs;obtain ⟨x,hx,rfl,_⟩:=bZ hm;have hdx:=h x hx;rcases iF hb hq with h1|h1
  ·rw [h1] at hdx;obtain ⟨m,h2,h3⟩:=cN hb hdx;exact ⟨m,h2,by first|exact h3|simpa using h3⟩
  ·have h0:aR x.p≠[]:=by
    intro h0;rw [h0] at h1;have:=dO h1;have:b=[]:=by simpa using this
    exact absurd this hb
   obtain ⟨m,h2,_⟩:=cN h0 hdx;have hlt:=qY h0;exact rR h hb n _ (by omega) (by rw [h2];rfl) h1
theorem JF {w:List It} {os:List (List UInt8)} {a:List UInt8} (ha:a≠[]):∀ (n:Nat) (q:List UInt8),q.length≤n→zFc w os n q=false→(q=a∨aP a q=true)→(∃ m,aQ w a=some m∧(m.k == 2)=true)∧isB os a=false
 | 0,q,hl,_,hq=>by
  have h1:q=[]:=by simpa using hl
  subst h1;rcases hq with hq|hq
  ·exact absurd hq.symm ha
  ·have h2:=dO hq;have:a=[]:=by simpa using h2
   exact absurd this ha
 | n+1,q,hl,hc,hq=>by
  by_cases h0:q=[]
  ·subst h0;rcases hq with hq|hq
   ·exact absurd hq.symm ha
   ·have h2:=dO hq;have:a=[]:=by simpa using h2
    exact absurd this ha
  ·rw [xD h0] at hc;split at hc
   ·cases hc
   ·rename_i h1;simp only [Bool.not_eq_true,Bool.or_eq_false_iff] at h1;obtain ⟨h2,h3,h4⟩:=h1;rcases hq with rfl|hq
    ·refine ⟨?_,h4⟩;cases hg:aQ w q with
     | none=>rw [hg] at h2;simp at h2
     | some m=>rw [hg] at h3;exact ⟨m,rfl,by simpa using h3⟩
    ·have hdl:(aR q).length≤n:=by
      by_cases h:aR q=[]
      ·rw [h];exact Nat.zero_le _
      ·have:=qY h;omega
     exact JF ha n _ hdl hc (iF ha hq)
theorem zBt {w:List It} {os:List (List UInt8)} {a p:List UInt8} (ha:a≠[]) (hc:HM w os p=false) (hb:aP a p=true):(∃ m,aQ w a=some m∧(m.k == 2)=true)∧isB os a=false :=
 JF ha _ _ (zBG p) hc (iF ha hb)
theorem jA {t:List It} {os:List (List UInt8)} {w:List It} {e:En} (h:e∈gX t os w):∃ x∈w,e=⟨x.p,1,isB os x.p,x.n⟩:=by
 unfold gX at h;obtain ⟨x,hx,h⟩:=List.mem_flatMap.1 h;refine ⟨x,hx,?_⟩;unfold RY at h;split at h
 ·rename_i h1;rw [List.mem_singleton.1 h,h1]
 ·rename_i h1;split at h
  ·rw [List.mem_singleton.1 h];simp only [Bool.not_eq_true] at h1;rw [h1]
  ·simp at h
def XM (l:List En):Prop:=l.Pairwise fun x y=>bL x.p y.p=true
theorem KG (y:En) (l:List En) (e:En):zFd (y::l) e=if bL y.p e.p then y::zFd l e else e::y::l:=by
 unfold zFd zMw;rw [List.takeWhile_cons];split <;> simp
theorem VN (e:En):zFd [] e=[e]:=rfl
theorem EX {l:List En} {e x:En}:x∈zFd l e↔x∈l∨x=e:=by
 induction l with
 | nil=>simp [VN]
 | cons y l ih =>
  rw [KG];split
  ·rw [List.mem_cons,ih,List.mem_cons,or_assoc]
  ·simp only [List.mem_cons];constructor
   ·rintro (h|h|h)
    ·exact .inr h
    ·exact .inl (.inl h)
    ·exact .inl (.inr h)
   ·rintro ((h|h)|h)
    ·exact .inr (.inl h)
    ·exact .inr (.inr h)
    ·exact .inl h
theorem zGo {l:List En} {e:En} (h:XM l) (hn:∀ x∈l,x.p≠e.p):XM (zFd l e):=by
 induction l with
 | nil=>rw [VN];exact List.pairwise_singleton _ _
 | cons y l ih =>
  obtain ⟨h1,h2⟩:=List.pairwise_cons.1 h;rw [KG];split
  ·rename_i hb;refine List.pairwise_cons.2 ⟨fun x hx=>?_,ih h2 fun x hx=>hn x (List.mem_cons_of_mem _ hx)⟩;rcases EX.1 hx with hx|rfl
   ·exact h1 x hx
   ·exact hb
  ·rename_i hb;have hlt:bL e.p y.p=true:=by
    cases hc:bL e.p y.p
    ·exact absurd (dV (by simpa using hb) hc) (hn y List.mem_cons_self)
    ·rfl
   refine List.pairwise_cons.2 ⟨fun x hx=>?_,h⟩;rcases List.mem_cons.1 hx with rfl|hx
   ·exact hlt
   ·exact cC hlt (h1 x hx)
theorem MF {t:List It} {os:List (List UInt8)} {w:List It} (h:Srt w):XM (gX t os w):=by
 induction w with
 | nil=>exact List.Pairwise.nil
 | cons x w ih =>
  obtain ⟨h1,h2⟩:=List.pairwise_cons.1 h;have e:gX t os (x::w)=RY t os x++gX t os w:=by unfold gX;rw [List.flatMap_cons]
  rw [e];have hl:∀ y∈RY t os x,y.p=x.p:=fun y hy=>by
   have:y∈gX t os [x]:=by unfold gX;simpa using hy
   obtain ⟨z,hz,e⟩:=jA this;rw [List.mem_singleton.1 hz] at e;rw [e]
  refine List.pairwise_append.2 ⟨?_,ih h2,fun y hy z hz=>?_⟩
  ·unfold RY;split
   ·exact List.pairwise_singleton _ _
   ·split
    ·exact List.pairwise_singleton _ _
    ·exact List.Pairwise.nil
  ·obtain ⟨v,hv,e⟩:=jA hz;rw [hl y hy,e];exact h1 v hv
theorem FF {w:List It} {os:List (List UInt8)}:∀ {r:List It} {out:List En},Srt r→XM out→(∀ e∈out,∀ y∈r,(aQ w y.p).isSome=false→e.p≠y.p) →
  XM (r.foldl (KT w os) out)∧∀ e,e∈r.foldl (KT w os) out↔e∈out∨∃ y∈r,e=kI y.p∧(aQ w y.p).isSome=false∧HM w os y.p=false
 | [],out,_,h,_=>⟨h,fun e=>by simp⟩
 | y::r,out,hr,h,hn=>by
  obtain ⟨h1,h2⟩:=List.pairwise_cons.1 hr;rw [List.foldl_cons];unfold KT;split
  ·rename_i hc;obtain ⟨h3,h4⟩:=FF (w:=w) (os:=os) h2 h fun e he z hz=>hn e he z (List.mem_cons_of_mem _ hz);refine ⟨h3,fun e=>(h4 e).trans ?_⟩;constructor
   ·rintro (h|⟨z,hz,h⟩)
    ·exact .inl h
    ·exact .inr ⟨z,List.mem_cons_of_mem _ hz,h⟩
   ·rintro (h|⟨z,hz,h,h5,h6⟩)
    ·exact .inl h
    ·rcases List.mem_cons.1 hz with rfl|hz
     ·rw [h5,h6] at hc;cases hc
     ·exact .inr ⟨z,hz,h,h5,h6⟩
  ·rename_i hc;simp only [Bool.not_eq_true,Bool.or_eq_false_iff] at hc;have hs:=zGo (e:=kI y.p) h fun x hx=>hn x hx y List.mem_cons_self hc.1;obtain ⟨h3,h4⟩:=FF (w:=w) (os:=os) (out:=zFd out (kI y.p)) h2 hs fun e he z hz hg=>by
    rcases EX.1 he with he|rfl
    ·exact hn e he z (List.mem_cons_of_mem _ hz) hg
    ·intro e2;have:=h1 z hz;rw [show (kI y.p).p=y.p from rfl] at e2
     rw [e2,cM] at this;cases this
   refine ⟨h3,fun e=>(h4 e).trans ?_⟩;rw [EX];constructor
   ·rintro ((h|h)|⟨z,hz,h⟩)
    ·exact .inl h
    ·exact .inr ⟨y,List.mem_cons_self,h,hc⟩
    ·exact .inr ⟨z,List.mem_cons_of_mem _ hz,h⟩
   ·rintro (h|⟨z,hz,h⟩)
    ·exact .inl (.inl h)
    ·rcases List.mem_cons.1 hz with rfl|hz
     ·exact .inl (.inr h.1)
     ·exact .inr ⟨z,hz,h⟩
theorem KU (w:List It) (os:List (List UInt8)):∀ (r:List It) (out:List En),(r.foldl (KT w os) out).length≤out.length+r.length
 | [],out=>Nat.le_refl _
 | y::r,out=>by
  have h1:=zCV w os out y;have h2:=KU w os r (KT w os out y);rw [List.foldl_cons,List.length_cons];omega
theorem QU {w:List It} {p:List UInt8} (h:(aQ w p).isSome=false):∀ x∈w,Srt w→x.p≠p:=fun x hx hs e=>by
 rw [← e,cI hs hx] at h;cases h
theorem lT {t w:List It} (ht:OkT t) (hw:OkT w):XM (fX t w)∧∀ e,e∈fX t w↔e∈gX t (iX t w) w∨∃ y∈t,e=kI y.p∧(aQ w y.p).isSome=false∧HM w (iX t w) y.p=false :=
 FF ht.srt (MF hw.srt) fun e he y _ hg=>by
  obtain ⟨x,hx,rfl⟩:=jA he;exact QU hg x hx hw.srt
theorem GH {t w:List It} (hw:OkT w) {x:It} (hx:x∈w) (h:isB (iX t w) x.p=true):zDO t w x=true:=by
 unfold isB iX at h;rw [List.any_eq_true] at h;obtain ⟨q,hq,e⟩:=h;obtain ⟨z,hz,rfl⟩:=List.mem_map.1 hq;obtain ⟨hz,hb⟩:=List.mem_filter.1 hz;have e:=eq_of_beq e;have h1:=cI hw.srt hz;have h2:=cI hw.srt hx;rw [e,h2] at h1;have hn:x.n=z.n:=Option.some.inj h1;have:x=z:=by cases x;cases z;simp only at e hn;subst e;subst hn;rfl
 rw [this];exact hb
theorem RO {t w:List It} (ht:OkT t) (hw:OkT w):OkE (fX t w):=by
 obtain ⟨hs,hm⟩:=lT ht hw;have hc:∀ e∈fX t w,(∃ x∈w,e=⟨x.p,1,isB (iX t w) x.p,x.n⟩)∨∃ y∈t,e=kI y.p∧(aQ w y.p).isSome=false∧HM w (iX t w) y.p=false:=fun e he=>by
  rcases (hm e).1 he with h|h
  ·exact .inl (jA h)
  ·exact .inr h
 refine ⟨fun e he=>?_,hs,List.pairwise_iff_getElem.2 fun i j hi hj _=>?_,fun e he=>?_,?_⟩
 ·rcases hc e he with ⟨x,hx,rfl⟩|⟨y,hy,rfl,_⟩
  ·obtain ⟨h1,h2,h3,_⟩:=hw.its x hx;have h1:(x.p == [])=false:=by simpa using h1
   simp only [zIo,h1,h2,h3,Bool.not_false,Bool.true_and,show ((1:Int) == 2)=false from rfl,show ((1:Int) == 1)=true from rfl,Bool.false_eq_true,if_false]
   cases ho:isB (iX t w) x.p
   ·rfl
   ·have:=GH hw hx ho;unfold zDO at this;simp only [Bool.and_eq_true] at this;rw [this.1.1];rfl
  ·obtain ⟨h1,h2,_⟩:=ht.its y hy;have h1:(y.p == [])=false:=by simpa using h1
   simp only [zIo,kI,h1,h2];rfl
 ·have hy:=hc _ (List.getElem_mem hi);have hx:=hc _ (List.getElem_mem hj);generalize (fX t w)[i]=y at hy;generalize (fX t w)[j]=x at hx;cases hsh:gZ y
  ·rfl
  ·cases hb:aP y.p x.p
   ·rfl
   ·exfalso;have hyp:y.p≠[]:=by
     rcases hy with ⟨v,hv,rfl⟩|⟨v,hv,rfl,_⟩
     ·exact hw.ne v hv
     ·exact ht.ne v hv
    have hdir:∃ m,aQ w y.p=some m∧(m.k == 2)=true:=by
     rcases hx with ⟨v,hv,rfl⟩|⟨v,hv,rfl,_,h6⟩
     ·exact rR hw.par hyp _ _ (Nat.le_refl _) (by rw [cI hw.srt hv];rfl) hb
     ·exact (zBt hyp h6 hb).1
    obtain ⟨m,h1,h2⟩:=hdir;rcases hy with ⟨v,hv,rfl⟩|⟨v,hv,rfl,h5,_⟩
    ·rw [show (En.mk v.p 1 (isB (iX t w) v.p) v.n).p=v.p from rfl,cI hw.srt hv] at h1
     have h1:=Option.some.inj h1;unfold gZ at hsh;simp only [h1,bne,h2] at hsh;cases hsh
    ·rw [show (kI v.p).p=v.p from rfl] at h1
     rw [h1] at h5;cases h5
 ·rcases hc e he with ⟨x,hx,rfl⟩|⟨y,hy,rfl,_⟩
  ·exact hw.tlen x hx
  ·show (0:Nat)<18446744073709551616;decide
 ·have h1:=KU w (iX t w) t (gX t (iX t w) w);have h2:=rU t (iX t w) w;have h3:=ht.len;have h4:=hw.len;unfold fX;omega
end Go.Dm
end
section
namespace Go.Dm
open Go
def DY:En:=⟨[],0,false,nd0⟩
def En.cv (x:En):List CV:=[.p (.s x.p),.p (.i .i64 x.k),.p (.b x.o),.p (.i .i64 x.n.k),.p (.i .i64 x.n.m),.p (.f x.n.t),.p (.sl 1 (bO x.n.d))]
def iA (l:List En) (p:List UInt8):Option En:=l.find? fun x=>x.p == p
def shF (l:List En):Nat→List UInt8→Bool
 | 0,_=>false
 | n+1,q=>if q == [] then false else if ((iA l q).isSome && (((iA l q).getD DY).k == 2 || (((iA l q).getD DY).o || ((iA l q).getD DY).n.k != 2))) then true else shF l n (aR q)
def zEw (l:List En) (p:List UInt8):Bool:=shF l p.length (aR p)
theorem zHv {l:List En} {n:Nat} {q:List UInt8} (h:q≠[]):shF l (n+1) q=if ((iA l q).isSome && (((iA l q).getD DY).k == 2 || (((iA l q).getD DY).o || ((iA l q).getD DY).n.k != 2))) then true else shF l n (aR q):=by
 rw [shF,if_neg (by simpa using h)]
theorem zJ7 {l:List En}:∀ n:Nat,shF l n []=false
 | 0=>rfl
 | n+1=>by rw [shF];simp
end Go.Dm
end
section
namespace Go.Dm
open Go
def zJi (l:List (List RI)):List (List PV):=l.map fun x=>[.sl 6 (encI x)]
def zJl (l:List (List RU)):List (List PV):=l.map fun x=>[.sl 8 (zLp x)]
def QO (l:List (List It)):List (List PV):=l.map fun x=>[.sl 5 (aU x)]
theorem zCg (l:List (List RI)):(zJi l).length=l.length:=by simp [zJi]
theorem zCD (l:List (List RU)):(zJl l).length=l.length:=by simp [zJl]
theorem zCA (l:List (List It)):(QO l).length=l.length:=by simp [QO]
theorem zCh (t:List (List RI)):(∀ x∈zJi t,x.length=1)=True:=eq_true fun x hx=>by
 obtain ⟨y,_,rfl⟩:=List.mem_map.1 hx;rfl
theorem zCE (t:List (List RU)):(∀ x∈zJl t,x.length=1)=True:=eq_true fun x hx=>by
 obtain ⟨y,_,rfl⟩:=List.mem_map.1 hx;rfl
theorem zCC (t:List (List It)):(∀ x∈QO t,x.length=1)=True:=eq_true fun x hx=>by
 obtain ⟨y,_,rfl⟩:=List.mem_map.1 hx;rfl
theorem YV (t:List (List It)) (l:List It):QO t++[[.sl 5 (aU l)]]=QO (t++[l]):=by simp [QO]
theorem zCB:QO []=[]:=rfl
attribute [go_sem] zCg zCD zCA zCh zCE zCC YV zCB
end Go.Dm
end
section
namespace Go.Dm
open Go
theorem BW (t:List It) (x:En) (p:List UInt8):aQ (mN t x) p=if ((p == x.p) || (mW t x && aP x.p p)) then none else aQ t p:=by
 have:=fK (fun q=>!((q == x.p) || (mW t x && aP x.p q))) p t;unfold mN goE;rw [this];cases ((p == x.p) || (mW t x && aP x.p p)) <;> rfl
theorem iY (t:List It) (x:En) (p:List UInt8):aQ (kJ t x) p=if p == x.p then (if x.k == 2 then none else some x.n) else if mW t x && aP x.p p then none else aQ t p:=by
 unfold kJ;split
 ·rw [BW];cases p == x.p <;> simp
 ·rw [nE,BW];cases p == x.p <;> simp
theorem zBb {a p:List UInt8} (ha:a≠[]) (h:aP a p=true):bL a p=true:=by
 obtain ⟨r,rfl⟩:=fY ha h;exact zBg a 47 r
theorem wQ {a b c:List UInt8} (ha:a≠[]) (h:aP a b=true) (k:aP b c=true):aP a c=true:=by
 obtain ⟨r,rfl⟩:=fY ha h;obtain ⟨s,rfl⟩:=fY (by simp) k;rw [List.append_assoc,List.cons_append];exact jS ha
theorem HU {a p:List UInt8} (ha:a≠[]) (h:aP a p=true):a.length<p.length:=by
 obtain ⟨r,rfl⟩:=fY ha h;simp
theorem vS {a:List UInt8} (ha:a≠[]):aP a []=false:=by
 cases h:aP a []
 ·rfl
 ·have:=HU ha h;simp at this
theorem kY (t:List It) (x:En) (l:List En):eX t (x::l)=eX (kJ t x) l:=rfl
theorem CK {p:List UInt8}:∀ {l:List En} {t:List It},(∀ x∈l,(p == x.p)=false∧aP x.p p=false)→aQ (eX t l) p=aQ t p
 | [],_,_=>rfl
 | x::l,t,h=>by
  obtain ⟨h1,h2⟩:=h x List.mem_cons_self;rw [kY,CK fun y hy=>h y (List.mem_cons_of_mem _ hy),iY,h1,h2,Bool.and_false];rfl
theorem CL {p:List UInt8}:∀ {l:List En} {t:List It},(∀ x∈l,(p == x.p)=false)→aQ t p=none→aQ (eX t l) p=none
 | [],_,_,h=>h
 | x::l,t,h,h0=>by
  rw [kY];refine CL (fun y hy=>h y (List.mem_cons_of_mem _ hy)) ?_;rw [iY,h x List.mem_cons_self,h0];simp
theorem yU {x:En}:∀ {l:List En} {t:List It},XM l→(∀ y∈l,y.p≠[])→x∈l→aQ (eX t l) x.p=if x.k == 2 then none else some x.n
 | [],_,_,_,h=>by cases h
 | y::l,t,hs,hn,hx=>by
  obtain ⟨h1,h2⟩:=List.pairwise_cons.1 hs;rw [kY];rcases List.mem_cons.1 hx with rfl|hx
  ·rw [CK fun z hz=>⟨jT (h1 z hz),?_⟩,iY,beq_self_eq_true,if_pos rfl];cases hb:aP z.p x.p
   ·rfl
   ·have:=zBb (hn z (List.mem_cons_of_mem _ hz)) hb;rw [eH (h1 z hz)] at this;cases this
  ·exact yU h2 (fun z hz=>hn z (List.mem_cons_of_mem _ hz)) hx
theorem CN {p:List UInt8} {e:En}:∀ {l:List En} {t:List It},(∀ x∈l,(p == x.p)=false)→e∈l→aP e.p p=true→(e.o || gZ e)=true→aQ (eX t l) p=none
 | [],_,_,h,_,_=>by cases h
 | y::l,t,h,he,hb,hs=>by
  rw [kY];rcases List.mem_cons.1 he with rfl|he
  ·refine CL (fun x hx=>h x (List.mem_cons_of_mem _ hx)) ?_;have hc:mW t e=true:=by
    unfold mW;rw [← Bool.or_assoc,hs,Bool.true_or]
   rw [iY,h e List.mem_cons_self,hc,hb];rfl
  ·exact CN (fun x hx=>h x (List.mem_cons_of_mem _ hx)) he hb hs
theorem CM {p:List UInt8}:∀ {l:List En} {t:List It},(∀ x∈l,x.p≠[]∧(p == x.p)=false∧(aP x.p p=true→(x.o || gZ x)=false))→(∀ q,(aQ t p).isSome=true→aP q p=true→q≠[]→aV t q=true)→aQ (eX t l) p=aQ t p
 | [],_,_,_=>rfl
 | x::l,t,h,hc=>by
  obtain ⟨h0,h1,h2⟩:=h x List.mem_cons_self;have hcov:aP x.p p=true→(aQ t p).isSome=true→mW t x=false:=fun hb hs=>by
   have h3:=h2 hb;rw [Bool.or_eq_false_iff] at h3;unfold mW;rw [h3.1,h3.2,hc x.p hs hb h0];rfl
  have he:aQ (kJ t x) p=aQ t p:=by
   rw [iY,h1];cases hb:aP x.p p
   ·simp
   ·cases hs:aQ t p with
    | none=>simp
    | some n=>rw [hcov hb (by rw [hs];rfl)];simp
  rw [kY,CM (fun y hy=>h y (List.mem_cons_of_mem _ hy)) ?_,he];intro q hs hb hq;rw [he] at hs;obtain ⟨m,hm,hk⟩:=cN hq (hc q hs hb hq);cases hqx:q == x.p
  ·refine eU (m:=m) ?_ hk;rw [iY,hqx];cases hbx:aP x.p q
   ·simpa using hm
   ·rw [hcov (wQ h0 hbx hb) hs];simpa using hm
  ·have e:=eq_of_beq hqx;rw [e] at hb;have h3:=h2 hb;rw [Bool.or_eq_false_iff] at h3;have h4:=h3.2;unfold gZ at h4;rw [Bool.or_eq_false_iff] at h4;refine eU (m:=x.n) ?_ (by simpa using h4.2);rw [iY,hqx,if_pos rfl,h4.1];rfl
theorem HD:∀ {l:List En},XM l→∀ x∈l,∀ y∈l,x.p=y.p→x=y
 | [],_,x,hx,_,_,_=>by cases hx
 | z::l,h,x,hx,y,hy,e=>by
  obtain ⟨h1,h2⟩:=List.pairwise_cons.1 h;rcases List.mem_cons.1 hx with e1|g1 <;> rcases List.mem_cons.1 hy with e2|g2
  ·rw [e1,e2]
  ·have:=jT (h1 y g2);rw [← e1,e] at this;simp at this
  ·have:=jT (h1 x g1);rw [← e2,e] at this;simp at this
  ·exact HD h2 x g1 y g2 e
theorem zCF {l:List En} (h:XM l) {x:En} (hx:x∈l):iA l x.p=some x:=by
 cases hf:iA l x.p with
 | none=>exact absurd (beq_self_eq_true x.p) (by simpa using List.find?_eq_none.1 hf x hx)
 | some y =>
  have h1:=eq_of_beq (List.find?_some (p:=fun z:En=>z.p == x.p) hf);rw [HD h y (List.mem_of_find?_eq_some hf) x hx h1]
theorem tI {l:List En} {p:List UInt8} {x:En} (h:iA l p=some x):x∈l∧x.p=p:=⟨List.mem_of_find?_eq_some h,eq_of_beq (List.find?_some (p:=fun z:En=>z.p == p) h)⟩
theorem KH {l:List En} {p:List UInt8} (h:iA l p=none):∀ x∈l,(p == x.p)=false:=fun x hx=>by
 have h1:=List.find?_eq_none.1 h x hx;cases hp:p == x.p
 ·rfl
 ·rw [eq_of_beq hp] at h1;simp at h1
theorem zJ6 {l:List En} (hs:XM l) (hn:∀ x∈l,x.p≠[]):∀ (n:Nat) (q:List UInt8),q.length≤n→(shF l n q=true↔∃ e∈l,(e.p=q∨aP e.p q=true)∧(e.o || gZ e)=true):=by
 have h00:¬ ∃ e∈l,(e.p=[]∨aP e.p []=true)∧(e.o || gZ e)=true:=by
  rintro ⟨e,he,h|h,_⟩
  ·exact hn e he h
  ·rw [vS (hn e he)] at h;cases h
 intro n
 induction n with
 | zero =>
  intro q hl;have h1:q=[]:=by simpa using hl
  subst h1;exact ⟨fun h=>(by simp [shF] at h),fun h=>absurd h h00⟩
 | succ n ih =>
  intro q hl;by_cases h0:q=[]
  ·subst h0;exact ⟨fun h=>(by rw [zJ7] at h;cases h),fun h=>absurd h h00⟩
  ·have hdl:(aR q).length≤n:=by
    by_cases h:aR q=[]
    ·rw [h];exact Nat.zero_le _
    ·have:=qY h;omega
   have hsh:∀ e:En,(e.k == 2 || (e.o || e.n.k != 2))=(e.o || gZ e):=fun e=>by
    unfold gZ;cases e.k == 2 <;> cases e.o <;> rfl
   rw [zHv h0];split
   ·rename_i hc;refine ⟨fun _=>?_,fun _=>rfl⟩;cases he:iA l q with
    | none=>rw [he] at hc;cases hc
    | some e =>
     rw [he,Option.getD_some,hsh] at hc;obtain ⟨h1,h2⟩:=tI he;exact ⟨e,h1,.inl h2,by simpa using hc⟩
   ·rename_i hc;rw [ih _ hdl];constructor
    ·rintro ⟨e,he,h1,h2⟩;refine ⟨e,he,.inr ?_,h2⟩;refine dP (hn e he) (fun hd=>?_) (h1.imp Eq.symm id);rw [hd] at h1;exact h00 ⟨e,he,h1,h2⟩
    ·rintro ⟨e,he,h1,h2⟩;rcases h1 with h1|h1
     ·rw [← h1,zCF hs he,Option.getD_some,hsh,h2] at hc;exact absurd rfl hc
     ·exact ⟨e,he,(iF (hn e he) h1).imp Eq.symm id,h2⟩
theorem sH {l:List En} (hs:XM l) (hn:∀ x∈l,x.p≠[]) (p:List UInt8):zEw l p=true↔∃ e∈l,aP e.p p=true∧(e.o || gZ e)=true:=by
 unfold zEw;rw [zJ6 hs hn _ _ (zBG p)];constructor
 ·rintro ⟨e,he,h1,h2⟩;refine ⟨e,he,dP (hn e he) (fun hd=>?_) (h1.imp Eq.symm id),h2⟩;rw [hd] at h1;rcases h1 with h1|h1
  ·exact hn e he h1
  ·rw [vS (hn e he)] at h1;cases h1
 ·rintro ⟨e,he,h1,h2⟩;exact ⟨e,he,(iF (hn e he) h1).imp Eq.symm id,h2⟩
theorem zDU {t:List It} {l:List En} (hp:Par t) (hs:XM l) (hn:∀ x∈l,x.p≠[]) (p:List UInt8):
  aQ (eX t l) p=match iA l p with
   | some e=>if e.k == 2 then none else some e.n
   | none=>if zEw l p then none else aQ t p:=by
 cases he:iA l p with
 | some e =>
  obtain ⟨h1,rfl⟩:=tI he;exact yU hs hn h1
 | none =>
  have hno:=KH he;cases hsh:zEw l p
  ·refine CM (fun x hx=>⟨hn x hx,hno x hx,fun hb=>?_⟩) fun q h1 h2 h3=>?_
   ·cases h:(x.o || gZ x)
    ·rfl
    ·rw [(sH hs hn p).2 ⟨x,hx,hb,h⟩] at hsh;cases hsh
   ·obtain ⟨m,h4,h5⟩:=rR hp h3 _ _ (Nat.le_refl _) h1 h2;exact eU h4 (by simpa using h5)
  ·obtain ⟨e,h1,h2,h3⟩:=(sH hs hn p).1 hsh;exact CN hno h1 h2 h3
theorem OkE.ne {l:List En} (h:OkE l):∀ x∈l,x.p≠[]:=fun x hx e=>by
 have:=h.may x hx;unfold zIo at this;rw [e] at this;cases this
theorem zAr {x y:Nd} (hx:aS x=true) (hxt:x.t<18446744073709551616) (hy:aS y=true) (hyt:y.t<18446744073709551616) (h:gE x y=true):x=y:=by
 have e1:=(jE hx hxt).2;have e2:=(jE hy hyt).2;simp only [gE,Bool.and_eq_true,beq_iff_eq] at h;obtain ⟨⟨⟨h1,h2⟩,h3⟩,h4⟩:=h;rw [e1,e2] at h4;cases x;cases y;simp only at h1 h2 h3 h4;subst h1;subst h2;subst h3;subst h4;rfl
theorem JE {w:List It} {os:List (List UInt8)}:∀ (n:Nat) (q:List UInt8),zFc w os n q=true→∃ a,a≠[]∧(q=a∨aP a q=true)∧(!(aQ w a).isSome || (((aQ w a).getD nd0).k != 2 || isB os a))=true
 | 0,_,h=>by cases h
 | n+1,q,h=>by
  by_cases h0:q=[]
  ·rw [h0,TZ] at h;cases h
  ·rw [xD h0] at h;split at h
   ·rename_i hc;exact ⟨q,h0,.inl rfl,hc⟩
   ·obtain ⟨a,h1,h2,h3⟩:=JE n _ h;refine ⟨a,h1,.inr (dP h1 (fun hd=>?_) h2),h3⟩;rw [hd] at h2;rcases h2 with h2|h2
    ·exact h1 h2.symm
    ·rw [vS h1] at h2;cases h2
theorem zBs {w:List It} {os:List (List UInt8)} {p:List UInt8} (h:HM w os p=true):∃ a,a≠[]∧aP a p=true∧(!(aQ w a).isSome || (((aQ w a).getD nd0).k != 2 || isB os a))=true:=by
 obtain ⟨a,h1,h2,h3⟩:=JE _ _ h;refine ⟨a,h1,dP h1 (fun hd=>?_) h2,h3⟩;rw [hd] at h2;rcases h2 with h2|h2
 ·exact h1 h2.symm
 ·rw [vS h1] at h2;cases h2
theorem GP {t:List It} {os:List (List UInt8)} {w:List It} {x:It} (hx:x∈w) {e:En} (he:e∈RY t os x):e∈gX t os w:=List.mem_flatMap.2 ⟨x,hx,he⟩
theorem VA {t w:List It} (ht:OkT t) (hw:OkT w):∀ (n:Nat) (p:List UInt8),p.length≤n→(aQ t p).isSome=true→HM w (iX t w) p=true→∃ e∈fX t w,aP e.p p=true∧(e.o || gZ e)=true
 | 0,p,hl,_,hc=>by
  have h1:p=[]:=by simpa using hl
  subst h1;cases hc
 | n+1,p,hl,hs,hc=>by
  obtain ⟨_,hm⟩:=lT ht hw;obtain ⟨a,h1,h2,h3⟩:=zBs hc;obtain ⟨m,h4,h5⟩:=rR ht.par h1 _ _ (Nat.le_refl _) hs h2;cases hg:aQ w a with
  | none =>
   cases hca:HM w (iX t w) a
   ·obtain ⟨y,hy,rfl,_⟩:=bZ h4;exact ⟨kI y.p,(hm _).2 (.inr ⟨y,hy,rfl,by rw [hg];rfl,hca⟩),h2,rfl⟩
   ·have:=HU h1 h2;obtain ⟨e,h6,h7,h8⟩:=VA ht hw n a (by omega) (by rw [h4];rfl) hca;exact ⟨e,h6,wQ ((RO ht hw).ne e h6) h7 h2,h8⟩
  | some k =>
   obtain ⟨x,hx,rfl,rfl⟩:=bZ hg;rw [hg,Option.getD_some,Option.isSome_some,Bool.not_true,Bool.false_or] at h3;cases hi:isB (iX t w) x.p
   ·rw [hi,Bool.or_false] at h3;refine ⟨⟨x.p,1,false,x.n⟩,(hm _).2 (.inl (GP hx ?_)),h2,?_⟩
    ·unfold RY;rw [hi,if_neg (by decide),h4,Option.getD_some];have:gE m x.n=false:=by
      unfold gE;have:(m.k == x.n.k)=false:=by
       cases hq:m.k == x.n.k
       ·rfl
       ·rw [← eq_of_beq hq,bne,h5] at h3;cases h3
      rw [this];rfl
     rw [this];exact List.mem_singleton.2 rfl
    ·unfold gZ;rw [h3];rfl
   ·refine ⟨⟨x.p,1,true,x.n⟩,(hm _).2 (.inl (GP hx ?_)),h2,rfl⟩;unfold RY;rw [hi,if_pos rfl];exact List.mem_singleton.2 rfl
theorem zGU {t w:List It} (ht:OkT t) (hw:OkT w) (p:List UInt8):aQ (eX t (fX t w)) p=aQ w p:=by
 obtain ⟨hs,hm⟩:=lT ht hw;have hok:=RO ht hw;have hn:=hok.ne;rw [zDU ht.par hs hn];cases he:iA (fX t w) p with
 | some e =>
  obtain ⟨h1,rfl⟩:=tI he;rcases (hm e).1 h1 with h|⟨y,hy,rfl,h3,_⟩
  ·obtain ⟨x,hx,rfl⟩:=jA h;exact (cI hw.srt hx).symm
  ·show none=aQ w y.p;cases hg:aQ w y.p with
   | none=>rfl
   | some n=>rw [hg] at h3;cases h3
 | none =>
  have hno:=KH he;have hput:∀ x∈w,x.p=p→isB (iX t w) p=false∧∃ m,aQ t p=some m∧gE m x.n=true:=fun x hx hp=>by
   subst hp;cases hi:isB (iX t w) x.p
   ·refine ⟨rfl,?_⟩;cases hc:(!(aQ t x.p).isSome || !gE ((aQ t x.p).getD nd0) x.n)
    ·cases hg:aQ t x.p with
     | none=>rw [hg] at hc;cases hc
     | some m =>
      rw [hg,Option.getD_some] at hc;exact ⟨m,rfl,by simpa using hc⟩
    ·have:=hno ⟨x.p,1,false,x.n⟩ ((hm _).2 (.inl (GP hx (by
      unfold RY;rw [hi,if_neg (by decide),hc];exact List.mem_singleton.2 rfl))))
     simp at this
   ·have:=hno ⟨x.p,1,true,x.n⟩ ((hm _).2 (.inl (GP hx (by
     unfold RY;rw [hi,if_pos rfl];exact List.mem_singleton.2 rfl))))
    simp at this
  cases hsh:zEw (fX t w) p
  ·show aQ t p=aQ w p;cases hg:aQ w p with
   | some n =>
    obtain ⟨x,hx,rfl,rfl⟩:=bZ hg;obtain ⟨_,m,h1,h2⟩:=hput x hx rfl;obtain ⟨y,hy,_,rfl⟩:=bZ h1;rw [h1,zAr (ht.its y hy).2.2.1 (ht.its y hy).2.2.2 (hw.its x hx).2.2.1 (hw.its x hx).2.2.2 h2]
   | none =>
    cases hgt:aQ t p with
    | none=>rfl
    | some n =>
     exfalso;obtain ⟨y,hy,rfl,_⟩:=bZ hgt;cases hc:HM w (iX t w) y.p
     ·have:=hno (kI y.p) ((hm _).2 (.inr ⟨y,hy,rfl,by rw [hg];rfl,hc⟩))
      rw [show (kI y.p).p=y.p from rfl] at this
      simp at this
     ·obtain ⟨e,h1,h2,h3⟩:=VA ht hw _ _ (Nat.le_refl _) (by rw [hgt];rfl) hc;rw [(sH hs hn _).2 ⟨e,h1,h2,h3⟩] at hsh;cases hsh
  ·show none=aQ w p;cases hg:aQ w p with
   | none=>rfl
   | some n =>
    exfalso;obtain ⟨e,h1,h2,h3⟩:=(sH hs hn p).1 hsh;obtain ⟨m,h4,h5⟩:=rR hw.par (hn e h1) _ _ (Nat.le_refl _) (by rw [hg];rfl) h2;rcases (hm e).1 h1 with h|⟨y,hy,rfl,h6,_⟩
    ·obtain ⟨x,hx,rfl⟩:=jA h;rw [show (En.mk x.p 1 (isB (iX t w) x.p) x.n).p=x.p from rfl,cI hw.srt hx] at h4
     have h4:=Option.some.inj h4;have hsf:gZ ⟨x.p,1,isB (iX t w) x.p,x.n⟩=false:=by
      unfold gZ;simp only [h4,bne,h5];rfl
     rw [hsf,Bool.or_false] at h3;have hb:=GH hw hx h3;unfold zDO at hb;simp only [Bool.and_eq_true,Bool.not_eq_true'] at hb;have hst:=hb.2;obtain ⟨v,hv,rfl,rfl⟩:=bZ hg;obtain ⟨_,k,h7,_⟩:=hput v hv rfl;obtain ⟨z,hz,hzp,_⟩:=bZ h7;have:NS t w x.p=true:=List.any_eq_true.2 ⟨z,hz,by rw [hzp,hg];exact h2⟩
     rw [this] at hst;cases hst
    ·rw [show (kI y.p).p=y.p from rfl] at h4
     rw [h4] at h6;cases h6
theorem zKi {s t:List It} (hs:Srt s) (ht:Srt t) (h:∀ p,aQ s p=aQ t p):s=t:=by
 have key:∀ {a b:List It},Srt a→(∀ p,aQ a p=aQ b p)→∀ x,x∈a→x∈b:=fun ha he x hx=>by
  have h1:=cI ha hx;rw [he] at h1;obtain ⟨y,hy,h2,h3⟩:=bZ h1;have:y=x:=by cases y;cases x;simp only at h2 h3;subst h2;subst h3;rfl
  rw [← this];exact hy
 exact uG hs ht fun x=>⟨key hs h x,key ht (fun p=>(h p).symm) x⟩
theorem zDT {t w:List It} (ht:OkT t) (hw:OkT w):pV t (fX t w)=(w,true):=by
 have e:eX t (fX t w)=w:=zKi (yW ht.srt) hw.srt (zGU ht hw);unfold pV;rw [e,MS hw,if_pos rfl]
theorem BT {l:List En}:∀ {ls:List (List En)} {t:List It},nD t (ls++[l])=if (nD t ls).2 then (if (pV (nD t ls).1 l).2 then ((pV (nD t ls).1 l).1,true) else ([],false)) else ([],false)
 | [],_=>rfl
 | x::r,t=>by
  rw [List.cons_append,nD,nD];cases (pV t x).2
  ·rfl
  ·exact BT
end Go.Dm
end
