/- Part 25 of the proof of roomKnown_card. No condition. -/
import Derived.Test.YtbpblnmhlhpebaaGreatDoorB23
set_option linter.all false
namespace Go.Dm
open Go
section
def zLc (d:List UInt8) (hops:Nat):Int:=if decide (8≤hops) then 11 else (fG d).2
def zLh (d:List UInt8) (hops:Nat) (c:List UInt8):List UInt8:=if decide (8≤hops) then c else if (fG d).2 == 0 then (if GC d then [] else c) else c
def zLf (d:List UInt8) (hops:Nat) (ps:List (List UInt8)):List (List UInt8):=if decide (8≤hops) then ps else if (fG d).2 == 0 then (fG d).1++ps else ps
def tJ (t:List It) (fo:Bool) (c s:List UInt8) (ps:List (List UInt8)) (hops:Nat):(Bool × Int) × (List UInt8 × List (List UInt8) × Nat) :=
 if !aY t c then ((false,9),(c,ps,hops)) else if decide ((120:Int)<(jL c s).length) then ((false,12),(c,ps,hops))
 else match aQ t (jL c s) with
 | none=>if ps == [] then ((false,0),(jL c s,ps,hops)) else ((false,6),(c,ps,hops))
 | some n=>if n.k == 3 && (!(ps == []) || fo) then ((true,zLc n.d hops),(zLh n.d hops c,zLf n.d hops ps,hops+1)) else ((true,0),(jL c s,ps,hops))
theorem tP {s:List UInt8}:(fG s).1.length≤121:=by
 unfold fG
 split
 ·simp
 ·split
  ·simp
  ·split
   ·rename_i h _ _
    have h:¬ (120:Int)<s.length:=by simpa using h
    refine Nat.le_trans (List.length_filter_le ..) (Nat.le_trans (rF s []) ?_)
    omega
   ·simp
theorem CJ {s:List UInt8}:∀ p∈(fG s).1,p.length≤120:=by
 intro p hp
 unfold fG at hp
 split at hp
 ·simp at hp
 ·rename_i h
  split at hp
  ·simp at hp
  ·split at hp
   ·have:=wA s [] p (List.mem_filter.1 hp).1
    have h:¬ (120:Int)<s.length:=by simpa using h
    simp at this;omega
   ·simp at hp
structure WI (t:List It) (fo:Bool) (W:List UInt8 × Bool × Int) (f:Nat) (c:List UInt8) (ps:List (List UInt8)) (hops:Nat) (there:Bool) (e:Int):Prop where
 cl:c.length≤120
 pl:∀ p∈ps,p.length≤120
 fl:f≤1400
 hl:hops≤9
 go:e=0→hops≤8∧(9-hops)*130+ps.length<f∧(ps≠[]→there=true∧lN t fo f c ps hops=W)∧(ps=[]→W=(c,there,0))
 no:e≠0→W=([],false,e)
theorem KA (c:List UInt8):(aR c).length≤c.length:=by
 by_cases h:aR c=[]
 ·rw [h];simp
 ·exact Nat.le_of_lt (rY h)
section
variable {t:List It} {fo:Bool} {W:List UInt8 × Bool × Int} {f:Nat} {c p:List UInt8} {ps:List (List UInt8)} {hops:Nat} {there:Bool}
theorem WI.next {c':List UInt8} (h:WI t fo W (f+1) c (p::ps) hops there 0) (hc:c'.length≤120) (hw:lN t fo (f+1) c (p::ps) hops=lN t fo f c' ps hops):WI t fo W f c' ps hops true 0:=by
 obtain ⟨h1,h2,h3,_⟩:=h.go rfl
 obtain ⟨ht,hW⟩:=h3 (by simp)
 rw [hw] at hW
 have hfl:=h.fl
 simp only [List.length_cons] at h2
 refine ⟨hc,fun q hq=>h.pl q (List.mem_cons_of_mem _ hq),by omega,by omega,fun _=>⟨h1,by omega,fun _=>⟨rfl,hW⟩,fun h0=>?_⟩,fun h0=>absurd rfl h0⟩
 subst h0
 obtain ⟨k,rfl⟩:∃ k,f=k+1:=⟨f-1,by omega⟩
 rw [← hW];rfl
theorem WI.there_true (h:WI t fo W f c (p::ps) hops there 0):there=true:=((h.go rfl).2.2.1 (by simp)).1
theorem WI.dot (h:WI t fo W (f+1) c (p::ps) hops there 0) (hp:(p == [46])=true):WI t fo W f c ps hops there 0:=by
 rw [h.there_true]
 exact h.next h.cl (by simp only [lN,hp,if_true])
theorem WI.dots (h:WI t fo W (f+1) c (p::ps) hops there 0) (hp:(p == [46])=false) (hq:(p == [46,46])=true):WI t fo W f (aR c) ps hops there 0:=by
 rw [h.there_true]
 exact h.next (Nat.le_trans (KA c) h.cl) (by simp only [lN,hp,hq,if_true,Bool.false_eq_true,if_false])
theorem WI.down (h:WI t fo W (f+1) c (p::ps) hops there 0) (hp:(p == [46])=false) (hq:(p == [46,46])=false):
  WI t fo W f (tJ t fo c p ps hops).2.1 (tJ t fo c p ps hops).2.2.1 (tJ t fo c p ps hops).2.2.2 (tJ t fo c p ps hops).1.1 (tJ t fo c p ps hops).1.2:=by
 obtain ⟨h1,h2,h3,_⟩:=h.go rfl
 obtain ⟨ht,hW⟩:=h3 (by simp)
 have hfl:=h.fl
 simp only [List.length_cons] at h2
 have hpl:∀ q∈ps,q.length≤120:=fun q hq=>h.pl q (List.mem_cons_of_mem _ hq)
 have fell:∀ {e:Int} {c':List UInt8} {ps':List (List UInt8)} {h':Nat} {th:Bool},e≠0→W=([],false,e)→c'.length≤120→(∀ q∈ps',q.length≤120)→h'≤9→WI t fo W f c' ps' h' th e :=
  fun he hw a b g=>⟨a,b,by omega,g,fun h0=>absurd h0 he,fun _=>hw⟩
 simp only [lN,hp,hq,Bool.false_eq_true,if_false] at hW
 unfold tJ
 split
 ·rename_i hd
  rw [if_pos hd] at hW
  show WI t fo W f c ps hops false 9
  exact fell (by decide) hW.symm h.cl hpl (by omega)
 ·rename_i hd
  rw [if_neg hd] at hW
  split
  ·rename_i hl
   rw [if_pos hl] at hW
   show WI t fo W f c ps hops false 12
   exact fell (by decide) hW.symm h.cl hpl (by omega)
  ·rename_i hl
   rw [if_neg hl] at hW
   have hjl:(jL c p).length≤120:=by simp only [decide_eq_true_eq] at hl;omega
   cases hg:aQ t (jL c p) with
   | none =>
    rw [hg] at hW
    simp only at hW ⊢
    split
    ·rename_i hps
     rw [if_pos hps] at hW
     have hps:=eq_of_beq hps
     subst hps
     simp only
     exact ⟨hjl,hpl,by omega,by omega,fun _=>⟨h1,by simp only [List.length_nil] at h2 ⊢;omega,fun h0=>absurd rfl h0,fun _=>hW.symm⟩,fun h0=>absurd rfl h0⟩
    ·rename_i hps
     rw [if_neg hps] at hW
     show WI t fo W f c ps hops false 6
     exact fell (by decide) hW.symm h.cl hpl (by omega)
   | some n =>
    rw [hg] at hW
    simp only at hW ⊢
    split
    ·rename_i hlk
     rw [if_pos hlk] at hW
     unfold zLc zLh zLf
     simp only at hW ⊢
     split
     ·rename_i h8
      rw [if_pos h8] at hW
      exact fell (by decide) hW.symm h.cl hpl (by omega)
     ·rename_i h8
      rw [if_neg h8] at hW
      simp only [decide_eq_true_eq] at h8
      have hsl:=tP (s:=n.d)
      have hsm:=CJ (s:=n.d)
      cases he:((fG n.d).2 == 0)
      ·rw [he] at hW
       simp only [Bool.false_eq_true,if_false] at hW ⊢
       exact fell (by simpa using he) hW.symm h.cl hpl (by omega)
      ·rw [he] at hW
       simp only [if_true] at hW ⊢
       have he:=eq_of_beq he
       rw [he]
       refine ⟨by split;simp;exact h.cl,fun q hq=>?_,by omega,by omega,fun _=>⟨by omega,by rw [List.length_append];omega,fun _=>⟨rfl,hW⟩,fun h0=>?_⟩,fun h0=>absurd rfl h0⟩
       ·rcases List.mem_append.1 hq with hq|hq
        ·exact hsm q hq
        ·exact hpl q hq
       ·rw [h0] at hW
        obtain ⟨k,rfl⟩:∃ k,f=k+1:=⟨f-1,by omega⟩
        rw [← hW];rfl
    ·rename_i hlk
     rw [if_neg hlk] at hW
     simp only
     refine ⟨hjl,hpl,by omega,by omega,fun _=>⟨h1,by omega,fun _=>⟨rfl,hW⟩,fun h0=>?_⟩,fun h0=>absurd rfl h0⟩
     subst h0
     obtain ⟨k,rfl⟩:∃ k,f=k+1:=⟨f-1,by omega⟩
     rw [← hW];rfl
end
theorem mZ {t:List It} {fo:Bool}:∀ (f:Nat) (c:List UInt8) (ps:List (List UInt8)) (hops:Nat),c.length≤120→(lN t fo f c ps hops).1.length≤120
 | 0,_,_,_,_=>by simp [lN]
 | _+1,_,[],_,h=>h
 | f+1,c,p::ps,hops,h=>by
  simp only [lN]
  split
  ·exact mZ f _ _ _ h
  ·split
   ·exact mZ f _ _ _ (Nat.le_trans (KA c) h)
   ·split
    ·simp
    ·split
     ·simp
     ·rename_i hl
      have hjl:(jL c p).length≤120:=by simp only [decide_eq_true_eq] at hl;omega
      split
      ·split
       ·exact hjl
       ·simp
      ·split
       ·split
        ·simp
        ·split
         ·refine mZ f _ _ _ ?_
          split
          ·simp
          ·exact h
         ·simp
       ·exact mZ f _ _ _ hjl
theorem HH {t:List It} {s:List UInt8} {fo:Bool}:(cM t s fo).1.length≤120:=by
 unfold cM
 split
 ·exact mZ _ _ _ _ (by simp)
 ·simp
end
section
structure RC where
 k:Int
 p:Int
 to':Int
 m:Int
 t:Int
 at':Int
 n:Int
 how:Int
 x:Nat
 d:List UInt8
 s:List UInt8
def RC.cs (x:RC):List PV:=[.i .i64 x.k,.i .i64 x.p,.i .i64 x.to',.i .i64 x.m,.i .i64 x.t,.i .i64 x.at',.i .i64 x.n,.i .i64 x.how,.f x.x,.sl 1 (cB x.d),.s x.s]
def zJ3 (l:List RC):List (List PV):=l.map RC.cs
theorem zAJ (l:List RC):(zJ3 l).length=l.length:=by simp [zJ3]
attribute [go_sem] zAJ
structure OkC (c:Cl):Prop where
 p:c.p.length≤9223372036854775807
 q:c.to'.length≤9223372036854775807
 t:c.t<18446744073709551616
 d:c.d.length≤140737488355328
 a:-9223372036854775808≤c.at'∧c.at'≤9223372036854775807
end
section
def NU (x:List It × Int):Prop:=x.2=0→OkT x.1
theorem SF {c:Prop} [Decidable c] {a b:List It × Int} (ha:c→NU a) (hb:¬ c→NU b):NU (if c then a else b):=by
 split
 ·exact ha (by assumption)
 ·exact hb (by assumption)
theorem PN {l:List It} {e:Int} (h:e≠0):NU (l,e):=fun he=>absurd he h
theorem zGw {l:List It} {e:Int} (h:(!(e == 0))=true):NU (l,e):=PN (by simpa using h)
section
attribute [local irreducible] uK nE vE
theorem zGn {t:List It} (h:OkT t) {p:List UInt8} {is:Bool} {kind:Int} {c:Cl} (hc:c.t<18446744073709551616):NU (vE t p is kind c):=by
 unfold vE
 repeat' refine SF (fun _=>?_) fun _=>?_
 all_goals first
  | (exact PN (by decide))
  | exact fun he=>h.put (show dD c.t<_ from rN hc) he
theorem zAI {t:List It} (h:OkT t) {p:List UInt8} {is:Bool} {n:Nd} {c:Cl} (hn:n.t<18446744073709551616) (hc:c.t<18446744073709551616):NU (cC t p is n c):=by
 have hb:dD c.t<18446744073709551616:=rN hc
 unfold cC zN zG5 qG wM zT
 repeat' refine SF (fun _=>?_) fun _=>?_
 all_goals first
  | exact zGn h hc
  | (exact PN (by decide))
  | (exact zGw (by assumption))
  | exact fun _=>h
  | exact fun _=>h.remove _
  | exact fun he=>h.put hb he
  | exact fun he=>h.put (show n.t<_ from hn) he
  | exact fun he=>(h.remove _).move he
end
theorem zKG {t:List It} (h:OkT t) {c:Cl} (hc:c.t<18446744073709551616):OkT (doP t c).1:=by
 unfold doP
 split
 ·exact h
 ·split
  ·exact h
  ·split
   ·exact h
   ·split
    ·rename_i h4
     refine zAI h ?_ hc (eq_of_beq h4)
     unfold nodeAt
     split
     ·exact Nat.zero_lt_succ _
     ·exact h.gett _
    ·exact h
theorem zIQ {t:List It} {c:Cl} (h:lH c.k=false):(doP t c).1=t:=by
 unfold doP
 rw [h]
 simp only [Bool.not_false,if_true]
 split
 ·rfl
 ·split <;> rfl
theorem QP {t:List It} (h:OkT t):gJ t t=true:=xD fun x hx=>h.tlen x hx
end
end Go.Dm
namespace Go.Dm
open Go Go.Sort Go.Proofs
section
structure Cf where
 p:List UInt8
 k:Int
deriving DecidableEq
structure Pr where
 a:List UInt8
 b:List UInt8
deriving DecidableEq
def Cf.cs (x:Cf):List PV:=[.s x.p,.i .i64 x.k]
def Pr.cs (x:Pr):List PV:=[.s x.a,.s x.b]
def fS (l:List Cf):List (List PV):=l.map Cf.cs
theorem wH (t:List Cf):(fS t).length=t.length:=by simp [fS]
theorem zGc:fS []=[]:=rfl
theorem zFT (a b:List Cf):fS a++fS b=fS (a++b):=by simp [fS]
theorem zAF (a:List Cf) (n:Nat):(fS a).take n=fS (a.take n):=by simp [fS]
theorem zAG (a:List Cf) (n:Nat):(fS a).drop n=fS (a.drop n):=by simp [fS]
theorem zJn {t:List Cf} {k:Nat} {x:Cf} (h:t[k]? = some x):(fS t).getD k []=[.s x.p,.i .i64 x.k]:=by
 simp only [fS,List.getD_eq_getElem?_getD,List.getElem?_map,h]
 rfl
theorem zEo (t:List Cf):(∀ x∈fS t,x.length=2)=True:=eq_true fun x hx=>by
 simp only [fS,List.mem_map] at hx
 obtain ⟨y,_,rfl⟩:=hx
 rfl
theorem zDe (t:List Cf) (p:List UInt8) (k:Int):fS t++[[.s p,.i .i64 k]]=fS (t++[⟨p,k⟩]):=by simp [fS,Cf.cs]
attribute [go_sem] wH zGc zFT zAF zAG zEo zDe
def qD (l:List Pr):List (List PV):=l.map Pr.cs
theorem zEv (t:List Pr):(qD t).length=t.length:=by simp [qD]
theorem zE9:qD []=[]:=rfl
theorem zFK (a b:List Pr):qD a++qD b=qD (a++b):=by simp [qD]
theorem zBe (a:List Pr) (n:Nat):(qD a).take n=qD (a.take n):=by simp [qD]
theorem zDh (a:List Pr) (n:Nat):(qD a).drop n=qD (a.drop n):=by simp [qD]
theorem PX {t:List Pr} {k:Nat} {x:Pr} (h:t[k]? = some x):(qD t).getD k []=[.s x.a,.s x.b]:=by
 simp only [qD,List.getD_eq_getElem?_getD,List.getElem?_map,h]
 rfl
theorem zEe (t:List Pr):(∀ x∈qD t,x.length=2)=True:=eq_true fun x hx=>by
 simp only [qD,List.mem_map] at hx
 obtain ⟨y,_,rfl⟩:=hx
 rfl
theorem zCf (t:List Pr) (a b:List UInt8):qD t++[[.s a,.s b]]=qD (t++[⟨a,b⟩]):=by simp [qD,Pr.cs]
attribute [go_sem] zEv zE9 zFK zBe zDh zEe zCf
def ltC (x y:Cf):Bool:=bL x.p y.p || (x.p == y.p && decide (x.k<y.k))
def leC (x y:Cf):Bool:=!ltC y x
def tR (l:List Cf):List Cf:=l.mergeSort leC
def zLg:List PV→Cf
 | [.s p,.i _ k]=>⟨p,k⟩
 | _=>⟨[],0⟩
def ltV (x y:List PV):Bool:=ltC (zLg x) (zLg y)
theorem VM (x:Cf):ltC x x=false:=by simp [ltC,bY]
theorem KC {x y z:Cf} (h:ltC x y=true) (k:ltC y z=true):ltC x z=true:=by
 simp only [ltC,Bool.or_eq_true,Bool.and_eq_true,beq_iff_eq,decide_eq_true_eq] at *
 rcases h with h|⟨h1,h2⟩ <;> rcases k with k|⟨k1,k2⟩
 ·exact .inl (cF h k)
 ·rw [← k1];exact .inl h
 ·rw [h1];exact .inl k
 ·exact .inr ⟨h1.trans k1,by omega⟩
theorem zAZ {x y:Cf} (h:ltC x y=false) (k:ltC y x=false):x=y:=by
 simp only [ltC,Bool.or_eq_false_iff,Bool.and_eq_false_iff,beq_eq_false_iff_ne,decide_eq_false_iff_not] at *
 have e:=dX h.1 k.1
 have h2:¬ x.k<y.k:=h.2.resolve_left (fun n=>n e)
 have k2:¬ y.k<x.k:=k.2.resolve_left (fun n=>n e.symm)
 cases x;cases y
 simp only at *
 subst e
 congr 1
 omega
theorem QK:SWO ltC where
 irrefl:=VM
 trans _ _ _:=KC
 ntrans x y z h k:=by
  cases e:ltC x z with
  | false=>rfl
  | true =>
   cases f:ltC y x with
   | true=>have:=KC f e;rw [k] at this;cases this
   | false=>have:=zAZ h f;subst this;rw [k] at e;cases e
theorem zHO:SWO ltV:=⟨fun x=>QK.irrefl _,fun x y z=>QK.trans _ _ _,fun x y z=>QK.ntrans _ _ _⟩
def cfC (x y:Cf):Int:=if AP x.p y.p == 0 then LO x.k y.k else AP x.p y.p
def cfV (x y:List PV):Int:=cfC (zLg x) (zLg y)
theorem zKu (x y:Cf):decide (cfC x y<0)=ltC x y:=by
 unfold cfC ltC
 rw [EF]
 by_cases h:(x.p == y.p)=true
 ·rw [if_pos h,h,eq_of_beq h,bY]
  unfold LO
  by_cases h1:x.k<y.k
  ·simp [h1]
  ·by_cases h2:y.k<x.k <;> simp [h1,h2]
 ·rw [if_neg h,nU]
  simp [h]
theorem zDB:ltOf cfV=ltV:=by
 funext x y
 exact zKu _ _
theorem zHx:SWO (ltOf cfV):=by rw [zDB];exact zHO
theorem zBP (l:List Cf):∀ x∈fS l,∀ y∈fS l,ltOf cfV x y=false→ltOf cfV y x=false→x=y:=by
 rw [zDB]
 intro x hx y hy h k
 obtain ⟨a,_,rfl⟩:=List.mem_map.1 hx
 obtain ⟨b,_,rfl⟩:=List.mem_map.1 hy
 rw [zAZ (x:=a) (y:=b) h k]
theorem HE (l:List Cf):(tR l).length=l.length:=List.length_mergeSort ..
theorem zDZ (l:List Cf):(fS l).mergeSort (ND (ltOf cfV))=fS (tR l):=by
 rw [zDB]
 unfold fS tR
 exact (List.map_mergeSort (r:=leC) (s:=ND ltV) (f:=Cf.cs) (l:=l) fun a _ b _=>rfl).symm
def nG (l:List Pr) (p:List UInt8):Bool:=l.any fun x=>x.b == p
def rD (d:List UInt8) (out:List Pr):List Ch→Option (List UInt8)
 | []=>none
 | x::r=>if x.k == 1 && x.n.k == 1 && d == x.n.d && !nG out x.p then some x.p else rD d out r
def fR (l:List Ch) (out:List Pr) (x:Ch):List Pr :=
 if x.k != 2 || x.o.k != 1 then out else match rD x.o.d out l with
 | some p=>out++[⟨x.p,p⟩]
 | none=>out
def sH (l:List Ch):List Pr:=l.foldl (fR l) []
def dE (l:List Ch):List Pr:=if mH l then sH l else []
theorem LM (l:List Ch):dE l=sH l∨dE l=[]:=by
 unfold dE
 split
 ·exact .inl rfl
 ·exact .inr rfl
def toF (l:List Pr) (p:List UInt8):Option (List UInt8):=match l with
 | []=>none
 | x::r=>if x.a == p then some x.b else toF r p
def zG9 (b:List Pr) (x:Pr):List Cf:=match toF b x.a with
 | some tq=>if tq != x.b then [⟨x.a,6⟩] else []
 | none=>[]
def gY (a b:List Pr):List Cf:=a.flatMap (zG9 b)
def KI (t:List It) (bad:List Cf) (x:It):List Cf:=if !aY t (aR x.p) && !(bad.any fun c=>c.p == aR x.p) then [⟨x.p,7⟩] else []
def hU (t:List It) (bad:List Cf):List Cf:=t.flatMap (KI t bad)
def fX (a b c:List It):List (List UInt8):=Lib.compact (((a++(b++c)).map It.p).mergeSort fun x y=>decide (x≤y))
def mgN (b o t:List It) (p:List UInt8):Nd × Bool × Int:=wY ((aQ b p).getD nd0) ((aQ o p).getD nd0) ((aQ t p).getD nd0) (aQ b p).isSome (aQ o p).isSome (aQ t p).isSome
def mgI (b o t:List It) (p:List UInt8):List It:=if (mgN b o t p).2.2 != 0 then [] else if (mgN b o t p).2.1 then [⟨p,(mgN b o t p).1⟩] else []
def mgC (b o t:List It) (p:List UInt8):List Cf:=if (mgN b o t p).2.2 != 0 then [⟨p,(mgN b o t p).2.2⟩] else []
def GS (b o t:List It) (l:List (List UInt8)):List It:=l.flatMap (mgI b o t)
def pI (b o t:List It) (l:List (List UInt8)):List Cf:=l.flatMap (mgC b o t)
def FF (b o t:List It):List It:=GS b o t (fX b o t)
def ZI (b o t:List It):List Cf :=
 tR (pI b o t (fX b o t)++(hU (FF b o t) (pI b o t (fX b o t))++gY (dE (dO b o)) (dE (dO b t))))
def dZ (b o t:List It):List It × List Cf:=if (ZI b o t).length == 0 then (FF b o t,[]) else ([],ZI b o t)
end
end Go.Dm
namespace Go.Dm
open Go Go.Sort
section
theorem PO {b o t:List It} {p:List UInt8} {x:It} (h:x∈mgI b o t p):x=⟨p,(mgN b o t p).1⟩∧(mgN b o t p).2.2=0∧(mgN b o t p).2.1=true:=by
 unfold mgI at h
 split at h
 ·simp at h
 ·rename_i h1
  split at h
  ·rename_i h2
   exact ⟨by simpa using h,by simpa using h1,h2⟩
  ·simp at h
theorem SE {b o t:List It} {l:List (List UInt8)} {x:It} (h:x∈GS b o t l):x.p∈l∧x=⟨x.p,(mgN b o t x.p).1⟩∧(mgN b o t x.p).2.2=0∧(mgN b o t x.p).2.1=true:=by
 obtain ⟨p,hp,hx⟩:=List.mem_flatMap.1 h
 have:=PO hx
 have e:x.p=p:=by rw [this.1]
 subst e
 exact ⟨hp,this⟩
theorem xG {α β:Type} {f:α→List β} {r:α→α→Prop} {s:β→β→Prop} (h1:∀ a,(f a).length≤1) (h2:∀ {a c x y},r a c→x∈f a→y∈f c→s x y):∀ {l:List α},l.Pairwise r→(l.flatMap f).Pairwise s
 | [],_=>by simp
 | a::l,h=>by
  obtain ⟨k1,k2⟩:=List.pairwise_cons.1 h
  rw [List.flatMap_cons]
  refine List.pairwise_append.2 ⟨?_,xG h1 h2 k2,fun x hx y hy=>?_⟩
  ·have:=h1 a
   match f a,this with
   | [],_=>exact .nil
   | [x],_=>exact List.pairwise_singleton ..
  ·obtain ⟨c,hc,hyc⟩:=List.mem_flatMap.1 hy
   exact h2 (k1 c hc) hx hyc
theorem zAx (b o t:List It) (p:List UInt8):(mgI b o t p).length≤1:=by unfold mgI;split <;> (try split) <;> simp
theorem zI1 (b o t:List It) (p:List UInt8):(mgC b o t p).length≤1:=by unfold mgC;split <;> simp
theorem zBL (t:List It) (bad:List Cf) (x:It):(KI t bad x).length≤1:=by unfold KI;split <;> simp
theorem zF8 (b:List Pr) (x:Pr):(zG9 b x).length≤1:=by unfold zG9;split <;> (try split) <;> simp
theorem SC (b o t:List It):Srt (FF b o t):=xG (zAx b o t) (fun {a c x y} hr hx hy=>by rw [(PO hx).1,(PO hy).1];exact hr) (jY _)
theorem KD (l:List Ch) (out:List Pr) (x:Ch):fR l out x=out∨∃ p,fR l out x=out++[⟨x.p,p⟩]∧x.k=2∧x.o.k=1∧rD x.o.d out l=some p:=by
 unfold fR
 split
 ·exact .inl rfl
 ·rename_i h1
  simp only [Bool.or_eq_true,bne_iff_ne,ne_eq,not_or,Decidable.not_not] at h1
  split
  ·rename_i p hp
   exact .inr ⟨p,rfl,h1.1,h1.2,hp⟩
  ·exact .inl rfl
def zGV (b o t:List It):List Cf:=pI b o t (fX b o t)++(hU (FF b o t) (pI b o t (fX b o t))++gY (dE (dO b o)) (dE (dO b t)))
theorem zId (b o t:List It):ZI b o t=tR (zGV b o t):=rfl
theorem xC {α β:Type} {f:α→List β} (h1:∀ a,(f a).length≤1):∀ l:List α,(l.flatMap f).length≤l.length
 | []=>by simp
 | a::l=>by
  have:=xC h1 l
  have:=h1 a
  rw [List.flatMap_cons,List.length_append,List.length_cons];omega
theorem LU (l:List Ch):∀ (m:List Ch) (out:List Pr),(m.foldl (fR l) out).length≤out.length+m.length
 | [],out=>by simp
 | c::m,out=>by
  rw [List.foldl_cons,List.length_cons]
  have:=LU l m (fR l out c)
  rcases KD l out c with e|⟨p,e,_⟩
  ·rw [e] at this ⊢;omega
  ·rw [e] at this ⊢;simp at this;omega
theorem XA (l:List Ch):(sH l).length≤l.length:=by have:=LU l l [];simpa [sH] using this
theorem sZ (l:List Ch):(dE l).length≤l.length:=by
 rcases LM l with e|e <;> rw [e]
 ·exact XA l
 ·simp
theorem VK (a b c:List It):(fX a b c).length≤a.length+b.length+c.length:=by
 refine Nat.le_trans (CI _) ?_
 rw [List.length_mergeSort,List.length_map,List.length_append,List.length_append];omega
end
section
theorem BE {a b c:List It} {p:List UInt8}:p∈fX a b c↔(aQ a p).isSome=true∨(aQ b p).isSome=true∨(aQ c p).isSome=true:=by
 have has:∀ {t:List It},(∃ x∈t,x.p=p)↔(aQ t p).isSome=true:=fun {t}=>⟨fun ⟨x,hx,e⟩=>e▸oP hx,fun h=>by
  cases hg:aQ t p with
  | none=>rw [hg] at h;cases h
  | some n=>obtain ⟨x,hx,e,_⟩:=cH hg;exact ⟨x,hx,e⟩⟩
 unfold fX
 rw [qF,← has,← has,← has]
 simp only [List.mem_map,List.mem_append]
 constructor
 ·rintro ⟨x,h|h|h,e⟩
  ·exact .inl ⟨x,h,e⟩
  ·exact .inr (.inl ⟨x,h,e⟩)
  ·exact .inr (.inr ⟨x,h,e⟩)
 ·rintro (⟨x,h,e⟩|⟨x,h,e⟩|⟨x,h,e⟩)
  ·exact ⟨x,.inl h,e⟩
  ·exact ⟨x,.inr (.inl h),e⟩
  ·exact ⟨x,.inr (.inr h),e⟩
end
section
theorem BB (b o t:List It):mQ (mQ (mQ [] b) o) t=fX b o t :=
 lR (lt:=bL) bY (fun h=>eI h) (iW (iW (iW .nil))) (jY _) fun p=>by
  show p∈mQ (mQ (mQ [] b) o) t↔p∈Lib.compact (((b++(o++t)).map It.p).mergeSort fun x y=>decide (x≤y))
  rw [qF,iV,iV,iV]
  simp only [List.mem_map,List.mem_append,List.not_mem_nil,false_or]
  constructor
  ·rintro ((⟨x,h,e⟩|⟨x,h,e⟩)|⟨x,h,e⟩)
   ·exact ⟨x,.inl h,e⟩
   ·exact ⟨x,.inr (.inl h),e⟩
   ·exact ⟨x,.inr (.inr h),e⟩
  ·rintro ⟨x,h|h|h,e⟩
   ·exact .inl (.inl ⟨x,h,e⟩)
   ·exact .inl (.inr ⟨x,h,e⟩)
   ·exact .inr ⟨x,h,e⟩
theorem SA (p:List UInt8) (b:List It):∀ a:List It,aQ (a++b) p=match aQ a p with
  | some n=>some n
  | none=>aQ b p
 | []=>rfl
 | x::a=>by
  rw [List.cons_append,aQ,aQ]
  split
  ·rfl
  ·exact SA p b a
theorem zHK {b o t:List It} (h:(ZI b o t).length=0):pI b o t (fX b o t)=[]∧hU (FF b o t) []=[]:=by
 rw [zId,HE] at h
 unfold zGV at h
 rw [List.length_append,List.length_append] at h
 have h1:pI b o t (fX b o t)=[]:=List.length_eq_zero_iff.1 (by omega)
 rw [h1] at h
 exact ⟨h1,List.length_eq_zero_iff.1 (by omega)⟩
theorem zGh {b o t:List It} (h:(ZI b o t).length=0):Par (FF b o t):=fun x hx=>by
 have h2:=List.flatMap_eq_nil_iff.1 (zHK h).2 x hx
 unfold KI at h2
 split at h2
 ·simp at h2
 ·rename_i h3
  simpa using h3
theorem EE (a b:Nat):uT a b=dD a∨uT a b=dD b:=by unfold uT;split <;> simp
theorem vB {x y z:Nd} {u:Bool} (hy:aT y=true) (hz:aT z=true) (hyw:y.wf) (hzw:z.wf) (n:Nd)
  (hk:(n.k=y.k∧n.d=y.d)∨(n.k=z.k∧n.d=z.d)) (hm:n.m=y.m∨n.m=z.m) (ht:n.t=y.t∨n.t=z.t∨n.t=uT y.t z.t):aT n=true∧n.t<18446744073709551616:=by
 have hpy:=fV hy hyw
 have hpz:=fV hz hzw
 have hnt:n.t<18446744073709551616∧dD n.t=n.t:=by
  rcases ht with e|e|e
  ·rw [e];exact hpy
  ·rw [e];exact hpz
  ·rcases EE y.t z.t with e2|e2
   ·rw [e,e2,hpy.2];exact hpy
   ·rw [e,e2,hpz.2];exact hpz
 refine ⟨?_,hnt.1⟩
 have hw:n.wf:=hnt.1
 rw [← iP hw]
 rw [← iP hyw] at hy
 rw [← iP hzw] at hz
 unfold kV at *
 simp only [Bool.and_eq_true,decide_eq_true_eq,beq_iff_eq] at *
 obtain ⟨⟨⟨y1,y2⟩,y3⟩,_⟩:=hy
 obtain ⟨⟨⟨z1,z2⟩,z3⟩,_⟩:=hz
 refine ⟨⟨⟨?_,?_⟩,?_⟩,hnt.2⟩
 ·unfold YZ at *
  rcases hk with ⟨e1,e2⟩|⟨e1,e2⟩
  ·rw [e1,e2];exact y1
  ·rw [e1,e2];exact z1
 ·rcases hm with e|e <;> rw [e] <;> assumption
 ·rcases hm with e|e <;> rw [e] <;> assumption
theorem QD {x y z:Nd} {u v w:Bool} (hy:v=true→aT y=true) (hz:w=true→aT z=true) (hyw:y.wf) (hzw:z.wf) (h0:(wY x y z u v w).2.2=0) (h:(wY x y z u v w).2.1=true):
  aT (wY x y z u v w).1=true∧(wY x y z u v w).1.t<18446744073709551616:=by
 revert h0 h
 unfold wY
 split
 ·intro _ h
  simp only at h
  rw [h,if_pos rfl]
  exact ⟨hy h,hyw⟩
 ·split
  ·intro _ h
   simp only at h
   rw [h,if_pos rfl]
   exact ⟨hz h,hzw⟩
  ·cases v
   ·simp
   ·cases w
    ·simp
    ·simp only [Bool.not_true,Bool.false_eq_true,if_false]
     split
     ·intro _ _
      refine vB (x:=x) (u:=u) (hy rfl) (hz rfl) hyw hzw _ ?_ ?_ ?_
      ·unfold uP
       simp only
       split <;> simp
      ·unfold uP
       simp only
       split <;> simp
      ·unfold uP
       simp only
       split
       ·simp
       ·split <;> simp
     ·intro h0
      exfalso;revert h0
      repeat' split
      all_goals simp
theorem zIS {b o t:List It} (hb:OkT b) (ho:OkT o) (ht:OkT t) (h:(ZI b o t).length=0) (hl:(FF b o t).length≤120):OkT (FF b o t):=by
 refine ⟨⟨SC b o t,fun x hx=>?_,hl⟩,zGh h⟩
 obtain ⟨h1,h2,h3,h4⟩:=SE hx
 have hp:x.p≠[]∧cG x.p=true:=by
  rcases BE.1 h1 with h|h|h
  ·exact ⟨(hb.getok h).1,(hb.getok h).2.1⟩
  ·exact ⟨(ho.getok h).1,(ho.getok h).2.1⟩
  ·exact ⟨(ht.getok h).1,(ht.getok h).2.1⟩
 have hn:=QD (x:=(aQ b x.p).getD nd0) (u:=(aQ b x.p).isSome) (fun h=>(ho.getok h).2.2) (fun h=>(ht.getok h).2.2) (ho.gett x.p) (ht.gett x.p) h3 h4
 have e:x.n=(mgN b o t x.p).1:=by rw [h2]
 refine ⟨hp.1,hp.2,?_,?_⟩
 ·rw [e];exact hn.1
 ·rw [e];exact hn.2
end
section
structure OkS (t:List It):Prop where
 srt:Srt t
 ne:∀ x∈t,x.p≠[]
 plen:∀ x∈t,x.p.length≤1000
 dlen:∀ x∈t,x.n.d.length≤2000
 tlen:∀ x∈t,x.n.t<18446744073709551616
 len:t.length≤120
theorem OkT.s {t:List It} (h:OkT t):OkS t:=⟨h.srt,h.ne,fun x hx=>Nat.le_trans (h.plen x hx) (by decide),h.dlen,h.tlen,h.len⟩
theorem OkS.getd {t:List It} (h:OkS t) (p:List UInt8):((aQ t p).getD nd0).d.length≤2000:=by
 cases hg:aQ t p with
 | none=>simp [nd0]
 | some n=>obtain ⟨x,hx,_,e⟩:=cH hg;rw [Option.getD_some,← e];exact h.dlen x hx
theorem OkS.gett {t:List It} (h:OkS t) (p:List UInt8):((aQ t p).getD nd0).t<18446744073709551616:=by
 cases hg:aQ t p with
 | none=>simp [nd0]
 | some n=>obtain ⟨x,hx,_,e⟩:=cH hg;rw [Option.getD_some,← e];exact h.tlen x hx
theorem XW {t:List It} {p:List UInt8} (r:List It) (h:aY t p=true):aY (t++r) p=true:=by
 by_cases hp:p=[]
 ·subst hp;rfl
 ·obtain ⟨m,h1,h2⟩:=cN hp h
  exact fD (m:=m) (by rw [SA,h1]) h2
theorem OkT.take {t:List It} (h:OkT t) (k:Nat):OkT (t.take k):=by
 refine ⟨⟨h.srt.sublist (List.take_sublist _ _),fun x hx=>h.its x (List.mem_of_mem_take hx),Nat.le_trans (by rw [List.length_take];omega) h.len⟩,fun x hx=>?_⟩
 obtain ⟨j,hj,rfl⟩:=List.mem_iff_getElem.1 hx
 have hjk:j<k∧j<t.length:=by rw [List.length_take] at hj;omega
 rw [List.getElem_take]
 have h1:=CD h (List.getElem?_eq_getElem hjk.2)
 have h2:=XW ((t.take k).drop j) h1
 have e:t.take j++(t.take k).drop j=t.take k:=by
  have:=List.take_append_drop j (t.take k)
  rw [List.take_take,Nat.min_eq_left (by omega)] at this
  exact this
 rw [e] at h2
 exact h2
end
section
theorem KL {a b:List It} (ha:OkS a) (hb:OkS b):∀ x∈dO a b,x.p.length≤1000000000∧x.o.t<18446744073709551616∧x.n.t<18446744073709551616:=fun x hx=>by
 obtain ⟨h1,h2⟩:=yB hx
 obtain ⟨h3,_⟩:=rS hx
 refine ⟨?_,by rw [h1];exact ha.gett _,by rw [h2];exact hb.gett _⟩
 rcases tS.1 h3 with ⟨y,hy,e⟩|⟨y,hy,e⟩
 ·rw [← e];exact Nat.le_trans (ha.plen y hy) (by decide)
 ·rw [← e];exact Nat.le_trans (hb.plen y hy) (by decide)
theorem zAQ {b o t:List It} (hb:OkS b) (ho:OkS o) (ht:OkS t):∀ x∈FF b o t,x.p.length≤1000:=fun x hx=>by
 obtain ⟨h1,_⟩:=SE hx
 have key:∀ {s:List It},OkS s→(aQ s x.p).isSome=true→x.p.length≤1000:=fun {s} hs h=>by
  cases hg:aQ s x.p with
  | none=>rw [hg] at h;cases h
  | some n=>obtain ⟨y,hy,e,_⟩:=cH hg;rw [← e];exact hs.plen y hy
 rcases BE.1 h1 with h|h|h
 ·exact key hb h
 ·exact key ho h
 ·exact key ht h
theorem zFb (b o t:List It) (l:List (List UInt8)):(GS b o t l).length≤l.length:=xC (zAx b o t) l
theorem zFJ (b o t:List It) (l:List (List UInt8)):(pI b o t l).length≤l.length:=xC (zI1 b o t) l
theorem QU (t:List It) (bad:List Cf):(hU t bad).length≤t.length:=xC (zBL t bad) t
theorem QM (a b:List Pr):(gY a b).length≤a.length:=xC (zF8 b) a
end
end Go.Dm
