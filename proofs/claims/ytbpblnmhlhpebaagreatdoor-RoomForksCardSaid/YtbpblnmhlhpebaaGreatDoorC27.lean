/- Part 28 of the proof of roomForks_card, set without needless blanks. No condition. -/
import Derived.Test.YtbpblnmhlhpebaaGreatDoorC26
import Derived.Test.YtbpblnmhlhpebaaGreatDoorC19
set_option linter.unusedSimpArgs false
set_option linter.unusedVariables false
set_option maxRecDepth 100000
set_option maxHeartbeats 8000000
namespace Go.Dm
open Go
section
def zLA (d:List UInt8) (hops:Nat):Int:=if decide (8≤hops) then 11 else (eU d).2
def zLC (d:List UInt8) (hops:Nat) (c:List UInt8):List UInt8:=if decide (8≤hops) then c else if (eU d).2 == 0 then (if FN d then [] else c) else c
def zLz (d:List UInt8) (hops:Nat) (ps:List (List UInt8)):List (List UInt8):=if decide (8≤hops) then ps else if (eU d).2 == 0 then (eU d).1++ps else ps
def sN (t:List It) (fo:Bool) (c s:List UInt8) (ps:List (List UInt8)) (hops:Nat):(Bool × Int) × (List UInt8 × List (List UInt8) × Nat) :=
 if !aW t c then ((false,9),(c,ps,hops)) else if decide ((120:Int)<(iS c s).length) then ((false,12),(c,ps,hops))
 else match aR t (iS c s) with
 | none=>if ps == [] then ((false,0),(iS c s,ps,hops)) else ((false,6),(c,ps,hops))
 | some n=>if n.k == 3 && (!(ps == []) || fo) then ((true,zLA n.d hops),(zLC n.d hops c,zLz n.d hops ps,hops+1)) else ((true,0),(iS c s,ps,hops))
theorem tK {s:List UInt8}:(eU s).1.length≤121:=by
 unfold eU
 split
 ·simp
 ·split
  ·simp
  ·split
   ·rename_i h _ _
    have h:¬ (120:Int)<s.length:=by simpa using h
    refine Nat.le_trans (List.length_filter_le ..) (Nat.le_trans (nY s []) ?_)
    omega
   ·simp
theorem DH {s:List UInt8}:∀ p∈(eU s).1,p.length≤120:=by
 intro p hp
 unfold eU at hp
 split at hp
 ·simp at hp
 ·rename_i h
  split at hp
  ·simp at hp
  ·split at hp
   ·have:=rV s [] p (List.mem_filter.1 hp).1
    have h:¬ (120:Int)<s.length:=by simpa using h
    simp at this;omega
   ·simp at hp
structure WI (t:List It) (fo:Bool) (W:List UInt8 × Bool × Int) (f:Nat) (c:List UInt8) (ps:List (List UInt8)) (hops:Nat) (there:Bool) (e:Int):Prop where
 cl:c.length≤120
 pl:∀ p∈ps,p.length≤120
 fl:f≤1400
 hl:hops≤9
 go:e=0→hops≤8∧(9-hops)*130+ps.length<f∧(ps≠[]→there=true∧mC t fo f c ps hops=W)∧(ps=[]→W=(c,there,0))
 no:e≠0→W=([],false,e)
theorem JQ (c:List UInt8):(aS c).length≤c.length:=by
 by_cases h:aS c=[]
 ·rw [h];simp
 ·exact Nat.le_of_lt (sD h)
section
variable {t:List It} {fo:Bool} {W:List UInt8 × Bool × Int} {f:Nat} {c p:List UInt8} {ps:List (List UInt8)} {hops:Nat} {there:Bool}
theorem WI.next {c':List UInt8} (h:WI t fo W (f+1) c (p::ps) hops there 0) (hc:c'.length≤120) (hw:mC t fo (f+1) c (p::ps) hops=mC t fo f c' ps hops):WI t fo W f c' ps hops true 0:=by
 obtain ⟨h1,h2,h3,_⟩:=h.go rfl
 obtain ⟨ht,hW⟩:=h3 (by simp)
 rw [hw] at hW
 have hfl:=h.fl
 simp only [List.length_cons] at h2
 refine ⟨hc,fun q hq=>h.pl q (List.mem_cons_of_mem _ hq),by omega,by omega,fun _=>⟨h1,by omega,fun _=>⟨rfl,hW⟩,fun h0=>?_⟩,fun h0=>absurd rfl h0⟩
 subst h0
 obtain ⟨k,rfl⟩:∃ k,f=k+1:=⟨f-1,by omega⟩
 rw [← hW];rfl
theorem WI.there_true (h:WI t fo W f c (p::ps) hops there 0):there=true:=((h.go rfl).2.2.1 (by simp)).1
theorem WI.dot (h:WI t fo W (f+1) c (p::ps) hops there 0) (hp:(p == [46])=true):WI t fo W f c ps hops there 0:=by
 rw [h.there_true]
 exact h.next h.cl (by simp only [mC,hp,if_true])
theorem WI.dots (h:WI t fo W (f+1) c (p::ps) hops there 0) (hp:(p == [46])=false) (hq:(p == [46,46])=true):WI t fo W f (aS c) ps hops there 0:=by
 rw [h.there_true]
 exact h.next (Nat.le_trans (JQ c) h.cl) (by simp only [mC,hp,hq,if_true,Bool.false_eq_true,if_false])
theorem WI.down (h:WI t fo W (f+1) c (p::ps) hops there 0) (hp:(p == [46])=false) (hq:(p == [46,46])=false):
  WI t fo W f (sN t fo c p ps hops).2.1 (sN t fo c p ps hops).2.2.1 (sN t fo c p ps hops).2.2.2 (sN t fo c p ps hops).1.1 (sN t fo c p ps hops).1.2:=by
 obtain ⟨h1,h2,h3,_⟩:=h.go rfl
 obtain ⟨ht,hW⟩:=h3 (by simp)
 have hfl:=h.fl
 simp only [List.length_cons] at h2
 have hpl:∀ q∈ps,q.length≤120:=fun q hq=>h.pl q (List.mem_cons_of_mem _ hq)
 have fell:∀ {e:Int} {c':List UInt8} {ps':List (List UInt8)} {h':Nat} {th:Bool},e≠0→W=([],false,e)→c'.length≤120→(∀ q∈ps',q.length≤120)→h'≤9→WI t fo W f c' ps' h' th e :=
  fun he hw a b g=>⟨a,b,by omega,g,fun h0=>absurd h0 he,fun _=>hw⟩
 simp only [mC,hp,hq,Bool.false_eq_true,if_false] at hW
 unfold sN
 split
 ·rename_i hd
  rw [if_pos hd] at hW
  show WI t fo W f c ps hops false 9
  exact fell (by decide) hW.symm h.cl hpl (by omega)
 ·rename_i hd
  rw [if_neg hd] at hW
  split
  ·rename_i hl
   rw [if_pos hl] at hW
   show WI t fo W f c ps hops false 12
   exact fell (by decide) hW.symm h.cl hpl (by omega)
  ·rename_i hl
   rw [if_neg hl] at hW
   have hjl:(iS c p).length≤120:=by simp only [decide_eq_true_eq] at hl;omega
   cases hg:aR t (iS c p) with
   | none =>
    rw [hg] at hW
    simp only at hW ⊢
    split
    ·rename_i hps
     rw [if_pos hps] at hW
     have hps:=eq_of_beq hps
     subst hps
     simp only
     exact ⟨hjl,hpl,by omega,by omega,fun _=>⟨h1,by simp only [List.length_nil] at h2 ⊢;omega,fun h0=>absurd rfl h0,fun _=>hW.symm⟩,fun h0=>absurd rfl h0⟩
    ·rename_i hps
     rw [if_neg hps] at hW
     show WI t fo W f c ps hops false 6
     exact fell (by decide) hW.symm h.cl hpl (by omega)
   | some n =>
    rw [hg] at hW
    simp only at hW ⊢
    split
    ·rename_i hlk
     rw [if_pos hlk] at hW
     unfold zLA zLC zLz
     simp only at hW ⊢
     split
     ·rename_i h8
      rw [if_pos h8] at hW
      exact fell (by decide) hW.symm h.cl hpl (by omega)
     ·rename_i h8
      rw [if_neg h8] at hW
      simp only [decide_eq_true_eq] at h8
      have hsl:=tK (s:=n.d)
      have hsm:=DH (s:=n.d)
      cases he:((eU n.d).2 == 0)
      ·rw [he] at hW
       simp only [Bool.false_eq_true,if_false] at hW ⊢
       exact fell (by simpa using he) hW.symm h.cl hpl (by omega)
      ·rw [he] at hW
       simp only [if_true] at hW ⊢
       have he:=eq_of_beq he
       rw [he]
       refine ⟨by split;simp;exact h.cl,fun q hq=>?_,by omega,by omega,fun _=>⟨by omega,by rw [List.length_append];omega,fun _=>⟨rfl,hW⟩,fun h0=>?_⟩,fun h0=>absurd rfl h0⟩
       ·rcases List.mem_append.1 hq with hq|hq
        ·exact hsm q hq
        ·exact hpl q hq
       ·rw [h0] at hW
        obtain ⟨k,rfl⟩:∃ k,f=k+1:=⟨f-1,by omega⟩
        rw [← hW];rfl
    ·rename_i hlk
     rw [if_neg hlk] at hW
     simp only
     refine ⟨hjl,hpl,by omega,by omega,fun _=>⟨h1,by omega,fun _=>⟨rfl,hW⟩,fun h0=>?_⟩,fun h0=>absurd rfl h0⟩
     subst h0
     obtain ⟨k,rfl⟩:∃ k,f=k+1:=⟨f-1,by omega⟩
     rw [← hW];rfl
end
theorem mW {t:List It} {fo:Bool}:∀ (f:Nat) (c:List UInt8) (ps:List (List UInt8)) (hops:Nat),c.length≤120→(mC t fo f c ps hops).1.length≤120
 | 0,_,_,_,_=>by simp [mC]
 | _+1,_,[],_,h=>h
 | f+1,c,p::ps,hops,h=>by
  simp only [mC]
  split
  ·exact mW f _ _ _ h
  ·split
   ·exact mW f _ _ _ (Nat.le_trans (JQ c) h)
   ·split
    ·simp
    ·split
     ·simp
     ·rename_i hl
      have hjl:(iS c p).length≤120:=by simp only [decide_eq_true_eq] at hl;omega
      split
      ·split
       ·exact hjl
       ·simp
      ·split
       ·split
        ·simp
        ·split
         ·refine mW f _ _ _ ?_
          split
          ·simp
          ·exact h
         ·simp
       ·exact mW f _ _ _ hjl
theorem LS {t:List It} {s:List UInt8} {fo:Bool}:(cJ t s fo).1.length≤120:=by
 unfold cJ
 split
 ·exact mW _ _ _ _ (by simp)
 ·simp
end
section
structure RC where
 k:Int
 p:Int
 to':Int
 m:Int
 t:Int
 at':Int
 n:Int
 how:Int
 x:Nat
 d:List UInt8
 s:List UInt8
def RC.cs (x:RC):List PV:=[.i .i64 x.k,.i .i64 x.p,.i .i64 x.to',.i .i64 x.m,.i .i64 x.t,.i .i64 x.at',.i .i64 x.n,.i .i64 x.how,.f x.x,.sl 1 (bT x.d),.s x.s]
def zKa (l:List RC):List (List PV):=l.map RC.cs
theorem zAx (l:List RC):(zKa l).length=l.length:=by simp [zKa]
attribute [go_sem] zAx
structure OkC (c:Cl):Prop where
 p:c.p.length≤9223372036854775807
 q:c.to'.length≤9223372036854775807
 t:c.t<18446744073709551616
 d:c.d.length≤140737488355328
 a:-9223372036854775808≤c.at'∧c.at'≤9223372036854775807
end
section
def PN (x:List It × Int):Prop:=x.2=0→OkT x.1
theorem VO {c:Prop} [Decidable c] {a b:List It × Int} (ha:c→PN a) (hb:¬ c→PN b):PN (if c then a else b):=by
 split
 ·exact ha (by assumption)
 ·exact hb (by assumption)
theorem RW {l:List It} {e:Int} (h:e≠0):PN (l,e):=fun he=>absurd he h
theorem zGY {l:List It} {e:Int} (h:(!(e == 0))=true):PN (l,e):=RW (by simpa using h)
section
attribute [local irreducible] jQ hD vC
theorem zGo {t:List It} (h:OkT t) {p:List UInt8} {is:Bool} {kind:Int} {c:Cl} (hc:c.t<18446744073709551616):PN (vC t p is kind c):=by
 unfold vC
 repeat' refine VO (fun _=>?_) fun _=>?_
 all_goals first
  | (exact RW (by decide))
  | exact fun he=>h.put (show dA c.t<_ from lU hc) he
theorem zC4 {t:List It} (h:OkT t) {p:List UInt8} {is:Bool} {n:Nd} {c:Cl} (hn:n.t<18446744073709551616) (hc:c.t<18446744073709551616):PN (bY t p is n c):=by
 have hb:dA c.t<18446744073709551616:=lU hc
 unfold bY zJ zHN pM zU zS
 repeat' refine VO (fun _=>?_) fun _=>?_
 all_goals first
  | exact zGo h hc
  | (exact RW (by decide))
  | (exact zGY (by assumption))
  | exact fun _=>h
  | exact fun _=>h.remove _
  | exact fun he=>h.put hb he
  | exact fun he=>h.put (show n.t<_ from hn) he
  | exact fun he=>(h.remove _).move he
end
theorem zJ3 {t:List It} (h:OkT t) {c:Cl} (hc:c.t<18446744073709551616):OkT (doP t c).1:=by
 unfold doP
 split
 ·exact h
 ·split
  ·exact h
  ·split
   ·exact h
   ·split
    ·rename_i h4
     refine zC4 h ?_ hc (eq_of_beq h4)
     unfold nodeAt
     split
     ·exact Nat.zero_lt_succ _
     ·exact h.gett _
    ·exact h
theorem zIe {t:List It} {c:Cl} (h:lF c.k=false):(doP t c).1=t:=by
 unfold doP
 rw [h]
 simp only [Bool.not_false,if_true]
 split
 ·rfl
 ·split <;> rfl
theorem QH {t:List It} (h:OkT t):fJ t t=true:=zC fun x hx=>h.tlen x hx
end
end Go.Dm
namespace Go.Dm
open Go Go.Sort Go.Proofs
section
structure Cf where
 p:List UInt8
 k:Int
deriving DecidableEq
structure Pr where
 a:List UInt8
 b:List UInt8
deriving DecidableEq
def Cf.cs (x:Cf):List PV:=[.s x.p,.i .i64 x.k]
def Pr.cs (x:Pr):List PV:=[.s x.a,.s x.b]
def HA (l:List Cf):List (List PV):=l.map Cf.cs
theorem zEH (t:List Cf):(HA t).length=t.length:=by simp [HA]
theorem zGB:HA []=[]:=rfl
theorem zFN (a b:List Cf):HA a++HA b=HA (a++b):=by simp [HA]
theorem zC0 (a:List Cf) (n:Nat):(HA a).take n=HA (a.take n):=by simp [HA]
theorem zAo (a:List Cf) (n:Nat):(HA a).drop n=HA (a.drop n):=by simp [HA]
theorem zFE (t:List Cf):(∀ x∈HA t,x.length=2)=True:=eq_true fun x hx=>by
 simp only [HA,List.mem_map] at hx
 obtain ⟨y,_,rfl⟩:=hx
 rfl
theorem zD7 (t:List Cf) (p:List UInt8) (k:Int):HA t++[[.s p,.i .i64 k]]=HA (t++[⟨p,k⟩]):=by simp [HA,Cf.cs]
attribute [go_sem] zEH zGB zFN zC0 zAo zFE zD7
def GX (l:List Pr):List (List PV):=l.map Pr.cs
theorem zG2 (t:List Pr):(GX t).length=t.length:=by simp [GX]
theorem zEy:GX []=[]:=rfl
theorem zE7 (a b:List Pr):GX a++GX b=GX (a++b):=by simp [GX]
theorem zBu (a:List Pr) (n:Nat):(GX a).take n=GX (a.take n):=by simp [GX]
theorem zCy (a:List Pr) (n:Nat):(GX a).drop n=GX (a.drop n):=by simp [GX]
theorem zFr (t:List Pr):(∀ x∈GX t,x.length=2)=True:=eq_true fun x hx=>by
 simp only [GX,List.mem_map] at hx
 obtain ⟨y,_,rfl⟩:=hx
 rfl
theorem zAv (t:List Pr) (a b:List UInt8):GX t++[[.s a,.s b]]=GX (t++[⟨a,b⟩]):=by simp [GX,Pr.cs]
attribute [go_sem] zG2 zEy zE7 zBu zCy zFr zAv
end
end Go.Dm
namespace Go.Dm
open Go Go.Sort
section
theorem VU (p:List UInt8) (b:List It):∀ a:List It,aR (a++b) p=match aR a p with
  | some n=>some n
  | none=>aR b p
 | []=>rfl
 | x::a=>by
  rw [List.cons_append,aR,aR]
  split
  ·rfl
  ·exact VU p b a
end
section
structure OkS (t:List It):Prop where
 srt:Srt t
 ne:∀ x∈t,x.p≠[]
 plen:∀ x∈t,x.p.length≤1000
 dlen:∀ x∈t,x.n.d.length≤2000
 tlen:∀ x∈t,x.n.t<18446744073709551616
 len:t.length≤120
theorem OkT.s {t:List It} (h:OkT t):OkS t:=⟨h.srt,h.ne,fun x hx=>Nat.le_trans (h.plen x hx) (by decide),h.dlen,h.tlen,h.len⟩
theorem OkS.getd {t:List It} (h:OkS t) (p:List UInt8):((aR t p).getD nd0).d.length≤2000:=by
 cases hg:aR t p with
 | none=>simp [nd0]
 | some n=>obtain ⟨x,hx,_,e⟩:=bZ hg;rw [Option.getD_some,← e];exact h.dlen x hx
theorem OkS.gett {t:List It} (h:OkS t) (p:List UInt8):((aR t p).getD nd0).t<18446744073709551616:=by
 cases hg:aR t p with
 | none=>simp [nd0]
 | some n=>obtain ⟨x,hx,_,e⟩:=bZ hg;rw [Option.getD_some,← e];exact h.tlen x hx
theorem XG {t:List It} {p:List UInt8} (r:List It) (h:aW t p=true):aW (t++r) p=true:=by
 by_cases hp:p=[]
 ·subst hp;rfl
 ·obtain ⟨m,h1,h2⟩:=cO hp h
  exact eR (m:=m) (by rw [VU,h1]) h2
theorem OkT.take {t:List It} (h:OkT t) (k:Nat):OkT (t.take k):=by
 refine ⟨⟨h.srt.sublist (List.take_sublist _ _),fun x hx=>h.its x (List.mem_of_mem_take hx),Nat.le_trans (by rw [List.length_take];omega) h.len⟩,fun x hx=>?_⟩
 obtain ⟨j,hj,rfl⟩:=List.mem_iff_getElem.1 hx
 have hjk:j<k∧j<t.length:=by rw [List.length_take] at hj;omega
 rw [List.getElem_take]
 have h1:=BP h (List.getElem?_eq_getElem hjk.2)
 have h2:=XG ((t.take k).drop j) h1
 have e:t.take j++(t.take k).drop j=t.take k:=by
  have:=List.take_append_drop j (t.take k)
  rw [List.take_take,Nat.min_eq_left (by omega)] at this
  exact this
 rw [e] at h2
 exact h2
end
end Go.Dm
namespace Go.Dm
section
def jT (t:List It) (x:RU):List UInt8 :=
 if decide ((0:Int)<(t.length:Int)) && decide ((0:Int)<x.at'.tmod 3) then (t.getD ((IntKind.i64.wrap (x.at'.tdiv 3)) % (t.length:Int)).toNat ⟨[],nd0⟩).p else pE x.at'
def kM (t:List It) (r:List It × Int):List It:=if r.2 == 0 then r.1 else t
def uS (t:List It) (x:RU):List It :=
 if x.what % 8 == 3 then bN t (jT t x)
 else if x.what % 8 == 4 then (if (aR t (jT t x)).isSome then kM t (jQ t (jT t x) ⟨((aR t (jT t x)).getD nd0).k,x.n.m % 4096,((aR t (jT t x)).getD nd0).t,((aR t (jT t x)).getD nd0).d⟩) else t)
 else if x.what % 8 == 5 then (if (aR t (jT t x)).isSome then kM t (jQ t (jT t x) ⟨((aR t (jT t x)).getD nd0).k,((aR t (jT t x)).getD nd0).m,dA (PG x.n.t x.n.x),((aR t (jT t x)).getD nd0).d⟩) else t)
 else if x.what % 8 == 6 then (if (aR t (jT t x)).isSome && ((aR t (jT t x)).getD nd0).k == 1 then kM t (jQ t (jT t x) ⟨((aR t (jT t x)).getD nd0).k,((aR t (jT t x)).getD nd0).m,((aR t (jT t x)).getD nd0).t,x.n.d.take 60⟩) else t)
 else if x.what % 8 == 7 then kM t (hD t (jT t x) (pE x.to'))
 else kM t (jQ t (jT t x) (AV x.n))
def YB (t:List It) (l:List RU):List It:=(l.take 14).foldl uS t
theorem nX {t:List It} {p:List UInt8} {n:Nd} (h:OkT t) (hn:n.t<18446744073709551616):OkT (kM t (jQ t p n)):=by
 unfold kM
 split
 ·exact h.put hn (eq_of_beq (by assumption))
 ·exact h
theorem zCx {t:List It} {p q:List UInt8} (h:OkT t):OkT (kM t (hD t p q)):=by
 unfold kM
 split
 ·exact h.move (eq_of_beq (by assumption))
 ·exact h
theorem zGz {t:List It} {x:RU} (h:OkT t) (hx:x.n.x<18446744073709551616):OkT (uS t x):=by
 unfold uS
 split
 ·exact h.remove _
 split
 ·split
  ·exact nX h (h.gett _)
  ·exact h
 split
 ·split
  ·exact nX h (lU (TA hx))
  ·exact h
 split
 ·split
  ·exact nX h (h.gett _)
  ·exact h
 split
 ·exact zCx h
 ·exact nX h (vL hx)
theorem GO:∀ {l:List RU} {t:List It},OkT t→(∀ x∈l,x.n.x<18446744073709551616)→OkT (l.foldl uS t)
 | [],_,h,_=>h
 | a::r,t,h,hx=>GO (l:=r) (t:=uS t a) (zGz h (hx _ List.mem_cons_self)) fun y hy=>hx y (List.mem_cons_of_mem _ hy)
theorem SM {t:List It} {l:List RU} (h:OkT t) (hx:∀ x∈l,x.n.x<18446744073709551616):OkT (YB t l) :=
 GO h fun x hm=>hx x (List.take_subset _ _ hm)
theorem XZ {t:List It} {l:List RU} {i:Nat} {x:RU} (h:l[i]? = some x):(l.take (i+1)).foldl uS t=uS ((l.take i).foldl uS t) x:=by
 rw [List.take_add_one,h];simp
theorem LV {t:List It} {l:List RU} {i:Nat} (h:l.length≤i∨14≤i) (h2:i≤14):(l.take i).foldl uS t=YB t l:=by
 unfold YB
 rcases h with h|h
 ·rw [List.take_of_length_le h,List.take_of_length_le (Nat.le_trans h h2)]
 ·rw [show i=14 by omega]
end
end Go.Dm
namespace Go.Dm
open Go
section
def lT (r:Rm) (s:List UInt8):List It × Int:=if !((cP r s).2 == 0) then ([],(cP r s).2) else (treeR r (cP r s).1.i,0)
theorem tX {r:Rm} {d:Dr} (h:SimW r d) (s:List UInt8):lT r s=zDI d s:=by
 unfold lT zDI
 cases hn:AP d.N s with
 | none =>
  obtain ⟨h1,h2⟩:=gF h hn
  rw [h1,h2];rfl
 | some n =>
  obtain ⟨y,hy,h1,h2,h3,h4,h5⟩:=gE h hn
  rw [h1,h2,h5]
  show (treeR r y.1.i,(0:Int))=(dE d y.1.i,0)
  rw [h.treeR]
def YT (r:Rm) (l:Ly) (t:List It):Rm:=if fJ (treeR r l.i) t then r else ⟨r.N,r.L,oQ r.E l.i (fM (treeR r l.p) t),r.x⟩
theorem yB {r:Rm} {d:Dr} (h:Sim r d) {y:Ly × List It} (hy:y∈d.L) {t:List It} (ht:OkT t) (hf:t=y.2∨y.1.f=false):Sim (YT r y.1 t) (jZ d y.1.i t):=by
 have e:=gZ h.g.inc hy
 unfold YT
 rw [h.toSimW.treeR,h.toSimW.treeR,e]
 cases hs:fJ y.2 t
 ·rw [if_neg (by decide)]
  rcases hf with rfl|hf
  ·rw [QH (h.t y hy)] at hs;cases hs
  ·exact zHT h hy hf ht
 ·rw [if_pos rfl]
  have:=NN (fun x hx=>iX ((h.t y hy).its x hx).2.2.1 ((h.t y hy).tlen x hx)) (fun x hx=>iX (ht.its x hx).2.2.1 (ht.tlen x hx)) hs
  rw [← this,← e,HD h.g.inc]
  exact h
def zBQ (r:Rm) (s:List UInt8) (c:Cl):Rm × An :=
 if !((cP r s).2 == 0) then (r,anE (cP r s).2) else if (cP r s).1.f && lF c.k then (r,anE 14)
 else (YT r (cP r s).1 (doP (treeR r (cP r s).1.i) c).1,(doP (treeR r (cP r s).1.i) c).2)
theorem zLc {r:Rm} {d:Dr} (h:Sim r d) (s:List UInt8) {c:Cl} (hc:c.t<18446744073709551616):(zBQ r s c).2=(doD d s c).2∧Sim (zBQ r s c).1 (doD d s c).1:=by
 unfold zBQ doD
 cases hn:AP d.N s with
 | none =>
  obtain ⟨h1,h2⟩:=gF h.toSimW hn
  rw [h1,h2];exact ⟨rfl,h⟩
 | some n =>
  obtain ⟨y,hy,h1,h2,h3,h4,h5⟩:=gE h.toSimW hn
  have hy2:=h.t y hy
  rw [h1,h2,h5,rO h3,iI h3]
  rw [show (!((0:Int) == 0))=false from rfl]
  simp only [Bool.false_eq_true,if_false]
  rw [h.toSimW.treeR,iI h3,← zMp hy2]
  cases hft:y.1.f && lF c.k
  ·simp only [Bool.false_eq_true,if_false]
   cases he:((doP y.2 c).2.e == 0)
   ·simp only [Bool.not_false,if_true,true_and]
    have e1:=zIy (t:=y.2) (c:=c) (by simpa using he)
    rw [e1]
    have:=yB h hy hy2 (.inl rfl)
    rw [show jZ d y.1.i y.2=d by rw [← iI h3,HD h.g.inc]] at this
    exact this
   ·simp only [Bool.not_true,Bool.false_eq_true,if_false,true_and]
    refine yB h hy (zJ3 hy2 hc) ?_
    cases hf:y.1.f
    ·exact .inr rfl
    ·rw [hf,Bool.true_and] at hft
     exact .inl (zIe hft)
  ·exact ⟨rfl,h⟩
def gP (r:Rm) (s:List UInt8) (l:List Ch):Rm × Int :=
 if !((wsP r s).2 == 0) then (r,(wsP r s).2) else if !((eL (treeR r (wsP r s).1.i) l).2 == 0) then (r,(eL (treeR r (wsP r s).1.i) l).2)
 else (YT r (wsP r s).1 (eL (treeR r (wsP r s).1.i) l).1,0)
def CR (d:Dr) (s:List UInt8) (l:List Ch):Dr × Int :=
 if eH d.N s == 0 then (d,6) else if pT d (eH d.N s) then (d,14) else if !((eL (dE d (eH d.N s)) l).2 == 0) then (d,(eL (dE d (eH d.N s)) l).2)
 else (jZ d (eH d.N s) (eL (dE d (eH d.N s)) l).1,0)
theorem HZ {t:List It} {l:List Ch} (ht:OkT t) (hp:∀ x∈l,x.n.t<18446744073709551616) (he:(eL t l).2=0):OkT (eL t l).1:=by
 unfold eL at he ⊢
 split at he
 ·cases he
 ·rename_i h1
  split at he
  ·cases he
  ·rename_i h2
   split at he
   ·cases he
   ·rename_i h3
    split at he
    ·cases he
    ·rename_i h4
     rw [if_neg h1,if_neg h2,if_neg h3,if_neg h4]
     refine MN (fun y hy=>?_) (by simpa using h4)
     rcases zDH hy with ⟨c,hc,rfl⟩|hy
     ·exact hp c hc
     ·exact ht.tlen y hy
theorem zBA {r:Rm} {d:Dr} (h:Sim r d) (s:List UInt8) {l:List Ch} (hl:∀ x∈l,x.n.t<18446744073709551616):(gP r s l).2=(CR d s l).2∧Sim (gP r s l).1 (CR d s l).1:=by
 unfold gP CR wsP
 cases hn:AP d.N s with
 | none =>
  obtain ⟨h1,h2⟩:=gF h.toSimW hn
  rw [h1,h2];exact ⟨rfl,h⟩
 | some n =>
  obtain ⟨y,hy,h1,h2,h3,h4,h5⟩:=gE h.toSimW hn
  have hy2:=h.t y hy
  rw [h1,h2,h5,rO h3,iI h3]
  cases hf:y.1.f
  rotate_left 1
  ·exact ⟨rfl,h⟩
  ·rw [show ((0:Int) == 0 && false)=false from rfl]
   simp only [Bool.false_eq_true,if_false]
   rw [show (!((0:Int) == 0))=false from rfl]
   simp only [Bool.false_eq_true,if_false]
   rw [h.toSimW.treeR,iI h3]
   cases he:((eL y.2 l).2 == 0)
   ·exact ⟨rfl,h⟩
   ·simp only [Bool.not_true,Bool.false_eq_true,if_false,true_and]
    exact yB h hy (HZ hy2 hl (by simpa using he)) (.inr hf)
end
section
def fF:List UInt8:=[109,97,105,110]
def zJU:Rm:=⟨[⟨fF,2⟩],[⟨1,0,0,true⟩,⟨2,1,0,false⟩],[],3⟩
theorem EX:Sim zJU NV:=by
 have hg:OkG NV.G:=(zDX (by decide +kernel)).1
 have hm:∀ y∈NV.L,y=(⟨1,0,0,true⟩,[])∨y=(⟨2,1,0,false⟩,[]):=fun y hy=>by
  simpa [NV] using hy
 refine { g:=hg,t:=fun y hy=>?_,srt:=List.pairwise_singleton _ _,nm:=fun n hn=>?_,one:=fun n hn m hm2 _ _=>?_,nx:=⟨fun y hy=>?_,by decide,by decide⟩,ln:=by decide,N:=rfl,L:=rfl,x:=rfl,e:=fun y hy=>?_,kept:=fun y hy=>?_,len:=by decide }
 ·rcases hm y hy with rfl|rfl <;> exact OkT.nil
 ·obtain rfl:n=⟨fF,2⟩:=by simpa [NV,fF] using hn
  exact ⟨by decide +kernel,(⟨2,1,0,false⟩,[]),by simp [NV],rfl⟩
 ·rw [show n=⟨fF,2⟩ by simpa [NV,fF] using hn,show m=⟨fF,2⟩ by simpa [NV,fF] using hm2]
 ·rcases hm y hy with rfl|rfl <;> decide
 ·have e:∀ a,dE NV a=[]:=fun a=>by
   unfold dE
   split
   ·rename_i y hy
    rcases hm y (lH hy).1 with rfl|rfl <;> rfl
   ·rfl
  rw [e]
  rcases hm y hy with rfl|rfl <;> rfl
 ·refine ⟨⟨fF,2⟩,by simp [NV,fF],?_⟩
  rcases hm y hy with rfl|rfl <;> decide +kernel
end
section
def bX (r:Rm):aD:=[.box [.own 1 0 r.N.length,.own 2 0 r.L.length,.mp 3,.p (.i .i64 r.x)],.arr 2 (cR r.N) false,.arr 4 (dZ r.L) false,.mp (BT r.E)]
def AtN (N:List Nm) (s:List UInt8) (i:Nat):Prop:=i≤N.length∧∀ (k:Nat) (x:Nm),N[k]? = some x→(k<i→bO x.n s=true)∧(i≤k→bO x.n s=false)
theorem zBV {s:List UInt8}:∀ {N:List Nm} {i:Nat},AtN N s i→pR N s=i
 | [],i,h=>by have:=h.1;simp at this;subst this;rfl
 | x::N,0,h=>by
  have:=(h.2 0 x rfl).2 (Nat.le_refl _)
  unfold pR
  rw [List.takeWhile_cons,if_neg (by rw [this];decide)]
  rfl
 | x::N,i+1,h=>by
  have h0:=(h.2 0 x rfl).1 (by omega)
  have ih:=zBV (N:=N) (i:=i) (s:=s) ⟨by have:=h.1;simp only [List.length_cons] at this;omega,fun k y hy=>⟨fun hk=>(h.2 (k+1) y (by simpa using hy)).1 (by omega),fun hk=>(h.2 (k+1) y (by simpa using hy)).2 (by omega)⟩⟩
  unfold pR at ih ⊢
  rw [List.takeWhile_cons,if_pos h0,List.length_cons,ih]
theorem zIA {N:List Nm} (h:LI N) {s:List UInt8} {i:Nat} (ha:AtN N s i):TX N s=(match N[i]? with
  | some x=>x.n == s
  | none=>false):=by
 have e:=zBV ha
 cases hi:N[i]? with
 | none =>
  simp only
  unfold TX
  rw [List.any_eq_false]
  intro x hx
  obtain ⟨k,hk⟩:=List.mem_iff_getElem?.1 hx
  have hk2:k<i:=by
   have h1:=(List.getElem?_eq_some_iff.1 hk).1
   have h2:N.length≤i:=by
    rcases Nat.lt_or_ge i N.length with h|h
    ·rw [List.getElem?_eq_getElem h] at hi;cases hi
    ·exact h
   omega
  have:=jP ((ha.2 k x hk).1 hk2)
  rw [this];decide
 | some y =>
  simp only
  cases hy:y.n == s
  ·rw [Bool.eq_false_iff]
   intro hn
   unfold TX at hn
   obtain ⟨x,hx,hxs⟩:=List.any_eq_true.1 hn
   have hxs:=eq_of_beq hxs
   subst hxs
   have:=SE h hx
   rw [e,hi] at this
   cases this
   simp at hy
  ·exact List.any_eq_true.2 ⟨y,List.mem_of_getElem? hi,hy⟩
theorem zD4 {N:List Nm} (h:LI N) {s:List UInt8}:(TX N s=false∧AP N s=none)∨∃ x,TX N s=true∧AP N s=some x∧N[pR N s]? = some x∧x.n=s:=by
 cases hn:AP N s with
 | none =>
  left
  rw [← RM,hn]
  exact ⟨rfl,rfl⟩
 | some x =>
  right
  obtain ⟨h1,h2⟩:=gW hn
  refine ⟨x,by rw [← RM,hn];rfl,rfl,?_,h2⟩
  rw [← h2];exact SE h h1
structure OkR (r:Rm):Prop where
 srt:LI r.N
 nl:r.N.length≤900
 ll:r.L.length≤900
 ent:∀ x∈r.L,OkE (jU r.E x.i)
 x:0≤r.x∧r.x≤2147483647
theorem CG {l:List Ly}:∀ {n:Nat} {id a:Int},a∈dX l n id→∃ x∈l,x.i=a
 | 0,_,_,h=>by cases h
 | n+1,id,a,h=>by
  simp only [dX] at h
  split at h
  ·rename_i x hx
   rcases List.mem_cons.1 h with rfl|h
   ·exact ⟨x,(mT hx).1,rfl⟩
   ·exact CG h
  ·cases h
theorem OkR.layers {r:Rm} (h:OkR r) (id:Int):∀ l∈lM r id,OkE l:=fun l hl=>by
 obtain ⟨a,ha,rfl⟩:=List.mem_map.1 hl
 obtain ⟨x,hx,rfl⟩:=CG (List.mem_reverse.1 ha)
 exact h.ent x hx
attribute [go_sem] bX
end
end Go.Dm
namespace Go.Proofs.YtbpblnmhlhpebaaGreatDoor
open Go Go.Dm Go.Proofs
section
theorem zDE {q p:List UInt8} {a:Int}:aA Tryz.prog 137 [.agg [.p (.s q),.p (.i .i64 a)],.c (.p (.s p))] [] fun r h=>r=.c (.p (.i .i64 (GY q p)))∧h=[]:=by
 refine ent aB aK Tryz.func137 rfl rfl fun X0 hX=>?_
 simp only [Tryz.f137,go_sem]
 repeat' (first|simp only [*,go_sem,Nat.reduceLT,Nat.reduceEqDiff,↓reduceIte]|((with_reducible refine aQ (jK) ?_ ?_ ?_);exact rfl;exact rfl))
theorem RA {l:List Nm} {p:List UInt8} (hl:l.length≤1000000) (hs:LI l):
  aA Tryz.prog 136 [.c (.p (.sl 2 (cR l))),.c (.p (.s p)),.c (.clo 137 [])] [] fun r h =>
   r=.tup [.c (.p (.i .i64 (pR l p))),.c (.p (.b (TX l p)))]∧h=[]:=by
 have hmon:∀ (k k':Nat) (x x':Nm),l[k]? = some x→l[k']? = some x'→k<k'→bO x.n x'.n=true:=fun k k' x x' h1 h2 h3=>by
  obtain ⟨h4,rfl⟩:=List.getElem?_eq_some_iff.1 h1
  obtain ⟨h5,rfl⟩:=List.getElem?_eq_some_iff.1 h2
  exact List.pairwise_iff_getElem.1 hs _ _ h4 h5 h3
 refine ent aB aK Tryz.func136 rfl rfl fun X0 hX=>?_
 simp only [Tryz.f136,go_sem]
 repeat' (simp only [*,go_sem,Nat.reduceLT,Nat.reduceEqDiff,↓reduceIte,Nat.reduceAdd])
 refine aY aB aK (α:=Nat × Nat) (fun x=>⟨49,[(0,.c (.p (.sl 2 (cR l)))),(1,.c (.p (.s p))),(2,.c (.clo 137 [])),(8,.c (.p (.i .i64 l.length))),(9,.c (.p (.i .i64 x.1))),(10,.c (.p (.i .i64 x.2)))],[]⟩)
  (fun x=>x.1≤x.2∧x.2≤l.length∧∀ (k:Nat) (y:Nm),l[k]? = some y→(k<x.1→bO y.n p=true)∧(x.2≤k→bO y.n p=false)) (fun x=>x.2-x.1) (0,l.length) ⟨Nat.zero_le _,Nat.le_refl _,fun k y hy=>⟨fun h=>by omega,fun h=>by rw [List.getElem?_eq_none h] at hy;cases hy⟩⟩ (.inl (aI (by rw [hX];rfl) rfl rfl (by simp [aH,aL,aC,aG,aF]))) ?_
 rintro ⟨i,j⟩ ⟨hij,hj,hl⟩
 simp only at hij hj hl
 by_cases hlt:i<j
 ·have h1:decide ((i:Int)<(j:Int))=true:=decide_eq_true (by omega)
  have w1:IntKind.i64.wrap ((i:Int)+j)=(i:Int)+j:=wrap_i64 (by omega) (by omega)
  have w2:IntKind.u64.wrap ((i:Int)+j)=(i:Int)+j:=wrap_u64 (by omega) (by omega)
  obtain ⟨m,hm,hmi,hmj⟩:∃ m:Nat,((i:Int)+j).fdiv (2 ^ min 1 64)=(m:Int)∧i≤m∧m<j :=
   ⟨(i+j) / 2,by rw [show (2:Int) ^ min 1 64=2 from rfl,Int.fdiv_eq_ediv_of_nonneg _ (by decide)];omega,by omega,by omega⟩
  have w3:IntKind.i64.wrap (m:Int)=m:=wrap_i64 (by omega) (by omega)
  have w4:IntKind.i64.wrap ((m:Int)+1)=m+1:=wrap_i64 (by omega) (by omega)
  have hml:m<l.length:=by omega
  have hx:l[m]? = some l[m]:=List.getElem?_eq_getElem hml
  have hg:=rI hx
  generalize l[m]=x at hx hg
  repeat' (first|simp only [*,go_sem,Nat.reduceLT,Nat.reduceLeDiff,Nat.reduceEqDiff,↓reduceIte,Nat.reduceAdd,Int.reduceLE,Int.reduceToNat]|((with_reducible refine aQ (zDE) ?_ ?_ ?_);exact rfl;exact rfl)|with_reducible refine aM (fun _=>?_) (fun _=>?_)|((with_reducible refine And.intro ?_ ?_);(focus (omega))))
  ·rename_i hb
   have hb:bO x.n p=true:=by rw [← pD];exact hb
   exact eM (m+1,j) ⟨by simp only;omega,hj,fun k y hy=>⟨fun hk=>by
    rcases Nat.lt_or_ge k m with h|h
    ·exact cD (hmon _ _ _ _ hy hx h) hb
    ·have:k=m:=by simp only at hk;omega
     subst this;rw [hx] at hy;cases hy;exact hb,(hl k y hy).2⟩⟩ (by simp only;omega) (aI rfl rfl rfl (by simp [aH,aL,aC,aG,aF]))
  ·rename_i hb
   have hb:bO x.n p=false:=by rw [← pD];exact hb
   exact eM (i,m) ⟨hmi,by simp only;omega,fun k y hy=>⟨(hl k y hy).1,fun hk=>by
    rcases Nat.lt_or_ge m k with h|h
    ·cases hc:bO y.n p
     ·rfl
     ·have:=cD (hmon _ _ _ _ hx hy h) hc
      rw [hb] at this;cases this
    ·have:k=m:=by simp only at hk;omega
     subst this;rw [hx] at hy;cases hy;exact hb⟩⟩ (by simp only;omega) (aI rfl rfl rfl (by simp [aH,aL,aC,aG,aF]))
 ·have h1:decide ((i:Int)<(j:Int))=false:=decide_eq_false (by omega)
  have:i=j:=by omega
  subst this
  have hat:AtN l p i:=⟨hj,hl⟩
  have he:=PLift.up (zBV hat)
  have hn:=zIA hs hat
  by_cases hil:i<l.length
  ·have hx:l[i]? = some l[i]:=List.getElem?_eq_getElem hil
   rw [hx] at hn
   have hg:=rI hx
   have h2:decide ((i:Int)<(l.length:Int))=true:=decide_eq_true (by omega)
   generalize l[i]=x at hx hg hn
   clear hat hl
   repeat' (first|simp only [*,go_sem,Nat.reduceLT,Nat.reduceLeDiff,Nat.reduceEqDiff,↓reduceIte,Nat.reduceAdd]|((with_reducible refine aQ (zDE) ?_ ?_ ?_);exact rfl;exact rfl)|((with_reducible refine And.intro ?_ ?_);(focus (omega))))
   all_goals simp only [he.down,RZ]
  ·have h2:decide ((i:Int)<(l.length:Int))=false:=decide_eq_false (by omega)
   rw [List.getElem?_eq_none (Nat.le_of_not_lt hil)] at hn
   clear hat hl
   repeat' (simp only [*,go_sem,Nat.reduceLT,Nat.reduceEqDiff,↓reduceIte])
   all_goals simp only [he.down]
theorem QD {h:aD} {i n:Nat} {l:List Nm} {p:List UInt8} {K:DV→aD→Prop} (hl:l.length≤1000000) (hs:LI l) (hn:n=l.length) (h0:h[i]? = some (.arr 2 (cR l) false))
  (hk:K (.tup [.c (.p (.i .i64 (pR l p))),.c (.p (.b (TX l p)))]) h):aA Tryz.prog 136 [.c (.own i 0 n),.c (.p (.s p)),.c (.clo 137 [])] h K :=
 zKY rfl rfl (by rw [hn,← gL,List.take_length]) (RA hl hs) h0 (fun d hd=>by subst hd;exact ⟨rfl,hk⟩)
theorem tF {r:Rm} {s:List UInt8} (hl:r.N.length≤1000000) (hs:LI r.N):aA Tryz.prog 66 [.c (.ptr 0 0),.c (.p (.s s))] (bX r) fun d h=>d=.tup [.c (.p (.i .i64 (pR r.N s))),.c (.p (.b (TX r.N s)))]∧h=bX r:=by
 unfold bX
 refine ent aB aK Tryz.func66 rfl rfl fun X0 hX=>?_
 simp only [Tryz.f66,go_sem]
 repeat' (first|simp only [*,go_sem,Nat.reduceLT,Nat.reduceEqDiff,↓reduceIte,Nat.reduceAdd]|refine QD hl hs rfl rfl ?_)
end
end Go.Proofs.YtbpblnmhlhpebaaGreatDoor
