import Derived.Test.YtnbgaphhhjnjlaaGreatDoorTB
import Derived.Test.YtnbgaphhhjnjlaaGreatDoorSC
import Derived.Test.YtnbgaphhhjnjlaaGreatDoorSE

section
/-
  Paths with links, and calls: what a walk and a call of a tree answer, as functions; what a walk leads to. No condition.
-/

set_option linter.unusedSimpArgs false
set_option linter.unusedVariables false
namespace Go.Dm
open Go

/-! Paths with links. -/
def splitF (s : List UInt8) : List (List UInt8) × Int :=
  if decide ((120 : Int) < s.length) then ([], 12) else if !(s.all fun b => !((b.toNat : Int) == 0)) then ([], 1)
  else if (cutR s).all fun x => !decide ((24 : Int) < x.length) then ((cutR s).filter fun x => !(x == []), 0) else ([], 12)
def slashed (d : List UInt8) : Bool := match d with
  | b :: _ => (b.toNat : Int) == 47
  | [] => false
def walkW (t : List It) (fo : Bool) : Nat → List UInt8 → List (List UInt8) → Nat → List UInt8 × Bool × Int
  | 0, _, _, _ => ([], false, 11)
  | _ + 1, c, [], _ => (c, true, 0)
  | f + 1, c, p :: ps, h =>
    if p == [46] then walkW t fo f c ps h else if p == [46, 46] then walkW t fo f (dirOfR c) ps h
    else if !isDirR t c then ([], false, 9) else if decide ((120 : Int) < (joinF c p).length) then ([], false, 12)
    else match getR t (joinF c p) with
    | none => if ps == [] then (joinF c p, false, 0) else ([], false, 6)
    | some n => if n.k == 3 && (!(ps == []) || fo) then (if decide (8 ≤ h) then ([], false, 11) else if (splitF n.d).2 == 0 then walkW t fo f (if slashed n.d then [] else c) ((splitF n.d).1 ++ ps) (h + 1) else ([], false, (splitF n.d).2)) else walkW t fo f (joinF c p) ps h
def walkF (t : List It) (s : List UInt8) (fo : Bool) : List UInt8 × Bool × Int :=
  if (splitF s).2 == 0 then walkW t fo 1400 [] (splitF s).1 0 else ([], false, (splitF s).2)

/-! Calls. -/
structure Cl where
  k : Int
  p : List UInt8
  to' : List UInt8
  m : Int
  t : Nat
  at' : Int
  n : Int
  d : List UInt8
structure An where
  e : Int
  n : Nd
  d : List UInt8
  l : List (List UInt8)
def anE (e : Int) : An := ⟨e, nd0, [], []⟩
def follF (k : Int) : Bool := k == 3 || k == 4 || k == 10 || k == 11 || k == 12 || k == 14 || k == 15
def turnsF (k : Int) : Bool := decide (1 ≤ k) && decide (k ≤ 11) && !(k == 8)
def rightM (m : Int) : Bool := decide (0 ≤ m) && decide (m ≤ 4095)
def nodeAt (t : List It) (p : List UInt8) : Nd := if p == [] then ⟨2, 0, 0, []⟩ else (getR t p).getD nd0
def wrD (had : List UInt8) (f : Nat) (b : List UInt8) : List UInt8 := had.take f ++ b ++ had.drop (f + b.length)

/-- As the program has it. -/
def dirP (is : Bool) (n : Nd) : Bool := is && n.k == 2
def newN (kind : Int) (c : Cl) : Nd := ⟨kind, if kind == 3 then 511 else c.m, bitsF c.t, if kind == 2 then [] else c.d⟩
def makeP (t : List It) (p : List UInt8) (is : Bool) (kind : Int) (c : Cl) : List It × Int :=
  if is then ([], 7) else if !rightM (newN kind c).m then ([], 1)
  else if kind == 3 && (decide ((c.d.length : Int) < 1) || decide ((120 : Int) < c.d.length) || !(c.d.all fun b => !(b == 0))) then ([], 1)
  else if kind == 1 && decide ((2000 : Int) < c.d.length) then ([], 16) else putR t p (newN kind c)
def fileP (is : Bool) (n : Nd) : Int := if !is then 6 else if dirP is n then 8 else 0
def writeP (t : List It) (p : List UInt8) (n : Nd) (from' : Int) (b : List UInt8) : List It × Int :=
  if decide (from' < 0) || decide ((n.d.length : Int) < from') then ([], 1) else if decide (2000 - from' < (b.length : Int)) then ([], 16)
  else putR t p ⟨n.k, n.m, n.t, wrD n.d from'.toNat b⟩
def truncP (t : List It) (p : List UInt8) (n : Nd) (k : Int) : List It × Int :=
  if decide (k < 0) || decide ((n.d.length : Int) < k) then ([], 1) else putR t p ⟨n.k, n.m, n.t, n.d.take k.toNat⟩
def rmdirP (t : List It) (p : List UInt8) (is : Bool) (n : Nd) : List It × Int :=
  if p == [] then ([], 1) else if !is then ([], 6) else if !dirP is n then ([], 9) else if decide ((0 : Int) < (namesF t p).length) then ([], 10) else (removeR t p, 0)
def setP (t : List It) (p : List UInt8) (is : Bool) (n : Nd) (c : Cl) : List It × Int :=
  if !is then ([], 6) else if p == [] || c.k == 10 && !rightM c.m then ([], 1)
  else if c.k == 10 then putR t p ⟨n.k, c.m, n.t, n.d⟩ else putR t p ⟨n.k, n.m, bitsF c.t, n.d⟩
def ontoP (d : Bool) (t : List It) (q : List UInt8) (is : Bool) (n : Nd) : Int :=
  if !is then 0 else if d && !dirP is n then 9 else if d && decide ((0 : Int) < (namesF t q).length) then 10 else if !d && dirP is n then 8 else 0
def renameP (t : List It) (p : List UInt8) (is : Bool) (n : Nd) (to' : List UInt8) : List It × Int :=
  if !is then ([], 6) else if !((walkF t to' false).2.2 == 0) then ([], (walkF t to' false).2.2)
  else if p == [] || (walkF t to' false).1 == [] then ([], 1) else if p == (walkF t to' false).1 then (t, 0)
  else if belowR p (walkF t to' false).1 then ([], 18)
  else if !(ontoP (dirP is n) t (walkF t to' false).1 (walkF t to' false).2.1 (nodeAt t (walkF t to' false).1) == 0) then ([], ontoP (dirP is n) t (walkF t to' false).1 (walkF t to' false).2.1 (nodeAt t (walkF t to' false).1))
  else moveR (removeR t (walkF t to' false).1) p (walkF t to' false).1
def turnedP (t : List It) (p : List UInt8) (is : Bool) (n : Nd) (c : Cl) : List It × Int :=
  if c.k == 1 then makeP t p is 2 c else if c.k == 2 then makeP t p is 1 c else if c.k == 7 then makeP t p is 3 c else if c.k == 6 then rmdirP t p is n
  else if c.k == 10 || c.k == 11 then setP t p is n c else if c.k == 9 then renameP t p is n c.to'
  else if !(fileP is n == 0) then ([], fileP is n) else if c.k == 3 then writeP t p n c.at' c.d else if c.k == 4 then truncP t p n c.n else (removeR t p, 0)
def readC1 (is : Bool) (n : Nd) (from' k : Int) : An :=
  if !(fileP is n == 0) then anE (fileP is n) else if decide (from' < 0) || decide (k < 0) then anE 1 else ⟨0, nd0, (n.d.drop from'.toNat).take k.toNat, []⟩
def askedP (t : List It) (p : List UInt8) (is : Bool) (n : Nd) (c : Cl) : An :=
  if c.k == 14 then readC1 is n c.at' c.n else if !is then anE 6 else if c.k == 8 && !(n.k == 3) then anE 1 else if c.k == 8 then ⟨0, nd0, n.d, []⟩
  else if c.k == 15 && !dirP is n then anE 9 else if c.k == 15 then ⟨0, nd0, [], namesF t p⟩ else ⟨0, n, [], []⟩
def doP (t : List It) (c : Cl) : List It × An :=
  if decide (c.k < 1) || decide (15 < c.k) then (t, anE 1) else if !((walkF t c.p (follF c.k)).2.2 == 0) then (t, anE (walkF t c.p (follF c.k)).2.2)
  else if !turnsF c.k then (t, askedP t (walkF t c.p (follF c.k)).1 (walkF t c.p (follF c.k)).2.1 (nodeAt t (walkF t c.p (follF c.k)).1) c)
  else if (turnedP t (walkF t c.p (follF c.k)).1 (walkF t c.p (follF c.k)).2.1 (nodeAt t (walkF t c.p (follF c.k)).1) c).2 == 0 then ((turnedP t (walkF t c.p (follF c.k)).1 (walkF t c.p (follF c.k)).2.1 (nodeAt t (walkF t c.p (follF c.k)).1) c).1, anE 0)
  else (t, anE (turnedP t (walkF t c.p (follF c.k)).1 (walkF t c.p (follF c.k)).2.1 (nodeAt t (walkF t c.p (follF c.k)).1) c).2)

/-- As the document has it. -/
def createR (t : List It) (c : Cl) (p : List UInt8) (is : Bool) : List It × Int :=
  if is then (t, 7)
  else if decide ((if c.k == 7 then 511 else c.m) < 0) || decide ((4095 : Int) < (if c.k == 7 then 511 else c.m)) || c.k == 7 && !targetR c.d then (t, 1)
  else if c.k == 2 && decide ((2000 : Int) < c.d.length) then (t, 16)
  else putR t p ⟨if c.k == 2 then 1 else if c.k == 7 then 3 else 2, if c.k == 7 then 511 else c.m, bitsF c.t, if c.k == 2 || c.k == 7 then c.d else []⟩
def renameR (t : List It) (p : List UInt8) (dir : Bool) (to' : List UInt8) : List It × Int :=
  if !((walkF t to' false).2.2 == 0) then (t, (walkF t to' false).2.2)
  else if p == [] || (walkF t to' false).1 == [] then (t, 1) else if p == (walkF t to' false).1 then (t, 0)
  else if belowR p (walkF t to' false).1 then (t, 18)
  else if (walkF t to' false).2.1 then
    (if dir && !isDirR t (walkF t to' false).1 then (t, 9) else if dir && decide ((0 : Int) < (namesF t (walkF t to' false).1).length) then (t, 10)
     else if !dir && isDirR t (walkF t to' false).1 then (t, 8) else moveR (removeR t (walkF t to' false).1) p (walkF t to' false).1)
  else moveR t p (walkF t to' false).1
def doR1 (t : List It) (c : Cl) (p : List UInt8) (is : Bool) : List It × An :=
  let n := (getR t p).getD nd0
  let dir := is && isDirR t p
  if c.k == 1 || c.k == 2 || c.k == 7 then ((createR t c p is).1, anE (createR t c p is).2)
  else if c.k == 6 && p == [] then (t, anE 1) else if !is then (t, anE 6)
  else if c.k == 3 then (if dir then (t, anE 8) else if decide (c.at' < 0) || decide ((n.d.length : Int) < c.at') then (t, anE 1) else if decide (2000 - c.at' < (c.d.length : Int)) then (t, anE 16) else (setR t p ⟨n.k, n.m, n.t, wrD n.d c.at'.toNat c.d⟩, anE 0))
  else if c.k == 4 then (if dir then (t, anE 8) else if decide (c.n < 0) || decide ((n.d.length : Int) < c.n) then (t, anE 1) else (setR t p ⟨n.k, n.m, n.t, n.d.take c.n.toNat⟩, anE 0))
  else if c.k == 5 then (if dir then (t, anE 8) else (removeR t p, anE 0))
  else if c.k == 6 then (if !dir then (t, anE 9) else if decide ((0 : Int) < (namesF t p).length) then (t, anE 10) else (removeR t p, anE 0))
  else if c.k == 8 then (if !(n.k == 3) then (t, anE 1) else (t, ⟨0, nd0, n.d, []⟩))
  else if c.k == 12 || c.k == 13 then (t, ⟨0, nodeAt t p, [], []⟩)
  else if c.k == 14 then (if dir then (t, anE 8) else if decide (c.at' < 0) || decide (c.n < 0) then (t, anE 1) else (t, ⟨0, nd0, (n.d.drop c.at'.toNat).take c.n.toNat, []⟩))
  else if c.k == 15 then (if !dir then (t, anE 9) else (t, ⟨0, nd0, [], namesF t p⟩))
  else if c.k == 10 then (if p == [] || decide (c.m < 0) || decide (4095 < c.m) then (t, anE 1) else (setR t p ⟨n.k, c.m, n.t, n.d⟩, anE 0))
  else if c.k == 11 then (if p == [] then (t, anE 1) else (setR t p ⟨n.k, n.m, bitsF c.t, n.d⟩, anE 0))
  else ((renameR t p dir c.to').1, anE (renameR t p dir c.to').2)
def doR (t : List It) (c : Cl) : List It × An :=
  if decide (c.k < 1) || decide (15 < c.k) then (t, anE 1) else if !((walkF t c.p (follF c.k)).2.2 == 0) then (t, anE (walkF t c.p (follF c.k)).2.2)
  else if (doR1 t c (walkF t c.p (follF c.k)).1 (walkF t c.p (follF c.k)).2.1).2.e == 0 then doR1 t c (walkF t c.p (follF c.k)).1 (walkF t c.p (follF c.k)).2.1
  else (t, anE (doR1 t c (walkF t c.p (follF c.k)).1 (walkF t c.p (follF c.k)).2.1).2.e)
end Go.Dm

end

section
/-
  What a walk leads to; a call of a tree as the program has it is a call as the document has it. Conditions: the tree is right.
-/

set_option linter.unusedSimpArgs false
set_option linter.unusedVariables false
namespace Go.Dm
open Go

theorem joinF_ne {c x : List UInt8} (h : x ≠ []) : joinF c x ≠ [] := by
  unfold joinF; split
  · exact h
  · simp
/-! Nothing is below what is no directory. -/
theorem par_dir {t : List It} {b : List UInt8} (h : Par t) (hb : b ≠ []) : ∀ (n : Nat) (q : List UInt8), q.length ≤ n → (getR t q).isSome = true → belowR b q = true → isDirR t b = true
  | 0, q, hl, _, hq => by
    have h1 : q = [] := by simpa using hl
    subst h1
    have h2 := belowR_len hq
    exact absurd (by simpa using h2) hb
  | n + 1, q, hl, hs, hq => by
    obtain ⟨m, hm⟩ := Option.isSome_iff_exists.1 hs
    obtain ⟨x, hx, rfl, _⟩ := getR_mem hm
    have hdx := h x hx
    rcases below_up hb hq with h1 | h1
    · rw [← h1]; exact hdx
    · have h0 : dirOfR x.p ≠ [] := by
        intro h0
        rw [h0] at h1
        have := belowR_len h1
        exact absurd (by simpa using this) hb
      obtain ⟨m, h2, _⟩ := isDir_some h0 hdx
      have hlt := dir_lt h0
      exact par_dir h hb n _ (by omega) (by rw [h2]; rfl) h1
theorem none_below {t : List It} (h : OkT t) {p : List UInt8} (hp : p ≠ []) (hd : isDirR t p = false) : noneBelow t p = t := by
  unfold noneBelow
  refine List.filter_eq_self.2 fun x hx => ?_
  cases hb : belowR p x.p
  · rfl
  · have := par_dir h.par hp _ x.p (Nat.le_refl _) (by rw [getR_self h.srt hx]; rfl) hb
    rw [hd] at this; cases this
theorem isDir_get {t : List It} {p : List UInt8} (hp : p ≠ []) : isDirR t p = match getR t p with | some n => n.k == 2 | none => false := by
  unfold isDirR
  have : (p == []) = false := by simpa using hp
  rw [this]; rfl
theorem drop_no {t : List It} {p : List UInt8} (h : getR t p = none) : dropR t p = t := by
  unfold dropR
  refine List.filter_eq_self.2 fun x hx => ?_
  cases hb : x.p == p
  · rfl
  · exfalso
    have : ∀ {t : List It}, x ∈ t → getR t p ≠ none := by
      intro t ht
      induction t with
      | nil => simp at ht
      | cons y r ih =>
        rw [getR]
        split
        · simp
        · rcases List.mem_cons.1 ht with rfl | ht
          · rename_i hn; exact absurd hb hn
          · exact ih ht
    exact this hx h
theorem remove_no {t : List It} (h : OkT t) {p : List UInt8} (hp : p ≠ []) (hn : getR t p = none) : removeR t p = t := by
  unfold removeR
  rw [none_below h hp (by rw [isDir_get hp, hn]), drop_no hn]

/-! What a walk leads to. -/
def ThereT (t : List It) (fo : Bool) (r : List UInt8 × Bool × Int) : Prop :=
  r.2.2 = 0 → (r.2.1 = true → r.1 = [] ∨ ∃ n, getR t r.1 = some n ∧ (fo = true → (n.k == 3) = false)) ∧ (r.2.1 = false → r.1 ≠ [] ∧ getR t r.1 = none)
def InT (t : List It) (c : List UInt8) : Prop := c = [] ∨ ∃ n, getR t c = some n
theorem splitF_ne {s : List UInt8} : ∀ x ∈ (splitF s).1, x ≠ [] := by
  intro x hx
  unfold splitF at hx
  split at hx
  · simp at hx
  · split at hx
    · simp at hx
    · split at hx
      · have := (List.mem_filter.1 hx).2
        intro h; subst h; simp at this
      · simp at hx
theorem dirOf_dir {t : List It} (h : OkT t) {c : List UInt8} (hc : InT t c) : isDirR t (dirOfR c) = true := by
  rcases hc with rfl | ⟨n, hn⟩
  · rfl
  · obtain ⟨x, hx, rfl, _⟩ := getR_mem hn
    exact h.par x hx
theorem dir_in {t : List It} {c : List UInt8} (h : isDirR t c = true) : c = [] ∨ ∃ n, getR t c = some n ∧ (n.k == 3) = false := by
  by_cases hc : c = []
  · exact .inl hc
  · obtain ⟨m, h1, h2⟩ := isDir_some hc h
    exact .inr ⟨m, h1, by rw [h2]; rfl⟩
/-- What the walk holds: where it is there is something that is no link, unless it ends there. -/
theorem walkW_there {t : List It} (h : OkT t) {fo : Bool} : ∀ (f : Nat) (c : List UInt8) (ps : List (List UInt8)) (hops : Nat), (c = [] ∨ ∃ n, getR t c = some n ∧ (fo = true → (n.k == 3) = false)) → (∀ x ∈ ps, x ≠ []) → ThereT t fo (walkW t fo f c ps hops)
  | 0, c, ps, hops, hc, hps => by intro h0; simp [walkW] at h0
  | f + 1, c, [], hops, hc, hps => by
    intro _
    simp only [walkW]
    exact ⟨fun _ => hc, fun h => by cases h⟩
  | f + 1, c, p :: ps, hops, hc, hps => by
    have hpn := hps p List.mem_cons_self
    have hps' : ∀ x ∈ ps, x ≠ [] := fun x hx => hps x (List.mem_cons_of_mem _ hx)
    have bad : ∀ e : Int, e ≠ 0 → ThereT t fo ([], false, e) := fun e he h0 => absurd h0 he
    simp only [walkW]
    split
    · exact walkW_there h f c ps hops hc hps'
    · split
      · refine walkW_there h f _ ps hops ?_ hps'
        have hd : isDirR t (dirOfR c) = true := dirOf_dir h (hc.imp id fun ⟨n, hn, _⟩ => ⟨n, hn⟩)
        exact (dir_in hd).imp id fun ⟨n, h1, h2⟩ => ⟨n, h1, fun _ => h2⟩
      · split
        · exact bad 9 (by decide)
        · split
          · exact bad 12 (by decide)
          · rename_i hdir _
            have hdir : isDirR t c = true := by simpa using hdir
            split
            · rename_i hg
              split
              · refine fun _ => ⟨fun h => ?_, fun _ => ⟨joinF_ne hpn, hg⟩⟩
                cases h
              · exact bad 6 (by decide)
            · rename_i n hg
              split
              · split
                · exact bad 11 (by decide)
                · split
                  · refine walkW_there h f _ _ _ ?_ ?_
                    · split
                      · exact .inl rfl
                      · exact (dir_in hdir).imp id fun ⟨n, h1, h2⟩ => ⟨n, h1, fun _ => h2⟩
                    · intro x hx
                      rcases List.mem_append.1 hx with hx | hx
                      · exact splitF_ne x hx
                      · exact hps' x hx
                  · rename_i he
                    exact bad _ (by simpa using he)
              · rename_i hlk
                refine walkW_there h f _ ps hops (.inr ⟨n, hg, fun hf => ?_⟩) hps'
                rw [hf, Bool.or_true, Bool.and_true] at hlk
                simpa using hlk
theorem walkF_there {t : List It} (h : OkT t) (s : List UInt8) (fo : Bool) : ThereT t fo (walkF t s fo) := by
  unfold walkF
  split
  · exact walkW_there h _ _ _ _ (.inl rfl) splitF_ne
  · rename_i he
    exact fun h0 => absurd h0 (by simpa using he)

/-! The path of an item, walked. -/
end Go.Dm

end

section
/-
  A call of a right tree as the program has it is the same call as the document has it; what it keeps. Conditions: the tree is right.
-/

set_option linter.unusedSimpArgs false
set_option linter.unusedVariables false
namespace Go.Dm
open Go

theorem setL_drop (p : List UInt8) (n : Nd) : ∀ (t : List It) (d : Bool), (setL p n d t).length = (dropR t p).length + (if d then 0 else 1)
  | [], d => by cases d <;> rfl
  | x :: r, d => by
    have h := setL_drop p n r (d || !bltL x.p p)
    simp only [setL, dropR, List.length_append, List.filter_cons] at h ⊢
    cases d <;> cases hb : bltL x.p p <;> cases hp : x.p == p <;> simp [hb] at h ⊢ <;> omega
theorem drop_lt {t : List It} {p : List UInt8} (h : (getR t p).isSome = true) : (dropR t p).length < t.length := by
  induction t with
  | nil => cases h
  | cons x r ih =>
    rw [getR] at h
    simp only [dropR, List.filter_cons]
    split at h
    · rename_i hp
      rw [hp]
      exact Nat.lt_succ_of_le (List.length_filter_le ..)
    · rename_i hp
      have hp : (x.p == p) = false := by simpa using hp
      rw [hp]
      simp only [Bool.not_false, if_true, List.length_cons]
      exact Nat.succ_lt_succ (ih h)
theorem put_set {t : List It} (h : OkT t) {p : List UInt8} {n : Nd} (hs : (getR t p).isSome = true) (hn : rightNodeR n = true) (hk : (n.k == 2) = false → isDirR t p = false) : putR t p n = (setR t p n, 0) := by
  obtain ⟨h1, h2, _⟩ := h.getok hs
  obtain ⟨m, hm⟩ := Option.isSome_iff_exists.1 hs
  have h3 : isDirR t (dirOfR p) = true := dirOf_dir h (.inr ⟨m, hm⟩)
  have h4 : (if n.k != 2 then noneBelow t p else t) = t := by
    split
    · rename_i hne
      exact none_below h h1 (hk (by simpa using hne))
    · rfl
  have h5 : (setR t p n).length ≤ 120 := by
    have e := setL_drop p n t false
    have l := drop_lt hs
    have := h.len
    unfold setR
    rw [e]; simp only [Bool.false_eq_true, if_false]; omega
  have hb : (p == []) = false := by simpa using h1
  unfold putR
  rw [h4, hb, h2, hn, h3, decide_eq_false (by omega)]
  rfl

/-! A node that is right stays so. -/
theorem right_iff {n : Nd} : rightNodeR n = true ↔ (0 ≤ n.m ∧ n.m ≤ 4095 ∧ plainR n.t = true) ∧ (if n.k == 1 then decide ((n.d.length : Int) ≤ 2000) else if n.k == 2 then (n.d.length : Int) == 0 else if n.k == 3 then targetR n.d else false) = true := by
  unfold rightNodeR
  rw [Bool.and_eq_true]
  refine and_congr ?_ Iff.rfl
  simp only [Bool.not_eq_true', Bool.or_eq_false_iff, decide_eq_false_iff_not, Bool.not_eq_false']
  constructor
  · rintro ⟨⟨a, b⟩, c⟩; exact ⟨by omega, by omega, c⟩
  · rintro ⟨a, b, c⟩; exact ⟨⟨by omega, by omega⟩, c⟩
theorem plain_bits (x : Nat) : plainR (bitsF x) = true := by
  unfold plainR
  rw [bitsF_idem]; simp
theorem right_mode {n : Nd} {m : Int} (h : rightNodeR n = true) (hm : rightM m = true) : rightNodeR ⟨n.k, m, n.t, n.d⟩ = true := by
  rw [right_iff] at h ⊢
  unfold rightM at hm
  simp only [Bool.and_eq_true, decide_eq_true_eq] at hm
  exact ⟨⟨hm.1, hm.2, h.1.2.2⟩, h.2⟩
theorem right_time {n : Nd} {x : Nat} (h : rightNodeR n = true) : rightNodeR ⟨n.k, n.m, bitsF x, n.d⟩ = true := by
  rw [right_iff] at h ⊢
  exact ⟨⟨h.1.1, h.1.2.1, plain_bits x⟩, h.2⟩
theorem right_data {n : Nd} {d : List UInt8} (h : rightNodeR n = true) (hk2 : (n.k == 2) = false) (hk3 : (n.k == 3) = false) (hd : d.length ≤ 2000) : rightNodeR ⟨n.k, n.m, n.t, d⟩ = true := by
  rw [right_iff] at h ⊢
  refine ⟨h.1, ?_⟩
  have h2 := h.2
  simp only [hk2, hk3, Bool.false_eq_true, if_false] at h2 ⊢
  split
  · exact decide_eq_true (by omega)
  · rename_i hk1
    rw [if_neg hk1] at h2; cases h2
theorem wrD_len {had b : List UInt8} {f : Nat} (h1 : had.length ≤ 2000) (h2 : f ≤ had.length) (h3 : f + b.length ≤ 2000) : (wrD had f b).length ≤ 2000 := by
  unfold wrD
  simp only [List.length_append, List.length_take, List.length_drop]
  omega

/-! One kind after the other. -/
def RelC2 (x : List It × Int) (y : List It × An) : Prop := y.2 = anE x.2 ∧ (x.2 = 0 → y.1 = x.1)
theorem rel_err {t : List It} {e : Int} (he : e ≠ 0) : RelC2 ([], e) (t, anE e) := ⟨rfl, fun h => absurd h he⟩
theorem rel_same {u : List It} : RelC2 (u, 0) (u, anE 0) := ⟨rfl, fun _ => rfl⟩
theorem rel_end {t : List It} {x : List It × Int} {y : List It × An} (h : RelC2 x y) : (if x.2 == 0 then (x.1, anE 0) else (t, anE x.2)) = (if y.2.e == 0 then y else (t, anE y.2.e)) := by
  obtain ⟨y1, y2⟩ := y
  obtain ⟨h1, h2⟩ := h
  simp only at h1 h2
  subst h1
  by_cases h0 : x.2 = 0
  · have : (x.2 == 0) = true := by simpa using h0
    rw [h2 h0, h0]; rfl
  · have h3 : (x.2 == 0) = false := by simpa using h0
    have h4 : ((anE x.2).e == 0) = false := h3
    rw [h3]
    simp only [h4, Bool.false_eq_true, if_false]
    rfl
theorem there_some {t : List It} {p : List UInt8} {is fo : Bool} (h : ThereT t fo (p, is, 0)) : (p = [] → is = true) ∧ (p ≠ [] → is = (getR t p).isSome) := by
  obtain ⟨h1, h2⟩ := h rfl
  simp only at h1 h2
  constructor
  · intro hp
    cases is
    · exact absurd hp (h2 rfl).1
    · rfl
  · intro hp
    cases is
    · rw [(h2 rfl).2]; rfl
    · rcases h1 rfl with h | ⟨n, h, _⟩
      · exact absurd h hp
      · rw [h]; rfl
theorem dirP_eq {t : List It} {p : List UInt8} {is fo : Bool} (h : ThereT t fo (p, is, 0)) : dirP is (nodeAt t p) = (is && isDirR t p) := by
  unfold dirP nodeAt
  by_cases hp : p = []
  · subst hp; rfl
  · have hb : (p == []) = false := by simpa using hp
    rw [hb, isDir_get hp]
    simp only [Bool.false_eq_true, if_false]
    rw [(there_some h).2 hp]
    cases getR t p <;> rfl
theorem node_at {t : List It} {p : List UInt8} (hp : p ≠ []) : nodeAt t p = (getR t p).getD nd0 := by
  unfold nodeAt
  rw [if_neg (by simpa using hp)]
section kinds
variable {t : List It} {p : List UInt8} {is fo : Bool} {c : Cl}

/-- Something that is there and no directory: a file, where the last link is followed. -/
theorem file_there (h : OkT t) (hw : ThereT t true (p, true, 0)) (hd : isDirR t p = false) : p ≠ [] ∧ (getR t p).isSome = true ∧ rightNodeR ((getR t p).getD nd0) = true ∧ (((getR t p).getD nd0).k == 2) = false ∧ (((getR t p).getD nd0).k == 3) = false := by
  have hp : p ≠ [] := by intro hp; subst hp; cases hd
  have hs : (getR t p).isSome = true := ((there_some hw).2 hp).symm
  have hr := h.getok hs
  obtain ⟨h1, _⟩ := hw rfl
  rcases h1 rfl with h1 | ⟨n, h1, h2⟩
  · exact absurd h1 hp
  · rw [isDir_get hp] at hd
    simp only at h1
    rw [h1] at hd hr ⊢
    exact ⟨hp, rfl, hr.2.2, hd, h2 rfl⟩

theorem rel_make (h : OkT t) (kind : Int) (hk : (c.k == 7) = (kind == 3)) (hk1 : (c.k == 2) = (kind == 1)) (hk2 : kind = 1 ∨ kind = 2 ∨ kind = 3) : RelC2 (makeP t p is kind c) ((createR t c p is).1, anE (createR t c p is).2) := by
  unfold makeP createR
  cases is
  · simp only [Bool.false_eq_true, if_false]
    have hm : (newN kind c).m = if c.k == 7 then 511 else c.m := by unfold newN; rw [hk]
    rw [hm]
    generalize hmm : (if c.k == 7 then (511 : Int) else c.m) = m
    have hM : (decide (m < 0) || decide ((4095 : Int) < m)) = !rightM m := by
      unfold rightM
      rw [Bool.not_and, ← decide_not, ← decide_not]
      congr 1 <;> exact decide_eq_decide.2 (by omega)
    have hT : (decide ((c.d.length : Int) < 1) || decide ((120 : Int) < c.d.length) || !(c.d.all fun b => !(b == 0))) = !targetR c.d := by
      unfold targetR
      rw [Bool.not_and, Bool.not_and, ← decide_not, ← decide_not, Bool.or_comm]
      have e : (c.d.all fun b => !(b == 0)) = (c.d.all fun b => !((b.toNat : Int) == 0)) := by
        congr 1; funext b
        congr 1
        rw [Bool.eq_iff_iff, beq_iff_eq, beq_iff_eq]
        constructor
        · rintro rfl; rfl
        · intro h; exact UInt8.toNat_inj.1 (by have : (0 : UInt8).toNat = 0 := rfl; omega)
      rw [e]
      congr 1
      congr 1 <;> exact decide_eq_decide.2 (by omega)
    rw [hT, hM, hk, hk1]
    cases rightM m
    · simp only [Bool.not_false, Bool.true_or, if_true]; exact rel_err (by decide)
    · simp only [Bool.not_true, Bool.false_or, Bool.false_eq_true, if_false]
      split
      · exact rel_err (by decide)
      · split
        · exact rel_err (by decide)
        · have e : newN kind c = ⟨if kind == 1 then 1 else if kind == 3 then 3 else 2, m, bitsF c.t, if kind == 1 || kind == 3 then c.d else []⟩ := by
            unfold newN
            rw [← hmm, hk]
            rcases hk2 with rfl | rfl | rfl <;> rfl
          rw [e]
          refine ⟨rfl, fun _ => rfl⟩
  · simp only [if_true]; exact rel_err (by decide)

theorem rel_write (h : OkT t) (hw : ThereT t true (p, is, 0)) (hk : c.k = 3) : RelC2 (turnedP t p is (nodeAt t p) c) (doR1 t c p is) := by
  have hd := dirP_eq hw
  simp only [turnedP, doR1, fileP, hk, hd, Int.reduceBEq, Bool.or_self, Bool.false_and, Bool.false_eq_true, if_false, if_true]
  cases is
  · exact rel_err (e := 6) (by decide)
  · cases hdp : isDirR t p
    · obtain ⟨hp, hs, hr, hk2, hk3⟩ := file_there h hw hdp
      rw [node_at hp]
      generalize (getR t p).getD nd0 = n at *
      have hl := rightNodeR_len hr
      simp only [writeP, Bool.not_true, Bool.true_and, Bool.false_eq_true, if_false, beq_self_eq_true]
      split
      · exact rel_err (by decide)
      · split
        · exact rel_err (by decide)
        · rename_i h1 h2
          simp only [Bool.or_eq_true, decide_eq_true_eq, not_or] at h1 h2
          rw [put_set h hs (right_data hr hk2 hk3 (wrD_len hl (by omega) (by omega))) fun _ => hdp]
          exact rel_same
    · exact rel_err (by decide)
theorem rel_trunc (h : OkT t) (hw : ThereT t true (p, is, 0)) (hk : c.k = 4) : RelC2 (turnedP t p is (nodeAt t p) c) (doR1 t c p is) := by
  have hd := dirP_eq hw
  simp only [turnedP, doR1, fileP, hk, hd, Int.reduceBEq, Bool.or_self, Bool.false_and, Bool.false_eq_true, if_false, if_true]
  cases is
  · exact rel_err (e := 6) (by decide)
  · cases hdp : isDirR t p
    · obtain ⟨hp, hs, hr, hk2, hk3⟩ := file_there h hw hdp
      rw [node_at hp]
      generalize (getR t p).getD nd0 = n at *
      have hl := rightNodeR_len hr
      simp only [truncP, Bool.not_true, Bool.true_and, Bool.false_eq_true, if_false, beq_self_eq_true]
      split
      · exact rel_err (by decide)
      · have hle : (n.d.take c.n.toNat).length ≤ n.d.length := List.length_take_le' ..
        rw [put_set h hs (right_data hr hk2 hk3 (by omega)) fun _ => hdp]
        exact rel_same
    · exact rel_err (by decide)
theorem rel_unlink (hw : ThereT t fo (p, is, 0)) (hk : c.k = 5) : RelC2 (turnedP t p is (nodeAt t p) c) (doR1 t c p is) := by
  have hd := dirP_eq hw
  simp only [turnedP, doR1, fileP, hk, hd, Int.reduceBEq, Bool.or_self, Bool.false_and, Bool.false_eq_true, if_false, if_true]
  cases is
  · exact rel_err (e := 6) (by decide)
  · cases isDirR t p
    · exact rel_same
    · exact rel_err (by decide)
theorem rel_rmdir (hw : ThereT t fo (p, is, 0)) (hk : c.k = 6) : RelC2 (turnedP t p is (nodeAt t p) c) (doR1 t c p is) := by
  have hd := dirP_eq hw
  simp only [turnedP, doR1, rmdirP, hk, hd, Int.reduceBEq, Bool.or_self, Bool.true_and, Bool.false_eq_true, if_false, if_true]
  cases p == []
  · cases is
    · exact rel_err (by decide)
    · cases isDirR t p
      · exact rel_err (by decide)
      · simp only [Bool.not_true, Bool.and_self, Bool.false_eq_true, if_false]
        split
        · exact rel_err (by decide)
        · exact rel_same
  · exact rel_err (by decide)
theorem rel_chmod (h : OkT t) (hw : ThereT t fo (p, is, 0)) (hk : c.k = 10) : RelC2 (turnedP t p is (nodeAt t p) c) (doR1 t c p is) := by
  simp only [turnedP, doR1, setP, hk, Int.reduceBEq, Bool.or_self, Bool.or_false, Bool.true_and, Bool.false_and, Bool.false_eq_true, if_false, if_true]
  cases is
  · exact rel_err (by decide)
  · have hM : (p == [] || !rightM c.m) = (p == [] || decide (c.m < 0) || decide (4095 < c.m)) := by
      unfold rightM
      rw [Bool.not_and, ← decide_not, ← decide_not, Bool.or_assoc]
      congr 2 <;> exact decide_eq_decide.2 (by omega)
    rw [← hM]
    simp only [Bool.not_true, Bool.false_eq_true, if_false]
    split
    · exact rel_err (by decide)
    · rename_i h1
      simp only [Bool.or_eq_true, not_or, Bool.not_eq_true', Bool.not_eq_false, beq_iff_eq] at h1
      have hs : (getR t p).isSome = true := ((there_some hw).2 h1.1).symm
      rw [node_at h1.1, put_set h hs (right_mode (h.getok hs).2.2 h1.2) fun hk2 => ?_]
      · exact rel_same
      · rw [isDir_get h1.1]
        obtain ⟨m, hm⟩ := Option.isSome_iff_exists.1 hs
        rw [hm] at hk2 ⊢; exact hk2
theorem rel_utime (h : OkT t) (hw : ThereT t fo (p, is, 0)) (hk : c.k = 11) : RelC2 (turnedP t p is (nodeAt t p) c) (doR1 t c p is) := by
  simp only [turnedP, doR1, setP, hk, Int.reduceBEq, Bool.or_self, Bool.or_false, Bool.or_true, Bool.false_and, Bool.false_eq_true, if_false, if_true]
  cases is
  · exact rel_err (by decide)
  · simp only [Bool.not_true, Bool.false_eq_true, if_false]
    split
    · exact rel_err (by decide)
    · rename_i h1
      simp only [beq_iff_eq] at h1
      have hs : (getR t p).isSome = true := ((there_some hw).2 h1).symm
      rw [node_at h1, put_set h hs (right_time (h.getok hs).2.2) fun hk2 => ?_]
      · exact rel_same
      · rw [isDir_get h1]
        obtain ⟨m, hm⟩ := Option.isSome_iff_exists.1 hs
        rw [hm] at hk2 ⊢; exact hk2
theorem rel_rename (h : OkT t) (hw : ThereT t fo (p, is, 0)) (hk : c.k = 9) : RelC2 (turnedP t p is (nodeAt t p) c) (doR1 t c p is) := by
  have hd := dirP_eq hw
  have hw2 := walkF_there h c.to' false
  simp only [turnedP, doR1, renameP, renameR, hk, hd, Int.reduceBEq, Bool.or_self, Bool.false_and, Bool.false_eq_true, if_false, if_true]
  cases is
  · exact rel_err (by decide)
  · generalize walkF t c.to' false = r at *
    obtain ⟨q, is2, e⟩ := r
    simp only [Bool.not_true, Bool.true_and, Bool.false_eq_true, if_false]
    by_cases he : e = 0
    · subst he
      simp only [beq_self_eq_true, Bool.not_true, Bool.false_eq_true, if_false]
      cases hpq : (p == [] || q == [])
      · simp only [Bool.or_eq_false_iff] at hpq
        have hq : q ≠ [] := by intro hq; rw [hq] at hpq; cases hpq.2
        simp only [Bool.false_eq_true, if_false]
        split
        · exact ⟨rfl, fun _ => rfl⟩
        · split
          · exact rel_err (by decide)
          · have hi2 := (there_some hw2).2 hq
            cases is2
            · have : getR t q = none := by
                cases hg : getR t q
                · rfl
                · rw [hg] at hi2; cases hi2
              rw [remove_no h hq this]
              exact ⟨rfl, fun _ => rfl⟩
            · simp only [ontoP, dirP_eq hw2, Bool.not_true, Bool.true_and, Bool.false_eq_true, if_false, if_true]
              cases isDirR t p <;> cases isDirR t q <;> simp only [Bool.not_true, Bool.not_false, Bool.true_and, Bool.false_and, Bool.false_eq_true, if_false, if_true, beq_self_eq_true, Int.reduceBEq]
              · exact ⟨rfl, fun _ => rfl⟩
              · exact rel_err (by decide)
              · exact rel_err (by decide)
              · cases decide ((0 : Int) < (namesF t q).length)
                · exact ⟨rfl, fun _ => rfl⟩
                · exact rel_err (by decide)
      · exact rel_err (by decide)
    · have : (e == 0) = false := by simpa using he
      rw [this]
      exact rel_err he
end kinds

theorem get_root {t : List It} (h : OkT t) : getR t [] = none := by
  cases hg : getR t []
  · rfl
  · exact absurd rfl (h.getok (p := []) (by rw [hg]; rfl)).1
theorem doR1_asks {t : List It} (h : OkT t) {p : List UInt8} {is : Bool} {fo : Bool} {c : Cl} (hw : ThereT t fo (p, is, 0)) (hk : c.k = 8 ∨ c.k = 12 ∨ c.k = 13 ∨ c.k = 14 ∨ c.k = 15) : doR1 t c p is = (t, askedP t p is (nodeAt t p) c) := by
  have hd := dirP_eq hw
  cases is
  · rcases hk with hk | hk | hk | hk | hk <;> simp only [doR1, askedP, readC1, fileP, hd, hk, Int.reduceBEq, Bool.or_self, Bool.false_or, Bool.or_false, Bool.false_and, Bool.not_false, Bool.false_eq_true, if_false, if_true] <;> rfl
  · have key : (nodeAt t p).k = 3 ∨ (isDirR t p = false) → nodeAt t p = (getR t p).getD nd0 := by
      intro h1
      refine node_at fun hp => ?_
      subst hp
      rcases h1 with h1 | h1 <;> cases h1
    rcases hk with hk | hk | hk | hk | hk <;> simp only [doR1, askedP, readC1, fileP, hd, hk, Int.reduceBEq, Bool.or_self, Bool.or_false, Bool.or_true, Bool.true_and, Bool.false_and, Bool.not_true, Bool.false_eq_true, if_false, if_true]
    · by_cases hp : p = []
      · subst hp
        rw [get_root h]; rfl
      · rw [node_at hp]
        split <;> rfl
    · cases hdp : isDirR t p
      · rw [key (.inr hdp)]
        simp only [Bool.false_eq_true, if_false, beq_self_eq_true, Bool.not_true]
        split <;> rfl
      · rfl
    · split <;> rfl
theorem asked_err {t : List It} {p : List UInt8} {is : Bool} {n : Nd} {c : Cl} (h : (askedP t p is n c).e ≠ 0) : askedP t p is n c = anE (askedP t p is n c).e := by
  unfold askedP readC1 at h ⊢
  repeat' split at h
  all_goals first | exact absurd rfl h | (simp only [*, if_true, if_false, Bool.false_eq_true]; rfl)
/-- A call as the program has it is the call as the document has it. -/
theorem do_eq {t : List It} (h : OkT t) (c : Cl) : doP t c = doR t c := by
  unfold doP doR
  cases hr : (decide (c.k < 1) || decide (15 < c.k))
  · simp only [Bool.or_eq_false_iff, decide_eq_false_iff_not] at hr
    simp only [Bool.false_eq_true, if_false]
    have hw := walkF_there h c.p (follF c.k)
    generalize walkF t c.p (follF c.k) = r at *
    obtain ⟨p, is, e⟩ := r
    simp only
    by_cases he : e = 0
    · subst he
      simp only [beq_self_eq_true, Bool.not_true, Bool.false_eq_true, if_false]
      have hc : c.k = 1 ∨ c.k = 2 ∨ c.k = 3 ∨ c.k = 4 ∨ c.k = 5 ∨ c.k = 6 ∨ c.k = 7 ∨ c.k = 9 ∨ c.k = 10 ∨ c.k = 11 ∨ c.k = 8 ∨ c.k = 12 ∨ c.k = 13 ∨ c.k = 14 ∨ c.k = 15 := by omega
      have asks : (c.k = 8 ∨ c.k = 12 ∨ c.k = 13 ∨ c.k = 14 ∨ c.k = 15) → (if (!turnsF c.k) = true then (t, askedP t p is (nodeAt t p) c) else if ((turnedP t p is (nodeAt t p) c).2 == 0) = true then ((turnedP t p is (nodeAt t p) c).1, anE 0) else (t, anE (turnedP t p is (nodeAt t p) c).2)) = if ((doR1 t c p is).2.e == 0) = true then doR1 t c p is else (t, anE (doR1 t c p is).2.e) := by
        intro hk
        have ht : turnsF c.k = false := by rcases hk with hk | hk | hk | hk | hk <;> rw [hk] <;> rfl
        rw [ht, doR1_asks h hw hk]
        simp only [Bool.not_false, if_true]
        split
        · rfl
        · rename_i h0
          rw [← asked_err (by simpa using h0)]
      have turns : turnsF c.k = true → RelC2 (turnedP t p is (nodeAt t p) c) (doR1 t c p is) → (if (!turnsF c.k) = true then (t, askedP t p is (nodeAt t p) c) else if ((turnedP t p is (nodeAt t p) c).2 == 0) = true then ((turnedP t p is (nodeAt t p) c).1, anE 0) else (t, anE (turnedP t p is (nodeAt t p) c).2)) = if ((doR1 t c p is).2.e == 0) = true then doR1 t c p is else (t, anE (doR1 t c p is).2.e) := by
        intro ht hrel
        rw [ht]
        simp only [Bool.not_true, Bool.false_eq_true, if_false]
        exact rel_end hrel
      rcases hc with hk | hk | hk | hk | hk | hk | hk | hk | hk | hk | hk
      · refine turns (by rw [hk]; rfl) ?_
        have := rel_make (p := p) (is := is) (c := c) h 2 (by rw [hk]; rfl) (by rw [hk]; rfl) (by simp)
        simpa only [turnedP, doR1, hk, Int.reduceBEq, Bool.true_or, Bool.or_self, Bool.false_eq_true, if_true] using this
      · refine turns (by rw [hk]; rfl) ?_
        have := rel_make (p := p) (is := is) (c := c) h 1 (by rw [hk]; rfl) (by rw [hk]; rfl) (by simp)
        simpa only [turnedP, doR1, hk, Int.reduceBEq, Bool.true_or, Bool.or_true, Bool.or_self, Bool.false_eq_true, if_true, if_false] using this
      · exact turns (by rw [hk]; rfl) (rel_write h (by rw [hk] at hw; exact hw) hk)
      · exact turns (by rw [hk]; rfl) (rel_trunc h (by rw [hk] at hw; exact hw) hk)
      · exact turns (by rw [hk]; rfl) (rel_unlink hw hk)
      · exact turns (by rw [hk]; rfl) (rel_rmdir hw hk)
      · refine turns (by rw [hk]; rfl) ?_
        have := rel_make (p := p) (is := is) (c := c) h 3 (by rw [hk]; rfl) (by rw [hk]; rfl) (by simp)
        simpa only [turnedP, doR1, hk, Int.reduceBEq, Bool.true_or, Bool.or_true, Bool.or_self, Bool.false_eq_true, if_true, if_false] using this
      · exact turns (by rw [hk]; rfl) (rel_rename h hw hk)
      · exact turns (by rw [hk]; rfl) (rel_chmod h hw hk)
      · exact turns (by rw [hk]; rfl) (rel_utime h hw hk)
      · exact asks hk
    · have : (e == 0) = false := by simpa using he
      rw [this]; rfl
  · rfl
end Go.Dm

end
