import Derived.Shelf.Spec.SlicesInsertGrow
import Derived.Shelf.SlGeneric
import Derived.Test.YtcoedlaifhfnnaaDoorBB
import Derived.Test.YtcoedlaifhfnnaaDoorVE

section
/-
  slices.Insert at whatever element type: the roads of the library's own text, over memory, as the kit's shelf walks it at strings. No condition.
-/

set_option linter.unusedSimpArgs false
set_option linter.unusedVariables false
set_option maxRecDepth 100000
namespace Go.Dm
open Go Go.Proofs Go.Shelf Go.RowKit Go.Lib

/-- What a program must bear. -/
structure InsL (P : Program) (ρ : Ren) : Prop where
  mixed : P.follows .mixedOrders = true
  f22 : Bears P (ρ.f 22) (Body2.n22 ρ)
  ov : ∀ (xs : Array Value) (w w' : World) (v : Value), (Extern.SlicesOverlaps.overlaps #[ρ.t 24, ρ.t 24] #[ρ.t 4] xs).run P w = .ok v w' → (callFunc (ρ.f 29) xs).run P w = .ok (.value v) w'
  t0 : P.underlying (ρ.t 0) = some (TypeDesc.tuple #[])
  a0 : ∀ w, (isAgg (ρ.t 0)).run P w = .ok false w
  z0 : ∀ w, (Go.sizeOf (ρ.t 0)).run P w = .ok 1 w
  v0 : ∀ w, (zeroValue (ρ.t 0)).run P w = .ok (Value.tuple #[]) w
  t3 : P.underlying (ρ.t 3) = some (TypeDesc.int IntKind.i64)
  a3 : ∀ w, (isAgg (ρ.t 3)).run P w = .ok false w
  z3 : ∀ w, (Go.sizeOf (ρ.t 3)).run P w = .ok 1 w
  v3 : ∀ w, (zeroValue (ρ.t 3)).run P w = .ok (Value.int IntKind.i64 0) w
  t4 : P.underlying (ρ.t 4) = some (TypeDesc.bool)
  a4 : ∀ w, (isAgg (ρ.t 4)).run P w = .ok false w
  z4 : ∀ w, (Go.sizeOf (ρ.t 4)).run P w = .ok 1 w
  v4 : ∀ w, (zeroValue (ρ.t 4)).run P w = .ok (Value.bool false) w
  t24 : P.underlying (ρ.t 24) = some (TypeDesc.slice (ρ.t 9))
  a24 : ∀ w, (isAgg (ρ.t 24)).run P w = .ok false w
  z24 : ∀ w, (Go.sizeOf (ρ.t 24)).run P w = .ok 1 w
  v24 : ∀ w, (zeroValue (ρ.t 24)).run P w = .ok (Value.slice none 0 0) w

variable {P : Program} {ρ : Ren}

/-- All is read before anything is written. -/
theorem run_copyK (w : World) (dT sT ty elem : TypeId) (i : TypeInfo) (n b o dLen dCap : Nat) (a : Addr) (sLen sCap : Nat) (cs : List Value)
    (hu : P.underlying dT = some (.slice elem)) (hi : P.info? elem = some i) (hn : n = Nat.min sLen dLen) (hl : cs.length = n * i.size)
    (hsrc : ∀ j v, cs[j]? = some v → w.cell? (a.add j) = some v) (hc : ∀ j, j < cs.length → (w.cell? ⟨b, o + j, none⟩).isSome = true) (hf : ∀ j, j < cs.length → w.frozen? ⟨b, o + j, none⟩ = false) (h1 : ∀ v ∈ cs, v.oneCell' = true) :
    (Builtin.copy_ #[dT, sT] ty #[.slice (some ⟨b, o, none⟩) dLen dCap, .slice (some a) sLen sCap]).run P w = .ok (goInt n) (w.setCells b o cs) := by
  have hfc := run_firstCells_some (P := P) w i.size n a sLen sCap cs hl hsrc
  have hst := run_storeCells_cells (P := P) b o cs 0 w (by simpa using hc) (by simpa using hf) h1
  simp only [Nat.add_zero] at hst
  simp [Builtin.copy_, run_underlying hu, Builtin.lenOf, sizeOf, typeInfo, hi, ← hn, hfc, hst]

set_option maxHeartbeats 4000000 in
/-- At the end: it is an append. -/
theorem ins_end (L : InsL P ρ) (i0 : TypeInfo) (hi0 : P.info? (ρ.t 9) = some i0) (base : Option Addr) (n c : Nat) (vb : Addr) (m vc : Nat) (w w' : World) (v' : Value) (hm : 0 < m) (hnc : n ≤ c) (hnil : base = none → n = 0)
    (hr : ∀ ty, (Builtin.append_ #[(ρ.t 24), (ρ.t 24)] ty #[.slice base n c, .slice (some vb) m vc]).run P w = .ok v' w') :
    Calls P (ρ.f 22) #[.slice base n c, .int .i64 n, .slice (some vb) m vc] w fun e w1 => e = .returned v' ∧ w1 = w' := by
  have t0 := L.t0; have a0 := L.a0; have z0 := L.z0; have v0 := L.v0; have t3 := L.t3; have a3 := L.a3; have z3 := L.z3; have v3 := L.v3; have t4 := L.t4; have a4 := L.a4; have z4 := L.z4; have v4 := L.v4; have t24 := L.t24; have a24 := L.a24; have z24 := L.z24; have v24 := L.v24
  have u0 := run_underlying L.t0; have u3 := run_underlying L.t3; have u4 := run_underlying L.t4; have u24 := run_underlying L.t24
  have mixed := L.mixed
  obtain ⟨_, _, FI⟩ := L.f22
  have z9 : ∀ w, (Go.sizeOf (ρ.t 9)).run P w = .ok i0.size w := fun w => by simp [Go.sizeOf, typeInfo, hi0]
  have hz1 : ¬ ((m : Int) = 0) := by omega
  go_enter FI, Body2.n22_ntmps ρ
  cases base with
  | none =>
    have h0 := hnil rfl
    subst h0
    go_wp2_with (at_builtin; refine Lib.wpList_append_run _ rfl _ _ _ _ rfl _ _ rfl rfl _ _ (hr _) ?_)
    go_ret
    exact ⟨rfl, rfl⟩
  | some a =>
    obtain ⟨ab, ao, asp⟩ := a
    go_wp2_with (at_builtin; refine Lib.wpList_append_run _ rfl _ _ _ _ rfl _ _ rfl rfl _ _ (hr _) ?_)
    all_goals (go_ret; exact ⟨rfl, rfl⟩)

set_option maxHeartbeats 4000000 in
/-- There is room, and it does not go at the end: in place. -/
theorem ins_shift (L : InsL P ρ) (i0 : TypeInfo) (hi0 : P.info? (ρ.t 9) = some i0) (k : Nat) (hk : i0.size = k) (hk0 : 0 < k) (b off n c i vb voff m vc : Nat) (cs vs : List Value) (w : World) (hi : i < n) (hm : 0 < m) (hroom : n + m ≤ c) (hc63 : c ≤ 9223372036854775807) (hvb : vb ≠ b)
    (hcl : cs.length = n * k) (hvl : vs.length = m * k)
    (hcs : ∀ j v, cs[j]? = some v → w.cell? ⟨b, off + j, none⟩ = some v) (hsp : ∀ j, j < (n + m) * k → (w.cell? ⟨b, off + j, none⟩).isSome = true) (hfz : ∀ j, j < (n + m) * k → w.frozen? ⟨b, off + j, none⟩ = false)
    (hvs : ∀ j v, vs[j]? = some v → w.cell? ⟨vb, voff + j, none⟩ = some v) (h1c : ∀ v ∈ cs, v.oneCell' = true) (h1v : ∀ v ∈ vs, v.oneCell' = true)
    (tA tB : TypeId) (kA kB : Nat) (hsa : w.shape? vb = some (tA, kA)) (hsb : w.shape? b = some (tB, kB)) (hkB : kB ≠ 0) (hfa : w.frozen? ⟨vb, voff, none⟩ = false) (hfe : w.frozen? ⟨vb, kA, none⟩ = false) :
    Calls P (ρ.f 22) #[.slice (some ⟨b, off, none⟩) n c, .int .i64 i, .slice (some ⟨vb, voff, none⟩) m vc] w fun e w' =>
      e = .returned (.slice (some ⟨b, off, none⟩) (n + m) c) ∧ w' = (w.drew.setCells b (off + (i + m) * k) (cs.drop (i * k))).setCells b (off + i * k) vs := by
  have t0 := L.t0; have a0 := L.a0; have z0 := L.z0; have v0 := L.v0; have t3 := L.t3; have a3 := L.a3; have z3 := L.z3; have v3 := L.v3; have t4 := L.t4; have a4 := L.a4; have z4 := L.z4; have v4 := L.v4; have t24 := L.t24; have a24 := L.a24; have z24 := L.z24; have v24 := L.v24
  have u0 := run_underlying L.t0; have u3 := run_underlying L.t3; have u4 := run_underlying L.t4; have u24 := run_underlying L.t24
  have mixed := L.mixed
  obtain ⟨_, _, FI⟩ := L.f22
  have z9 : ∀ w, (Go.sizeOf (ρ.t 9)).run P w = .ok k w := fun w => by simp [Go.sizeOf, typeInfo, hi0, hk]
  have hz1 : ¬ ((m : Int) = 0) := by omega
  have hz2 : ¬ ((i : Int) = (n : Int)) := by omega
  have hov : ∀ lb cb, (callFunc (ρ.f 29) #[.slice (some ⟨vb, voff, none⟩) m vc, .slice (some ⟨b, off + (i + m) * k, none⟩) lb cb]).run P w = .ok (.value (.bool false)) w := fun lb cb =>
    L.ov _ _ _ _ (Lib.run_overlaps_apart w (ρ.t 24) (ρ.t 4) (ρ.t 9) L.t24 k z9 ⟨vb, voff, none⟩ ⟨b, off + (i + m) * k, none⟩ m vc lb cb hvb tA tB kA kB hsa hsb hkB hfa hfe)
  have hdl : (cs.drop (i * k)).length = (n - i) * k := by rw [List.length_drop, hcl, Nat.sub_mul]
  have hw1 : IntKind.i64.wrap ((i : Int) + (m : Int)) = (i : Int) + (m : Int) := by rw [IntKind.wrap_i64]; omega
  have hb1 : (0 : Int) ≤ (i : Int) + (m : Int) := by omega
  have hin : i ≤ n := by omega
  have htn : ((i : Int) + (m : Int)).toNat = i + m := by omega
  have hb2 : ¬ (c = i + m) := by omega
  have hb3 : (i : Int) ≤ (n : Int) + (m : Int) := by omega
  have hb4 : ¬ (c = i) := by omega
  have e1 : (i + m) * k = i * k + m * k := Nat.add_mul _ _ _
  have e2 : (n - i) * k + (i + m) * k = (n + m) * k := by rw [← Nat.add_mul]; congr 1; omega
  have e3 : (n + m) * k = n * k + m * k := Nat.add_mul _ _ _
  have e4 : i * k ≤ n * k := Nat.mul_le_mul_right _ hin
  have hcp1 : ∀ ty dc sc, (Builtin.copy_ #[(ρ.t 24), (ρ.t 24)] ty #[.slice (some ⟨b, off + (i + m) * k, none⟩) (n + m - (i + m)) dc, .slice (some ⟨b, off + i * k, none⟩) (n + m - i) sc]).run P w.drew = .ok (goInt (n - i : Nat)) (w.drew.setCells b (off + (i + m) * k) (cs.drop (i * k))) := fun ty dc sc =>
    run_copyK w.drew _ _ ty (ρ.t 9) i0 (n - i) b (off + (i + m) * k) (n + m - (i + m)) dc ⟨b, off + i * k, none⟩ (n + m - i) sc (cs.drop (i * k)) L.t24 hi0 (by simp only [Nat.min_def]; split <;> omega) (by rw [hk]; exact hdl)
      (fun j v hj => by rw [Addr.add_lit, Nat.add_assoc]; exact hcs (i * k + j) v (by rwa [List.getElem?_drop] at hj))
      (fun j hj => by rw [Nat.add_assoc]; exact hsp _ (by omega)) (fun j hj => by rw [Nat.add_assoc]; exact hfz _ (by omega)) (fun v hv => h1c v (List.mem_of_mem_drop hv))
  obtain ⟨W1, hW1⟩ : ∃ W1, W1 = w.drew.setCells b (off + (i + m) * k) (cs.drop (i * k)) := ⟨_, rfl⟩
  have hsp1 : ∀ q, q < (n + m) * k → (W1.cell? ⟨b, off + q, none⟩).isSome = true := fun q hq => by
    rw [hW1]
    exact isSome_setCells b _ _ _ (fun j hj => by rw [Nat.add_assoc]; exact hsp _ (by omega)) _ (hsp q hq)
  have hcp2 : ∀ (W : World), (∀ x, W.cell? x = W1.cell? x) → (∀ x, W.frozen? x = W1.frozen? x) → ∀ ty dc, (Builtin.copy_ #[(ρ.t 24), (ρ.t 24)] ty #[.slice (some ⟨b, off + i * k, none⟩) (n + m - i) dc, .slice (some ⟨vb, voff, none⟩) m vc]).run P W = .ok (goInt (m : Nat)) (W.setCells b (off + i * k) vs) := fun W hWc hWf ty dc =>
    run_copyK W _ _ ty (ρ.t 9) i0 m b (off + i * k) (n + m - i) dc ⟨vb, voff, none⟩ m vc vs L.t24 hi0 (by simp only [Nat.min_def]; split <;> omega) (by rw [hk]; exact hvl)
      (fun j v hj => by
        rw [Addr.add_lit, hWc, hW1, World.cell?_setCells_out b _ _ _ _ (fun h _ => absurd h hvb)]
        exact hvs j v hj)
      (fun j hj => by rw [hWc, Nat.add_assoc]; exact hsp1 _ (by omega)) (fun j hj => by rw [hWf, hW1, World.frozen?_setCells, Nat.add_assoc]; exact hfz _ (by omega)) h1v
  rw [← hW1] at hcp1
  rw [e1] at hcp1
  simp only [e1] at hov
  go_enter FI, Body2.n22_ntmps ρ
  go_wp2_with (simp only [hov])
  go_region_law_o (refine step_copy_runI rfl _ _ (ρ.t 24) (ρ.t 24) rfl _ _ (by simp [Act.eval, Act.put]) (by simp [Act.eval, Act.put]) (hcp1 _ _ _) ?_)
  go_wp2_with (at_builtin; refine wpList_copy_runI _ rfl _ _ (ρ.t 24) (ρ.t 24) rfl _ _ rfl rfl (hcp2 _ (fun _ => rfl) (fun _ => rfl) _ _) ?_)
  go_ret
  exact ⟨rfl, by rw [e1]⟩

set_option maxHeartbeats 4000000 in
/-- There is no room, and it does not go at the end: a new row. -/
theorem ins_grow (L : InsL P ρ) (i0 : TypeInfo) (hi0 : P.info? (ρ.t 9) = some i0) (z : Value) (hz0 : i0.zero = some z) (k : Nat) (hk : i0.size = k) (hk0 : 0 < k) (hzk : z.cells.size = k) (b off n c i vb voff m vc : Nat) (cs vs : List Value) (w : World) (hi : i < n) (hm : 0 < m) (hnc : n ≤ c) (hroom : c < n + m) (hbig : (n + m) * i0.bytes ≤ 140737488355328) (h63 : n + m ≤ 4611686018427387904)
    (hcl : cs.length = n * k) (hvl : vs.length = m * k)
    (hcs : ∀ j v, cs[j]? = some v → w.cell? ⟨b, off + j, none⟩ = some v)
    (hvs : ∀ j v, vs[j]? = some v → w.cell? ⟨vb, voff + j, none⟩ = some v) (h1c : ∀ v ∈ cs, v.oneCell' = true) (h1v : ∀ v ∈ vs, v.oneCell' = true) :
    Calls P (ρ.f 22) #[.slice (some ⟨b, off, none⟩) n c, .int .i64 i, .slice (some ⟨vb, voff, none⟩) m vc] w fun e w' =>
      e = .returned (.slice (some ⟨w.heap.size, 0, none⟩) (n + m) (grownCap w (n + m) c (ρ.t 9))) ∧
      w' = (((w.alloc (.cells ((cs.take (i * k)).toArray ++ Builtin.zeroCells z.cells (n + m - i) ++ Builtin.zeroCells z.cells (grownCap w (n + m) c (ρ.t 9) - (n + m))) (ρ.t 9))).drew.setCells w.heap.size (i * k) vs).drew).setCells w.heap.size (i * k + m * k) (cs.drop (i * k)) := by
  have t0 := L.t0; have a0 := L.a0; have z0 := L.z0; have v0 := L.v0; have t3 := L.t3; have a3 := L.a3; have z3 := L.z3; have v3 := L.v3; have t4 := L.t4; have a4 := L.a4; have z4 := L.z4; have v4 := L.v4; have t24 := L.t24; have a24 := L.a24; have z24 := L.z24; have v24 := L.v24
  have u0 := run_underlying L.t0; have u3 := run_underlying L.t3; have u4 := run_underlying L.t4; have u24 := run_underlying L.t24
  have mixed := L.mixed
  obtain ⟨_, _, FI⟩ := L.f22
  have z9 : ∀ w, (Go.sizeOf (ρ.t 9)).run P w = .ok k w := fun w => by simp [Go.sizeOf, typeInfo, hi0, hk]
  have hz1 : ¬ ((m : Int) = 0) := by omega
  have hz2 : ¬ ((i : Int) = (n : Int)) := by omega
  have hz3 : (c : Int) < (n : Int) + (m : Int) := by omega
  have hin : i ≤ n := by omega
  have e1 : (i + m) * k = i * k + m * k := Nat.add_mul _ _ _
  have e2 : (n - i) * k + (i + m) * k = (n + m) * k := by rw [← Nat.add_mul]; congr 1; omega
  have e3 : (n + m) * k = n * k + m * k := Nat.add_mul _ _ _
  have e4 : i * k ≤ n * k := Nat.mul_le_mul_right _ hin
  have e5 : k ≤ m * k := Nat.le_mul_of_pos_left k hm
  have e6 : k ≤ n * k := Nat.le_mul_of_pos_left k (by omega)
  have hbw : b < w.heap.size := block_lt_of_cell (hcs 0 _ (List.getElem?_eq_getElem (by omega)))
  have hvw : vb < w.heap.size := block_lt_of_cell (hvs 0 _ (List.getElem?_eq_getElem (by omega)))
  have hkk : (n : Int) + (m : Int) - (i : Int) = ((n + m - i : Nat) : Int) := by omega
  have hik : i + (n + m - i) = n + m := by omega
  have htl : (cs.take (i * k)).length = i * k := by rw [List.length_take, hcl]; omega
  have hold : (Builtin.firstCells i0.size i (.slice (some ⟨b, off, none⟩) i c)).run P w.drew = .ok (cs.take (i * k)).toArray w.drew :=
    run_firstCells_some w.drew i0.size i ⟨b, off, none⟩ i c (cs.take (i * k)) (by rw [htl, hk]) (fun j v hj => by
      rw [Addr.add_lit]
      rw [List.getElem?_take] at hj
      split at hj
      · exact hcs j v hj
      · cases hj)
  have hrz : ∀ ty, (Builtin.append_ #[(ρ.t 24), (ρ.t 3)] ty #[.slice (some ⟨b, off, none⟩) i c, .int .i64 ((n : Int) + (m : Int) - (i : Int))]).run P w =
      .ok (.slice (some ⟨w.heap.size, 0, none⟩) (n + m) (grownCap w (n + m) c (ρ.t 9))) (w.drew.alloc (.cells ((cs.take (i * k)).toArray ++ Builtin.zeroCells z.cells (n + m - i) ++ Builtin.zeroCells z.cells (grownCap w (n + m) c (ρ.t 9) - (n + m))) (ρ.t 9))) := fun ty => by
    have h := Lib.run_append_grow_zeros w (ρ.t 24) (ρ.t 3) ty (ρ.t 9) i0 z .i64 .i64 L.t24 L.t3 hi0 hz0 (some ⟨b, off, none⟩) i c (cs.take (i * k)) hold (n + m - i) (by omega) (by omega) (by omega) (by omega)
      (by have : (n + m - i) * i0.bytes ≤ (n + m) * i0.bytes := Nat.mul_le_mul_right _ (by omega)
          omega) (by rw [hik]; exact growslice_fits hroom hbig)
    rw [hik] at h
    rw [hkk]
    exact h
  obtain ⟨G, hG⟩ : ∃ G, G = grownCap w (n + m) c (ρ.t 9) := ⟨_, rfl⟩
  obtain ⟨ROW, hROW⟩ : ∃ ROW : Array Value, ROW = (cs.take (i * k)).toArray ++ Builtin.zeroCells z.cells (n + m - i) ++ Builtin.zeroCells z.cells (G - (n + m)) := ⟨_, rfl⟩
  rw [← hG] at hrz ⊢
  rw [← hROW] at hrz ⊢
  have hRl : (n + m) * k ≤ ROW.size := by
    rw [hROW]
    have e7 : i * k + (n + m - i) * k = (n + m) * k := by rw [← Nat.add_mul, hik]
    simp only [Array.size_append, List.size_toArray, htl, size_zeroCells, hzk]
    omega
  obtain ⟨W1, hW1⟩ : ∃ W1, W1 = w.drew.alloc (.cells ROW (ρ.t 9)) := ⟨_, rfl⟩
  rw [← hW1] at hrz
  have hN : ∀ j, j < (n + m) * k → (W1.cell? ⟨w.heap.size, j, none⟩).isSome = true := fun j hj => by
    rw [hW1, World.cell?_alloc_at (w := w.drew) ROW _ w.heap.size j rfl, Array.getElem?_eq_getElem (by omega)]; rfl
  have hNf : ∀ j, W1.frozen? ⟨w.heap.size, j, none⟩ = false := fun j => by rw [hW1]; exact World.frozen?_alloc_at (w := w.drew) ROW _ w.heap.size j rfl
  have hOb : ∀ j v, w.cell? ⟨b, j, none⟩ = some v → W1.cell? ⟨b, j, none⟩ = some v := fun j v h => by rw [hW1, World.cell?_alloc_past (w := w.drew) _ b j hbw]; exact h
  have hOv : ∀ j v, w.cell? ⟨vb, j, none⟩ = some v → W1.cell? ⟨vb, j, none⟩ = some v := fun j v h => by rw [hW1, World.cell?_alloc_past (w := w.drew) _ vb j hvw]; exact h
  have hcpA : ∀ (W : World), (∀ x, W.cell? x = W1.cell? x) → (∀ x, W.frozen? x = W1.frozen? x) → ∀ ty dc, (Builtin.copy_ #[(ρ.t 24), (ρ.t 24)] ty #[.slice (some ⟨w.heap.size, i * k, none⟩) (n + m - i) dc, .slice (some ⟨vb, voff, none⟩) m vc]).run P W = .ok (goInt (m : Nat)) (W.setCells w.heap.size (i * k) vs) := fun W hWc hWf ty dc =>
    run_copyK W _ _ ty (ρ.t 9) i0 m w.heap.size (i * k) (n + m - i) dc ⟨vb, voff, none⟩ m vc vs L.t24 hi0 (by simp only [Nat.min_def]; split <;> omega) (by rw [hk]; exact hvl)
      (fun j v hj => by rw [Addr.add_lit, hWc]; exact hOv _ v (hvs j v hj))
      (fun j hj => by rw [hWc]; exact hN _ (by omega)) (fun j hj => by rw [hWf]; exact hNf _) h1v
  have hGn : n + m ≤ G := by rw [hG]; exact grownCap_ge w _ _ _
  have hG63 : G ≤ 9223372036854775807 := by
    have := grownCap_le_maxLen w (n + m) c (ρ.t 9) (by unfold maxLen; omega)
    rw [← hG] at this
    unfold maxLen at this
    omega
  have hGi : ¬ (G = i) := by omega
  have hGim : ¬ (G = i + m) := by omega
  have hci : ¬ (c = i) := by omega
  have hbN : b ≠ w.heap.size := by omega
  have hdl : (cs.drop (i * k)).length = (n - i) * k := by rw [List.length_drop, hcl, Nat.sub_mul]
  have hcpB : ∀ (W : World), (∀ x, W.cell? x = (W1.setCells w.heap.size (i * k) vs).cell? x) → (∀ x, W.frozen? x = (W1.setCells w.heap.size (i * k) vs).frozen? x) → ∀ ty dc sc, (Builtin.copy_ #[(ρ.t 24), (ρ.t 24)] ty #[.slice (some ⟨w.heap.size, i * k + m * k, none⟩) (n + m - (i + m)) dc, .slice (some ⟨b, off + i * k, none⟩) (n - i) sc]).run P W = .ok (goInt (n - i : Nat)) (W.setCells w.heap.size (i * k + m * k) (cs.drop (i * k))) := fun W hWc hWf ty dc sc =>
    run_copyK W _ _ ty (ρ.t 9) i0 (n - i) w.heap.size (i * k + m * k) (n + m - (i + m)) dc ⟨b, off + i * k, none⟩ (n - i) sc (cs.drop (i * k)) L.t24 hi0 (by simp only [Nat.min_def]; split <;> omega) (by rw [hk]; exact hdl)
      (fun j v hj => by
        rw [Addr.add_lit, hWc, World.cell?_setCells_out _ _ _ _ _ (fun h _ => absurd h hbN), Nat.add_assoc]
        exact hOb _ v (hcs (i * k + j) v (by rwa [List.getElem?_drop] at hj)))
      (fun j hj => by rw [hWc]; exact isSome_setCells _ _ _ _ (fun t ht => hN _ (by omega)) _ (hN _ (by omega)))
      (fun j hj => by rw [hWf, World.frozen?_setCells]; exact hNf _) (fun v hv => h1c v (List.mem_of_mem_drop hv))
  subst hW1
  have hE1 : ∀ x, ((w.alloc (.cells ROW (ρ.t 9))).drew).cell? x = (w.drew.alloc (.cells ROW (ρ.t 9))).cell? x := fun x => rfl
  have hE2 : ∀ x, ((w.alloc (.cells ROW (ρ.t 9))).drew).frozen? x = (w.drew.alloc (.cells ROW (ρ.t 9))).frozen? x := fun x => rfl
  have hF1 : ∀ x, (((w.alloc (.cells ROW (ρ.t 9))).drew.setCells w.heap.size (i * k) vs).drew).cell? x = ((w.drew.alloc (.cells ROW (ρ.t 9))).setCells w.heap.size (i * k) vs).cell? x := fun x => rfl
  have hF2 : ∀ x, (((w.alloc (.cells ROW (ρ.t 9))).drew.setCells w.heap.size (i * k) vs).drew).frozen? x = ((w.drew.alloc (.cells ROW (ρ.t 9))).setCells w.heap.size (i * k) vs).frozen? x := fun x => rfl
  have hw1 : IntKind.i64.wrap ((i : Int) + (m : Int)) = (i : Int) + (m : Int) := by rw [IntKind.wrap_i64]; omega
  have hb1 : (0 : Int) ≤ (i : Int) + (m : Int) := by omega
  have htn : ((i : Int) + (m : Int)).toNat = i + m := by omega
  have hb3 : (i : Int) ≤ (n : Int) := by omega
  clear hkk hik hold hROW hG hRl e1 e2 e3 e4 e5 e6
  go_enter FI, Body2.n22_ntmps ρ
  go_wp2_with (first
    | (at_builtin; refine Lib.wpList_append_run _ rfl _ _ _ _ rfl _ _ rfl rfl _ _ (hrz _) ?_)
    | (at_builtin; refine wpList_copy_runI _ rfl _ _ (ρ.t 24) (ρ.t 24) rfl _ _ rfl rfl (hcpA _ hE1 hE2 _ _) ?_)
    | (at_builtin; refine wpList_copy_runI _ rfl _ _ (ρ.t 24) (ρ.t 24) rfl _ _ rfl rfl (hcpB _ (fun _ => rfl) (fun _ => rfl) _ _ _) ?_))
  go_region_law_o (refine step_copy_runI rfl _ _ (ρ.t 24) (ρ.t 24) rfl (.slice (some ⟨w.heap.size, i * k + m * k, none⟩) (n + m - (i + m)) (G - (i + m))) (.slice (some ⟨b, off + i * k, none⟩) (n - i) (c - i)) (by simp [Act.eval, Act.put, Nat.add_mul]) (by simp [Act.eval, Act.put]) (hcpB _ hF1 hF2 (ρ.t 3) (G - (i + m)) (c - i)) ?_)
  go_wp2
  go_ret
  exact ⟨rfl, rfl⟩
end Go.Dm

end

section
/-
  slices.Insert of one element into a row of the call's own: the contract over data. No condition.
-/

set_option linter.unusedSimpArgs false
set_option linter.unusedVariables false
set_option maxRecDepth 100000
namespace Go.Dm
open Go Go.Proofs Go.Shelf Go.Lib

theorem setCells_block {bl : Nat} {el : TypeId} {fz : Nat × Nat} : ∀ (vs : List Value) (o : Nat) (w : World) (arr : Array Value), w.heap[bl]? = some (.cells arr el fz) →
    (∃ arr', (w.setCells bl o vs).heap[bl]? = some (.cells arr' el fz) ∧ arr'.size = arr.size) ∧ (∀ b, b ≠ bl → (w.setCells bl o vs).heap[b]? = w.heap[b]?) ∧ (w.setCells bl o vs).heap.size = w.heap.size ∧
    (w.setCells bl o vs).os = w.os ∧ (w.setCells bl o vs).tape = w.tape ∧ (w.setCells bl o vs).output = w.output ∧ (w.setCells bl o vs).drawn = w.drawn
  | [], o, w, arr, h => ⟨⟨arr, h, rfl⟩, fun _ _ => rfl, rfl, rfl, rfl, rfl, rfl⟩
  | v :: r, o, w, arr, h => by
    have h1 : (w.setCell ⟨bl, o, none⟩ v).heap[bl]? = some (.cells (arr.setIfInBounds o v) el fz) := by rw [setCell_block, if_pos rfl, h]; rfl
    obtain ⟨⟨arr', a1, a2⟩, a3, a4, a5, a6, a7, a8⟩ := setCells_block r (o + 1) _ _ h1
    refine ⟨⟨arr', a1, by rw [a2]; simp⟩, fun b hb => ?_, ?_, a5, a6, a7, a8⟩
    · show ((w.setCell ⟨bl, o, none⟩ v).setCells bl (o + 1) r).heap[b]? = _
      rw [a3 b hb, setCell_block, if_neg hb]
    · show ((w.setCell ⟨bl, o, none⟩ v).setCells bl (o + 1) r).heap.size = _
      rw [a4]; simp [World.setCell]

/-- Cells of a row that was opened at a place. -/
theorem opened_cells {w W : World} {bl off p q : Nat} {ca vs cb : List Value} (hp : ca.length = p) (hq : vs.length = q)
    (hW : W = (w.setCells bl (off + (p + q)) cb).setCells bl (off + p) vs ∨ W = (w.setCells bl (off + p) vs).setCells bl (off + (p + q)) cb)
    (h0 : ∀ j v, ca[j]? = some v → w.cell? ⟨bl, off + j, none⟩ = some v) (hs : ∀ j, j < p + q + cb.length → (w.cell? ⟨bl, off + j, none⟩).isSome = true) :
    ∀ (j : Nat) (v : Value), (ca ++ vs ++ cb)[j]? = some v → W.cell? ⟨bl, off + j, none⟩ = some v := by
  intro j v hj
  have i1 : ∀ (u : World), (∀ j, j < p + q + cb.length → (u.cell? ⟨bl, off + j, none⟩).isSome = true) → ∀ t, t < cb.length → (u.setCells bl (off + (p + q)) cb).cell? ⟨bl, off + (p + q + t), none⟩ = cb[t]? := fun u hu t ht => by
    have := World.cell?_setCells_in bl cb (off + (p + q)) u (fun s hs' => by rw [Nat.add_assoc]; exact hu _ (by omega)) t ht
    rw [show off + (p + q + t) = off + (p + q) + t by omega, this, List.getElem?_eq_getElem ht]
  have i2 : ∀ (u : World), (∀ j, j < p + q + cb.length → (u.cell? ⟨bl, off + j, none⟩).isSome = true) → ∀ t, t < vs.length → (u.setCells bl (off + p) vs).cell? ⟨bl, off + (p + t), none⟩ = vs[t]? := fun u hu t ht => by
    have := World.cell?_setCells_in bl vs (off + p) u (fun s hs' => by rw [Nat.add_assoc]; exact hu _ (by omega)) t ht
    rw [show off + (p + t) = off + p + t by omega, this, List.getElem?_eq_getElem ht]
  have o1 : ∀ (u : World) t, t < p + q → (u.setCells bl (off + (p + q)) cb).cell? ⟨bl, off + t, none⟩ = u.cell? ⟨bl, off + t, none⟩ := fun u t ht => World.cell?_setCells_out bl _ _ _ _ fun _ _ => by simp only; omega
  have o2 : ∀ (u : World) t, (t < p ∨ p + q ≤ t) → (u.setCells bl (off + p) vs).cell? ⟨bl, off + t, none⟩ = u.cell? ⟨bl, off + t, none⟩ := fun u t ht => World.cell?_setCells_out bl _ _ _ _ fun _ _ => by simp only; omega
  have s1 : ∀ j, j < p + q + cb.length → ((w.setCells bl (off + (p + q)) cb).cell? ⟨bl, off + j, none⟩).isSome = true := fun t ht => Go.Proofs.isSome_setCells bl _ _ _ (fun s hs' => by rw [Nat.add_assoc]; exact hs _ (by omega)) _ (hs t ht)
  have s2 : ∀ j, j < p + q + cb.length → ((w.setCells bl (off + p) vs).cell? ⟨bl, off + j, none⟩).isSome = true := fun t ht => Go.Proofs.isSome_setCells bl _ _ _ (fun s hs' => by rw [Nat.add_assoc]; exact hs _ (by omega)) _ (hs t ht)
  rcases Nat.lt_or_ge j p with h1 | h1
  · rw [List.getElem?_append_left (by simp; omega), List.getElem?_append_left (by omega)] at hj
    rcases hW with rfl | rfl
    · rw [o2 _ _ (.inl h1), o1 _ _ (by omega)]; exact h0 j v hj
    · rw [o1 _ _ (by omega), o2 _ _ (.inl h1)]; exact h0 j v hj
  · rcases Nat.lt_or_ge j (p + q) with h2 | h2
    · rw [List.getElem?_append_left (by simp; omega), List.getElem?_append_right (by omega)] at hj
      obtain ⟨t, rfl⟩ : ∃ t, j = p + t := ⟨j - p, by omega⟩
      rw [hp, Nat.add_sub_cancel_left] at hj
      rcases hW with rfl | rfl
      · rw [i2 _ s1 t (by omega)]; exact hj
      · rw [o1 _ _ (by omega), i2 _ hs t (by omega)]; exact hj
    · rw [List.getElem?_append_right (by simp; omega)] at hj
      obtain ⟨t, rfl⟩ : ∃ t, j = p + q + t := ⟨j - (p + q), by omega⟩
      rw [List.length_append, hp, hq, Nat.add_sub_cancel_left] at hj
      have ht := lt_of_some hj
      rcases hW with rfl | rfl
      · rw [o2 _ _ (.inr (by omega)), i1 _ hs t ht]; exact hj
      · rw [i1 _ s2 t ht]; exact hj

/-- The row with one element more. -/
def insAt (i : Nat) (x : List PV) (es : List (List PV)) : List (List PV) := es.take i ++ x :: es.drop i
theorem insAt_len {i : Nat} {x : List PV} {es : List (List PV)} (h : i ≤ es.length) : (insAt i x es).length = es.length + 1 := by
  simp only [insAt, List.length_append, List.length_take, List.length_cons, List.length_drop]; omega
theorem insAt_flatten (i : Nat) (x : List PV) (es : List (List PV)) : (insAt i x es).flatten = (es.take i).flatten ++ x ++ (es.drop i).flatten := by
  simp [insAt, List.flatten_append, List.flatten_cons, List.append_assoc]
theorem insAt_end {x : List PV} {es : List (List PV)} : insAt es.length x es = es ++ [x] := by
  simp [insAt]

section roads
variable {P : Program} {T : Tab} {ρ : Ren}

theorem ins_road_end (hT : TabOK P T) (L : InsL P ρ) {k : Nat} (hk : (T (ρ.t 9)).size = k) (hk0 : 0 < k) (h24 : (T (ρ.t 24)).k = .slice (ρ.t 9)) {X : Ctx} (hi : HInv X) {id n c vc : Nat} {base : Option Addr} {vb : Addr} {es : List (List PV)} {x : List PV} {vs : List Value}
    (hid : X.h[id]? = some (.arr k es false)) (hl : es.length = n) (hd : RelD X (.c (.own id 0 n)) (.slice base n c)) (hnc : n ≤ c) (hnil : base = none → n = 0)
    (hxk : x.length = k) (hvr : RelPs X.w X.S x vs) (hvc : ∀ (j : Nat) (v : Value), vs[j]? = some v → X.w.cell? (vb.add j) = some v)
    (hb : (n + 1) * (T (ρ.t 9)).bytes ≤ 140737488355328) (hn2 : n + 1 ≤ 4611686018427387904) :
    Calls P (ρ.f 22) #[.slice base n c, .int .i64 n, .slice (some vb) 1 vc] X.w fun e w' => ∃ v, e = .returned v ∧ Ret X (fun d h' => d = .c (.own X.h.length 0 (n + 1)) ∧ h' = X.h.set id .dead ++ [.arr k (es ++ [x]) false]) v w' := by
  have hs0 : (T (ρ.t 9)).size ≠ 0 := by omega
  obtain ⟨_, i0, z, t1, _⟩ := tab_info hT (tab_known hT hs0)
  have hnl : ∀ y ∈ [x], y.length = (T (ρ.t 9)).size := fun y hy => by rw [List.mem_singleton.1 hy, hk]; exact hxk
  have hnr : RelPs X.w X.S [x].flatten vs := by simpa using hvr
  have hsrc : Src P (T (ρ.t 9)).size (ρ.t 24) (.slice (some vb) [x].length vc) [x].length vs X.w := src_of hT h24 rfl hnr hnl (fun h => by cases h) (fun ad ha => by cases ha; exact hvc)
  obtain ⟨v, d, X', g1, g2, g3, g4, g5⟩ := dappend_own (K := fun d h' => d = .c (.own X.h.length 0 (n + 1)) ∧ h' = X.h.set id .dead ++ [.arr k (es ++ [x]) false]) (ty := 0) hT hi h24 h24 hs0 hd (by rw [hk]; exact hid) hnl hnr hsrc (by omega) hb (by simp only [List.length_singleton]; omega) ⟨rfl, by rw [hk]; rfl⟩
  refine (ins_end L i0 t1 base n c vb 1 vc X.w X'.w v (by omega) hnc hnil fun ty => g1).mono ?_
  rintro e w' ⟨rfl, rfl⟩
  exact ⟨v, rfl, d, X', rfl, g2, g3, g4, g5⟩

/-- What is known of a row that lies in memory. -/
theorem row_open {X : Ctx} (hi : HInv X) {id n k : Nat} {es : List (List PV)} {g : Nat × Nat} {v : Value} (hid : X.h[id]? = some (.arr k es false)) (hl : es.length = n) (hg : X.G id = some g) (hn : 0 < n) (hd : RelD X (.c (.own id 0 n)) v) :
    ∃ cap arr el fz, v = .slice (some ⟨g.1, g.2, none⟩) n cap ∧ X.w.heap[g.1]? = some (.cells arr el fz) ∧ n ≤ cap ∧ cap ≤ maxLen ∧ g.2 + cap * k ≤ arr.size ∧ FreeK k fz g.2 arr.size ∧ RelL X.w X.S k g.1 g.2 es := by
  obtain ⟨_, _, h3⟩ := hd
  obtain ⟨_, h5⟩ := h3 _ _ _ hid
  rw [hg] at h5
  obtain ⟨cap, o, arr, el, fz, h6, rfl, h7, h8, h9, h10⟩ := h5
  rcases hi.blk id _ hid with hq | ⟨g', arr', el', fz', q1, q2, q3, q4, q5⟩
  · rw [hg] at hq; cases hq.1
  rw [hg] at q1; cases q1
  rw [h6] at q2; cases q2
  have ho : o = g.2 := by rcases h7 with h7 | h7 <;> omega
  subst ho
  exact ⟨cap, arr, el, fz, rfl, h6, h8, h9, by simpa using h10, q4, q5⟩

theorem row_halves {w : World} {S : Nat → Prop} {k bl off i : Nat} {es : List (List PV)} (hL : RelL w S k bl off es) (hi : i ≤ es.length) :
    ∃ ca cb : List Value, RelPs w S (es.take i).flatten ca ∧ RelPs w S (es.drop i).flatten cb ∧ ca.length = i * k ∧ (ca ++ cb).length = es.length * k ∧ ∀ (j : Nat) (v : Value), (ca ++ cb)[j]? = some v → w.cell? ⟨bl, off + j, none⟩ = some v := by
  obtain ⟨ca, a1, a2, a3⟩ := (hL.take i).vals
  obtain ⟨cb, b1, b2, b3⟩ := (hL.drop i).vals
  have e : (es.take i).length = i := by rw [List.length_take]; omega
  have e2 : (es.drop i).length = es.length - i := List.length_drop
  rw [e] at a2
  rw [e2] at b2
  have e3 : i * k + (es.length - i) * k = es.length * k := by rw [← Nat.add_mul]; congr 1; omega
  refine ⟨ca, cb, a1, b1, a2, by rw [List.length_append, a2, b2, e3], fun j v hj => ?_⟩
  rcases Nat.lt_or_ge j ca.length with h | h
  · rw [List.getElem?_append_left h] at hj; exact a3 j v hj
  · rw [List.getElem?_append_right h] at hj
    have := b3 _ v hj
    rw [← this]; congr 2; omega

theorem insAt_rel {w : World} {S : Nat → Prop} {i : Nat} {es : List (List PV)} {x : List PV} {ca vs cb : List Value} (ha : RelPs w S (es.take i).flatten ca) (hv : RelPs w S x vs) (hb : RelPs w S (es.drop i).flatten cb) : RelPs w S (insAt i x es).flatten (ca ++ vs ++ cb) := by
  rw [insAt_flatten]; exact (ha.append hv).append hb

theorem ins_road_shift (hT : TabOK P T) (L : InsL P ρ) {k : Nat} (hk : (T (ρ.t 9)).size = k) (hk1 : 1 < k) {X : Ctx} (hi : HInv X) {id n i vc voff : Nat} {g : Nat × Nat} {vb : Nat} {es : List (List PV)} {x : List PV} {vs : List Value} {v1 : Value} {cap : Nat} {arr : Array Value} {el : TypeId} {fz : Nat × Nat}
    (hid : X.h[id]? = some (.arr k es false)) (hl : es.length = n) (hg : X.G id = some g) (hin : i < n) (hv1 : v1 = .slice (some ⟨g.1, g.2, none⟩) n cap) (hbl : X.w.heap[g.1]? = some (.cells arr el fz)) (hcm : cap ≤ maxLen) (hsz : g.2 + cap * k ≤ arr.size) (hfr : FreeK k fz g.2 arr.size) (hL : RelL X.w X.S k g.1 g.2 es) (hroom : n + 1 ≤ cap)
    (hxk : x.length = k) (hvr : RelPs X.w X.S x vs) (hvc : ∀ (j : Nat) (v : Value), vs[j]? = some v → X.w.cell? ⟨vb, voff + j, none⟩ = some v) (hvb : vb ≠ g.1)
    {tA : TypeId} {kA : Nat} (hsa : X.w.shape? vb = some (tA, kA)) (hfa : X.w.frozen? ⟨vb, voff, none⟩ = false) (hfe : X.w.frozen? ⟨vb, kA, none⟩ = false) :
    Calls P (ρ.f 22) #[v1, .int .i64 i, .slice (some ⟨vb, voff, none⟩) 1 vc] X.w fun e w' => ∃ v, e = .returned v ∧ Ret X (fun d h' => d = .c (.own X.h.length 0 (n + 1)) ∧ h' = X.h.set id .dead ++ [.arr k (insAt i x es) false]) v w' := by
  have hs0 : (T (ρ.t 9)).size ≠ 0 := by omega
  obtain ⟨_, i0, z, t1, t2, _⟩ := tab_info hT (tab_known hT hs0)
  have hlt := lt_of_some hid
  obtain ⟨ca, cb, a1, a2, a3, a4, a5⟩ := row_halves (i := i) hL (by omega)
  have hvl : vs.length = k := by rw [← hvr.length, hxk]
  rw [hl] at a4
  have a6 : cb.length + i * k = n * k := by rw [← a4, List.length_append, a3]; omega
  have m1 : (n + 1) * k ≤ cap * k := Nat.mul_le_mul_right _ hroom
  have m2 : (n + 1) * k = n * k + k := by rw [Nat.add_mul, Nat.one_mul]
  have m3 : (i + 1) * k = i * k + k := by rw [Nat.add_mul, Nat.one_mul]
  have hcell : ∀ j, j < (n + 1) * k → (X.w.cell? ⟨g.1, g.2 + j, none⟩).isSome = true := fun j hj => by
    simp only [World.cell?, hbl, Option.isSome_none, Bool.false_eq_true, if_false]
    rw [Array.getElem?_eq_getElem (by omega)]; rfl
  have hfz : fz.1 = fz.2 := by rcases hfr.2 with h | h; omega; exact h
  subst hv1
  refine (ins_shift L i0 t1 k (by rw [t2, hk]) (by omega) g.1 g.2 n cap i vb voff 1 vc (ca ++ cb) vs X.w hin (by omega) hroom (by unfold maxLen at hcm; omega) hvb a4 (by omega) a5 hcell (fun j _ => by simp only [World.frozen?, hbl]; simp; omega) hvc
    (fun v hv => by rcases List.mem_append.1 hv with hv | hv; exact a1.oneCell v hv; exact a2.oneCell v hv) hvr.oneCell tA el kA arr.size hsa (by simp [World.shape?, hbl]) (by omega) hfa hfe).mono ?_
  rintro e w' ⟨rfl, hw⟩
  rw [List.drop_left' a3, m3] at hw
  obtain ⟨⟨arr1, b1, b2⟩, b3, b4, b5, b6, b7, b8⟩ := setCells_block cb (g.2 + (i * k + k)) X.w.drew arr hbl
  obtain ⟨⟨arr2, c1, c2⟩, c3, c4, c5, c6, c7, c8⟩ := setCells_block vs (g.2 + i * k) _ arr1 b1
  rw [← hw] at c1 c3 c4 c5 c6 c7 c8
  have hto : Touched X.w w' g.1 := ⟨c5.trans b5, c6.trans b6, ⟨c7.trans b7, by rw [c8, b8]; exact Nat.le_succ _⟩, c4.trans b4, fun b hb => (c3 b hb).trans (b3 b hb), .inl ⟨arr, el, fz, arr2, el, fz, hbl, c1, by rw [c2, b2]⟩⟩
  have hlen := insAt_len (x := x) (es := es) (i := i) (by omega)
  have hsb : SameB (.arr k es false) (.arr k (insAt i x es) false) := ⟨rfl, by omega⟩
  have hst := Step.put hi hid rfl rfl hg hto hsb rfl
  have hik : HInv (X.put w' id (.arr k (insAt i x es) false)) := HInv.put hi hid rfl rfl hg hto hsb rfl (by
    refine .inr ⟨g, arr2, el, fz, hg, c1, by rw [hlen, c2, b2, hl]; omega, by rw [c2, b2]; exact hfr, RelL.of_vals (fun y hy => ?_) ((insAt_rel a1 hvr a2).kept hst.kept) ?_⟩
    · simp only [insAt, List.mem_append, List.mem_cons] at hy
      have hek : ∀ y ∈ es, y.length = k := fun y hy => by
        obtain ⟨j, hj⟩ := List.mem_iff_getElem?.1 hy
        exact (hL.at_ hj).1
      rcases hy with hy | rfl | hy
      · exact hek y (List.mem_of_mem_take hy)
      · exact hxk
      · exact hek y (List.mem_of_mem_drop hy)
    · exact opened_cells (w := X.w.drew) a3 hvl (.inl hw) (fun j v hj => a5 j v (by rw [List.getElem?_append_left (lt_of_some hj)]; exact hj)) (fun j hj => hcell j (by omega)))
  have hid2 : (X.put w' id (.arr k (insAt i x es) false)).h[id]? = some (.arr k (insAt i x es) false) := by
    simp only [Ctx.put]
    rw [List.getElem?_set]
    simp [hlt]
  obtain ⟨k3, k4⟩ := rebase (off := 0) hik hid2 hg (by omega)
  have hheap : ((X.put w' id (.arr k (insAt i x es) false)).rebase id (g.1, g.2 + 0 * k) k ((insAt i x es).drop 0)).h = X.h.set id .dead ++ [.arr k (insAt i x es) false] := by
    simp only [Ctx.rebase, Ctx.put, List.set_set, List.drop_zero]
  refine ⟨_, rfl, _, _, rfl, k4, hst.trans hik k3, ?_, rfl, hheap⟩
  refine relC (x := .own X.h.length 0 (n + 1)) ⟨by rw [hheap]; simp, rfl, fun k' es' ro' hh => ?_⟩
  rw [hheap] at hh
  rw [show X.h.length = (X.h.set id .dead).length by simp, List.getElem?_concat_length] at hh
  simp only [Option.some.injEq, DB.arr.injEq] at hh
  obtain ⟨rfl, rfl, rfl⟩ := hh
  refine ⟨by omega, ?_⟩
  simp only [Ctx.rebase, Ctx.put, List.length_set, if_true]
  exact ⟨cap, g.2, arr2, el, fz, c1, rfl, .inr (by simp), hroom, hcm, by rw [c2, b2]; simpa using hsz⟩
theorem grew_of {w w' : World} {o : Obj} (h1 : w'.os = w.os) (h2 : w'.tape = w.tape) (h3 : OutW w w') (hs : w'.heap.size = w.heap.size + 1) (ho : ∀ b, b < w.heap.size → w'.heap[b]? = w.heap[b]?) (hn : w'.heap[w.heap.size]? = some o) : Grew w w' o := by
  refine ⟨Array.ext_getElem? fun b => ?_, h1, h2, h3⟩
  rw [Array.getElem?_push]
  split
  · rename_i h; subst h; exact hn
  · rename_i h
    rcases Nat.lt_or_ge b w.heap.size with hb | hb
    · exact ho b hb
    · rw [Array.getElem?_eq_none (by omega), Array.getElem?_eq_none hb]

set_option maxHeartbeats 1000000 in
theorem ins_road_grow (hT : TabOK P T) (L : InsL P ρ) {k : Nat} (hk : (T (ρ.t 9)).size = k) (hk1 : 1 < k) {X : Ctx} (hi : HInv X) {id n i vc voff : Nat} {g : Nat × Nat} {vb : Nat} {es : List (List PV)} {x : List PV} {vs : List Value} {v1 : Value} {cap : Nat}
    (hid : X.h[id]? = some (.arr k es false)) (hl : es.length = n) (hin : i < n) (hv1 : v1 = .slice (some ⟨g.1, g.2, none⟩) n cap) (hL : RelL X.w X.S k g.1 g.2 es) (hnc : n ≤ cap) (hroom : cap < n + 1)
    (hxk : x.length = k) (hvr : RelPs X.w X.S x vs) (hvc : ∀ (j : Nat) (v : Value), vs[j]? = some v → X.w.cell? ⟨vb, voff + j, none⟩ = some v)
    (hb : (n + 1) * (T (ρ.t 9)).bytes ≤ 140737488355328) (hn2 : n + 1 ≤ 4611686018427387904) :
    Calls P (ρ.f 22) #[v1, .int .i64 i, .slice (some ⟨vb, voff, none⟩) 1 vc] X.w fun e w' => ∃ v, e = .returned v ∧ Ret X (fun d h' => d = .c (.own X.h.length 0 (n + 1)) ∧ h' = X.h.set id .dead ++ [.arr k (insAt i x es) false]) v w' := by
  have hs0 : (T (ρ.t 9)).size ≠ 0 := by omega
  obtain ⟨_, i0, z, t1, t2, t3, t4, t5, t6, t7, t8⟩ := tab_info hT (tab_known hT hs0)
  have hz : z.cells.size = k := by
    have := congrArg List.length t5
    simp only [List.length_map] at this
    rw [← hk, t6, this]; simp
  obtain ⟨ca, cb, a1, a2, a3, a4, a5⟩ := row_halves (i := i) hL (by omega)
  have hvl : vs.length = k := by rw [← hvr.length, hxk]
  rw [hl] at a4
  have a6 : cb.length + i * k = n * k := by rw [← a4, List.length_append, a3]; omega
  have m2 : (n + 1) * k = n * k + k := by rw [Nat.add_mul, Nat.one_mul]
  subst hv1
  refine (ins_grow L i0 t1 z t4 k (by rw [t2, hk]) (by omega) hz g.1 g.2 n cap i vb voff 1 vc (ca ++ cb) vs X.w hin (by omega) hnc hroom (by rw [t3]; exact hb) hn2 a4 (by omega) a5 hvc
    (fun v hv => by rcases List.mem_append.1 hv with hv | hv; exact a1.oneCell v hv; exact a2.oneCell v hv) hvr.oneCell).mono ?_
  rintro e w' ⟨rfl, hw⟩
  rw [List.drop_left' a3, List.take_left' a3, Nat.one_mul] at hw
  have hG1 := grownCap_ge X.w (n + 1) cap (ρ.t 9)
  have hG2 := grownCap_le_maxLen X.w (n + 1) cap (ρ.t 9) (by unfold maxLen; omega)
  generalize grownCap X.w (n + 1) cap (ρ.t 9) = G at hG1 hG2 hw ⊢
  have hR : (ca.toArray ++ Builtin.zeroCells z.cells (n + 1 - i) ++ Builtin.zeroCells z.cells (G - (n + 1))).size = G * k := by
    simp only [Array.size_append, List.size_toArray, a3, size_zeroCells, hz, ← Nat.add_mul]
    congr 1; omega
  have hR2 : ∀ (j : Nat) (v : Value), ca[j]? = some v → (ca.toArray ++ Builtin.zeroCells z.cells (n + 1 - i) ++ Builtin.zeroCells z.cells (G - (n + 1)))[j]? = some v := fun j v hj => by
    have := lt_of_some hj
    rw [Array.getElem?_append_left (by rw [Array.size_append, List.size_toArray]; omega), Array.getElem?_append_left (by rw [List.size_toArray]; omega)]
    simpa using hj
  generalize ca.toArray ++ Builtin.zeroCells z.cells (n + 1 - i) ++ Builtin.zeroCells z.cells (G - (n + 1)) = ROW at hw hR hR2
  have mG : (n + 1) * k ≤ G * k := Nat.mul_le_mul_right _ hG1
  have hu : ((X.w.alloc (.cells ROW (ρ.t 9))).drew.drew).heap[X.w.heap.size]? = some (.cells ROW (ρ.t 9) (0, 0)) := (Grew.alloc X.w (.cells ROW (ρ.t 9))).new
  have hw2 : w' = ((X.w.alloc (.cells ROW (ρ.t 9))).drew.drew.setCells X.w.heap.size (0 + i * k) vs).setCells X.w.heap.size (0 + (i * k + k)) cb := by
    rw [hw, Go.Proofs.drew_setCells, Nat.zero_add, Nat.zero_add]
  have hu2 : ∀ b, b < X.w.heap.size → ((X.w.alloc (.cells ROW (ρ.t 9))).drew.drew).heap[b]? = X.w.heap[b]? := fun b hb => (Grew.alloc X.w (.cells ROW (ρ.t 9))).old hb
  have hu3 : ((X.w.alloc (.cells ROW (ρ.t 9))).drew.drew).heap.size = X.w.heap.size + 1 := (Grew.alloc X.w (.cells ROW (ρ.t 9))).size
  have hu4 : ((X.w.alloc (.cells ROW (ρ.t 9))).drew.drew).os = X.w.os := rfl
  have hu5 : ((X.w.alloc (.cells ROW (ρ.t 9))).drew.drew).tape = X.w.tape := rfl
  have hu6 : OutW X.w ((X.w.alloc (.cells ROW (ρ.t 9))).drew.drew) := ⟨rfl, Nat.le_add_right X.w.drawn 2⟩
  generalize (X.w.alloc (.cells ROW (ρ.t 9))).drew.drew = u at hu hu2 hu3 hu4 hu5 hu6 hw2
  clear hw
  obtain ⟨⟨arr1, b1, b2⟩, b3, b4, b5, b6, b7, b8⟩ := setCells_block vs (0 + i * k) u ROW hu
  obtain ⟨⟨arr2, c1, c2⟩, c3, c4, c5, c6, c7, c8⟩ := setCells_block cb (0 + (i * k + k)) _ arr1 b1
  rw [← hw2] at c1 c3 c4 c5 c6 c7 c8
  have hgw : Grew X.w w' (.cells arr2 (ρ.t 9) (0, 0)) := grew_of ((c5.trans b5).trans hu4) ((c6.trans b6).trans hu5) ⟨(c7.trans b7).trans hu6.1, by rw [c8, b8]; exact hu6.2⟩ ((c4.trans b4).trans hu3)
    (fun b hb => ((c3 b (by omega)).trans (b3 b (by omega))).trans (hu2 b hb)) c1
  have hcell : ∀ j, j < (n + 1) * k → (u.cell? ⟨X.w.heap.size, 0 + j, none⟩).isSome = true := fun j hj => by
    simp only [World.cell?, hu, Option.isSome_none, Bool.false_eq_true, if_false]
    rw [Array.getElem?_eq_getElem (by omega)]; rfl
  have hopen := opened_cells (w := u) (W := w') (bl := X.w.heap.size) (off := 0) a3 hvl (.inr hw2) (fun j v hj => by
    simp only [World.cell?, hu, Option.isSome_none, Bool.false_eq_true, if_false, Nat.zero_add]
    exact hR2 j v hj) (fun j hj => hcell j (by omega))
  have hlen := insAt_len (x := x) (es := es) (i := i) (by omega)
  have hik := hi.kill id
  have hsk := Step.kill hi id
  have hkl : (X.kill id).h.length = X.h.length := by simp [Ctx.kill]
  have hgw' : Grew (X.kill id).w w' (.cells arr2 (ρ.t 9) (0, 0)) := hgw
  obtain ⟨k1, k2⟩ := new_row (X := X.kill id) (k := k) (es := insAt i x es) (vs := ca ++ vs ++ cb) hik hgw' (fun y hy => by
      simp only [insAt, List.mem_append, List.mem_cons] at hy
      have hek : ∀ y ∈ es, y.length = k := fun y hy => by
        obtain ⟨j, hj⟩ := List.mem_iff_getElem?.1 hy
        exact (hL.at_ hj).1
      rcases hy with hy | rfl | hy
      · exact hek y (List.mem_of_mem_take hy)
      · exact hxk
      · exact hek y (List.mem_of_mem_drop hy)) (insAt_rel a1 hvr a2) (fun j v hj => by
    have := hopen j v hj
    simp only [World.cell?, c1, Option.isSome_none, Bool.false_eq_true, if_false, Nat.zero_add] at this
    exact this) (by rw [hlen, c2, b2, hR, hl]; exact mG) (FreeK.zero _ _ _)
  have ho := own_new (X := X.kill id) (k := k) (n := n + 1) (cap := G) (es := insAt i x es) hgw' (by omega) hG1 hG2 (by rw [c2, b2, hR]; exact Nat.le_refl _)
  rw [hkl] at ho
  exact ⟨_, rfl, _, _, rfl, k2, hsk.trans hik k1, ho, rfl, rfl⟩

end roads
theorem dcalls_insert {P : Program} {T : Tab} (hT : TabOK P T) {ρ : Ren} (L : InsL P ρ) (hen : ∀ (vals : List Value) (w : World), (callFunc (ρ.f 22) vals.toArray).run P w = .ok (.enter (ρ.f 22) vals.toArray) w)
    {k : Nat} (hk : (T (ρ.t 9)).size = k) (hk1 : 1 < k) (h24 : (T (ρ.t 24)).k = .slice (ρ.t 9))
    {h : DHeap} {id jd n i : Nat} {es : List (List PV)} {x : List PV} (hid : h[id]? = some (.arr k es false)) (hjd : h[jd]? = some (.arr k [x] false)) (hne : id ≠ jd) (hn : n ≤ es.length) (hin : i ≤ n)
    (hb : (n + 1) * (T (ρ.t 9)).bytes ≤ 140737488355328) (hn2 : n + 1 ≤ 4611686018427387904) :
    DCalls P (ρ.f 22) [.c (.own id 0 n), .c (.p (.i .i64 i)), .c (.own jd 0 1)] h fun d h' => d = .c (.own (h.length + 1) 0 (n + 1)) ∧ h' = h.set id .dead ++ [.dead, .arr k (insAt i x (es.take n)) false] := by
  intro X vals hh hi gd hr
  subst hh
  obtain ⟨v1, v3, rfl, hv1, hv3⟩ : ∃ v1 v3, vals = [v1, .int .i64 i, v3] ∧ RelD X (.c (.own id 0 n)) v1 ∧ RelD X (.c (.own jd 0 1)) v3 := by
    match vals, hr with
    | [v1, v2, v3], hr =>
      obtain ⟨h1, h2, h3, _⟩ := hr
      have h2 : v2 = .int .i64 i := h2
      exact ⟨v1, v3, by rw [h2], h1, h3⟩
    | [], hr => exact hr.elim
    | [_], hr => exact hr.2.elim
    | [_, _], hr => exact hr.2.2.elim
    | _ :: _ :: _ :: _ :: _, hr => exact hr.2.2.2.elim
  refine .inl ⟨hen _ _, ?_⟩
  have hs0 : (T (ρ.t 9)).size ≠ 0 := by omega
  have hkn := tab_known hT hs0
  obtain ⟨_, i0, z, t1, t2, t3, t4, t5, t6, t7, t8⟩ := tab_info hT hkn
  have hk0 : i0.size = k := by rw [t2, hk]
  have hz : z.cells.size = k := by
    have := congrArg List.length t5
    simp only [List.length_map] at this
    rw [← hk, t6, this]; simp
  -- what is put in
  obtain ⟨_, _, hv3⟩ := hv3
  obtain ⟨_, hv3⟩ := hv3 _ _ _ hjd
  rcases hi.blk jd _ hjd with hq | ⟨gj, arrj, elj, fzj, hGj, hbj, hsj, hfj, hLj⟩
  · cases hq.2
  rw [hGj] at hv3
  obtain ⟨vc, oj, _, _, _, hbj', rfl, hoj, hvc, _, _⟩ := hv3
  rw [hbj] at hbj'; cases hbj'
  have hoj : oj = gj.2 := by rcases hoj with hoj | hoj <;> omega
  subst hoj
  have hxk : x.length = k := (hLj.at_ (j := 0) rfl).1
  have hnl : ∀ y ∈ [x], y.length = (T (ρ.t 9)).size := fun y hy => by rw [List.mem_singleton.1 hy, hk]; exact hxk
  obtain ⟨vs, hvr, hvl, hvc2⟩ := hLj.vals
  have hfx : [x].flatten = x := by simp
  rw [hfx] at hvr
  have hvl : vs.length = 1 * k := hvl
  have hfj2 : fzj.1 = fzj.2 := by rcases hfj.2 with h | h; omega; exact h
  have hxaF : ∀ o, X.w.frozen? ⟨gj.1, o, none⟩ = false := fun o => by
    simp only [World.frozen?, hbj]
    simp; omega
  have hvx : ∀ (j : Nat) (v : Value), vs[j]? = some v → X.w.cell? ((⟨gj.1, gj.2, none⟩ : Addr).add j) = some v := fun j v hj => by rw [Addr.add_lit]; exact hvc2 j v hj
  have hkid := Step.kill hi id
  have hlt := lt_of_some hid
  have conv : ∀ (X1 : Ctx) (es1 : List (List PV)), HInv X1 → Step X X1 → X1.h = X.h.set id .dead ++ [.arr k es1 false] → ∀ v w', Ret X1 (fun d h' => d = .c (.own X1.h.length 0 (n + 1)) ∧ h' = X1.h.set X.h.length .dead ++ [.arr k (insAt i x es1) false]) v w' →
      Ret X (fun d h' => d = .c (.own (X.h.length + 1) 0 (n + 1)) ∧ h' = X.h.set id .dead ++ [.dead, .arr k (insAt i x es1) false]) v w' := fun X1 es1 h1 h2 h3 v w' ⟨d, X', r1, r2, r3, r4, r5, r6⟩ => by
    refine ⟨d, X', r1, r2, h2.trans h1 r3, r4, ?_, ?_⟩
    · rw [r5, h3]; simp
    · rw [r6, h3, show X.h.length = (X.h.set id .dead).length by simp, List.set_append_right _ _ (Nat.le_refl _), Nat.sub_self, List.set_cons_zero, List.append_assoc]; rfl
  cases hg : X.G id with
  | none =>
    have hv1' := hv1
    obtain ⟨_, _, h3⟩ := hv1
    obtain ⟨h4, h5⟩ := h3 _ _ _ hid
    rw [hg] at h5
    simp only at h5
    subst h5
    have he : es = [] := by
      rcases hi.blk id _ hid with hq | ⟨g', _, _, _, hq, _⟩
      · exact hq.2
      · rw [hg] at hq; cases hq
    subst he
    have hn0 : n = 0 := by simpa using hn
    subst hn0
    have hi0 : i = 0 := by omega
    subst hi0
    have hik := hi.kill id
    obtain ⟨u1, u2⟩ := virt hik k
    have hkl : (X.kill id).h.length = X.h.length := by simp [Ctx.kill]
    have hh : ((X.kill id).virt k).h = X.h.set id .dead ++ [.arr k [] false] := rfl
    have hst := hkid.trans hik u1
    have hd1 : RelD ((X.kill id).virt k) (.c (.own X.h.length 0 0)) (.slice none 0 0) := by
      have := virt_nil (X := X.kill id) (k := k) (v := .slice none 0 0) (by simp [RelC, RelP])
      rw [hkl] at this
      exact this
    have hi1 : ((X.kill id).virt k).h[X.h.length]? = some (.arr k [] false) := by
      rw [hh, show X.h.length = (X.h.set id .dead).length by simp, List.getElem?_concat_length]
    refine (ins_road_end hT L hk (by omega) h24 u2 (vc := vc) (vb := ⟨gj.1, gj.2, none⟩) (x := x) (vs := vs) hi1 rfl hd1 (Nat.le_refl _) (fun _ => rfl) hxk (hvr.kept hst.kept) hvx hb hn2).mono ?_
    rintro e w' ⟨v, rfl, hv⟩
    exact ⟨v, rfl, conv _ [] u2 hst hh v w' (hv.mono fun d h ⟨q1, q2⟩ => ⟨q1, q2⟩)⟩
  | some g =>
    obtain ⟨u1, u2⟩ := rebaseT (off := 0) (len := n) hi hid hg (by omega)
    rw [List.drop_zero, Nat.zero_mul, Nat.add_zero] at u1 u2
    have hh : (X.rebase id (g.1, g.2) k (es.take n)).h = X.h.set id .dead ++ [.arr k (es.take n) false] := rfl
    have hi1 : (X.rebase id (g.1, g.2) k (es.take n)).h[X.h.length]? = some (.arr k (es.take n) false) := by
      rw [hh, show X.h.length = (X.h.set id .dead).length by simp, List.getElem?_concat_length]
    have hg1 : (X.rebase id (g.1, g.2) k (es.take n)).G X.h.length = some (g.1, g.2) := by simp [Ctx.rebase]
    have hl1 : (es.take n).length = n := by rw [List.length_take]; omega
    obtain ⟨_, hone, h3⟩ := hv1
    obtain ⟨h4, h5⟩ := h3 _ _ _ hid
    rw [hg] at h5
    obtain ⟨cap, o, arr, el, fz, h6, rfl, h7, h8, h9, h10⟩ := h5
    have hd1 : RelD (X.rebase id (g.1, g.2) k (es.take n)) (.c (.own X.h.length 0 n)) (.slice (some ⟨g.1, o, none⟩) n cap) := by
      refine relC (x := .own X.h.length 0 n) ⟨by rw [hh]; simp, rfl, fun k' es' ro' hq => ?_⟩
      rw [hi1] at hq
      simp only [Option.some.injEq, DB.arr.injEq] at hq
      obtain ⟨rfl, rfl, rfl⟩ := hq
      refine ⟨by omega, ?_⟩
      rw [hg1]
      exact ⟨cap, o, arr, el, fz, h6, rfl, by simpa using h7, h8, h9, by simpa using h10⟩
    by_cases hie : i = n
    · subst hie
      refine (ins_road_end hT L hk (by omega) h24 u2 (vc := vc) (vb := ⟨gj.1, gj.2, none⟩) (x := x) (vs := vs) hi1 hl1 hd1 h8 (fun h => by cases h) hxk (hvr.kept u1.kept) hvx hb hn2).mono ?_
      rintro e w' ⟨v, rfl, hv⟩
      have he : insAt i x (es.take i) = es.take i ++ [x] := by
        have := insAt_end (x := x) (es := es.take i)
        rw [hl1] at this; exact this
      refine ⟨v, rfl, conv _ (es.take i) u2 u1 hh v w' (hv.mono fun d h ⟨q1, q2⟩ => ⟨q1, by rw [q2, he]⟩)⟩
    · have hlt2 : i < n := by omega
      obtain ⟨cap', arr', el', fz', p1, p2, p3, p4, p5, p6, p7⟩ := row_open u2 hi1 hl1 hg1 (by omega) hd1
      have hvb : gj.1 ≠ g.1 := fun e => hne (hi.inj id _ jd _ g gj hid rfl rfl hjd rfl hg hGj e.symm)
      by_cases hroom : n + 1 ≤ cap'
      · refine (ins_road_shift hT L hk hk1 u2 (vc := vc) (voff := gj.2) (vb := gj.1) (x := x) (vs := vs) hi1 hl1 hg1 hlt2 p1 p2 p4 p5 p6 p7 hroom hxk (hvr.kept u1.kept) hvc2 hvb (tA := elj) (kA := arrj.size) (by show X.w.shape? _ = _; simp [World.shape?, hbj]) (hxaF _) (hxaF _)).mono ?_
        rintro e w' ⟨v, rfl, hv⟩
        exact ⟨v, rfl, conv _ (es.take n) u2 u1 hh v w' hv⟩
      · refine (ins_road_grow hT L hk hk1 u2 (vc := vc) (voff := gj.2) (vb := gj.1) (x := x) (vs := vs) hi1 hl1 hlt2 p1 p7 p3 (by omega) hxk (hvr.kept u1.kept) hvc2 hb hn2).mono ?_
        rintro e w' ⟨v, rfl, hv⟩
        exact ⟨v, rfl, conv _ (es.take n) u2 u1 hh v w' hv⟩
end Go.Dm

end

section
/-
  A row of the call's own, lent to a callee that reads it as data and answers in plain numbers, truths and strings: it stays the call's own. No condition.
-/

set_option linter.unusedSimpArgs false
set_option linter.unusedVariables false
set_option maxRecDepth 100000
namespace Go.Dm
open Go

def scalP : PV → Bool
  | .sl _ _ => false
  | _ => true
def scalC : CV → Bool
  | .p x => scalP x
  | _ => false
def scalE : EV → Bool
  | .c x => scalC x
  | .agg xs => xs.all scalC
def scalD : DV → Bool
  | .c x => scalC x
  | .tup xs => xs.all scalE
  | _ => false
theorem scalP_rel {w w' : World} {S S' : Nat → Prop} {x : PV} {v : Value} (hs : scalP x = true) (h : RelP w S x v) : RelP w' S' x v := by
  cases x <;> simp only [scalP, Bool.false_eq_true] at hs <;> exact h
theorem scalC_rel {X Y : Ctx} {x : CV} {v : Value} (hs : scalC x = true) (h : RelC X x v) : RelC Y x v := by
  cases x <;> simp only [scalC, Bool.false_eq_true] at hs
  exact scalP_rel hs h
theorem scalCs_rel {X Y : Ctx} : ∀ {xs : List CV} {vs : List Value}, xs.all scalC = true → RelCs X xs vs → RelCs Y xs vs
  | [], [], _, _ => True.intro
  | x :: xs, v :: vs, hs, h => by
    simp only [List.all_cons, Bool.and_eq_true] at hs
    exact ⟨scalC_rel hs.1 h.1, scalCs_rel hs.2 h.2⟩
  | [], _ :: _, _, h => h.elim
  | _ :: _, [], _, h => h.elim
theorem scalE_rel {X Y : Ctx} {x : EV} {v : Value} (hs : scalE x = true) (h : RelEV X x v) : RelEV Y x v := by
  cases x with
  | c x => exact scalC_rel hs h
  | agg xs => obtain ⟨vs, h1, h2⟩ := h; exact ⟨vs, h1, scalCs_rel hs h2⟩
theorem scalEs_rel {X Y : Ctx} : ∀ {xs : List EV} {vs : List Value}, xs.all scalE = true → RelEVs X xs vs → RelEVs Y xs vs
  | [], [], _, _ => True.intro
  | x :: xs, v :: vs, hs, h => by
    simp only [List.all_cons, Bool.and_eq_true] at hs
    exact ⟨scalE_rel hs.1 h.1, scalEs_rel hs.2 h.2⟩
  | [], _ :: _, _, h => h.elim
  | _ :: _, [], _, h => h.elim
theorem scalD_rel {X Y : Ctx} {x : DV} {v : Value} (hs : scalD x = true) (h : RelD X x v) : RelD Y x v := by
  cases x with
  | jk => cases hs
  | c x => exact scalC_rel hs h
  | agg xs => cases hs
  | tup xs => obtain ⟨vs, h1, h2⟩ := h; exact ⟨vs, h1, scalEs_rel hs h2⟩

def lendC : CV → Bool
  | .p _ => true
  | .clo _ [] => true
  | _ => false
def lendD : DV → Bool
  | .c x => lendC x
  | .agg xs => xs.all lendC
  | _ => false
theorem lendC_rel {X Y : Ctx} (hk : Kept X.w Y.w X.S Y.S) {x : CV} {v : Value} (hs : lendC x = true) (h : RelC X x v) : RelC Y x v := by
  cases x <;> simp only [lendC, Bool.false_eq_true] at hs
  case p => exact RelP.kept hk h
  case clo f cap =>
    cases cap with
    | nil =>
      obtain ⟨vs, h1, h2⟩ := h
      cases vs with
      | nil => exact ⟨[], h1, True.intro⟩
      | cons _ _ => exact h2.elim
    | cons _ _ => cases hs
theorem lendCs_rel {X Y : Ctx} (hk : Kept X.w Y.w X.S Y.S) : ∀ {xs : List CV} {vs : List Value}, xs.all lendC = true → RelCs X xs vs → RelCs Y xs vs
  | [], [], _, _ => True.intro
  | x :: xs, v :: vs, hs, h => by
    simp only [List.all_cons, Bool.and_eq_true] at hs
    exact ⟨lendC_rel hk hs.1 h.1, lendCs_rel hk hs.2 h.2⟩
  | [], _ :: _, _, h => h.elim
  | _ :: _, [], _, h => h.elim
theorem lendD_rel {X Y : Ctx} (hk : Kept X.w Y.w X.S Y.S) {x : DV} {v : Value} (hs : lendD x = true) (h : RelD X x v) : RelD Y x v := by
  cases x with
  | jk => cases hs
  | c x => exact lendC_rel hk hs h
  | agg xs => obtain ⟨vs, h1, h2⟩ := h; exact ⟨vs, h1, lendCs_rel hk hs h2⟩
  | tup xs => cases hs

def ownD (i n : Nat) : Option DV → DV
  | some d => d
  | none => .c (.own i 0 n)
def rowD (k : Nat) (es : List (List PV)) : Option DV → DV
  | some d => d
  | none => .c (.p (.sl k es))
theorem lend_rel {X Y : Ctx} (hk : Kept X.w Y.w X.S Y.S) {i n k : Nat} {es : List (List PV)} (ho : ∀ v, RelD X (.c (.own i 0 n)) v → RelD Y (.c (.p (.sl k es))) v) :
    ∀ {L : List (Option DV)} {vs : List Value}, (∀ d, some d ∈ L → lendD d = true) → RelDs X (L.map (ownD i n)) vs → RelDs Y (L.map (rowD k es)) vs
  | [], [], _, _ => True.intro
  | none :: _, _ :: _, hL, h => ⟨ho _ h.1, lend_rel hk ho (fun d hd => hL d (List.mem_cons_of_mem _ hd)) h.2⟩
  | some _ :: _, _ :: _, hL, h => ⟨lendD_rel hk (hL _ List.mem_cons_self) h.1, lend_rel hk ho (fun d hd => hL d (List.mem_cons_of_mem _ hd)) h.2⟩
  | [], _ :: _, _, h => h.elim
  | none :: _, [], _, h => h.elim
  | some _ :: _, [], _, h => h.elim

theorem DCalls.lend {P : Program} {f : FuncId} {h : DHeap} {i k n : Nat} {es : List (List PV)} (L : List (Option DV)) {R : DV → Prop} {K : DV → DHeap → Prop} (hL : ∀ d, some d ∈ L → lendD d = true)
    (hc : DCalls P f (L.map (rowD k (es.take n))) [] fun d h' => R d ∧ h' = []) (h0 : h[i]? = some (.arr k es false)) (hk : ∀ d, R d → scalD d = true ∧ K d h) :
    DCalls P f (L.map (ownD i n)) h K := by
  intro X vals hh hi gd hr
  subst hh
  have hb0 := hi.blk i _ h0
  let Y : Ctx := ⟨X.w, fun b => X.S b ∨ ∃ g, X.G i = some g ∧ b = g.1, fun _ => none, []⟩
  have hiY : HInv Y := ⟨fun b hb => by
    rcases hb with hb | ⟨g, hg, rfl⟩
    · exact hi.slt b hb
    · exact hi.block_lt h0 rfl hg, fun id db hdb => by simp [Y] at hdb, fun id db g hdb => by simp [Y] at hdb, fun id db id' db' g1 g2 hdb => by simp [Y] at hdb⟩
  have hkp : Kept X.w Y.w X.S Y.S := fun b hb => ⟨.inl hb, rfl⟩
  have gdY : Gnd P Y := by
    obtain ⟨W0, g1, g2⟩ := gd
    exact ⟨W0, g1, fun b hb => ⟨.inl (g2 b hb).1, (g2 b hb).2⟩⟩
  have hrY : RelDs Y (L.map (rowD k (es.take n))) vals := lend_rel hkp (fun v hv => by
    obtain ⟨_, _, hv⟩ := hv
    obtain ⟨hv1, hv2⟩ := hv _ _ _ h0
    have hln : (es.take n).length = n := by rw [List.length_take]; omega
    simp only [RelD, RelC, RelP]
    cases hg : X.G i with
    | none =>
      rw [hg] at hv2
      rcases hb0 with ⟨_, rfl⟩ | ⟨g', _, _, _, hq, _⟩
      · simp only [List.take_nil] at hln ⊢
        exact ⟨none, 0, hv2, Nat.le_refl _, .inl trivial⟩
      · rw [hg] at hq; cases hq
    | some g =>
      rw [hg] at hv2
      obtain ⟨cap, o, arr, el, fz, q1, q2, q3, q4, q5, q6⟩ := hv2
      refine ⟨some ⟨g.1, o, none⟩, cap, by rw [hln]; exact q2, by omega, ?_⟩
      by_cases hn : n = 0
      · subst hn; exact .inl List.take_zero
      · right
        have ho : o = g.2 := by rcases q3 with q3 | q3 <;> omega
        subst ho
        refine ⟨g.1, g.2, rfl, .inr ⟨g, hg, rfl⟩, ?_⟩
        rcases hb0 with ⟨hq, _⟩ | ⟨g', arr', el', fz', p1, p2, p3, p4, p5⟩
        · rw [hg] at hq; cases hq
        · rw [hg] at p1; cases p1
          exact (p5.take n).move hkp rfl) hL hr
  have key : ∀ v w', Ret Y (fun d h' => R d ∧ h' = []) v w' → Ret X K v w' := by
    rintro v w' ⟨d, Z, h1, h2, h3, h4, h5, h6⟩
    obtain ⟨hs, hK⟩ := hk d h5
    have hfr : ∀ b, b < X.w.heap.size → Z.w.heap[b]? = X.w.heap[b]? := fun b hb => h3.frame b hb fun id db g hdb => by simp [Y] at hdb
    have hno : ∀ g, X.G i = some g → ¬ X.S g.1 := fun g hg => (hi.own i _ g h0 rfl hg).1 rfl
    let Z' : Ctx := ⟨Z.w, fun b => Z.S b ∧ ∀ g, X.G i = some g → b ≠ g.1, X.G, X.h⟩
    have hst : Step X Z' := by
      refine ⟨h3.size, h3.os, h3.tape, h3.output, fun b hb => ⟨⟨(h3.kept b (.inl hb)).1, fun g hg e => hno g hg (e ▸ hb)⟩, (h3.kept b (.inl hb)).2⟩, Nat.le_refl _, fun id db' hl' hdb' hlv => ⟨db', hdb', SameB.refl hlv, rfl, fun g' hg' => ?_⟩, fun b hb _ => hfr b hb, fun id db g' hdb hl hf hg' => .inr ⟨id, db, g', hdb, hl, hf, hg', rfl⟩, fun b hb => ?_⟩
      · rw [show Z'.w.heap[g'.1]? = X.w.heap[g'.1]? from hfr _ (hi.block_lt hdb' hlv hg')]
        exact (hi.blk id db' hdb').same hlv g' hg'
      · obtain ⟨hb1, hb2⟩ := hb
        rcases h3.upper b hb1 with h | h | ⟨id, db, g', hdb, _⟩
        · rcases h with h | ⟨g, hg, e⟩
          · exact .inl h
          · exact absurd e (hb2 g hg)
        · exact .inr (.inl h)
        · simp [Y] at hdb
    have hi' : HInv Z' := by
      refine ⟨fun b hb => h2.slt b hb.1, fun id db hdb => ?_, fun id db g' hdb hl hg' => ?_, fun id db id' db' g1 g2 hdb hl hf hdb' hl' hg1 hg2 he => hi.inj id db id' db' g1 g2 hdb hl hf hdb' hl' hg1 hg2 he⟩
      · by_cases hl : db.live = true
        · exact (hi.blk id db hdb).move hst rfl fun g' hg' => hfr _ (hi.block_lt hdb hl hg')
        · cases db with
          | dead => simp only [RelB]
          | box _ => exact absurd rfl hl
          | arr _ _ _ => exact absurd rfl hl
          | mp _ => exact absurd rfl hl
      · have ho := hi.own id db g' hdb hl hg'
        refine ⟨fun hf hS => ?_, fun hf => ⟨(h3.kept _ (.inl (ho.2 hf))).1, fun g hg e => hno g hg (e ▸ ho.2 hf)⟩⟩
        rcases h3.upper _ hS.1 with h | h | ⟨j, d', g2, hdb2, _⟩
        · rcases h with h | ⟨g, hg, e⟩
          · exact ho.1 hf h
          · exact hS.2 g hg e
        · have := hi.block_lt hdb hl hg'
          have hYw : Y.w.heap.size = X.w.heap.size := rfl
          omega
        · simp [Y] at hdb2
    exact ⟨d, Z', h1, hi', hst, scalD_rel hs h4, hK⟩
  rcases hc Y _ rfl hiY gdY hrY with ⟨h1, h2⟩ | ⟨v, w', h1, h2⟩
  · exact .inl ⟨h1, h2.mono fun e w' ⟨v, he, hv⟩ => ⟨v, he, key v w' hv⟩⟩
  · exact .inr ⟨v, w', h1, key v w' h2⟩

theorem useO1 {P : Program} {f : FuncId} {h : DHeap} {i k n : Nat} {es es0 : List (List PV)} {R : DV → Prop} {K : DV → DHeap → Prop} (hes : es.take n = es0)
    (hc : DCalls P f [.c (.p (.sl k es0))] [] fun d h' => R d ∧ h' = []) (h0 : h[i]? = some (.arr k es false)) (hk : ∀ d, R d → scalD d = true ∧ K d h) : DCalls P f [.c (.own i 0 n)] h K := by
  subst hes
  exact DCalls.lend [none] (by simp) hc h0 hk
theorem useO2 {P : Program} {f : FuncId} {h : DHeap} {i k n : Nat} {es es0 : List (List PV)} {x : DV} {R : DV → Prop} {K : DV → DHeap → Prop} (hx : lendD x = true) (hes : es.take n = es0)
    (hc : DCalls P f [.c (.p (.sl k es0)), x] [] fun d h' => R d ∧ h' = []) (h0 : h[i]? = some (.arr k es false)) (hk : ∀ d, R d → scalD d = true ∧ K d h) : DCalls P f [.c (.own i 0 n), x] h K := by
  subst hes
  exact DCalls.lend [none, some x] (by simpa using hx) hc h0 hk
theorem useO3 {P : Program} {f : FuncId} {h : DHeap} {i k n : Nat} {es es0 : List (List PV)} {x y : DV} {R : DV → Prop} {K : DV → DHeap → Prop} (hx : lendD x = true) (hy : lendD y = true) (hes : es.take n = es0)
    (hc : DCalls P f [.c (.p (.sl k es0)), x, y] [] fun d h' => R d ∧ h' = []) (h0 : h[i]? = some (.arr k es false)) (hk : ∀ d, R d → scalD d = true ∧ K d h) : DCalls P f [.c (.own i 0 n), x, y] h K := by
  subst hes
  exact DCalls.lend [none, some x, some y] (by
    intro d hd
    simp only [List.mem_cons, Option.some.injEq, List.not_mem_nil, or_false, reduceCtorEq, false_or] at hd
    rcases hd with rfl | rfl
    · exact hx
    · exact hy) hc h0 hk
end Go.Dm

end
