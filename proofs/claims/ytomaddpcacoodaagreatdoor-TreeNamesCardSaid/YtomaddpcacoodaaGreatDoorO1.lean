/-
  What the arguments of this seat's laws are as data.
-/
import Derived.Test.YtomaddpcacoodaaGreatDoorTab
import Derived.Test.YtomaddpcacoodaaGreatDoorBA
set_option linter.unusedSimpArgs false
set_option linter.unusedVariables false
namespace Go.Proofs.YtomaddpcacoodaaGreatDoor
set_option maxRecDepth 100000
open Go Go.Dm Go.RowKit Go.ChangeShapes Go.WideShapes

theorem own : ownKnob Tryz.prog.godebug = none := by kernel_rfl
theorem laidOut : laidOutB Tryz.prog = true := by kernel_rfl

section
variable {H : Type} {enc : TypeId × Value → H} {W : World} {base : Nat} {v : Value} {d : DataW H} {p : List MemPlace}
theorem arg_int (hv : Value.okWide Tryz.prog W .any base 3 v) (h : DataW.Trod enc Tryz.prog W 0 (fun _ => true) true 3 v d p) : ∃ n, RelD (lawStart W) (.c (.p (.i .i64 n))) v := by
  obtain ⟨xs, hx, hr⟩ := arg_open tabOK 1 (by kernel_rfl) hv h
  simp only [PVOK, tab3] at hx
  obtain ⟨n, rfl, _⟩ := hx
  exact ⟨n, hr⟩
theorem arg_bool (hv : Value.okWide Tryz.prog W .any base 4 v) (h : DataW.Trod enc Tryz.prog W 0 (fun _ => true) true 4 v d p) : ∃ b, RelD (lawStart W) (.c (.p (.b b))) v := by
  obtain ⟨xs, hx, hr⟩ := arg_open tabOK 1 (by kernel_rfl) hv h
  simp only [PVOK, tab4] at hx
  obtain ⟨n, rfl⟩ := hx
  exact ⟨n, hr⟩
theorem arg_float (hv : Value.okWide Tryz.prog W .any base 36 v) (h : DataW.Trod enc Tryz.prog W 0 (fun _ => true) true 36 v d p) : ∃ x, x < 18446744073709551616 ∧ RelD (lawStart W) (.c (.p (.f x))) v := by
  obtain ⟨xs, hx, hr⟩ := arg_open tabOK 1 (by kernel_rfl) hv h
  simp only [PVOK, tab36] at hx
  obtain ⟨n, rfl, hn⟩ := hx
  exact ⟨n, hn, hr⟩

theorem pv_int {g : Nat} {xs : List PV} (h : PVOK tab (g + 1) 3 xs) : ∃ n, xs = [.i .i64 n] := by
  simp only [PVOK, tab3] at h
  obtain ⟨n, h, _⟩ := h
  exact ⟨n, h⟩
theorem pv_float {g : Nat} {xs : List PV} (h : PVOK tab (g + 1) 36 xs) : ∃ n, xs = [.f n] ∧ n < 18446744073709551616 := by
  simp only [PVOK, tab36] at h
  obtain ⟨n, h, h2⟩ := h
  exact ⟨n, h, h2⟩
theorem pv_bytes {g : Nat} {xs : List PV} (h : PVOK tab (g + 1 + 1) 37 xs) : ∃ l, xs = [.sl 1 (encB l)] ∧ l.length ≤ 9223372036854775807 := by
  simp only [PVOK, tab37, tab5] at h
  obtain ⟨es, h, h2, h3⟩ := h
  obtain ⟨l, rfl, hl⟩ := bytes_of h2
  exact ⟨l, h, by omega⟩
theorem pv_rn {g : Nat} {xs : List PV} (h : PVOK tab (g + 1 + 1 + 1) 93 xs) : ∃ k m t x l, xs = [.i .i64 k, .i .i64 m, .i .i64 t, .f x, .sl 1 (encB l)] ∧ x < 18446744073709551616 ∧ l.length ≤ 9223372036854775807 := by
  obtain ⟨parts, rfl, hp⟩ := pvok_struct (by rw [tab93]) h
  obtain ⟨a, _, rfl, ha, hp⟩ := pvs_cons hp
  obtain ⟨b, _, rfl, hb, hp⟩ := pvs_cons hp
  obtain ⟨c, _, rfl, hc, hp⟩ := pvs_cons hp
  obtain ⟨x, _, rfl, hx, hp⟩ := pvs_cons hp
  obtain ⟨y, _, rfl, hy, hp⟩ := pvs_cons hp
  obtain rfl := pvs_nil hp
  obtain ⟨k, rfl⟩ := pv_int ha
  obtain ⟨m, rfl⟩ := pv_int hb
  obtain ⟨t, rfl⟩ := pv_int hc
  obtain ⟨q, rfl, hq⟩ := pv_float hx
  obtain ⟨l, rfl, hl⟩ := pv_bytes hy
  exact ⟨k, m, t, q, l, rfl, hq, hl⟩
theorem arg_rn (hv : Value.okWide Tryz.prog W .any base 93 v) (h : DataW.Trod enc Tryz.prog W 0 (fun _ => true) true 93 v d p) :
    ∃ k m t x l, (x < 18446744073709551616 ∧ l.length ≤ 9223372036854775807) ∧ RelD (lawStart W) (.agg [.p (.i .i64 k), .p (.i .i64 m), .p (.i .i64 t), .p (.f x), .p (.sl 1 (encB l))]) v := by
  obtain ⟨xs, hx, hr⟩ := arg_open tabOK 3 (by kernel_rfl) hv h
  obtain ⟨k, m, t, x, l, rfl, h1, h2⟩ := pv_rn hx
  exact ⟨k, m, t, x, l, ⟨h1, h2⟩, hr⟩
end
end Go.Proofs.YtomaddpcacoodaaGreatDoor
