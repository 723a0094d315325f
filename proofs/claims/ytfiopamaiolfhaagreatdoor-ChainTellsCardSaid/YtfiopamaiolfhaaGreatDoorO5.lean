/-
  What the arguments of this seat's laws are as data: rows of whole numbers beside rows of rows.
-/
import Derived.Test.YtfiopamaiolfhaaGreatDoorO1
import Derived.Test.YtfiopamaiolfhaaGreatDoorN23
set_option linter.unusedSimpArgs false
set_option linter.unusedVariables false
namespace Go.Proofs.YtfiopamaiolfhaaGreatDoor
open Go Go.Dm Go.RowKit Go.ChangeShapes Go.WideShapes
set_option maxRecDepth 100000
theorem pv_ints {g : Nat} {xs : List PV} (h : PVOK tab (g + 1 + 1) 48 xs) : ∃ l : List Int, xs = [.sl 1 (encZs l)] ∧ l.length ≤ 9223372036854775807 := by
  unfold PVOK at h
  rw [tab48] at h
  simp only [tab3] at h
  obtain ⟨es, h, h2, h3⟩ := h
  obtain ⟨l, rfl, hl⟩ := list_of (f := fun z : Int => [PV.i .i64 z]) (B := fun _ => True) fun x hx => by
    obtain ⟨n, hn⟩ := pv_int (h2 x hx)
    exact ⟨n, hn, trivial⟩
  exact ⟨l, h, by simpa using h3⟩
section
variable {H : Type} {enc : TypeId × Value → H} {W : World} {base : Nat} {v : Value} {d : DataW H} {p : List MemPlace}
theorem arg_ints (hv : Value.okWide Tryz.prog W .any base 48 v) (h : DataW.Trod enc Tryz.prog W 0 (fun _ => true) true 48 v d p) :
    ∃ l : List Int, l.length ≤ 9223372036854775807 ∧ RelD (lawStart W) (.c (.p (.sl 1 (encZs l)))) v := by
  obtain ⟨xs, hx, hr⟩ := arg_open tabOK 2 (by kernel_rfl) hv h
  obtain ⟨l, rfl, hl⟩ := pv_ints hx
  exact ⟨l, hl, hr⟩
end
end Go.Proofs.YtfiopamaiolfhaaGreatDoor
