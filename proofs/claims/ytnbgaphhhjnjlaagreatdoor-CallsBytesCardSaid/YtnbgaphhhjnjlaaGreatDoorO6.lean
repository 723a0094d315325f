/-
  A slice of bytes as an argument.
-/
import Derived.Test.YtnbgaphhhjnjlaaGreatDoorO1
import Derived.Test.YtnbgaphhhjnjlaaGreatDoorBB
set_option linter.unusedSimpArgs false
set_option linter.unusedVariables false
namespace Go.Proofs.YtnbgaphhhjnjlaaGreatDoor
open Go Go.Dm Go.RowKit Go.ChangeShapes Go.WideShapes
set_option maxRecDepth 100000

section
variable {H : Type} {enc : TypeId × Value → H} {W : World} {base : Nat} {v : Value} {d : DataW H} {p : List MemPlace}
theorem arg_bytes (hv : Value.okWide Tryz.prog W .any base 24 v) (h : DataW.Trod enc Tryz.prog W 0 (fun _ => true) true 24 v d p) :
    ∃ l : List UInt8, l.length ≤ 9223372036854775807 ∧ RelD (lawStart W) (.c (.p (.sl 1 (encB l)))) v := by
  obtain ⟨xs, hx, hr⟩ := arg_open tabOK 2 (by kernel_rfl) hv h
  obtain ⟨l, rfl, hl⟩ := pv_bytes hx
  exact ⟨l, hl, hr⟩
/-- No longer than a claim of this form reaches. -/
theorem bytes_reach {l : List UInt8} {ts : List TypeId} {ds : List (DataW H)} {j : Nat} (hs : (DataW.weightsEach Tryz.prog ts ds).all (· ≤ reachBytes) = true) (ht : ts[j]? = some 24) (hd : ds[j]? = some d)
    (h : DataW.Trod enc Tryz.prog W 0 (fun _ => true) true 24 v d p) (hr : RelD (lawStart W) (.c (.p (.sl 1 (encB l)))) v) : l.length ≤ 140737488355328 := by
  rcases trod_len Tryz.underlying24 h hr with h0 | ⟨elems, spare, rfl, hl⟩
  · have := congrArg List.length h0
    simp only [encB_len, List.length_nil] at this
    omega
  · have h1 := sized_slice hs ht hd Tryz.underlying24
    rw [encB_len] at hl
    have h2 : Tryz.prog.bytesOf 5 = 1 := by kernel_rfl
    rw [h2, hl] at h1
    have h3 : reachBytes = 140737488351232 := rfl
    omega
end
end Go.Proofs.YtnbgaphhhjnjlaaGreatDoor
