/-
  What the arguments of the laws on bytes are as data.
-/
import Derived.Test.YtmgglafcpebabaaGreatDoorO1
import Derived.Test.YtmgglafcpebabaaGreatDoorH1
set_option linter.unusedSimpArgs false
set_option linter.unusedVariables false
namespace Go.Proofs.YtmgglafcpebabaaGreatDoor
open Go Go.Dm Go.RowKit Go.ChangeShapes Go.WideShapes
set_option maxRecDepth 100000

section
variable {H : Type} {enc : TypeId × Value → H} {W : World} {base : Nat} {v : Value} {d : DataW H} {p : List MemPlace}
theorem arg_byte (hv : Value.okWide Tryz.prog W .any base 5 v) (h : DataW.Trod enc Tryz.prog W 0 (fun _ => true) true 5 v d p) : ∃ n, RelD (lawStart W) (.c (.p (.i .u8 n))) v := by
  obtain ⟨xs, hx, hr⟩ := arg_open tabOK 1 (by kernel_rfl) hv h
  simp only [PVOK, tab5] at hx
  obtain ⟨n, rfl, _⟩ := hx
  exact ⟨n, hr⟩
theorem arg_bytes (hv : Value.okWide Tryz.prog W .any base 23 v) (h : DataW.Trod enc Tryz.prog W 0 (fun _ => true) true 23 v d p) :
    ∃ l : List UInt8, l.length ≤ 9223372036854775807 ∧ RelD (lawStart W) (.c (.p (.sl 1 (encB l)))) v := by
  obtain ⟨xs, hx, hr⟩ := arg_open tabOK 2 (by kernel_rfl) hv h
  obtain ⟨l, rfl, hl⟩ := pv_bytes hx
  exact ⟨l, hl, hr⟩
/-- No longer than a claim of this form reaches. -/
theorem bytes_reach {l : List UInt8} {ts : List TypeId} {ds : List (DataW H)} {j : Nat} (hs : (DataW.weightsEach Tryz.prog ts ds).all (· ≤ reachBytes) = true) (ht : ts[j]? = some 23) (hd : ds[j]? = some d)
    (h : DataW.Trod enc Tryz.prog W 0 (fun _ => true) true 23 v d p) (hr : RelD (lawStart W) (.c (.p (.sl 1 (encB l)))) v) : l.length ≤ 140737488355328 := by
  rcases trod_len Tryz.underlying23 h hr with h0 | ⟨elems, spare, rfl, hl⟩
  · have := congrArg List.length h0
    simp only [encB_len, List.length_nil] at this
    omega
  · have h1 := sized_slice hs ht hd Tryz.underlying23
    rw [encB_len] at hl
    have h2 : Tryz.prog.bytesOf 5 = 1 := by kernel_rfl
    rw [h2, hl] at h1
    have h3 : reachBytes = 140737488351232 := rfl
    omega
theorem pv_ints {g : Nat} {xs : List PV} (h : PVOK tab (g + 1 + 1) 24 xs) : ∃ l : List Int, xs = [.sl 1 (encZ l)] ∧ l.length ≤ 9223372036854775807 := by
  unfold PVOK at h
  rw [tab24] at h
  simp only [tab3] at h
  obtain ⟨es, h, h2, h3⟩ := h
  obtain ⟨l, rfl, hl⟩ := list_of (f := fun z : Int => [PV.i .i64 z]) (B := fun _ => True) fun x hx => by
    obtain ⟨n, hn⟩ := pv_int (h2 x hx)
    exact ⟨n, hn, trivial⟩
  exact ⟨l, h, by simpa using h3⟩
theorem arg_ints (hv : Value.okWide Tryz.prog W .any base 24 v) (h : DataW.Trod enc Tryz.prog W 0 (fun _ => true) true 24 v d p) :
    ∃ l : List Int, l.length ≤ 9223372036854775807 ∧ RelD (lawStart W) (.c (.p (.sl 1 (encZ l)))) v := by
  obtain ⟨xs, hx, hr⟩ := arg_open tabOK 2 (by kernel_rfl) hv h
  obtain ⟨l, rfl, hl⟩ := pv_ints hx
  exact ⟨l, hl, hr⟩
end

end Go.Proofs.YtmgglafcpebabaaGreatDoor
