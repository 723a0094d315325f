/-
  A slice of raw calls as an argument; what stands in the variable that draws kinds.
-/
import Derived.Test.YtnbgaphhhjnjlaaGreatDoorO1
import Derived.Test.YtnbgaphhhjnjlaaGreatDoorRows
import Derived.Test.YtnbgaphhhjnjlaaGreatDoorGB
import Derived.Test.YtnbgaphhhjnjlaaGreatDoorCH
set_option linter.unusedSimpArgs false
set_option linter.unusedVariables false
namespace Go.Proofs.YtnbgaphhhjnjlaaGreatDoor
open Go Go.Dm Go.RowKit Go.ChangeShapes Go.WideShapes
set_option maxRecDepth 100000

theorem pv_str {g : Nat} {xs : List PV} (h : PVOK tab (g + 1) 9 xs) : ∃ l, xs = [.s l] ∧ l.length ≤ 9223372036854775807 := by
  simp only [PVOK, tab9] at h
  obtain ⟨n, h, h2⟩ := h
  exact ⟨n, h, h2⟩

def OkRC (r : RC) : Prop := r.d.length ≤ 9223372036854775807 ∧ r.s.length ≤ 9223372036854775807 ∧ r.x < 18446744073709551616

theorem pv_rc {g : Nat} {xs : List PV} (h : PVOK tab (g + 1 + 1 + 1) 46 xs) : ∃ r : RC, xs = r.cs ∧ OkRC r := by
  obtain ⟨parts, rfl, hp⟩ := pvok_struct (by rw [tab46]) h
  obtain ⟨a1, _, rfl, h1, hp⟩ := pvs_cons hp
  obtain ⟨a2, _, rfl, h2, hp⟩ := pvs_cons hp
  obtain ⟨a3, _, rfl, h3, hp⟩ := pvs_cons hp
  obtain ⟨a4, _, rfl, h4, hp⟩ := pvs_cons hp
  obtain ⟨a5, _, rfl, h5, hp⟩ := pvs_cons hp
  obtain ⟨a6, _, rfl, h6, hp⟩ := pvs_cons hp
  obtain ⟨a7, _, rfl, h7, hp⟩ := pvs_cons hp
  obtain ⟨a8, _, rfl, h8, hp⟩ := pvs_cons hp
  obtain ⟨a9, _, rfl, h9, hp⟩ := pvs_cons hp
  obtain ⟨a10, _, rfl, h10, hp⟩ := pvs_cons hp
  obtain ⟨a11, _, rfl, h11, hp⟩ := pvs_cons hp
  obtain rfl := pvs_nil hp
  obtain ⟨n1, rfl⟩ := pv_int h1
  obtain ⟨n2, rfl⟩ := pv_int h2
  obtain ⟨n3, rfl⟩ := pv_int h3
  obtain ⟨n4, rfl⟩ := pv_int h4
  obtain ⟨n5, rfl⟩ := pv_int h5
  obtain ⟨n6, rfl⟩ := pv_int h6
  obtain ⟨n7, rfl⟩ := pv_int h7
  obtain ⟨n8, rfl⟩ := pv_int h8
  obtain ⟨n9, rfl, hn9⟩ := pv_float h9
  obtain ⟨n10, rfl, hn10⟩ := pv_bytes h10
  obtain ⟨n11, rfl, hn11⟩ := pv_str h11
  exact ⟨⟨n1, n2, n3, n4, n5, n6, n7, n8, n9, n10, n11⟩, rfl, hn10, hn11, hn9⟩

theorem pv_calls {g : Nat} {xs : List PV} (h : PVOK tab (g + 1 + 1 + 1 + 1) 42 xs) : ∃ l : List RC, xs = [.sl 11 (encRC l)] ∧ l.length ≤ 9223372036854775807 ∧ ∀ r ∈ l, OkRC r := by
  unfold PVOK at h
  rw [tab42] at h
  simp only [tab46] at h
  obtain ⟨es, h, h2, h3⟩ := h
  obtain ⟨l, rfl, hl⟩ := list_of (f := RC.cs) (B := OkRC) fun x hx => pv_rc (h2 x hx)
  exact ⟨l, h, by simp at h3; omega, hl⟩

section
variable {H : Type} {enc : TypeId × Value → H} {W : World} {base : Nat} {v : Value} {d : DataW H} {p : List MemPlace}

theorem arg_calls (hv : Value.okWide Tryz.prog W .any base 42 v) (h : DataW.Trod enc Tryz.prog W 0 (fun _ => true) true 42 v d p) :
    ∃ l : List RC, (l.length ≤ 9223372036854775807 ∧ ∀ r ∈ l, OkRC r) ∧ RelD (lawStart W) (.c (.p (.sl 11 (encRC l)))) v := by
  obtain ⟨xs, hx, hr⟩ := arg_open tabOK 4 (by kernel_rfl) hv h
  obtain ⟨l, rfl, hl⟩ := pv_calls hx
  exact ⟨l, hl, hr⟩
end

theorem saidW_of {W : World} {l : List (String × DataW Unit)} (h : laidMetH Tryz.prog l W.memory) (hn : (l.all fun x => x.2.handleName?.isNone) = true) (hm : ("pentimento/pentimentohand.kinds", (Rows.laid_pentimento_pentimentohand_kinds : DataW Unit)) ∈ l) : SaidW W := by
  rw [Go.MakeChecks.laidMetH_plain _ _ _ hn] at h
  intro g j v hj
  match g, hj with
  | 0, hj => exact laid_ints h hm (vs := said 0) rfl (by kernel_rfl) (by kernel_rfl) Tryz.underlying77 Tryz.underlying3 (by kernel_rfl) j v hj
  | g + 1, hj => simp [said] at hj
end Go.Proofs.YtnbgaphhhjnjlaaGreatDoor
