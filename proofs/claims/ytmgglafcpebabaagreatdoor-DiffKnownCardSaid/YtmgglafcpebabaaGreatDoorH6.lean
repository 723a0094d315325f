/-
  The law of a diff's example, walked.
-/
import Derived.Test.YtmgglafcpebabaaGreatDoorD15
import Derived.Test.YtmgglafcpebabaaGreatDoorD17
import Derived.Test.YtmgglafcpebabaaGreatDoorJ3L
import Derived.Test.YtmgglafcpebabaaGreatDoorJ3
import Derived.Test.YtmgglafcpebabaaGreatDoorH1
set_option linter.unusedSimpArgs false
set_option linter.unusedVariables false
namespace Go.Proofs.YtmgglafcpebabaaGreatDoor
open Go Go.Dm
set_option maxRecDepth 100000
set_option maxHeartbeats 4000000

def ka : List It := [⟨[97], ⟨1, 0, theNaN, [120]⟩⟩, ⟨[98], ⟨1, 0, 4607182418800017408, [120]⟩⟩, ⟨[99], ⟨1, 0, 4607182418800017408, [120]⟩⟩]
def kb : List It := [⟨[97], ⟨1, 0, theNaN, [120]⟩⟩, ⟨[98], ⟨1, 0, 4607182418800017408, [121]⟩⟩, ⟨[99], ⟨2, 0, 0, []⟩⟩, ⟨[100], ⟨1, 0, 4607182418800017408, []⟩⟩]
def kl : List Ch := [⟨[98], 3, ⟨1, 0, 4607182418800017408, [120]⟩, ⟨1, 0, 4607182418800017408, [121]⟩⟩, ⟨[99], 4, ⟨1, 0, 4607182418800017408, [120]⟩, ⟨2, 0, 0, []⟩⟩, ⟨[100], 1, ⟨0, 0, 0, []⟩, ⟨1, 0, 4607182418800017408, []⟩⟩]
def kbad : List Ch := kl.set 0 ⟨[98], 5, ⟨1, 0, 4607182418800017408, [120]⟩, ⟨1, 0, 4607182418800017408, [121]⟩⟩
theorem ka_ok : OkT ka := ⟨⟨by decide +kernel, by
  intro x hx
  simp only [ka, List.mem_cons, List.not_mem_nil, or_false] at hx
  rcases hx with rfl | rfl | rfl <;> exact ⟨by decide, by decide +kernel, by decide +kernel, by decide⟩, by decide⟩, by
  intro x hx
  simp only [ka, List.mem_cons, List.not_mem_nil, or_false] at hx
  rcases hx with rfl | rfl | rfl <;> decide +kernel⟩
theorem kb_ok : OkT kb := ⟨⟨by decide +kernel, by
  intro x hx
  simp only [kb, List.mem_cons, List.not_mem_nil, or_false] at hx
  rcases hx with rfl | rfl | rfl | rfl <;> exact ⟨by decide, by decide +kernel, by decide +kernel, by decide⟩, by decide⟩, by
  intro x hx
  simp only [kb, List.mem_cons, List.not_mem_nil, or_false] at hx
  rcases hx with rfl | rfl | rfl | rfl <;> decide +kernel⟩
theorem nil_ok : OkT ([] : List It) := ⟨⟨by decide +kernel, (fun x hx => by cases hx), by decide⟩, (fun x hx => by cases hx)⟩
theorem diff_ab : diffF ka kb = kl := by rw [← refDiff_eq ka_ok kb_ok]; rfl
theorem diff_aa : diffF ka ka = [] := by rw [← refDiff_eq ka_ok ka_ok]; rfl
theorem diff_nb : (diffF [] kb).length = 4 := by rw [← refDiff_eq nil_ok kb_ok]; rfl
theorem kl_right : rightCs kl = true := by rw [← diff_ab]; exact diffF_rightCs ka_ok kb_ok
theorem kl_wf : ∀ x ∈ kl, x.o.wf ∧ x.n.wf := by rw [← diff_ab]; exact fun x hx => diffF_wf ka_ok kb_ok hx
theorem kl_big : ∀ x ∈ kl, x.p.length ≤ 1000000000 ∧ x.o.t < 18446744073709551616 ∧ x.n.t < 18446744073709551616 := by
  intro x hx
  simp only [kl, List.mem_cons, List.not_mem_nil, or_false] at hx
  rcases hx with rfl | rfl | rfl <;> exact ⟨by decide, by decide, by decide⟩
theorem kbad_big : ∀ x ∈ kbad, x.p.length ≤ 1000000000 ∧ x.o.t < 18446744073709551616 ∧ x.n.t < 18446744073709551616 := by
  intro x hx
  simp only [kbad, kl, List.set, List.mem_cons, List.not_mem_nil, or_false] at hx
  rcases hx with rfl | rfl | rfl <;> exact ⟨by decide, by decide, by decide⟩
theorem kbad_right : rightCs kbad = false := by
  rw [rightCs_ref fun x hx => ⟨(kbad_big x hx).2.1, (kbad_big x hx).2.2⟩]
  decide +kernel
theorem kback_big : ∀ x ∈ kl.map backC, x.p.length ≤ 1000000000 ∧ x.o.t < 18446744073709551616 ∧ x.n.t < 18446744073709551616 := by
  intro x hx
  simp only [kl, List.map_cons, List.map_nil, backC, List.mem_cons, List.not_mem_nil, or_false] at hx
  rcases hx with rfl | rfl | rfl <;> exact ⟨by decide, by decide, by decide⟩
theorem kback_right : rightCs (kl.map backC) = true := by
  rw [rightCs_ref fun x hx => ⟨(kback_big x hx).2.1, (kback_big x hx).2.2⟩]
  decide +kernel
theorem readC_more {t : List Ch} (h : rightCs t = true) (hw : ∀ x ∈ t, x.o.wf ∧ x.n.wf) (hl : t.length ≤ 65535) (r : List UInt8) (hr : r ≠ []) : readCs (layChs t ++ r) = ([], 2) := by
  have k1 := num_u16 (z := t.length) (by omega) (by omega) ((t.map layCh).flatten ++ r)
  have e : ((t.length : Int)).toNat = t.length := by omega
  have k2 := chsR_app (t := t) (fun x hx => ⟨rightFrom_all h x hx, hw x hx⟩) r
  have hP : readC (layChs t ++ r) = t := by
    unfold readC layChs
    rw [List.append_assoc, k1, e]
    exact (chsR_inv k2 rfl).2.1
  unfold readCs readCOk
  rw [hP]
  have : (layChs t == layChs t ++ r) = false := by
    cases he : (layChs t == layChs t ++ r)
    · rfl
    · have := congrArg List.length (eq_of_beq he)
      rw [List.length_append] at this
      have h0 : r.length = 0 := by omega
      exact absurd (List.eq_nil_of_length_eq_zero h0) hr
  rw [this, Bool.and_false]
  rfl

end Go.Proofs.YtmgglafcpebabaaGreatDoor
