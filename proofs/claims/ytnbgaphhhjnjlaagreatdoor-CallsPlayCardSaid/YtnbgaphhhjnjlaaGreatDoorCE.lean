/-
  Calls on a tree of one file. Conditions: stated in each.
-/
import Derived.Test.YtnbgaphhhjnjlaaGreatDoorCA
set_option linter.unusedSimpArgs false
set_option linter.unusedVariables false
namespace Go.Dm
open Go

def tF (n : Nd) : List It := [⟨[102], n⟩]
theorem tF_ok {n : Nd} (hn : rightNodeR n = true) (ht : n.t < 18446744073709551616) : OkT (tF n) := by
  refine ⟨⟨List.pairwise_singleton _ _, fun x hx => ?_, by simp [tF]⟩, fun x hx => ?_⟩
  · simp only [tF, List.mem_singleton] at hx
    subst hx
    exact ⟨by simp, rfl, hn, ht⟩
  · simp only [tF, List.mem_singleton] at hx
    subst hx
    rfl
theorem tF_walk (m : Int) (t : Nat) (d : List UInt8) (fo : Bool) : walkF (tF ⟨1, m, t, d⟩) [102] fo = ([102], true, 0) := by
  cases fo <;> rfl
theorem tF_put {n n' : Nd} (h : OkT (tF n)) (hn : rightNodeR n' = true) (hk : n.k = 1) : putR (tF n) [102] n' = (tF n', 0) := by
  rw [put_set h (by rfl) hn fun _ => by simp [isDirR, tF, getR, hk]]
  have : bltL [102] [102] = false := by decide
  simp [setR, setL, tF, this]
theorem right_file {m : Int} {t : Nat} {d : List UInt8} (hm : 0 ≤ m ∧ m ≤ 4095) (ht : plainR t = true) (hd : d.length ≤ 2000) : rightNodeR ⟨1, m, t, d⟩ = true := by
  rw [right_iff]
  exact ⟨⟨hm.1, hm.2, ht⟩, by simp only [beq_self_eq_true, if_true]; exact decide_eq_true (by omega)⟩
section
variable {z : Nat} {a : List UInt8}
theorem do_turn {n : Nd} {u : List It} {c : Cl} (hn : n.k = 1) (hp : c.p = [102]) (hk : (decide (c.k < 1) || decide (15 < c.k)) = false) (ht : turnsF c.k = true) (hu : turnedP (tF n) [102] true n c = (u, 0)) : doP (tF n) c = (u, anE 0) := by
  obtain ⟨k, m, t, d⟩ := n
  simp only at hn
  subst hn
  unfold doP
  rw [hp, tF_walk, ht]
  have h3 : nodeAt (tF ⟨1, m, t, d⟩) [102] = ⟨1, m, t, d⟩ := rfl
  simp only [hk, h3, hu]
  rfl
theorem do_write {b : List UInt8} {f : Nat} (hz : plainR z = true) (hzt : z < 18446744073709551616) (ha : a.length ≤ 2000) (hf : f ≤ a.length) (hb : f + b.length ≤ 2000) :
    doP (tF ⟨1, 420, z, a⟩) ⟨3, [102], [], 0, 0, f, 0, b⟩ = (tF ⟨1, 420, z, wrD a f b⟩, anE 0) := by
  refine do_turn rfl rfl rfl rfl ?_
  have hok := tF_ok (right_file (m := 420) ⟨by decide, by decide⟩ hz ha) hzt
  have h1 : decide ((f : Int) < 0) = false := decide_eq_false (by omega)
  have h2 : decide ((a.length : Int) < (f : Int)) = false := decide_eq_false (by omega)
  have h3 : decide (2000 - (f : Int) < (b.length : Int)) = false := decide_eq_false (by omega)
  show writeP (tF ⟨1, 420, z, a⟩) [102] ⟨1, 420, z, a⟩ f b = _
  unfold writeP
  simp only [h1, h2, h3, Int.toNat_natCast, Bool.or_self, Bool.false_eq_true, if_false]
  exact tF_put hok (right_file ⟨by decide, by decide⟩ hz (wrD_len ha hf hb)) rfl
theorem do_read {x y : Nat} : doP (tF ⟨1, 420, z, a⟩) ⟨14, [102], [], 0, 0, x, y, []⟩ = (tF ⟨1, 420, z, a⟩, ⟨0, nd0, (a.drop x).take y, []⟩) := by
  unfold doP
  simp only [tF_walk]
  have h1 : decide ((x : Int) < 0) = false := decide_eq_false (by omega)
  have h2 : decide ((y : Int) < 0) = false := decide_eq_false (by omega)
  have h3 : readC1 true ⟨1, 420, z, a⟩ x y = ⟨0, nd0, (a.drop x).take y, []⟩ := by
    unfold readC1
    simp only [h1, h2, Int.toNat_natCast]
    rfl
  show (tF ⟨1, 420, z, a⟩, readC1 true ⟨1, 420, z, a⟩ x y) = _
  rw [h3]
theorem do_stat : doP (tF ⟨1, 420, z, a⟩) ⟨12, [102], [], 0, 0, 0, 0, []⟩ = (tF ⟨1, 420, z, a⟩, ⟨0, ⟨1, 420, z, a⟩, [], []⟩) := by
  unfold doP
  simp only [tF_walk]
  rfl
end
end Go.Dm
