import Derived.Test.YtjpmajeekikdhaaGreatDoorN35
import Derived.Test.YtjpmajeekikdhaaGreatDoorN31
import Derived.Test.YtjpmajeekikdhaaGreatDoorN12
import Derived.Test.YtjpmajeekikdhaaGreatDoorN8
import Derived.Test.YtjpmajeekikdhaaGreatDoorD8
import Derived.Test.YtjpmajeekikdhaaGreatDoorVE
import Derived.Test.YtjpmajeekikdhaaGreatDoorN27
import Derived.Test.YtjpmajeekikdhaaGreatDoorN33
import Derived.Test.YtjpmajeekikdhaaGreatDoorD8f
import Derived.Test.YtjpmajeekikdhaaGreatDoorO1

section
/-
  Contracts: layers with something turned; a layer over a tree where the layer may be wrong.
-/

set_option linter.unusedSimpArgs false
set_option linter.unusedVariables false
namespace Go.Proofs.YtjpmajeekikdhaaGreatDoor
open Go Go.Dm Go.Proofs
set_option maxRecDepth 100000
set_option maxHeartbeats 8000000

theorem encE_set {l : List En} {k : Nat} {p : List UInt8} {a b c : Int} {o : Bool} {t : Nat} {d : List UInt8} : (encE l).set k [.s p, .i .i64 a, .b o, .i .i64 b, .i .i64 c, .f t, .sl 1 (encB d)] = encE (l.set k ⟨p, a, o, ⟨b, c, t, d⟩⟩) := by
  simp [encE, En.cs, List.map_set]

/-- Layers of a size that everything here can walk. -/
def smE (l : List En) : Prop := l.length ≤ 1000 ∧ ∀ x ∈ l, x.p.length ≤ 1002 ∧ x.n.t < 18446744073709551616 ∧ x.n.d.length ≤ 10000
theorem smE_set {l : List En} (h : smE l) (k : Nat) {e : En} (he : e.p.length ≤ 1002 ∧ e.n.t < 18446744073709551616 ∧ e.n.d.length ≤ 10000) : smE (l.set k e) :=
  ⟨by rw [List.length_set]; exact h.1, fun x hx => by
    rcases List.mem_or_eq_of_mem_set hx with hx | rfl
    · exact h.2 x hx
    · exact he⟩

theorem refOverN_c {t : List It} {l : List En} (hl : l.length ≤ 1000000) (hp : ∀ x ∈ l, x.p.length ≤ 1000000) (hd : ∀ x ∈ l, x.n.d.length ≤ 1000000000) (hr : rightE l = false) :
    DCalls Tryz.prog 8 [.c (.p (.sl 5 (encT t))), .c (.p (.sl 7 (encE l)))] [] fun r h => r = .tup [.c (.p (.sl 5 (encT []))), .c (.p (.b false))] ∧ h = [] := by
  have hc := refRightG_c (l := l) hl hp hd
  rw [hr] at hc
  refine dcalls_wk ?_
  refine ent tabOK hmix Tryz.func8 rfl rfl fun X0 hX => ?_
  simp only [Tryz.f8, go_sem]
  repeat' (first | simp only [*, go_sem, Nat.reduceLT, Nat.reduceEqDiff, ↓reduceIte, Bool.not_false] | ((with_reducible refine useF (hc) ?_ ?_ ?_); (focus exact rfl); (focus exact rfl)))
  all_goals exact .inr ⟨_, rfl⟩

theorem layerOverN_c {t : List It} {l : List En} (hl : l.length ≤ 1000000) (hp : ∀ x ∈ l, x.p.length ≤ 1000000) (ht : ∀ x ∈ l, x.n.t < 18446744073709551616) (hr : rightE l = false) :
    DCalls Tryz.prog 7 [.c (.p (.sl 5 (encT t))), .c (.p (.sl 7 (encE l)))] [] fun r h => r = .tup [.c (.p (.sl 5 (encT []))), .c (.p (.b false))] ∧ h = [] := by
  have hc := layerRightG_c hl hp ht
  rw [hr] at hc
  refine dcalls_wk ?_
  refine ent tabOK hmix Tryz.func7 rfl rfl fun X0 hX => ?_
  simp only [Tryz.f7, go_sem]
  repeat' (first | simp only [*, go_sem, Nat.reduceLT, Nat.reduceEqDiff, ↓reduceIte, Bool.not_false] | ((with_reducible refine useF (hc) ?_ ?_ ?_); (focus exact rfl); (focus exact rfl)))
  all_goals exact .inr ⟨_, rfl⟩
theorem smE_snoc {l : List En} (hl : l.length ≤ 999) (h : smE l) {e : En} (he : e.p.length ≤ 1002 ∧ e.n.t < 18446744073709551616 ∧ e.n.d.length ≤ 10000) : smE (l ++ [e]) :=
  ⟨by rw [List.length_append]; simp only [List.length_cons, List.length_nil]; omega, fun x hx => by
    rcases List.mem_append.1 hx with hx | hx
    · exact h.2 x hx
    · rw [List.mem_singleton.1 hx]; exact he⟩

theorem smE_del {l : List En} (h : smE l) (k : Nat) : smE (l.take k ++ l.drop (k + 1)) :=
  ⟨by have := h.1; rw [List.length_append, List.length_take, List.length_drop]; omega, fun x hx => by
    rcases List.mem_append.1 hx with hx | hx
    · exact h.2 x (List.mem_of_mem_take hx)
    · exact h.2 x (List.mem_of_mem_drop hx)⟩

theorem wkRows_setE {l : List En} {e : En} {es : List PV} : ∀ {k : Nat}, k < l.length → wkPs es e.cs → wkRows ((encE l).set k es) (encE (l.set k e)) := by
  induction l with
  | nil => intro k h; simp at h
  | cons x l ih =>
    intro k hk hw
    cases k with
    | zero => exact ⟨hw, wkRows_refl _⟩
    | succ k => exact ⟨wkPs_refl _, ih (by simpa using hk) hw⟩

theorem bent_c {l : List En} {how at_ : Int} {rk rm rt : Int} {rx : Nat} {rd : List UInt8} (hl : l.length ≤ 999) (hs : smE l) (hq : ∀ x ∈ l, x.p.length ≤ 1000) (hrx : rx < 18446744073709551616) (hrd : rd.length ≤ 9223372036854775807) :
    ∃ e : List En, smE e ∧ DCalls Tryz.prog 4 [.c (.p (.sl 7 (encE l))), .c (.p (.i .i64 how)), .c (.p (.i .i64 at_)), .agg (rnc rk rm rt rx rd)] [] fun r h => r = .c (.p (.sl 7 (encE e))) ∧ h = [] := by
  obtain ⟨nn, ⟨hnn, hnt⟩, hnc⟩ : ∃ nn : Nd, (nn.d.length ≤ 60 ∧ nn.t < 18446744073709551616) ∧ DCalls Tryz.prog 21 [.agg (rnc rk rm rt rx rd)] [] fun r h => r = .agg nn.cv ∧ h = [] :=
    ⟨nodeF ⟨rk, rm, rt, rx, rd⟩, ⟨nodeD_len _, nodeF_wf hrx⟩, nodeF_c hrd⟩
  obtain ⟨nk, nm, nt, nd⟩ := nn
  unfold Nd.cv at hnc
  simp only at hnn hnt hnc
  obtain ⟨pa, hpl, hpc⟩ : ∃ pa : List UInt8, pa.length ≤ 11 ∧ DCalls Tryz.prog 20 [.c (.p (.i .i64 at_))] [] fun r h => r = .c (.p (.s pa)) ∧ h = [] := ⟨pathF at_, pathF_len _, Path_c⟩
  have hp2 := Pick_c (n := IntKind.i64.wrap (how.tdiv 9)) (m := 2) (by decide) (by decide)
  have hp4 := Pick_c (n := IntKind.i64.wrap (how.tdiv 9)) (m := 4) (by decide) (by decide)
  have hp9 := Pick_c (n := how) (m := 9) (by decide) (by decide)
  have g2 : IntKind.i64.wrap (how.tdiv 9) % 2 = 0 ∨ IntKind.i64.wrap (how.tdiv 9) % 2 = 1 := by omega
  have g9 : how % 9 = 0 ∨ how % 9 = 1 ∨ how % 9 = 2 ∨ how % 9 = 3 ∨ how % 9 = 4 ∨ how % 9 = 5 ∨ how % 9 = 6 ∨ how % 9 = 7 ∨ how % 9 = 8 := by omega
  generalize IntKind.i64.wrap (how.tdiv 9) % 2 = q2 at hp2 g2
  generalize IntKind.i64.wrap (how.tdiv 9) % 4 = q4 at hp4
  generalize how % 9 = q9 at hp9 g9
  have small0 : ∀ (e : En), smE [e] ↔ (e.p.length ≤ 1002 ∧ e.n.t < 18446744073709551616 ∧ e.n.d.length ≤ 10000) := fun e => by simp [smE]
  by_cases hz : l = []
  · subst hz
    have hbig : (0 : Nat) ≤ 0 := Nat.le_refl _
    rcases g2 with rfl | rfl
    · refine ⟨[⟨pa, 1, false, ⟨nk, nm, nt, nd⟩⟩], (small0 _).2 ⟨by simp only; omega, hnt, by simp only; omega⟩, ?_⟩
      refine ent tabOK hmix Tryz.func4 rfl rfl fun X0 hX => ?_
      simp only [Tryz.f4, go_sem]
      repeat' (first | simp only [*, go_sem, Nat.reduceLT, Nat.reduceLeDiff, Nat.reduceEqDiff, ↓reduceIte, Nat.reduceAdd, Nat.reduceMul, Int.reduceAdd, Int.reduceEq, beq_self_eq_true, wrap_i64_lit] | ((with_reducible refine useF (hpc) ?_ ?_ ?_); (focus exact rfl); (focus exact rfl)) | ((with_reducible refine useF (hp2) ?_ ?_ ?_); (focus exact rfl); (focus exact rfl)) | ((with_reducible refine useN (hnc) ?_ ?_ ?_); (focus exact rfl); (focus exact fun _ => rfl)) | ((with_reducible refine And.intro ?_ ?_); (focus (decide))))
      all_goals first | rfl | (rw [List.take_of_length_le (by first | (simp [encE_len]; done) | (simp [encE_len]; omega))]) | trace_state
    · refine ⟨[⟨pa, 2, false, nd0⟩], (small0 _).2 ⟨by simp only; omega, show (0 : Nat) < _ by decide, show (0 : Nat) ≤ 10000 by decide⟩, ?_⟩
      refine dcalls_rows (es := [[.s pa, .i .i64 2, .b false, .i .i64 0, .i .i64 0, .f 0, .nil]]) ⟨⟨.inl rfl, .inl rfl, .inl rfl, .inl rfl, .inl rfl, .inl rfl, .inr ⟨rfl, 1, rfl⟩, True.intro⟩, True.intro⟩ ?_
      refine ent tabOK hmix Tryz.func4 rfl rfl fun X0 hX => ?_
      simp only [Tryz.f4, go_sem]
      repeat' (first | simp only [*, go_sem, Nat.reduceLT, Nat.reduceLeDiff, Nat.reduceEqDiff, ↓reduceIte, Nat.reduceAdd, Nat.reduceMul, Int.reduceAdd, Int.reduceEq, Int.reduceBEq, beq_self_eq_true, wrap_i64_lit] | ((with_reducible refine useF (hpc) ?_ ?_ ?_); (focus exact rfl); (focus exact rfl)) | ((with_reducible refine useF (hp2) ?_ ?_ ?_); (focus exact rfl); (focus exact rfl)) | ((with_reducible refine And.intro ?_ ?_); (focus (decide))))
      all_goals first | rfl | (rw [List.take_of_length_le (by first | (simp [encE_len]; done) | (simp [encE_len]; omega))]) | trace_state
  · have h0 : 0 < l.length := List.length_pos_iff.2 hz
    obtain ⟨k, hkl, hpk⟩ : ∃ k : Nat, k < l.length ∧ DCalls Tryz.prog 15 [.c (.p (.i .i64 at_)), .c (.p (.i .i64 l.length))] [] fun r h => r = .c (.p (.i .i64 k)) ∧ h = [] := by
      have e1 := Int.emod_nonneg at_ (show (l.length : Int) ≠ 0 by omega)
      have e2 := Int.emod_lt_of_pos at_ (show (0 : Int) < l.length by omega)
      have := Pick_c (n := at_) (m := l.length) (by omega) (by omega)
      rw [show at_ % (l.length : Int) = ((at_ % (l.length : Int)).toNat : Int) by omega] at this
      exact ⟨_, by omega, this⟩
    have hx : l[k]? = some l[k] := List.getElem?_eq_getElem hkl
    have hg := encE_at hx
    have hmx : l[k] ∈ l := List.getElem_mem hkl
    generalize l[k] = x at hx hg hmx
    have hxp := hq x hmx
    obtain ⟨_, hxt, hxd⟩ := hs.2 x hmx
    obtain ⟨p, ek, eo, ⟨a, b, t, d⟩⟩ := x
    simp only at hxp hxt hxd hg
    have hpl2 : p.length ≤ 9223372036854775800 := by omega
    have h1 : decide ((l.length : Int) = 0) = false := decide_eq_false (by omega)
    have h2 : ((l.length : Int) == 0) = false := by simpa using h1
    have hki : (k : Int) < l.length := by omega
    have hk0 : (0 : Int) ≤ k := by omega
    have hlr : k < (encE l).length := by rw [encE_len]; exact hkl
    have w1 : IntKind.i64.wrap ((k : Int) + 1) = (k + 1 : Nat) := by rw [wrap_i64 (by omega) (by omega)]; omega
    have hk1 : ((k + 1 : Nat) : Int) ≤ l.length := by omega
    have hkl2 : (k : Int) ≤ l.length := by omega
    have hdt : (l.drop (k + 1)).take (l.length - (k + 1)) = l.drop (k + 1) := List.take_of_length_le (by rw [List.length_drop]; omega)
    have hdl : (l.drop (k + 1)).length = l.length - (k + 1) := List.length_drop
    have hb1 : (k + (l.length - (k + 1))) * 80 ≤ 140737488355328 := by omega
    have hb2 : k + (l.length - (k + 1)) ≤ 9223372036854775807 := by omega
    clear hz h0
    rcases g9 with rfl | rfl | rfl | rfl | rfl | rfl | rfl | rfl | rfl
    · refine ⟨l.set k ⟨p, ek, !eo, ⟨a, b, t, d⟩⟩, (smE_set hs k ⟨by simp only; omega, hxt, hxd⟩), ?_⟩
      rcases g2 with rfl | rfl
      · skip
        refine ent tabOK hmix Tryz.func4 rfl rfl fun X0 hX => ?_
        simp only [Tryz.f4, go_sem]
        repeat' (first | simp only [*, go_sem, Nat.reduceLT, Nat.reduceLeDiff, Nat.reduceEqDiff, ↓reduceIte, Nat.reduceAdd, Nat.reduceMul, Int.reduceAdd, Int.reduceEq, beq_self_eq_true, encE_set, wrap_i64_lit] | ((with_reducible refine useF (hpc) ?_ ?_ ?_); (focus exact rfl); (focus exact rfl)) | ((with_reducible refine useF (hp2) ?_ ?_ ?_); (focus exact rfl); (focus exact rfl)) | ((with_reducible refine useF (hp9) ?_ ?_ ?_); (focus exact rfl); (focus exact rfl)) | ((with_reducible refine useF (hpk) ?_ ?_ ?_); (focus exact rfl); (focus exact rfl)) | ((with_reducible refine useN (hnc) ?_ ?_ ?_); (focus exact rfl); (focus exact fun _ => rfl)) | ((with_reducible refine And.intro ?_ ?_); (focus (first | omega | decide))))
        all_goals first | rfl | (rw [List.take_of_length_le (by first | (simp [encE_len]; done) | (simp [encE_len]; omega))]) | trace_state
      · skip
        refine ent tabOK hmix Tryz.func4 rfl rfl fun X0 hX => ?_
        simp only [Tryz.f4, go_sem]
        repeat' (first | simp only [*, go_sem, Nat.reduceLT, Nat.reduceLeDiff, Nat.reduceEqDiff, ↓reduceIte, Nat.reduceAdd, Nat.reduceMul, Int.reduceAdd, Int.reduceEq, Int.reduceBEq, beq_self_eq_true, encE_set, wrap_i64_lit] | ((with_reducible refine useF (hpc) ?_ ?_ ?_); (focus exact rfl); (focus exact rfl)) | ((with_reducible refine useF (hp2) ?_ ?_ ?_); (focus exact rfl); (focus exact rfl)) | ((with_reducible refine useF (hp9) ?_ ?_ ?_); (focus exact rfl); (focus exact rfl)) | ((with_reducible refine useF (hpk) ?_ ?_ ?_); (focus exact rfl); (focus exact rfl)) | ((with_reducible refine And.intro ?_ ?_); (focus (first | omega | decide))))
        all_goals first | rfl | (rw [List.take_of_length_le (by first | (simp [encE_len]; done) | (simp [encE_len]; omega))]) | trace_state
    · refine ⟨l.set k ⟨p, q4, eo, ⟨a, b, t, d⟩⟩, (smE_set hs k ⟨by simp only; omega, hxt, hxd⟩), ?_⟩
      rcases g2 with rfl | rfl
      · skip
        refine ent tabOK hmix Tryz.func4 rfl rfl fun X0 hX => ?_
        simp only [Tryz.f4, go_sem]
        repeat' (first | simp only [*, go_sem, Nat.reduceLT, Nat.reduceLeDiff, Nat.reduceEqDiff, ↓reduceIte, Nat.reduceAdd, Nat.reduceMul, Int.reduceAdd, Int.reduceEq, Int.reduceBEq, beq_self_eq_true, encE_set, wrap_i64_lit] | ((with_reducible refine useF (hpc) ?_ ?_ ?_); (focus exact rfl); (focus exact rfl)) | ((with_reducible refine useF (hp2) ?_ ?_ ?_); (focus exact rfl); (focus exact rfl)) | ((with_reducible refine useF (hp4) ?_ ?_ ?_); (focus exact rfl); (focus exact rfl)) | ((with_reducible refine useF (hp9) ?_ ?_ ?_); (focus exact rfl); (focus exact rfl)) | ((with_reducible refine useF (hpk) ?_ ?_ ?_); (focus exact rfl); (focus exact rfl)) | ((with_reducible refine useN (hnc) ?_ ?_ ?_); (focus exact rfl); (focus exact fun _ => rfl)) | ((with_reducible refine And.intro ?_ ?_); (focus (first | omega | decide))))
        all_goals first | rfl | (rw [List.take_of_length_le (by first | (simp [encE_len]; done) | (simp [encE_len]; omega))]) | trace_state
      · skip
        refine ent tabOK hmix Tryz.func4 rfl rfl fun X0 hX => ?_
        simp only [Tryz.f4, go_sem]
        repeat' (first | simp only [*, go_sem, Nat.reduceLT, Nat.reduceLeDiff, Nat.reduceEqDiff, ↓reduceIte, Nat.reduceAdd, Nat.reduceMul, Int.reduceAdd, Int.reduceEq, Int.reduceBEq, beq_self_eq_true, encE_set, wrap_i64_lit] | ((with_reducible refine useF (hpc) ?_ ?_ ?_); (focus exact rfl); (focus exact rfl)) | ((with_reducible refine useF (hp2) ?_ ?_ ?_); (focus exact rfl); (focus exact rfl)) | ((with_reducible refine useF (hp4) ?_ ?_ ?_); (focus exact rfl); (focus exact rfl)) | ((with_reducible refine useF (hp9) ?_ ?_ ?_); (focus exact rfl); (focus exact rfl)) | ((with_reducible refine useF (hpk) ?_ ?_ ?_); (focus exact rfl); (focus exact rfl)) | ((with_reducible refine And.intro ?_ ?_); (focus (first | omega | decide))))
        all_goals first | rfl | (rw [List.take_of_length_le (by first | (simp [encE_len]; done) | (simp [encE_len]; omega))]) | trace_state
    · refine ⟨l.set k ⟨p ++ [47, 97], ek, eo, ⟨a, b, t, d⟩⟩, (smE_set hs k ⟨by simp; omega, hxt, hxd⟩), ?_⟩
      rcases g2 with rfl | rfl
      · skip
        refine ent tabOK hmix Tryz.func4 rfl rfl fun X0 hX => ?_
        simp only [Tryz.f4, go_sem]
        repeat' (first | simp only [*, go_sem, Nat.reduceLT, Nat.reduceLeDiff, Nat.reduceEqDiff, ↓reduceIte, Nat.reduceAdd, Nat.reduceMul, Int.reduceAdd, Int.reduceEq, Int.reduceBEq, beq_self_eq_true, encE_set, wrap_i64_lit] | ((with_reducible refine useF (hpc) ?_ ?_ ?_); (focus exact rfl); (focus exact rfl)) | ((with_reducible refine useF (hp2) ?_ ?_ ?_); (focus exact rfl); (focus exact rfl)) | ((with_reducible refine useF (hp9) ?_ ?_ ?_); (focus exact rfl); (focus exact rfl)) | ((with_reducible refine useF (hpk) ?_ ?_ ?_); (focus exact rfl); (focus exact rfl)) | ((with_reducible refine useN (hnc) ?_ ?_ ?_); (focus exact rfl); (focus exact fun _ => rfl)) | ((with_reducible refine And.intro ?_ ?_); (focus (first | omega | decide))))
        all_goals first | rfl | (rw [List.take_of_length_le (by first | (simp [encE_len]; done) | (simp [encE_len]; omega))]) | trace_state
      · skip
        refine ent tabOK hmix Tryz.func4 rfl rfl fun X0 hX => ?_
        simp only [Tryz.f4, go_sem]
        repeat' (first | simp only [*, go_sem, Nat.reduceLT, Nat.reduceLeDiff, Nat.reduceEqDiff, ↓reduceIte, Nat.reduceAdd, Nat.reduceMul, Int.reduceAdd, Int.reduceEq, Int.reduceBEq, beq_self_eq_true, encE_set, wrap_i64_lit] | ((with_reducible refine useF (hpc) ?_ ?_ ?_); (focus exact rfl); (focus exact rfl)) | ((with_reducible refine useF (hp2) ?_ ?_ ?_); (focus exact rfl); (focus exact rfl)) | ((with_reducible refine useF (hp9) ?_ ?_ ?_); (focus exact rfl); (focus exact rfl)) | ((with_reducible refine useF (hpk) ?_ ?_ ?_); (focus exact rfl); (focus exact rfl)) | ((with_reducible refine And.intro ?_ ?_); (focus (first | omega | decide))))
        all_goals first | rfl | (rw [List.take_of_length_le (by first | (simp [encE_len]; done) | (simp [encE_len]; omega))]) | trace_state
    · rcases g2 with rfl | rfl
      · refine ⟨l ++ [⟨pa, 1, false, ⟨nk, nm, nt, nd⟩⟩], (smE_snoc hl hs ⟨by simp only; omega, hnt, by simp only; omega⟩), ?_⟩
        refine ent tabOK hmix Tryz.func4 rfl rfl fun X0 hX => ?_
        simp only [Tryz.f4, go_sem]
        repeat' (first | simp only [*, go_sem, Nat.reduceLT, Nat.reduceLeDiff, Nat.reduceEqDiff, ↓reduceIte, Nat.reduceAdd, Nat.reduceMul, Int.reduceAdd, Int.reduceEq, Int.reduceBEq, Nat.reduceBEq, beq_self_eq_true, wrap_i64_lit] | ((with_reducible refine useF (hpc) ?_ ?_ ?_); (focus exact rfl); (focus exact rfl)) | ((with_reducible refine useF (hp2) ?_ ?_ ?_); (focus exact rfl); (focus exact rfl)) | ((with_reducible refine useF (hp9) ?_ ?_ ?_); (focus exact rfl); (focus exact rfl)) | ((with_reducible refine useF (hpk) ?_ ?_ ?_); (focus exact rfl); (focus exact rfl)) | ((with_reducible refine useN (hnc) ?_ ?_ ?_); (focus exact rfl); (focus exact fun _ => rfl)) | ((with_reducible refine And.intro ?_ ?_); (focus (first | omega | decide))))
        all_goals first | rfl | (rw [List.take_of_length_le (by first | (simp [encE_len]; done) | (simp [encE_len]; omega))]) | trace_state
      · refine ⟨l ++ [⟨pa, 2, false, nd0⟩], (smE_snoc (e := ⟨pa, 2, false, nd0⟩) hl hs ⟨by simp only; omega, show (0 : Nat) < _ by decide, show (0 : Nat) ≤ 10000 by decide⟩), ?_⟩
        refine dcalls_rows (es := encE l ++ [[.s pa, .i .i64 2, .b false, .i .i64 0, .i .i64 0, .f 0, .nil]]) (by rw [← encE_app]; exact wkRows_app (wkRows_refl _) ⟨⟨.inl rfl, .inl rfl, .inl rfl, .inl rfl, .inl rfl, .inl rfl, .inr ⟨rfl, 1, rfl⟩, True.intro⟩, True.intro⟩) ?_
        refine ent tabOK hmix Tryz.func4 rfl rfl fun X0 hX => ?_
        simp only [Tryz.f4, go_sem]
        repeat' (first | simp only [*, go_sem, Nat.reduceLT, Nat.reduceLeDiff, Nat.reduceEqDiff, ↓reduceIte, Nat.reduceAdd, Nat.reduceMul, Int.reduceAdd, Int.reduceEq, Int.reduceBEq, Nat.reduceBEq, beq_self_eq_true, wrap_i64_lit] | ((with_reducible refine useF (hpc) ?_ ?_ ?_); (focus exact rfl); (focus exact rfl)) | ((with_reducible refine useF (hp2) ?_ ?_ ?_); (focus exact rfl); (focus exact rfl)) | ((with_reducible refine useF (hp9) ?_ ?_ ?_); (focus exact rfl); (focus exact rfl)) | ((with_reducible refine useF (hpk) ?_ ?_ ?_); (focus exact rfl); (focus exact rfl)) | ((with_reducible refine And.intro ?_ ?_); (focus (first | omega | decide))))
        all_goals first | rfl | (rw [List.take_of_length_le (by first | (simp [encE_len]; done) | (simp [encE_len]; omega))]) | trace_state
    · refine ⟨l.take k ++ l.drop (k + 1), (smE_del hs k), ?_⟩
      rcases g2 with rfl | rfl
      · skip
        refine ent tabOK hmix Tryz.func4 rfl rfl fun X0 hX => ?_
        simp only [Tryz.f4, go_sem]
        repeat' (first | simp only [*, go_sem, Nat.reduceLT, Nat.reduceLeDiff, Nat.reduceEqDiff, ↓reduceIte, Nat.reduceAdd, Nat.reduceMul, Int.reduceAdd, Int.reduceEq, Int.reduceBEq, beq_self_eq_true, wrap_i64_lit] | ((with_reducible refine useF (hpc) ?_ ?_ ?_); (focus exact rfl); (focus exact rfl)) | ((with_reducible refine useF (hp2) ?_ ?_ ?_); (focus exact rfl); (focus exact rfl)) | ((with_reducible refine useF (hp9) ?_ ?_ ?_); (focus exact rfl); (focus exact rfl)) | ((with_reducible refine useF (hpk) ?_ ?_ ?_); (focus exact rfl); (focus exact rfl)) | ((with_reducible refine useN (hnc) ?_ ?_ ?_); (focus exact rfl); (focus exact fun _ => rfl)) | ((refine vc_drawn (id := 18) tabOK hmix [7] [0,1,2,3,4,5,6,7,8] (by decide +kernel) ?_); (repeat' (first | (refine ds_nil ?_) | ((refine ds_chg ?_ ?_ rfl rfl rfl ?_ ?_); (rotate_left 2); (focus ((repeat' (first | simp only [*, go_sem, Nat.reduceLT, Nat.reduceEqDiff, ↓reduceIte, Nat.reduceAdd, beq_self_eq_true, ] | ((with_reducible refine And.intro ?_ ?_); (focus (omega))))); ((refine And.intro ?_ ?_ <;> exact rfl)))); (simp only [putF_some])) | ((refine ds_all ?_ rfl rfl rfl ?_ ?_); (rotate_left 1); (focus ((repeat' (first | exact allH_nil | refine allH_cons ?_ ?_)); (all_goals ((repeat' (first | simp only [*, go_sem, Nat.reduceLT, Nat.reduceEqDiff, ↓reduceIte, Int.reduceLE, Int.reduceToNat, ] | ((with_reducible refine And.intro ?_ ?_); (focus (omega))))); (try (exact rfl)))))); (simp only [putF_some]))))) | ((with_reducible refine And.intro ?_ ?_); (focus (first | omega | decide))))
        all_goals first | rfl | (rw [List.take_of_length_le (by first | (simp [encE_len]; done) | (simp [encE_len]; omega))]) | trace_state
      · skip
        refine ent tabOK hmix Tryz.func4 rfl rfl fun X0 hX => ?_
        simp only [Tryz.f4, go_sem]
        repeat' (first | simp only [*, go_sem, Nat.reduceLT, Nat.reduceLeDiff, Nat.reduceEqDiff, ↓reduceIte, Nat.reduceAdd, Nat.reduceMul, Int.reduceAdd, Int.reduceEq, Int.reduceBEq, beq_self_eq_true, wrap_i64_lit] | ((with_reducible refine useF (hpc) ?_ ?_ ?_); (focus exact rfl); (focus exact rfl)) | ((with_reducible refine useF (hp2) ?_ ?_ ?_); (focus exact rfl); (focus exact rfl)) | ((with_reducible refine useF (hp9) ?_ ?_ ?_); (focus exact rfl); (focus exact rfl)) | ((with_reducible refine useF (hpk) ?_ ?_ ?_); (focus exact rfl); (focus exact rfl)) | ((refine vc_drawn (id := 18) tabOK hmix [7] [0,1,2,3,4,5,6,7,8] (by decide +kernel) ?_); (repeat' (first | (refine ds_nil ?_) | ((refine ds_chg ?_ ?_ rfl rfl rfl ?_ ?_); (rotate_left 2); (focus ((repeat' (first | simp only [*, go_sem, Nat.reduceLT, Nat.reduceEqDiff, ↓reduceIte, Nat.reduceAdd, beq_self_eq_true, ] | ((with_reducible refine And.intro ?_ ?_); (focus (omega))))); ((refine And.intro ?_ ?_ <;> exact rfl)))); (simp only [putF_some])) | ((refine ds_all ?_ rfl rfl rfl ?_ ?_); (rotate_left 1); (focus ((repeat' (first | exact allH_nil | refine allH_cons ?_ ?_)); (all_goals ((repeat' (first | simp only [*, go_sem, Nat.reduceLT, Nat.reduceEqDiff, ↓reduceIte, Int.reduceLE, Int.reduceToNat, ] | ((with_reducible refine And.intro ?_ ?_); (focus (omega))))); (try (exact rfl)))))); (simp only [putF_some]))))) | ((with_reducible refine And.intro ?_ ?_); (focus (first | omega | decide))))
        all_goals first | rfl | (rw [List.take_of_length_le (by first | (simp [encE_len]; done) | (simp [encE_len]; omega))]) | trace_state
    · refine ⟨l.set k ⟨p, 2, false, nd0⟩, (smE_set hs k ⟨by simp only; omega, show (0 : Nat) < _ by decide, show (0 : Nat) ≤ 10000 by decide⟩), ?_⟩
      rcases g2 with rfl | rfl
      · skip
        refine dcalls_rows (es := (encE l).set k [.s p, .i .i64 2, .b false, .i .i64 0, .i .i64 0, .f 0, .nil]) (wkRows_setE (by assumption) ⟨.inl rfl, .inl rfl, .inl rfl, .inl rfl, .inl rfl, .inl rfl, .inr ⟨rfl, 1, rfl⟩, True.intro⟩) ?_
        refine ent tabOK hmix Tryz.func4 rfl rfl fun X0 hX => ?_
        simp only [Tryz.f4, go_sem]
        repeat' (first | simp only [*, go_sem, Nat.reduceLT, Nat.reduceLeDiff, Nat.reduceEqDiff, ↓reduceIte, Nat.reduceAdd, Nat.reduceMul, Int.reduceAdd, Int.reduceEq, Int.reduceBEq, beq_self_eq_true, wrap_i64_lit] | ((with_reducible refine useF (hpc) ?_ ?_ ?_); (focus exact rfl); (focus exact rfl)) | ((with_reducible refine useF (hp2) ?_ ?_ ?_); (focus exact rfl); (focus exact rfl)) | ((with_reducible refine useF (hp9) ?_ ?_ ?_); (focus exact rfl); (focus exact rfl)) | ((with_reducible refine useF (hpk) ?_ ?_ ?_); (focus exact rfl); (focus exact rfl)) | ((with_reducible refine useN (hnc) ?_ ?_ ?_); (focus exact rfl); (focus exact fun _ => rfl)) | ((with_reducible refine And.intro ?_ ?_); (focus (first | omega | decide))))
        all_goals first | rfl | (rw [List.take_of_length_le (by first | (simp [encE_len]; done) | (simp [encE_len]; omega))]) | trace_state
      · skip
        refine dcalls_rows (es := (encE l).set k [.s p, .i .i64 2, .b false, .i .i64 0, .i .i64 0, .f 0, .nil]) (wkRows_setE (by assumption) ⟨.inl rfl, .inl rfl, .inl rfl, .inl rfl, .inl rfl, .inl rfl, .inr ⟨rfl, 1, rfl⟩, True.intro⟩) ?_
        refine ent tabOK hmix Tryz.func4 rfl rfl fun X0 hX => ?_
        simp only [Tryz.f4, go_sem]
        repeat' (first | simp only [*, go_sem, Nat.reduceLT, Nat.reduceLeDiff, Nat.reduceEqDiff, ↓reduceIte, Nat.reduceAdd, Nat.reduceMul, Int.reduceAdd, Int.reduceEq, Int.reduceBEq, beq_self_eq_true, wrap_i64_lit] | ((with_reducible refine useF (hpc) ?_ ?_ ?_); (focus exact rfl); (focus exact rfl)) | ((with_reducible refine useF (hp2) ?_ ?_ ?_); (focus exact rfl); (focus exact rfl)) | ((with_reducible refine useF (hp9) ?_ ?_ ?_); (focus exact rfl); (focus exact rfl)) | ((with_reducible refine useF (hpk) ?_ ?_ ?_); (focus exact rfl); (focus exact rfl)) | ((with_reducible refine And.intro ?_ ?_); (focus (first | omega | decide))))
        all_goals first | rfl | (rw [List.take_of_length_le (by first | (simp [encE_len]; done) | (simp [encE_len]; omega))]) | trace_state
    · refine ⟨l.set k ⟨p, 1, false, ⟨nk, nm, nt, nd⟩⟩, (smE_set hs k ⟨by simp only; omega, hnt, by simp only; omega⟩), ?_⟩
      rcases g2 with rfl | rfl
      · skip
        refine ent tabOK hmix Tryz.func4 rfl rfl fun X0 hX => ?_
        simp only [Tryz.f4, go_sem]
        repeat' (first | simp only [*, go_sem, Nat.reduceLT, Nat.reduceLeDiff, Nat.reduceEqDiff, ↓reduceIte, Nat.reduceAdd, Nat.reduceMul, Int.reduceAdd, Int.reduceEq, Int.reduceBEq, beq_self_eq_true, wrap_i64_lit] | ((with_reducible refine useF (hpc) ?_ ?_ ?_); (focus exact rfl); (focus exact rfl)) | ((with_reducible refine useF (hp2) ?_ ?_ ?_); (focus exact rfl); (focus exact rfl)) | ((with_reducible refine useF (hp9) ?_ ?_ ?_); (focus exact rfl); (focus exact rfl)) | ((with_reducible refine useF (hpk) ?_ ?_ ?_); (focus exact rfl); (focus exact rfl)) | ((with_reducible refine useN (hnc) ?_ ?_ ?_); (focus exact rfl); (focus exact fun _ => rfl)) | ((refine vc_drawn (id := 22) tabOK hmix [11] [0,1,2,3,4,5,6,7,8,9,10,11] (by decide +kernel) ?_); (repeat' (first | (refine ds_nil ?_) | ((refine ds_chg ?_ ?_ rfl rfl rfl ?_ ?_); (rotate_left 2); (focus ((repeat' (simp only [*, go_sem, Nat.reduceLeDiff, Nat.reduceEqDiff, ↓reduceIte, Nat.reduceAdd, encE_set])); ((refine And.intro ?_ ?_ <;> exact rfl)))); (simp only [putF_none])) | ((refine ds_all ?_ rfl rfl rfl ?_ ?_); (rotate_left 1); (focus ((repeat' (first | exact allH_nil | refine allH_cons ?_ ?_)); (all_goals ((repeat' (first | simp only [*, go_sem, Nat.reduceLT, Nat.reduceLeDiff, Nat.reduceEqDiff, ↓reduceIte, Nat.reduceAdd, ] | ((with_reducible refine useN (hnc) ?_ ?_ ?_); (focus exact rfl); (focus exact fun _ => rfl)))); (try (exact rfl)))))); (simp only [putF_some]))))) | ((with_reducible refine And.intro ?_ ?_); (focus (first | omega | decide))))
        all_goals first | rfl | (rw [List.take_of_length_le (by first | (simp [encE_len]; done) | (simp [encE_len]; omega))]) | trace_state
      · skip
        refine ent tabOK hmix Tryz.func4 rfl rfl fun X0 hX => ?_
        simp only [Tryz.f4, go_sem]
        repeat' (first | simp only [*, go_sem, Nat.reduceLT, Nat.reduceLeDiff, Nat.reduceEqDiff, ↓reduceIte, Nat.reduceAdd, Nat.reduceMul, Int.reduceAdd, Int.reduceEq, Int.reduceBEq, beq_self_eq_true, wrap_i64_lit] | ((with_reducible refine useF (hpc) ?_ ?_ ?_); (focus exact rfl); (focus exact rfl)) | ((with_reducible refine useF (hp2) ?_ ?_ ?_); (focus exact rfl); (focus exact rfl)) | ((with_reducible refine useF (hp9) ?_ ?_ ?_); (focus exact rfl); (focus exact rfl)) | ((with_reducible refine useF (hpk) ?_ ?_ ?_); (focus exact rfl); (focus exact rfl)) | ((refine vc_drawn (id := 22) tabOK hmix [11] [0,1,2,3,4,5,6,7,8,9,10,11] (by decide +kernel) ?_); (repeat' (first | (refine ds_nil ?_) | ((refine ds_chg ?_ ?_ rfl rfl rfl ?_ ?_); (rotate_left 2); (focus ((repeat' (simp only [*, go_sem, Nat.reduceLeDiff, Nat.reduceEqDiff, ↓reduceIte, Nat.reduceAdd, encE_set])); ((refine And.intro ?_ ?_ <;> exact rfl)))); (simp only [putF_none])) | ((refine ds_all ?_ rfl rfl rfl ?_ ?_); (rotate_left 1); (focus ((repeat' (first | exact allH_nil | refine allH_cons ?_ ?_)); (all_goals ((repeat' (first | simp only [*, go_sem, Nat.reduceLT, Nat.reduceLeDiff, Nat.reduceEqDiff, ↓reduceIte, Nat.reduceAdd, ] | ((with_reducible refine useN (hnc) ?_ ?_ ?_); (focus exact rfl); (focus exact fun _ => rfl)))); (try (exact rfl)))))); (simp only [putF_some]))))) | ((with_reducible refine And.intro ?_ ?_); (focus (first | omega | decide))))
        all_goals first | rfl | (rw [List.take_of_length_le (by first | (simp [encE_len]; done) | (simp [encE_len]; omega))]) | trace_state
    · refine ⟨l, hs, ?_⟩
      rcases g2 with rfl | rfl
      · skip
        refine ent tabOK hmix Tryz.func4 rfl rfl fun X0 hX => ?_
        simp only [Tryz.f4, go_sem]
        repeat' (first | simp only [*, go_sem, Nat.reduceLT, Nat.reduceLeDiff, Nat.reduceEqDiff, ↓reduceIte, Nat.reduceAdd, Nat.reduceMul, Int.reduceAdd, Int.reduceEq, Int.reduceBEq, beq_self_eq_true, wrap_i64_lit] | ((with_reducible refine useF (hpc) ?_ ?_ ?_); (focus exact rfl); (focus exact rfl)) | ((with_reducible refine useF (hp2) ?_ ?_ ?_); (focus exact rfl); (focus exact rfl)) | ((with_reducible refine useF (hp9) ?_ ?_ ?_); (focus exact rfl); (focus exact rfl)) | ((with_reducible refine useF (hpk) ?_ ?_ ?_); (focus exact rfl); (focus exact rfl)) | ((with_reducible refine useN (hnc) ?_ ?_ ?_); (focus exact rfl); (focus exact fun _ => rfl)) | ((with_reducible refine And.intro ?_ ?_); (focus (first | omega | decide))))
        all_goals first | rfl | (rw [List.take_of_length_le (by first | (simp [encE_len]; done) | (simp [encE_len]; omega))]) | trace_state
      · skip
        refine ent tabOK hmix Tryz.func4 rfl rfl fun X0 hX => ?_
        simp only [Tryz.f4, go_sem]
        repeat' (first | simp only [*, go_sem, Nat.reduceLT, Nat.reduceLeDiff, Nat.reduceEqDiff, ↓reduceIte, Nat.reduceAdd, Nat.reduceMul, Int.reduceAdd, Int.reduceEq, Int.reduceBEq, wrap_i64_lit] | ((with_reducible refine useF (hpc) ?_ ?_ ?_); (focus exact rfl); (focus exact rfl)) | ((with_reducible refine useF (hp2) ?_ ?_ ?_); (focus exact rfl); (focus exact rfl)) | ((with_reducible refine useF (hp9) ?_ ?_ ?_); (focus exact rfl); (focus exact rfl)) | ((with_reducible refine useF (hpk) ?_ ?_ ?_); (focus exact rfl); (focus exact rfl)) | ((with_reducible refine And.intro ?_ ?_); (focus (first | omega | decide))))
        all_goals first | rfl | (rw [List.take_of_length_le (by first | (simp [encE_len]; done) | (simp [encE_len]; omega))]) | trace_state
    · refine ⟨l, hs, ?_⟩
      rcases g2 with rfl | rfl
      · skip
        refine ent tabOK hmix Tryz.func4 rfl rfl fun X0 hX => ?_
        simp only [Tryz.f4, go_sem]
        repeat' (first | simp only [*, go_sem, Nat.reduceLT, Nat.reduceLeDiff, Nat.reduceEqDiff, ↓reduceIte, Nat.reduceAdd, Nat.reduceMul, Int.reduceAdd, Int.reduceEq, Int.reduceBEq, beq_self_eq_true, wrap_i64_lit] | ((with_reducible refine useF (hpc) ?_ ?_ ?_); (focus exact rfl); (focus exact rfl)) | ((with_reducible refine useF (hp2) ?_ ?_ ?_); (focus exact rfl); (focus exact rfl)) | ((with_reducible refine useF (hp9) ?_ ?_ ?_); (focus exact rfl); (focus exact rfl)) | ((with_reducible refine useF (hpk) ?_ ?_ ?_); (focus exact rfl); (focus exact rfl)) | ((with_reducible refine useN (hnc) ?_ ?_ ?_); (focus exact rfl); (focus exact fun _ => rfl)) | ((with_reducible refine And.intro ?_ ?_); (focus (first | omega | decide))))
        all_goals first | rfl | (rw [List.take_of_length_le (by first | (simp [encE_len]; done) | (simp [encE_len]; omega))]) | trace_state
      · skip
        refine ent tabOK hmix Tryz.func4 rfl rfl fun X0 hX => ?_
        simp only [Tryz.f4, go_sem]
        repeat' (first | simp only [*, go_sem, Nat.reduceLT, Nat.reduceLeDiff, Nat.reduceEqDiff, ↓reduceIte, Nat.reduceAdd, Nat.reduceMul, Int.reduceAdd, Int.reduceEq, Int.reduceBEq, wrap_i64_lit] | ((with_reducible refine useF (hpc) ?_ ?_ ?_); (focus exact rfl); (focus exact rfl)) | ((with_reducible refine useF (hp2) ?_ ?_ ?_); (focus exact rfl); (focus exact rfl)) | ((with_reducible refine useF (hp9) ?_ ?_ ?_); (focus exact rfl); (focus exact rfl)) | ((with_reducible refine useF (hpk) ?_ ?_ ?_); (focus exact rfl); (focus exact rfl)) | ((with_reducible refine And.intro ?_ ?_); (focus (first | omega | decide))))
        all_goals first | rfl | (rw [List.take_of_length_le (by first | (simp [encE_len]; done) | (simp [encE_len]; omega))]) | trace_state
end Go.Proofs.YtjpmajeekikdhaaGreatDoor

end

section
/-
  Chapter 12's law: of any tree and any entries what shows, and their bytes, are as the document says.
-/

set_option linter.unusedSimpArgs false
set_option linter.unusedVariables false
namespace Go.Proofs.YtjpmajeekikdhaaGreatDoor
open Go Go.Dm Go.Proofs
set_option maxRecDepth 100000
set_option maxHeartbeats 8000000

theorem makeF_len {t w : List It} (ht : OkT t) (hw : OkT w) : (makeF t w).length ≤ 240 := by
  have h1 := gones_len w (opqM t w) t (putsM t (opqM t w) w)
  have h2 := putsM_len t (opqM t w) w
  have h3 := ht.len
  have h4 := hw.len
  unfold makeF
  omega

theorem layerOvers_law {l o lw : List RI} {how at_ rk rm rt by_ : Int} {rx : Nat} {rd raw : List UInt8} {ats : List Int} (hl : smI l) (ho : smI o) (hlw : smI lw) (hrx : rx < 18446744073709551616) (hrd : rd.length ≤ 9223372036854775807) (hraw : raw.length ≤ 140737488355328) (hats : ats.length ≤ 9223372036854775807) :
    DCalls Tryz.prog 3 [.c (.p (.sl 6 (Go.Dm.encI l))), .c (.p (.sl 6 (Go.Dm.encI o))), .c (.p (.sl 6 (Go.Dm.encI lw))), .c (.p (.i .i64 how)), .c (.p (.i .i64 at_)), .agg (rnc rk rm rt rx rd), .c (.p (.sl 1 (encB raw))), .c (.p (.sl 1 (encZ ats))), .c (.p (.i .u8 by_))] [] fun r h => r = .c (.p (.b true)) ∧ h = [] := by
  have t1 := treeF_ok hl.2.2
  have t2 := treeF_ok ho.2.2
  have t3 := treeF_ok hlw.2.2
  have c1 := treeF_c hl.1 hl.2.1 hl.2.2
  have c2 := treeF_c ho.1 ho.2.1 ho.2.2
  have c3 := treeF_c hlw.1 hlw.2.1 hlw.2.2
  clear hl ho hlw
  generalize treeF l = T1 at t1 c1
  generalize treeF o = T2 at t2 c2
  generalize treeF lw = T3 at t3 c3
  have cm := refMake_c t1 t2
  have hmk := make_ok t1 t2
  have hml := makeF_len t1 t2
  obtain ⟨e, he, cb⟩ := bent_c (l := makeF T1 T2) (how := how) (at_ := at_) (rk := rk) (rm := rm) (rt := rt) (rx := rx) (rd := rd) (by omega) ⟨by omega, fun x hx => ⟨by have := hmk.plen x hx; omega, hmk.tlen x hx, by have := hmk.dlen x hx; omega⟩⟩ (fun x hx => by have := hmk.plen x hx; omega) hrx hrd
  generalize makeF T1 T2 = M at cm cb
  clear hmk hml
  obtain ⟨hel, hes⟩ := he
  have hep : ∀ x ∈ e, x.p.length ≤ 1000000 := fun x hx => by have := (hes x hx).1; omega
  have het : ∀ x ∈ e, x.n.t < 18446744073709551616 := fun x hx => (hes x hx).2.1
  have hed : ∀ x ∈ e, x.n.d.length ≤ 1000000000 := fun x hx => by have := (hes x hx).2.2; omega
  have r1 := layerRightG_c (l := e) (by omega) hep het
  have r2 := refRightG_c (l := e) (by omega) hep hed
  obtain ⟨b, f, hbl, hbp, y1, y2⟩ : ∃ (b : List UInt8) (f : Int), b.length ≤ 140737488355328 ∧ ((f == 0) = true → 0 < b.length) ∧ DCalls Tryz.prog 9 [.c (.p (.sl 7 (encE e)))] [] (fun r h => r = .tup [.c (.p (.sl 1 (encB b))), .c (.p (.i .i64 f))] ∧ h = []) ∧
      DCalls Tryz.prog 10 [.c (.p (.sl 7 (encE e)))] [] (fun r h => r = .tup [.c (.p (.sl 1 (encB b))), .c (.p (.i .i64 f))] ∧ h = []) := by
    cases hr : rightE e
    · exact ⟨[], 1, Nat.zero_le _, fun h => absurd h (by decide), layerLayN_c (by omega) hep het hr, refLayEN_c (by omega) hep hed hr⟩
    · refine ⟨layEs e, 0, ?_, fun _ => ?_, layerLay_c (by omega) hep het hr, refLayE_c (by omega) hep hed hr⟩
      · have := layEs_len (t := e) fun x hx => ⟨by have := (hes x hx).1; omega, by have := (hes x hx).2.2; omega⟩
        omega
      · rw [layEs, List.length_append, u16F_len]; omega
  have key : ∀ t, OkT t → ∃ (u : List It) (g : Bool), u.length ≤ 1000000 ∧ DCalls Tryz.prog 7 [.c (.p (.sl 5 (encT t))), .c (.p (.sl 7 (encE e)))] [] (fun r h => r = .tup [.c (.p (.sl 5 (encT u))), .c (.p (.b g))] ∧ h = []) ∧
      DCalls Tryz.prog 8 [.c (.p (.sl 5 (encT t))), .c (.p (.sl 7 (encE e)))] [] (fun r h => r = .tup [.c (.p (.sl 5 (encT u))), .c (.p (.b g))] ∧ h = []) := by
    intro t ht
    cases hr : rightE e
    · exact ⟨[], false, by simp, layerOverN_c (by omega) hep het hr, refOverN_c (by omega) hep hed hr⟩
    · have hok := rightE_okE het hel hr
      refine ⟨(overF t e).1, (overF t e).2, ?_, layerOver_c ht hok, refOver_c ht hok⟩
      cases hv : (overF t e).2
      · have : (overF t e).1 = [] := by
          unfold overF at hv ⊢
          split
          · rename_i h; rw [if_pos h] at hv; cases hv
          · rfl
        rw [this]; simp
      · have := (overF_ok ht hok hv).len
        omega
  clear hep het hed hes hel hrx hrd
  refine entS tabOK Tryz.func3 rfl rfl fun X0 hX => ?_
  simp only [Tryz.f3, go_sem]
  refine swp_first tabOK hmix ?_
  repeat' (simp only [*, go_sem, Nat.reduceLT, Nat.reduceEqDiff, ↓reduceIte, Nat.reduceAdd, ])
  refine swp_first tabOK hmix ?_
  repeat' (first | simp only [*, go_sem, ] | ((refine vc_drawn (id := 1) tabOK hmix [] [0,1,2,3,4,5,6,7,8,9] (by decide +kernel) ?_); (repeat' (first | (refine ds_nil ?_) | ((refine ds_one ?_ rfl rfl ?_ ?_); (rotate_left 1); (focus ((repeat' (first | simp only [*, go_sem, Nat.reduceLT, Nat.reduceLeDiff, Nat.reduceEqDiff, ↓reduceIte, Nat.reduceAdd, ] | ((with_reducible refine useN (c1) ?_ ?_ ?_); (focus exact rfl); (focus exact fun _ => rfl)) | ((with_reducible refine useN (c2) ?_ ?_ ?_); (focus exact rfl); (focus exact fun _ => rfl)) | ((with_reducible refine useN (cm) ?_ ?_ ?_); (focus exact rfl); (focus exact fun _ => rfl)) | ((with_reducible refine useN (cb) ?_ ?_ ?_); (focus exact rfl); (focus exact fun _ => rfl)))); exact rfl)); (simp only [putF_some]))))))
  refine swp_first tabOK hmix ?_
  repeat' (first | simp only [*, go_sem, Nat.reduceLT, Nat.reduceEqDiff, ↓reduceIte, ] | ((with_reducible refine useN (c3) ?_ ?_ ?_); (focus exact rfl); (focus exact fun _ => rfl)))
  refine swp_join tabOK hmix (α := List It) (fun t => ⟨160, [(3, .c (.p (.i .i64 how))), (6, .c (.p (.sl 1 (encB raw)))), (7, .c (.p (.sl 1 (encZ ats)))), (8, .c (.p (.i .u8 by_))), (19, .c (.p (.sl 7 (encE e)))), (20, .c (.p (.sl 5 (encT t))))], []⟩) OkT ?_ ?_
  · clear key y1 y2 r1 r2
    cases hh : decide (0 < how.tmod 3)
    · repeat' (simp only [*, go_sem, Nat.reduceLT, Nat.reduceEqDiff, ↓reduceIte, Int.reduceEq, ])
      exact qj_n T3 t3 (weak_mk (by rw [hX]; rfl) rfl rfl (by simp [wk_cons, wk_nil, look_cons, closedD, closedC, ]))
    · repeat' (first | simp only [*, go_sem, Nat.reduceLT, Nat.reduceEqDiff, ↓reduceIte, Int.reduceEq, ] | ((with_reducible refine useN (c1) ?_ ?_ ?_); (focus exact rfl); (focus exact fun _ => rfl)))
      exact qj_n T1 t1 (weak_mk (by rw [hX]; rfl) rfl rfl (by simp [wk_cons, wk_nil, look_cons, closedD, closedC, ]))
  intro t ht
  obtain ⟨u, g, hul, v1, v2⟩ := key t ht
  have hsu := sameT_c (a := u) hul
  clear key ht t1 t2 t3 c1 c2 c3 cm cb
  refine swp_first tabOK hmix ?_
  repeat' (first | simp only [*, go_sem, Nat.reduceLT, Nat.reduceEqDiff, ↓reduceIte, ] | ((with_reducible refine useN (v1) ?_ ?_ ?_); (focus exact rfl); (focus exact fun _ => rfl)))
  refine swp_first tabOK hmix ?_
  repeat' (first | simp only [*, go_sem, Nat.reduceLT, Nat.reduceEqDiff, ↓reduceIte, ] | ((with_reducible refine useN (v2) ?_ ?_ ?_); (focus exact rfl); (focus exact fun _ => rfl)))
  refine swp_first tabOK hmix ?_
  repeat' (first | simp only [*, go_sem, Nat.reduceLT, Nat.reduceEqDiff, ↓reduceIte, ] | ((with_reducible refine useN (y1) ?_ ?_ ?_); (focus exact rfl); (focus exact fun _ => rfl)))
  refine swp_first tabOK hmix ?_
  repeat' (first | simp only [*, go_sem, Nat.reduceLT, Nat.reduceEqDiff, ↓reduceIte, ] | ((with_reducible refine useN (y2) ?_ ?_ ?_); (focus exact rfl); (focus exact fun _ => rfl)))
  refine swp_first tabOK hmix ?_
  repeat' (first | simp only [*, go_sem, Nat.reduceLT, Nat.reduceEqDiff, ↓reduceIte, beq_self_eq_true, bne_self_eq_false, Bool.not_true, bne_self_eq_false] | ((with_reducible refine useF (hsu) ?_ ?_ ?_); (focus exact rfl); (focus exact rfl)) | ((with_reducible refine useF (r1) ?_ ?_ ?_); (focus exact rfl); (focus exact rfl)) | ((with_reducible refine useF (r2) ?_ ?_ ?_); (focus exact rfl); (focus exact rfl)))
  clear v1 v2 y1 y2 r1 r2 hsu
  refine swp_first tabOK hmix ?_
  repeat' (first | simp only [*, go_sem, Nat.reduceLT, Nat.reduceEqDiff, ↓reduceIte, ] | refine useOD (fewO_c hraw) rfl rfl ?_)
  refine swp_join tabOK hmix (α := List UInt8) (fun z => ⟨160, [(29, .c (.p (.sl 1 (encB z))))], []⟩) (fun z => z.length ≤ 140737488355328) ?_ ?_
  · cases hf : (f == 0)
    · repeat' (simp only [*, go_sem, Nat.reduceLT, Nat.reduceEqDiff, ↓reduceIte, ])
      exact qj_data raw 29 1 0 raw.length hraw rfl (pvOf_row rfl (by rw [encB_len])) (weak_mk (by rw [hX]; rfl) rfl rfl (by simp [wk_cons, wk_nil, look_cons, closedD, closedC, ]))
    · have hbp := hbp hf
      cases hh : decide (0 < how.tmod 5)
      · repeat' (simp only [*, go_sem, Nat.reduceLT, Nat.reduceEqDiff, ↓reduceIte, Int.reduceEq, ])
        exact qj_data raw 29 1 0 raw.length hraw rfl (pvOf_row rfl (by rw [encB_len])) (weak_mk (by rw [hX]; rfl) rfl rfl (by simp [wk_cons, wk_nil, look_cons, closedD, closedC, ]))
      · repeat' (first | simp only [*, go_sem, Nat.reduceLT, Nat.reduceEqDiff, ↓reduceIte, Nat.reduceAdd, Int.reduceEq, ] | refine useOD (fewO_c hbl) rfl rfl ?_)
        refine loop_ren tabOK hmix (α := Nat × List UInt8) (fun x => ⟨160, [(7, .c (.p (.sl 1 (encZ ats)))), (8, .c (.p (.i .u8 by_))), (29, .c (.own 3 0 b.length)), (30, .c (.p (.i .i64 x.1)))], [.dead, .arr 1 (encB raw) false, .dead, .arr 1 (encB x.2) false]⟩)
          (fun x => x.1 ≤ 2 ∧ x.2.length = b.length) (fun x => 2 - x.1) (0, b) ⟨Nat.zero_le _, rfl⟩ (.inl (weak_mk (by rw [hX]; rfl) rfl rfl (by simp [wk_cons, wk_nil, look_cons, closedD, closedC, ]))) ?_
        rintro ⟨i, z⟩ ⟨hi, hz⟩
        simp only at hi hz
        by_cases hlt : i < ats.length
        · have hx : ats[i]? = some ats[i] := List.getElem?_eq_getElem hlt
          have hg := encZ_at hx
          generalize ats[i] = av at hx hg
          have h1 : decide ((i : Int) < (ats.length : Int)) = true := decide_eq_true (by omega)
          have h3 : (i : Int) < (ats.length : Int) := by omega
          have hi0 : (0 : Int) ≤ i := by omega
          have w1 : IntKind.i64.wrap ((i : Int) + 1) = (i + 1 : Nat) := by rw [wrap_i64 (by omega) (by omega)]; omega
          by_cases h2 : i < 2
          · have h4 : decide ((i : Int) < 2) = true := decide_eq_true (by omega)
            repeat' (simp only [*, go_sem, Nat.reduceLT, Nat.reduceEqDiff, ↓reduceIte, ])
            refine useFE (C := fun k : Nat => (k : Int) < b.length) (e := fun k => .c (.p (.i .i64 k))) (pickN_c (by omega) (by omega)) rfl (fun _ _ => rfl) fun k hk => ?_
            have hkt : k < z.length := by omega
            have hy : z[k]? = some z[k] := List.getElem?_eq_getElem hkt
            have hgy := encB_at hy
            generalize z[k] = y at hy hgy
            have hk0 : (0 : Int) ≤ k := by omega
            repeat' (first | simp only [*, go_sem, Nat.reduceLT, Nat.reduceLeDiff, Nat.reduceEqDiff, ↓reduceIte, encB_setx] | ((with_reducible refine And.intro ?_ ?_); (focus (omega))))
            exact qr_n (i + 1, z.set k (UInt8.ofNat (Dm.bits .xor .u8 y.toNat by_).toNat)) ⟨by simp only; omega, by simp only [List.length_set]; exact hz⟩ (by simp only; omega) (weak_mk rfl rfl rfl (by simp [wk_cons, wk_nil, look_cons, closedD, closedC, ]))
          · have h4 : decide ((i : Int) < 2) = false := decide_eq_false (by omega)
            repeat' (simp only [*, go_sem, Nat.reduceLT, Nat.reduceEqDiff, ↓reduceIte, ])
            exact qj_data z 29 3 0 b.length (by omega) rfl (pvOf_row rfl (by rw [encB_len]; exact hz)) (weak_mk (by rw [hX]; rfl) rfl rfl (by simp [wk_cons, wk_nil, look_cons, closedD, closedC, ]))
        · have h1 : decide ((i : Int) < (ats.length : Int)) = false := decide_eq_false (by omega)
          repeat' (simp only [*, go_sem, Nat.reduceLT, Nat.reduceEqDiff, ↓reduceIte, ])
          exact qj_data z 29 3 0 b.length (by omega) rfl (pvOf_row rfl (by rw [encB_len]; exact hz)) (weak_mk (by rw [hX]; rfl) rfl rfl (by simp [wk_cons, wk_nil, look_cons, closedD, closedC, ]))
  · clear hbl hbp hraw
    intro z hz
    have hrd := layerRead_c hz
    have hrf := refReadE_c hz
    rw [← readEs_ref] at hrf
    have hsm := sameLayer_c (a := (readEs z).1) (by unfold readEs; split; exact Nat.le_trans (readE_len z) (by decide); decide)
    generalize readEs z = w at hrd hrf hsm
    obtain ⟨w, e2⟩ := w
    simp only at hrd hrf hsm
    refine swp_first tabOK hmix ?_
    repeat' (first | simp only [*, go_sem, Nat.reduceLT, Nat.reduceEqDiff, ↓reduceIte, ] | ((with_reducible refine useN (hrd) ?_ ?_ ?_); (focus exact rfl); (focus exact fun _ => rfl)))
    refine swp_first tabOK hmix ?_
    repeat' (first | simp only [*, go_sem, Nat.reduceLT, Nat.reduceEqDiff, ↓reduceIte, ] | ((with_reducible refine useN (hrf) ?_ ?_ ?_); (focus exact rfl); (focus exact fun _ => rfl)))
    refine swp_vc tabOK hmix ?_
    repeat' (first | simp only [*, go_sem, Nat.reduceLT, Nat.reduceEqDiff, ↓reduceIte, beq_self_eq_true] | ((with_reducible refine useF (known12_c) ?_ ?_ ?_); (focus exact rfl); (focus exact rfl)) | ((with_reducible refine useF (hsm) ?_ ?_ ?_); (focus exact rfl); (focus exact rfl)))
end Go.Proofs.YtjpmajeekikdhaaGreatDoor

end
