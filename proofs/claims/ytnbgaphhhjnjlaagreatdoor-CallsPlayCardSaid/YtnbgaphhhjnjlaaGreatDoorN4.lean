/-
  Contracts of the program's trees: a path moved, with all below.
-/
import Derived.Test.YtnbgaphhhjnjlaaGreatDoorN0
set_option linter.unusedSimpArgs false
set_option linter.unusedVariables false
namespace Go.Proofs.YtnbgaphhhjnjlaaGreatDoor
open Go Go.Dm Go.Proofs
set_option maxRecDepth 100000
set_option maxHeartbeats 8000000

def midT (a b : List UInt8) (t : List It) (k : Nat) : List It := (t.take k).map (movI a b) ++ t.drop k
theorem midT_len (a b : List UInt8) (t : List It) (k : Nat) : (midT a b t k).length = t.length := by
  simp only [midT, List.length_append, List.length_map, List.length_take, List.length_drop]; omega
theorem midT_at {a b : List UInt8} {t : List It} {k : Nat} {x : It} (hx : t[k]? = some x) : (midT a b t k)[k]? = some x := by
  have hk := (List.getElem?_eq_some_iff.1 hx).1
  have hl : ((t.take k).map (movI a b)).length = k := by rw [List.length_map, List.length_take]; omega
  unfold midT
  rw [List.getElem?_append_right (by omega), hl, Nat.sub_self, List.getElem?_drop, Nat.add_zero]
  exact hx
theorem midT_set {a b : List UInt8} {t : List It} {k : Nat} {x : It} (hx : t[k]? = some x) : (midT a b t k).set k (movI a b x) = midT a b t (k + 1) := by
  have hk := (List.getElem?_eq_some_iff.1 hx).1
  have hl : ((t.take k).map (movI a b)).length = k := by rw [List.length_map, List.length_take]; omega
  unfold midT
  rw [List.set_append_right _ _ (by omega), hl, Nat.sub_self, drop_at hx, List.set_cons_zero, List.take_add_one, hx, List.map_append]
  simp

theorem set_at5 {l : List (List PV)} {k : Nat} {e : List PV} (h : k < l.length) : (l.set k e).getD k [] = e := by
  rw [List.getD_eq_getElem?_getD, List.getElem?_set_self h]; rfl

theorem move_c {t : List It} {a b : List UInt8} (h : OkT t) (ha : a.length ≤ 1000000000) (hb : b.length ≤ 1000000000) :
    DCalls Tryz.prog 107 [.c (.p (.sl 5 (encT t))), .c (.p (.s a)), .c (.p (.s b))] [] fun r h =>
      r = .tup [.c (.p (.sl 5 (encT (moveR t a b).1))), .c (.p (.i .i64 (moveR t a b).2))] ∧ h = [] := by
  have htl := h.len
  have hdl : ∀ x ∈ t, x.n.d.length ≤ 140737488355328 := fun x hx => Nat.le_trans (h.dlen x hx) (by decide)
  have hmay := mayMove_c (t := t) (a := a) (b := b) (by omega) h.srt ha hb
  refine dcalls_wk ?_
  by_cases h0 : mayF t a b = 0
  · have hpre : a ≠ [] ∧ b ≠ [] ∧ isPathR b = true ∧ (getR t b).isSome = false ∧ moveR t a b = moveL a b (removeR t a) t := by
      unfold mayF at h0
      unfold moveR
      split at h0
      · cases h0
      · rename_i h1
        rw [if_neg h1]
        split at h0
        · cases h0
        · rename_i h2
          rw [if_neg h2]
          split at h0
          · cases h0
          · rename_i h3
            rw [if_neg h3]
            split at h0
            · cases h0
            · rename_i h4
              rw [if_neg h4]
              split at h0
              · cases h0
              · rename_i h5
                rw [if_neg h5]
                simp only [Bool.or_eq_true, not_or, beq_iff_eq, Bool.not_eq_true', Bool.not_eq_false] at h1
                exact ⟨h1.1.1.1, h1.1.1.2, h1.2, by simpa using h4, rfl⟩
    obtain ⟨p1, p2, p3, p4, p5⟩ := hpre
    rw [p5, move_eq h p1 p2 p3 p4]
    have hnd := mov_nodup h p1 p2 p4
    rw [h0] at hmay
    have hpl := h.plen
    have hle0 : t.length ≤ (encT t).length := Nat.le_of_eq (encT_len t).symm
    clear p5 p2 p3 p4 h0
    have hR : ∃ R, (if (movT t a b).all shortP then (sortI (movT t a b), 0) else (([], 12) : List It × Int)) = R := ⟨_, rfl⟩
    obtain ⟨R, hR⟩ := hR
    rw [hR]
    have hRP := PLift.up hR
    clear hR
    refine ent tabOK hmix Tryz.func107 rfl rfl fun X0 hX => ?_
    simp only [Tryz.f107, go_sem]
    repeat' (first | simp only [*, go_sem, Nat.reduceLT, Nat.reduceEqDiff, ↓reduceIte, Nat.reduceAdd, bne_self_eq_false, ] | ((with_reducible refine useF (hmay) ?_ ?_ ?_); (focus exact rfl); (focus exact rfl)) | refine copyT_k (by omega) hdl ?_)
    refine loop_ren tabOK hmix (α := Nat) (fun k => ⟨60, [(1, .c (.p (.s a))), (2, .c (.p (.s b))), (9, .c (.own 0 0 t.length)), (21, .c (.own 0 0 t.length)), (22, .c (.p (.i .i64 t.length))), (23, .c (.p (.i .i64 k)))], [.arr 5 (encT (midT a b t k)) false]⟩)
      (fun k => k ≤ t.length ∧ ((t.take k).map (movI a b)).all shortP = true) (fun k => t.length - k) 0 ⟨Nat.zero_le _, rfl⟩ (.inl (weak_mk (by rw [hX]; rfl) rfl rfl (by simp [wk_cons, wk_nil, look_cons, closedD, closedC, ]))) ?_
    rintro k ⟨hk, hs⟩
    by_cases hlt : k < t.length
    · have hx : t[k]? = some t[k] := List.getElem?_eq_getElem hlt
      have hg := encT_at (midT_at (a := a) (b := b) hx)
      have hst := midT_set (a := a) (b := b) hx
      have hml := midT_len a b t k
      have h1 : decide ((k : Int) < (t.length : Int)) = true := decide_eq_true (by omega)
      have w1 : IntKind.i64.wrap ((k : Int) + 1) = k + 1 := wrap_i64 (by omega) (by omega)
      have hxl := hpl _ (List.getElem_mem hlt)
      have hnx : ((t.take (k + 1)).map (movI a b)).all shortP = shortP (movI a b t[k]) := by
        rw [List.take_add_one, hx, List.map_append, List.all_append, hs, Bool.true_and]
        simp
      have hbad : shortP (movI a b t[k]) = false → (movT t a b).all shortP = false := fun hb => by
        rw [Bool.eq_false_iff]
        intro h2
        have := List.all_eq_true.1 h2 _ (List.mem_map_of_mem (f := movI a b) (List.getElem_mem hlt))
        rw [hb] at this; cases this
      generalize t[k] = x at hx hg hst hxl hnx hbad
      cases q1 : (x.p == a) <;> cases q2 : belowR a x.p
      case false.false =>
        have hmi : movI a b x = x := by unfold movI mvd; rw [q1, q2]; rfl
        have hsx : shortP x = true := by
          simp only [shortP, Bool.not_eq_true', decide_eq_false_iff_not]; omega
        have hx120 : decide ((120 : Int) < (x.p.length : Int)) = false := by simpa [shortP] using hsx
        rw [hmi] at hst hnx
        have hst2 : midT a b t k = midT a b t (k + 1) := by
          rw [← hst]
          exact (List.ext_getElem? fun j => by
            rw [List.getElem?_set]
            split
            · rename_i e; subst e; rw [midT_at hx]; split
              · rfl
              · rename_i hh; rw [hml] at hh; exact absurd hlt hh
            · rfl)
        have hJ : k + 1 ≤ t.length ∧ ((t.take (k + 1)).map (movI a b)).all shortP = true := ⟨by omega, by rw [hnx]; exact hsx⟩
        have hS := PLift.up hst2
        have hlr : k < (midT a b t k).length := by omega
        clear hbad hmi hst hnx hx hst2 hml
        repeat' (first | simp only [*, go_sem, Nat.reduceLT, Nat.reduceLeDiff, Nat.reduceEqDiff, ↓reduceIte, Nat.reduceAdd, ] | ((with_reducible refine useF (nameBelow_c ha) ?_ ?_ ?_); (focus exact rfl); (focus exact rfl)) | ((with_reducible refine And.intro ?_ ?_); (focus (omega))))
        exact qr_n (k + 1) hJ (by omega) (weak_mk rfl (by rw [hS.down]; rfl) rfl (by simp [wk_cons, wk_nil, look_cons, closedD, closedC, ]))
      all_goals
        have hmi : movI a b x = ⟨b ++ x.p.drop a.length, x.n⟩ := by unfold movI mvd; rw [q1, q2]; rfl
        rw [hmi] at hst hnx hbad
        have hla : a.length ≤ x.p.length := by
          first | (rw [eq_of_beq q1]; exact Nat.le_refl _) | exact belowR_len q2
        cases q3 : shortP ⟨b ++ x.p.drop a.length, x.n⟩
      all_goals have hlr : k < (midT a b t k).length := by omega
      all_goals have hse := encT_set (midT a b t k) k ⟨b ++ x.p.drop a.length, x.n⟩
      all_goals simp only at hse
      all_goals rw [hst] at hse
      all_goals have hS := PLift.up hse
      all_goals have hlr2 : k < (encT (midT a b t k)).length := by rw [encT_len]; exact hlr
      all_goals have hdp : b.length + (x.p.drop a.length).length ≤ 9223372036854775807 := by rw [List.length_drop]; omega
      all_goals have hki : (k : Int) < (t.length : Int) := by omega
      all_goals have hk0 : (0 : Int) ≤ (k : Int) := by omega
      all_goals have hq : decide ((120 : Int) < ((b.length + (x.p.drop a.length).length : Nat) : Int)) = !(shortP ⟨b ++ x.p.drop a.length, x.n⟩) := by unfold shortP; rw [Bool.not_not, List.length_append]
      all_goals rw [q3] at hq hnx
      all_goals simp only [Bool.not_true, Bool.not_false] at hq
      case' false.true.false | true.false.false | true.true.false =>
        obtain rfl : (([], 12) : List It × Int) = R := by rw [← hRP.down, hbad q3]; rfl
        clear hbad hmi hst hnx hx hml hse
        repeat' (first | simp only [*, go_sem, Nat.reduceLT, Nat.reduceLeDiff, Nat.reduceEqDiff, ↓reduceIte, Nat.reduceAdd, set_at5 hlr2, List.length_set, List.length_append] | ((with_reducible refine useF (nameBelow_c ha) ?_ ?_ ?_); (focus exact rfl); (focus exact rfl)) | ((with_reducible refine And.intro ?_ ?_); (focus (omega))))
      case' false.true.true | true.false.true | true.true.true =>
        have hJ : k + 1 ≤ t.length ∧ ((t.take (k + 1)).map (movI a b)).all shortP = true := ⟨by omega, hnx⟩
        clear hbad hmi hst hnx hx hml hse
        repeat' (first | simp only [*, go_sem, Nat.reduceLT, Nat.reduceLeDiff, Nat.reduceEqDiff, ↓reduceIte, Nat.reduceAdd, set_at5 hlr2, List.length_set, List.length_append] | ((with_reducible refine useF (nameBelow_c ha) ?_ ?_ ?_); (focus exact rfl); (focus exact rfl)) | ((with_reducible refine And.intro ?_ ?_); (focus (omega))))
      all_goals first | exact .inr ⟨_, rfl⟩ | exact qr_n (k + 1) hJ (by omega) (weak_mk rfl (by rw [← hS.down]; rfl) rfl (by simp [wk_cons, wk_nil, look_cons, closedD, closedC, ]))
    · have h1 : decide ((k : Int) < (t.length : Int)) = false := decide_eq_false (by omega)
      have hk2 : k = t.length := by omega
      subst hk2
      have hmt : midT a b t t.length = movT t a b := by
        unfold midT movT
        rw [List.take_length, List.drop_length, List.append_nil]
      rw [List.take_length] at hs
      obtain rfl : (sortI (movT t a b), (0 : Int)) = R := by
        rw [← hRP.down]
        have : (movT t a b).all shortP = true := hs
        rw [this]; rfl
      rw [hmt]
      have hml : (movT t a b).length = t.length := List.length_map _
      have hu := inj_of_nodup hnd
      rw [← hml]
      have hsl : (movT t a b).length < 4611686018427387904 := by omega
      have hml2 := sortI_len (movT t a b)
      clear hRP hs hnd hpl hmt hlt hml
      clear h1
      generalize movT t a b = q at hu hsl hml2 ⊢
      have h1 : decide ((q.length : Int) < (q.length : Int)) = false := decide_eq_false (by omega)
      repeat' (first | simp only [*, go_sem, Nat.reduceLT, Nat.reduceEqDiff, ↓reduceIte, List.set_cons_zero] | refine sortM_k (id := 0) (l := q) hu hsl rfl ?_)
      all_goals rw [List.take_of_length_le (by rw [hml2]; exact Nat.le_refl _)]
  · have hne : (mayF t a b == 0) = false := by simpa using h0
    have hme : moveR t a b = ([], mayF t a b) := by
      unfold mayF at h0 ⊢
      unfold moveR
      split
      · rfl
      · rename_i h1
        rw [if_neg h1] at h0
        split
        · rfl
        · rename_i h2
          rw [if_neg h2] at h0
          split
          · rfl
          · rename_i h3
            rw [if_neg h3] at h0
            split
            · rfl
            · rename_i h4
              rw [if_neg h4] at h0
              split
              · rfl
              · rename_i h5
                rw [if_neg h5] at h0
                exact absurd rfl h0
    rw [hme]
    have hne2 : (mayF t a b != 0) = true := by rw [bne, hne]; rfl
    generalize mayF t a b = e at *
    clear hme
    refine ent tabOK hmix Tryz.func107 rfl rfl fun X0 hX => ?_
    simp only [Tryz.f107, go_sem]
    repeat' (first | simp only [*, go_sem, Nat.reduceLT, Nat.reduceEqDiff, ↓reduceIte, Nat.reduceAdd, ] | ((with_reducible refine useF (hmay) ?_ ?_ ?_); (focus exact rfl); (focus exact rfl)))
    all_goals exact .inr ⟨_, rfl⟩
end Go.Proofs.YtnbgaphhhjnjlaaGreatDoor
