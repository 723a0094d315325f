import Derived.Test.YtnbgaphhhjnjlaaGreatDoorD6
import Derived.Test.YtnbgaphhhjnjlaaGreatDoorC1
import Derived.Test.YtnbgaphhhjnjlaaGreatDoorSB

section
/-
  Contracts of the document on trees, and of the drawn tree.
-/

set_option linter.unusedSimpArgs false
set_option linter.unusedVariables false
namespace Go.Proofs.YtnbgaphhhjnjlaaGreatDoor
open Go Go.Dm
set_option maxRecDepth 100000
set_option maxHeartbeats 4000000

theorem moveR_c {t : List It} {a b : List UInt8} (ht : t.length ≤ 400000) (ha : a.length ≤ 1000000000) (hb : b.length ≤ 1000000000) (hq : ∀ x ∈ t, x.p.length ≤ 1000000000) :
    DCalls Tryz.prog 115 [.c (.p (.sl 5 (encT t))), .c (.p (.s a)), .c (.p (.s b))] [] fun r h =>
      r = .tup [.c (.p (.sl 5 (encT (moveR t a b).1))), .c (.p (.i .i64 (moveR t a b).2))] ∧ h = [] := by
  have hrl := removeR_len t a
  have ha2 : a.length ≤ 4611686018427387904 := by omega
  have hb2 : b.length ≤ 4611686018427387904 := by omega
  have hq2 : ∀ x ∈ t, x.p.length ≤ 9223372036854775807 := fun x hx => Nat.le_trans (hq x hx) (by omega)
  refine dcalls_wk ?_
  refine ent tabOK hmix Tryz.func115 rfl rfl fun X0 hX => ?_
  simp only [Tryz.f115, go_sem]
  repeat' (first | simp only [*, go_sem, Nat.reduceLT, Nat.reduceLeDiff, Nat.reduceEqDiff, ↓reduceIte, Nat.reduceAdd, ] | ((with_reducible refine useF (isPathR_c ha) ?_ ?_ ?_); (focus exact rfl); (focus exact rfl)) | ((with_reducible refine useF (isPathR_c hb) ?_ ?_ ?_); (focus exact rfl); (focus exact rfl)) | ((with_reducible refine useN (getR_c (t := t) (by omega)) ?_ ?_ ?_); (focus exact rfl); (focus exact fun _ => rfl)) | ((with_reducible refine useF (belowR_c ha2 (by omega)) ?_ ?_ ?_); (focus exact rfl); (focus exact rfl)) | ((with_reducible refine useF (dirOfR_c hb2) ?_ ?_ ?_); (focus exact rfl); (focus exact rfl)) | ((with_reducible refine useN (isDirR_c (t := t) (by omega)) ?_ ?_ ?_); (focus exact rfl); (focus exact fun _ => rfl)) | ((with_reducible refine useN (removeR_c (t := t) (by omega) ha2 hq2) ?_ ?_ ?_); (focus exact rfl); (focus exact fun _ => rfl)) | with_reducible refine vcond_split (fun _ => ?_) (fun _ => ?_) | with_reducible refine vg_split (fun _ => ?_) (fun _ => ?_))
  all_goals try (simp only [moveR, *, Bool.or_false, Bool.or_true, Bool.true_or, ↓reduceIte, Bool.false_eq_true, encT_nil]; simp; done)
  have hm : moveR t a b = moveL a b (removeR t a) t := by
    simp only [moveR, *, Bool.or_false, ↓reduceIte, Bool.false_eq_true]
  rw [hm]
  clear hm
  refine loop_ren tabOK hmix (α := Nat × List It) (fun x => ⟨96, [(0, .c (.p (.sl 5 (encT t)))), (1, .c (.p (.s a))), (2, .c (.p (.s b))), (12, .c (.p (.sl 5 (encT x.2)))), (13, .c (.p (.i .i64 x.1)))], []⟩)
    (fun x => x.1 ≤ t.length ∧ x.2.length ≤ t.length + x.1 ∧ moveL a b x.2 (t.drop x.1) = moveL a b (removeR t a) t) (fun x => t.length - x.1) (0, removeR t a) ⟨Nat.zero_le _, by simpa using hrl, rfl⟩ (.inl (weak_mk (by rw [hX]; rfl) rfl rfl (by simp [wk_cons, wk_nil, look_cons, closedD, closedC, ]))) ?_
  rintro ⟨k, out⟩ ⟨hk, hol, hl⟩
  simp only at hk hol hl
  by_cases hlt : k < t.length
  · have hx : t[k]? = some t[k] := List.getElem?_eq_getElem hlt
    have hg := encT_at hx
    have hd := drop_at hx
    have h1 : decide ((k : Int) < (t.length : Int)) = true := decide_eq_true (by omega)
    have w1 : IntKind.i64.wrap ((k : Int) + 1) = k + 1 := wrap_i64 (by omega) (by omega)
    generalize t[k] = x at hx hg hd
    have hxp := hq x (List.mem_of_getElem? hx)
    have hxp2 : x.p.length ≤ 9223372036854775807 := by omega
    rw [hd, moveL] at hl
    have hdl : (List.drop a.length x.p).length ≤ 1000000000 := by rw [List.length_drop]; omega
    have hsl := setR_len out (b ++ List.drop a.length x.p) x.n
    have main : (!(x.p == a) && !belowR a x.p) = false → a.length ≤ x.p.length := by
      intro hc
      cases he : (x.p == a)
      · cases hbl : belowR a x.p
        · simp [he, hbl] at hc
        · exact belowR_len hbl
      · rw [eq_of_beq he]; exact Nat.le_refl _
    cases he : (!(x.p == a))
    · have hla := main (by rw [he]; rfl)
      rw [he, Bool.false_and, if_neg (by decide)] at hl
      clear main
      repeat' (first | simp only [*, go_sem, Nat.reduceLT, Nat.reduceLeDiff, Nat.reduceEqDiff, ↓reduceIte, Nat.reduceAdd, ] | ((with_reducible refine useN (setR_c (t := out) (by omega)) ?_ ?_ ?_); (focus exact rfl); (focus exact fun _ => rfl)) | with_reducible refine vcond_split (fun _ => ?_) (fun _ => ?_) | ((with_reducible refine And.intro ?_ ?_); (focus (omega))))
      · rename_i hb
        rw [if_pos hb] at hl
        simp only [← hl, encT_nil]
        simp
      · rename_i hb
        rw [if_neg (by rw [hb]; decide)] at hl
        exact qr_n (k + 1, setR out (b ++ List.drop a.length x.p) x.n) ⟨by omega, by simp only; omega, hl⟩ (by simp only; omega) (weak_mk rfl rfl rfl (by simp [wk_cons, wk_nil, look_cons, closedD, closedC, ]))
    · cases hbl : (!belowR a x.p)
      · have hla := main (by rw [he, hbl]; rfl)
        rw [he, hbl, Bool.true_and, if_neg (by decide)] at hl
        clear main
        repeat' (first | simp only [*, go_sem, Nat.reduceLT, Nat.reduceLeDiff, Nat.reduceEqDiff, ↓reduceIte, Nat.reduceAdd, ] | ((with_reducible refine useF (belowR_c (p := a) (q := x.p) ha2 hxp2) ?_ ?_ ?_); (focus exact rfl); (focus exact rfl)) | ((with_reducible refine useN (setR_c (t := out) (by omega)) ?_ ?_ ?_); (focus exact rfl); (focus exact fun _ => rfl)) | with_reducible refine vcond_split (fun _ => ?_) (fun _ => ?_) | ((with_reducible refine And.intro ?_ ?_); (focus (omega))))
        · rename_i hb
          rw [if_pos hb] at hl
          simp only [← hl, encT_nil]
          simp
        · rename_i hb
          rw [if_neg (by rw [hb]; decide)] at hl
          exact qr_n (k + 1, setR out (b ++ List.drop a.length x.p) x.n) ⟨by omega, by simp only; omega, hl⟩ (by simp only; omega) (weak_mk rfl rfl rfl (by simp [wk_cons, wk_nil, look_cons, closedD, closedC, ]))
      · rw [he, hbl, Bool.true_and, if_pos rfl] at hl
        clear main
        repeat' (first | simp only [*, go_sem, Nat.reduceLT, Nat.reduceEqDiff, ↓reduceIte, ] | ((with_reducible refine useF (belowR_c (p := a) (q := x.p) ha2 hxp2) ?_ ?_ ?_); (focus exact rfl); (focus exact rfl)) | ((with_reducible refine And.intro ?_ ?_); (focus (omega))))
        exact qr_n (k + 1, out) ⟨by omega, by simp only; omega, hl⟩ (by simp only; omega) (weak_mk rfl rfl rfl (by simp [wk_cons, wk_nil, look_cons, closedD, closedC, ]))
  · have h1 : decide ((k : Int) < (t.length : Int)) = false := decide_eq_false (by omega)
    rw [List.drop_of_length_le (by omega)] at hl
    simp only [moveL] at hl
    repeat' (simp only [*, go_sem, Nat.reduceLT, Nat.reduceEqDiff, ↓reduceIte, ])
    all_goals trace_state
    all_goals simp only [← hl]
    all_goals simp

theorem putRn_c {t : List It} {p : List UInt8} {k m : Int} {tt : Nat} (ht : t.length ≤ 1000000 - 1) (hp : p.length ≤ 1000000000) (hq : ∀ x ∈ t, x.p.length ≤ 9223372036854775807) :
    DCalls Tryz.prog 38 [.c (.p (.sl 5 (encT t))), .c (.p (.s p)), .agg [.p (.i .i64 k), .p (.i .i64 m), .p (.f tt), .p .nil]] [] fun r h =>
      r = .tup [.c (.p (.sl 5 (encT (putR t p ⟨k, m, tt, []⟩).1))), .c (.p (.i .i64 (putR t p ⟨k, m, tt, []⟩).2))] ∧ h = [] :=
  DCalls.wkargs (args' := [.c (.p (.sl 5 (encT t))), .c (.p (.s p)), .agg (ndc k m tt [])]) ⟨wkP.rfl, wkP.rfl, ⟨wkP.rfl, wkP.rfl, wkP.rfl, wkP_nil, True.intro⟩, True.intro⟩ (putR_c ht hp hq (Nat.zero_le _))

theorem tree_c {l : List RI} (hl : l.length ≤ 9223372036854775807) (hd : ∀ x ∈ l, x.n.d.length ≤ 9223372036854775807) (hdx : ∀ x ∈ l, x.n.x < 18446744073709551616) :
    DCalls Tryz.prog 14 [.c (.p (.sl 6 (encI l)))] [] fun r h => ∃ t, OkT t ∧ r = .c (.p (.sl 5 (encT t))) ∧ h = [] := by
  refine ent tabOK hmix Tryz.func14 rfl rfl fun X0 hX => ?_
  simp only [Tryz.f14, go_sem]
  repeat' (simp only [*, go_sem, Nat.reduceLT, ])
  refine vc_sl 3 5 rfl ?_
  refine loop_ren tabOK hmix (α := Nat × List It) (fun x => ⟨105, [(0, .c (.p (.sl 6 (encI l)))), (3, .c (.p (.sl 5 (encT x.2)))), (4, .c (.p (.i .i64 x.1)))], []⟩)
    (fun x => x.1 ≤ l.length ∧ OkT x.2) (fun x => l.length - x.1) (0, []) ⟨Nat.zero_le _, OkT.nil⟩ (.inl (weak_mk (by rw [hX]; rfl) rfl rfl (by simp [wk_cons, wk_nil, look_cons, closedD, closedC, encT_nil, ]))) ?_
  rintro ⟨i, t⟩ ⟨hi, ht⟩
  simp only at hi ht
  by_cases hlt : i < l.length
  · have hx : l[i]? = some l[i] := List.getElem?_eq_getElem hlt
    have hg := encI_at hx
    have h1 : decide ((i : Int) < (l.length : Int)) = true := decide_eq_true (by omega)
    have w1 : IntKind.i64.wrap ((i : Int) + 1) = i + 1 := wrap_i64 (by omega) (by omega)
    generalize l[i] = x at hx hg
    have hxd := hd x (List.mem_of_getElem? hx)
    have hxx := hdx x (List.mem_of_getElem? hx)
    have hpl := pathF_len x.p
    obtain ⟨nn, ⟨hnn, hnt⟩, hnc⟩ : ∃ nn : Nd, (nn.d.length ≤ 60 ∧ nn.t < 18446744073709551616) ∧ DCalls Tryz.prog 39 [.agg (rnc x.n.k x.n.m x.n.t x.n.x x.n.d)] [] fun r h => r = .agg (ndc nn.k nn.m nn.t nn.d) ∧ h = [] :=
      ⟨nodeF x.n, ⟨nodeD_len x.n, nodeF_wf hxx⟩, nodeF_c hxd⟩
    repeat' (first | simp only [*, go_sem, Nat.reduceLT, Nat.reduceEqDiff, ↓reduceIte, ] | ((with_reducible refine useF (Path_c) ?_ ?_ ?_); (focus exact rfl); (focus exact rfl)) | with_reducible refine vcond_split (fun _ => ?_) (fun _ => ?_) | ((with_reducible refine And.intro ?_ ?_); (focus (omega))))
    · generalize pathF x.p = p at hpl
      refine loop_ren tabOK hmix (α := Nat × List It) (fun x => ⟨105, [(0, .c (.p (.sl 6 (encI l)))), (3, .c (.p (.sl 5 (encT x.2)))), (4, .c (.p (.i .i64 i))), (5, .c (.p (.s p))), (6, .c (.p (.i .i64 x.1)))], []⟩)
        (fun x => x.1 ≤ p.length ∧ OkT x.2) (fun x => p.length - x.1) (0, t) ⟨Nat.zero_le _, ht⟩ (.inl (weak_mk (by rw [hX]; rfl) rfl rfl (by simp [wk_cons, wk_nil, look_cons, closedD, closedC, ]))) ?_
      rintro ⟨k, u⟩ ⟨hk, hu⟩
      simp only at hk hu
      clear ht
      have hul := hu.len
      have hup : ∀ x ∈ u, x.p.length ≤ 9223372036854775807 := fun x hx => Nat.le_trans (hu.plen x hx) (by decide)
      by_cases hlk : k < p.length
      · have hpx : p[k]? = some p[k] := List.getElem?_eq_getElem hlk
        have hg2 := getD_at hpx
        have h2 : decide ((k : Int) < (p.length : Int)) = true := decide_eq_true (by omega)
        have w2 : IntKind.i64.wrap ((k : Int) + 1) = k + 1 := wrap_i64 (by omega) (by omega)
        have htk : (p.take k).length ≤ 11 := Nat.le_trans (List.length_take_le ..) (Nat.le_trans hk hpl)
        generalize p[k] = b at hpx hg2
        repeat' (first | simp only [*, go_sem, Nat.reduceLT, Nat.reduceLeDiff, Nat.reduceEqDiff, ↓reduceIte, Nat.reduceAdd, Int.reduceLE, Int.reduceToNat, ] | ((with_reducible refine useN (isDirR_c (t := u) (by omega)) ?_ ?_ ?_); (focus exact rfl); (focus exact fun _ => rfl)) | ((with_reducible refine useN (getR_c (t := u) (by omega)) ?_ ?_ ?_); (focus exact rfl); (focus exact fun _ => rfl)) | ((with_reducible refine useN (putRn_c (t := u) (by omega) (by omega) hup) ?_ ?_ ?_); (focus exact rfl); (focus exact fun _ => rfl)) | ((with_reducible refine useN (hnc) ?_ ?_ ?_); (focus exact rfl); (focus exact fun _ => rfl)) | ((with_reducible refine useN (putR_c (t := u) (by omega) (by omega) hup (by omega)) ?_ ?_ ?_); (focus exact rfl); (focus exact fun _ => rfl)) | with_reducible refine vcond_split (fun _ => ?_) (fun _ => ?_) | with_reducible refine vg_split (fun _ => ?_) (fun _ => ?_) | ((with_reducible refine And.intro ?_ ?_); (focus (omega))))
        all_goals rename_i hb
        all_goals first
          | (refine qr_n (k + 1, u) ⟨?_, hu⟩ ?_ (weak_mk rfl rfl rfl ?_) <;> first | omega | (simp only; omega; done) | exact hgt _ | exact bitsF_lt (timeF_lt hxx) | (simp [wk_cons, wk_nil, look_cons, closedD, closedC, ]; done))
          | (refine qr_n (k + 1, _) ⟨?_, hu.put ?_ (eq_of_beq hb)⟩ ?_ (weak_mk rfl rfl rfl ?_) <;> first | omega | (simp only; omega; done) | exact hgt _ | exact bitsF_lt (timeF_lt hxx) | (simp [wk_cons, wk_nil, look_cons, closedD, closedC, ]; done))
          | (refine qr_n (i + 1, u) ⟨?_, hu⟩ ?_ (weak_mk rfl rfl rfl ?_) <;> first | omega | (simp only; omega; done) | exact hgt _ | exact bitsF_lt (timeF_lt hxx) | (simp [wk_cons, wk_nil, look_cons, closedD, closedC, ]; done))
          | (refine qr_n (i + 1, _) ⟨?_, hu.put ?_ (eq_of_beq hb)⟩ ?_ (weak_mk rfl rfl rfl ?_) <;> first | omega | (simp only; omega; done) | exact hgt _ | exact bitsF_lt (timeF_lt hxx) | (simp [wk_cons, wk_nil, look_cons, closedD, closedC, ]; done))
      · have h2 : decide ((k : Int) < (p.length : Int)) = false := decide_eq_false (by omega)
        repeat' (first | simp only [*, go_sem, Nat.reduceLT, Nat.reduceLeDiff, Nat.reduceEqDiff, ↓reduceIte, Nat.reduceAdd, ] | ((with_reducible refine useN (hnc) ?_ ?_ ?_); (focus exact rfl); (focus exact fun _ => rfl)) | ((with_reducible refine useN (getR_c (t := u) (by omega)) ?_ ?_ ?_); (focus exact rfl); (focus exact fun _ => rfl)) | ((with_reducible refine useN (putR_c (t := u) (by omega) (by omega) hup (by omega)) ?_ ?_ ?_); (focus exact rfl); (focus exact fun _ => rfl)) | with_reducible refine vcond_split (fun _ => ?_) (fun _ => ?_) | with_reducible refine vg_split (fun _ => ?_) (fun _ => ?_) | ((with_reducible refine And.intro ?_ ?_); (focus (omega))))
        all_goals rename_i hb
        all_goals first
          | (refine qr_n (i + 1, u) ⟨?_, hu⟩ ?_ (weak_mk rfl rfl rfl ?_) <;> first | omega | (simp only; omega; done) | exact hgt _ | exact bitsF_lt (timeF_lt hxx) | (simp [wk_cons, wk_nil, look_cons, closedD, closedC, ]; done))
          | (refine qr_n (i + 1, _) ⟨?_, hu.put ?_ (eq_of_beq hb)⟩ ?_ (weak_mk rfl rfl rfl ?_) <;> first | omega | (simp only; omega; done) | exact hgt _ | exact bitsF_lt (timeF_lt hxx) | (simp [wk_cons, wk_nil, look_cons, closedD, closedC, ]; done))
    · exact ⟨t, ht, rfl⟩
  · have h1 : decide ((i : Int) < (l.length : Int)) = false := decide_eq_false (by omega)
    repeat' (simp only [*, go_sem, Nat.reduceLT, Nat.reduceEqDiff, ↓reduceIte, ])
    exact ⟨t, ht, rfl⟩

end Go.Proofs.YtnbgaphhhjnjlaaGreatDoor

end

section
/-
  The contract of the function that turns a tree.
-/

set_option linter.unusedSimpArgs false
set_option linter.unusedVariables false
namespace Go.Proofs.YtnbgaphhhjnjlaaGreatDoor
open Go Go.Dm
set_option maxRecDepth 100000
set_option maxHeartbeats 4000000

end Go.Proofs.YtnbgaphhhjnjlaaGreatDoor

end
