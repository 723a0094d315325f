import Derived.Test.YtjpmajeekikdhaaGreatDoorD6
import Derived.Test.YtjpmajeekikdhaaGreatDoorG0
import Derived.Test.YtjpmajeekikdhaaGreatDoorLA
import Derived.Test.YtjpmajeekikdhaaGreatDoorVE

section
/-
  Contracts of the document's layers: which are right, a layer over a tree, layers folded.
-/

set_option linter.unusedSimpArgs false
set_option linter.unusedVariables false
namespace Go.Proofs.YtjpmajeekikdhaaGreatDoor
open Go Go.Dm
set_option maxRecDepth 100000
set_option maxHeartbeats 8000000

theorem sameNode00_c {k m : Int} {t : Nat} {d : List UInt8} : DCalls Tryz.prog 27 [.agg (ndc k m t d), .agg [.p (.i .i64 0), .p (.i .i64 0), .p (.f 0), .p .nil]] [] fun r h => r = .c (.p (.b (sameNd ⟨k, m, t, d⟩ nd0))) ∧ h = [] := by
  refine ent tabOK hmix Tryz.func27 rfl rfl fun X0 hX => ?_
  simp only [Tryz.f27, go_sem]
  repeat' (first | simp only [*, go_sem, Nat.reduceLT, Nat.reduceEqDiff, ↓reduceIte, ] | ((with_reducible refine useF (ref1Same_c _ _) ?_ ?_ ?_); (focus exact rfl); (focus exact rfl)) | with_reducible refine vg_split (fun _ => ?_) (fun _ => ?_))
  all_goals (simp_all [sameNd, nd0]; done)

theorem zero_same {n : Nd} (h : zeroN n = true) : sameNd n nd0 = true := by
  obtain ⟨k, m, t, d⟩ := n
  simp only [zeroN, Bool.and_eq_true, beq_iff_eq, List.length_eq_zero_iff] at h
  obtain ⟨⟨⟨rfl, rfl⟩, rfl⟩, rfl⟩ := h
  exact sameNd_refl _

theorem refRightE_c {l : List En} (h : OkE l) : DCalls Tryz.prog 13 [.c (.p (.sl 7 (encE l)))] [] fun r h => r = .c (.p (.b true)) ∧ h = [] := by
  have hll := h.len
  refine entS tabOK Tryz.func13 rfl rfl fun X0 hX => ?_
  simp only [Tryz.f13, go_sem]
  refine swp_first tabOK hmix ?_
  repeat' (simp only [*, go_sem, Nat.reduceLT, ])
  refine swp_first tabOK hmix ?_
  repeat' (simp only [*, go_sem, Nat.reduceLT, ])
  refine loop_renS (α := Nat) (fun k => ⟨99, [(0, .c (.p (.sl 7 (encE l)))), (3, .c (.p (.i .i64 k)))], []⟩)
    (fun k => k ≤ l.length) (fun k => l.length - k) 0 (Nat.zero_le _) (.inl (weak_mk (by rw [hX]; rfl) rfl rfl (by simp [wk_cons, wk_nil, look_cons, closedD, closedC, ]))) ?_
  intro k hk
  by_cases hlt : k < l.length
  · have hx : l[k]? = some l[k] := List.getElem?_eq_getElem hlt
    have hg := encE_at hx
    have h1 : decide ((k : Int) < (l.length : Int)) = true := decide_eq_true (by omega)
    have w1 : IntKind.i64.wrap ((k : Int) + 1) = k + 1 := wrap_i64 (by omega) (by omega)
    have hk0 : (0 : Int) ≤ k := by omega
    have hkl : (k : Int) < l.length := by omega
    have prev : k = 0 ∨ ∃ m : Nat, ∃ y : En, decide ((0 : Int) < k) = true ∧ IntKind.i64.wrap ((k : Int) - 1) = (m : Int) ∧ m < l.length ∧ l[m]? = some y ∧ (bltL l[k].p y.p || l[k].p == y.p) = false := by
      by_cases h0 : 0 < k
      · have hmk : k - 1 < l.length := by omega
        have h3 := List.pairwise_iff_getElem.1 h.srt (k - 1) k hmk hlt (by omega)
        refine .inr ⟨k - 1, l[k - 1], decide_eq_true (by omega), ?_, hmk, List.getElem?_eq_getElem hmk, ?_⟩
        · rw [wrap_i64 (by omega) (by omega)]; omega
        · rw [blt_asymm h3]
          cases he : (l[k].p == l[k - 1].p)
          · rfl
          · rw [eq_of_beq he, blt_irrefl] at h3; cases h3
      · exact .inl (by omega)
    have hmx := h.may _ (List.getElem_mem hlt)
    have p1 := h.plen _ (List.getElem_mem hlt)
    have p2 := h.dlen _ (List.getElem_mem hlt)
    have hop : ∀ j y, l[j]? = some y → j < k → (shutE y && belowR y.p l[k].p) = false := fun j y hy hj => by
      obtain ⟨hj2, rfl⟩ := List.getElem?_eq_some_iff.1 hy
      exact List.pairwise_iff_getElem.1 h.open_ j k hj2 hlt hj
    have hpl := h.plen
    generalize l[k] = x at hx hg prev hmx p1 p2 hop
    have hip := isPathR_c (p := x.p) (by omega)
    have hrn := rightNodeR_c (k := x.n.k) (m := x.n.m) (t := x.n.t) (d := x.n.d) (by omega)
    have hs0 := sameNode00_c (k := x.n.k) (m := x.n.m) (t := x.n.t) (d := x.n.d)
    simp only [mayE, Bool.and_eq_true, Bool.not_eq_true'] at hmx
    obtain ⟨m1, m2, m3⟩ := hmx
    rw [m2] at hip
    clear h hx
    refine swp_first tabOK hmix ?_
    repeat' (simp only [*, go_sem, Nat.reduceLT, Nat.reduceEqDiff, ↓reduceIte, ])
    refine swp_seq_block ?_
    refine swp_first tabOK hmix ?_
    repeat' (simp only [*, go_sem, Nat.reduceLT, Nat.reduceLeDiff, Nat.reduceEqDiff, ↓reduceIte, Nat.reduceAdd, ])
    refine swp_join tabOK hmix (α := Unit) (fun _ => ⟨99, [(0, .c (.p (.sl 7 (encE l)))), (3, .c (.p (.i .i64 k))), (4, .c (.ptr 0 0))], [.box [.p (.s x.p), .p (.i .i64 x.k), .p (.b x.o), .p (.i .i64 x.n.k), .p (.i .i64 x.n.m), .p (.f x.n.t), .p (.sl 1 (encB x.n.d))]]⟩) (fun _ => True) ?_ ?_
    · clear hop hpl m3
      rcases prev with h0 | ⟨m, y, b1, b2, b3, b4, b5⟩
      · have b1 : decide ((0 : Int) < (k : Int)) = false := decide_eq_false (by omega)
        clear h0
        repeat' (first | simp only [*, go_sem, ↓reduceIte, ] | ((refine vc_drawn (id := 5) tabOK hmix [] [0,1,2,3,4,5,6,7,8,9,10,11,12,13,14,15,16,17,18,19,20,21,22,23] (by decide +kernel) ?_); (repeat' (first | (refine ds_nil ?_) | ((refine ds_one ?_ rfl rfl ?_ ?_); (rotate_left 1); (focus ((repeat' (first | simp only [*, go_sem, Nat.reduceLT, Nat.reduceEqDiff, ↓reduceIte, Bool.not_true] | ((with_reducible refine useF (hip) ?_ ?_ ?_); (focus exact rfl); (focus exact rfl)))); exact rfl)); (simp only [putF_some]))))))
        exact qj_n () trivial (weak_mk (by rw [hX]; rfl) rfl rfl (by simp [wk_cons, wk_nil, look_cons, closedD, closedC, ]))
      · have hgy := encE_at b4
        have b6 : (m : Int) < l.length := by omega
        repeat' (first | simp only [*, go_sem, ↓reduceIte, ] | ((refine vc_drawn (id := 5) tabOK hmix [] [0,1,2,3,4,5,6,7,8,9,10,11,12,13,14,15,16,17,18,19,20,21,22,23] (by decide +kernel) ?_); (repeat' (first | (refine ds_nil ?_) | ((refine ds_one ?_ rfl rfl ?_ ?_); (rotate_left 1); (focus ((repeat' (first | simp only [*, go_sem, Nat.reduceLT, Nat.reduceEqDiff, ↓reduceIte, Bool.not_true] | ((with_reducible refine useF (hip) ?_ ?_ ?_); (focus exact rfl); (focus exact rfl)) | ((with_reducible refine And.intro ?_ ?_); (focus (omega))))); exact rfl)); (simp only [putF_some]))))))
        exact qj_n () trivial (weak_mk (by rw [hX]; rfl) rfl rfl (by simp [wk_cons, wk_nil, look_cons, closedD, closedC, ]))
    rintro - -
    refine swp_join tabOK hmix (α := Unit) (fun _ => ⟨99, [(0, .c (.p (.sl 7 (encE l)))), (3, .c (.p (.i .i64 k))), (4, .c (.ptr 0 0))], [.box [.p (.s x.p), .p (.i .i64 x.k), .p (.b x.o), .p (.i .i64 x.n.k), .p (.i .i64 x.n.m), .p (.f x.n.t), .p (.sl 1 (encB x.n.d))]]⟩) (fun _ => True) ?_ ?_
    · clear hop hpl prev
      by_cases c4 : (x.k == 2) = true
      · rw [if_pos c4] at m3
        simp only [Bool.and_eq_true, Bool.not_eq_true'] at m3
        obtain ⟨n1, n2⟩ := m3
        rw [show (⟨x.n.k, x.n.m, x.n.t, x.n.d⟩ : Nd) = x.n from rfl, zero_same n2] at hs0
        have c5 : (x.k == 1) = false := by rw [eq_of_beq c4]; rfl
        repeat' (first | simp only [*, go_sem, Nat.reduceLT, Nat.reduceLeDiff, Nat.reduceEqDiff, ↓reduceIte, Nat.reduceAdd, Bool.not_true] | ((with_reducible refine useF (hs0) ?_ ?_ ?_); (focus exact rfl); (focus exact rfl)))
        exact qj_n () trivial (weak_mk (by rw [hX]; rfl) rfl rfl (by simp [wk_cons, wk_nil, look_cons, closedD, closedC, ]))
      · rw [if_neg c4] at m3
        simp only [Bool.and_eq_true] at m3
        obtain ⟨⟨n0, n1⟩, n2⟩ := m3
        rw [show (⟨x.n.k, x.n.m, x.n.t, x.n.d⟩ : Nd) = x.n from rfl, n1] at hrn
        have n3 : x.o = true → (x.n.k == 2) = true := fun ho => by simpa [ho] using n2
        cases ho : x.o
        · repeat' (first | simp only [*, go_sem, Nat.reduceLT, Nat.reduceLeDiff, Nat.reduceEqDiff, ↓reduceIte, Nat.reduceAdd, Bool.not_true] | ((with_reducible refine useF (hrn) ?_ ?_ ?_); (focus exact rfl); (focus exact rfl)))
          exact qj_n () trivial (weak_mk (by rw [hX]; rfl) rfl rfl (by simp [wk_cons, wk_nil, look_cons, closedD, closedC, ]))
        · have n4 := n3 ho
          have n5 : (x.n.k != 2) = false := by rw [bne, n4]; rfl
          clear n3 n2
          repeat' (first | simp only [*, go_sem, Nat.reduceLT, Nat.reduceLeDiff, Nat.reduceEqDiff, ↓reduceIte, Nat.reduceAdd, Bool.not_true] | ((with_reducible refine useF (hrn) ?_ ?_ ?_); (focus exact rfl); (focus exact rfl)))
          exact qj_n () trivial (weak_mk (by rw [hX]; rfl) rfl rfl (by simp [wk_cons, wk_nil, look_cons, closedD, closedC, ]))
    rintro - -
    clear prev hip hrn hs0 m1 m2 m3
    refine swp_first tabOK hmix ?_
    repeat' (simp only [*, go_sem, Nat.reduceLT, ])
    refine swp_vc tabOK hmix ?_
    repeat' (simp only [*, go_sem, ])
    refine loop_ren tabOK hmix (α := Nat) (fun j => ⟨99, [(0, .c (.p (.sl 7 (encE l)))), (3, .c (.p (.i .i64 k))), (4, .c (.ptr 0 0)), (5, .c (.p (.i .i64 j)))], [.box [.p (.s x.p), .p (.i .i64 x.k), .p (.b x.o), .p (.i .i64 x.n.k), .p (.i .i64 x.n.m), .p (.f x.n.t), .p (.sl 1 (encB x.n.d))]]⟩)
      (fun j => j ≤ k) (fun j => k - j) 0 (Nat.zero_le _) (.inl (weak_mk (by rw [hX]; rfl) rfl rfl (by simp [wk_cons, wk_nil, look_cons, closedD, closedC, ]))) ?_
    intro j hj
    by_cases hjk : j < k
    · have hjl : j < l.length := by omega
      have hz : l[j]? = some l[j] := List.getElem?_eq_getElem hjl
      have hgz := encE_at hz
      have hoz := hop j l[j] hz hjk
      have hzp := hpl _ (List.getElem_mem hjl)
      have h2 : decide ((j : Int) < (k : Int)) = true := decide_eq_true (by omega)
      have w2 : IntKind.i64.wrap ((j : Int) + 1) = j + 1 := wrap_i64 (by omega) (by omega)
      have hjl2 : (j : Int) < (l.length : Int) := by omega
      have hj0 : (0 : Int) ≤ j := by omega
      generalize l[j] = z at hz hgz hoz hzp
      have hbl := belowR_c (p := z.p) (q := x.p) (by omega) (by omega)
      clear hop hpl hz
      cases hb : belowR z.p x.p
      · rw [hb] at hbl
        clear hoz
        repeat' (first | simp only [*, go_sem, Nat.reduceLT, Nat.reduceEqDiff, ↓reduceIte, ] | ((refine vc_drawn (id := 18) tabOK hmix [] [0,1,2,3,4,5,6,7,8,9,10,11,12,13,14,15,16,17,18,19,20,21,22,23,24] (by decide +kernel) ?_); (repeat' (first | (refine ds_nil ?_) | ((refine ds_one ?_ rfl rfl ?_ ?_); (rotate_left 1); (focus ((repeat' (first | simp only [*, go_sem, Nat.reduceLT, Nat.reduceEqDiff, ↓reduceIte, ] | ((with_reducible refine useF (hbl) ?_ ?_ ?_); (focus exact rfl); (focus exact rfl)))); exact rfl)); (simp only [putF_some]))))))
        exact qr_n (j + 1) (by omega) (by omega) (weak_mk rfl rfl rfl (by simp [wk_cons, wk_nil, look_cons, closedD, closedC, ]))
      · rw [hb] at hbl hoz
        rw [Bool.and_true] at hoz
        simp only [shutE, Bool.or_eq_false_iff] at hoz
        obtain ⟨z1, z2⟩ := hoz
        have z3 : (z.n.k == 2) = true := by rw [bne, Bool.not_eq_false'] at z2; exact z2
        repeat' (first | simp only [*, go_sem, Nat.reduceLT, Nat.reduceEqDiff, ↓reduceIte, ] | ((refine vc_drawn (id := 18) tabOK hmix [] [0,1,2,3,4,5,6,7,8,9,10,11,12,13,14,15,16,17,18,19,20,21,22,23,24] (by decide +kernel) ?_); (repeat' (first | (refine ds_nil ?_) | ((refine ds_one ?_ rfl rfl ?_ ?_); (rotate_left 1); (focus ((repeat' (first | simp only [*, go_sem, Nat.reduceLT, Nat.reduceEqDiff, ↓reduceIte, ] | ((with_reducible refine useF (hbl) ?_ ?_ ?_); (focus exact rfl); (focus exact rfl)))); exact rfl)); (simp only [putF_some]))))))
        exact qr_n (j + 1) (by omega) (by omega) (weak_mk rfl rfl rfl (by simp [wk_cons, wk_nil, look_cons, closedD, closedC, ]))
    · have h2 : decide ((j : Int) < (k : Int)) = false := decide_eq_false (by omega)
      clear hop hpl
      repeat' (simp only [*, go_sem, Nat.reduceLT, Nat.reduceEqDiff, ↓reduceIte, ])
      refine swp_vc tabOK hmix ?_
      repeat' (simp only [*, go_sem, Nat.reduceLT, Nat.reduceEqDiff, ↓reduceIte, ])
      exact qr_n (k + 1) (by omega) (by omega) (weak_mk rfl rfl rfl (by simp [wk_cons, wk_nil, look_cons, closedD, closedC, ]))
  · have h1 : decide ((k : Int) < (l.length : Int)) = false := decide_eq_false (by omega)
    refine swp_vc tabOK hmix ?_
    repeat' (simp only [*, go_sem, Nat.reduceLT, Nat.reduceEqDiff, ↓reduceIte, ])
    refine swp_vc tabOK hmix ?_
    repeat' (simp only [*, go_sem, Nat.reduceLT, ↓reduceIte, ])
end Go.Proofs.YtjpmajeekikdhaaGreatDoor

end

section
/-
  Contracts of the document's layers: a layer over a tree, layers folded.
-/

set_option linter.unusedSimpArgs false
set_option linter.unusedVariables false
namespace Go.Proofs.YtjpmajeekikdhaaGreatDoor
open Go Go.Dm
set_option maxRecDepth 100000
set_option maxHeartbeats 8000000

theorem overR_len {t : List It} {l : List En} (ht : OkT t) (h : OkE l) (k : Nat) : ((l.take k).foldl refOver1 t).length ≤ 1120 := by
  rw [refOvers_eq ht.srt]
  have h1 := overs_len t (l.take k) k
  rw [List.take_take, Nat.min_self] at h1
  have h2 := ht.len
  have h3 := h.len
  rcases Nat.le_total k l.length with hk | hk
  · omega
  · have h1 := overs_len t l l.length
    rw [List.take_length] at h1
    rw [List.take_of_length_le hk]
    omega

theorem overR_mem {t : List It} {l : List En} (ht : OkT t) (h : OkE l) (k : Nat) : ∀ y ∈ (l.take k).foldl refOver1 t, y.p.length ≤ 120 ∧ y.n.d.length ≤ 2000 ∧ y.n.t < 18446744073709551616 := by
  rw [refOvers_eq ht.srt]
  intro y hy
  rcases overs_mem hy with hy | ⟨x, hx, rfl⟩
  · exact ⟨ht.plen y hy, ht.dlen y hy, ht.tlen y hy⟩
  · have hx := List.mem_of_mem_take hx
    exact ⟨h.plen x hx, h.dlen x hx, h.tlen x hx⟩

theorem refOver_c {t : List It} {l : List En} (ht : OkT t) (h : OkE l) :
    DCalls Tryz.prog 8 [.c (.p (.sl 5 (encT t))), .c (.p (.sl 7 (encE l)))] [] fun r h => r = .tup [.c (.p (.sl 5 (encT (overF t l).1))), .c (.p (.b (overF t l).2))] ∧ h = [] := by
  have hR := refRightE_c h
  have hll := h.len
  have hul := overR_len ht h
  have hum := overR_mem ht h
  have hfin := refOvers_eq (l := l) ht.srt
  refine dcalls_wk ?_
  refine ent tabOK hmix Tryz.func8 rfl rfl fun X0 hX => ?_
  simp only [Tryz.f8, go_sem]
  repeat' (first | simp only [*, go_sem, Nat.reduceLT, Nat.reduceEqDiff, ↓reduceIte, Bool.not_true] | ((with_reducible refine useF (hR) ?_ ?_ ?_); (focus exact rfl); (focus exact rfl)))
  refine loop_ren tabOK hmix (α := Nat) (fun k => ⟨57, [(1, .c (.p (.sl 7 (encE l)))), (6, .c (.p (.i .i64 k))), (0, .c (.p (.sl 5 (encT ((l.take k).foldl refOver1 t)))))], []⟩)
    (fun k => k ≤ l.length) (fun k => l.length - k) 0 (Nat.zero_le _) (.inl (weak_mk (by rw [hX]; rfl) rfl rfl (by simp [wk_cons, wk_nil, look_cons, closedD, closedC, ]))) ?_
  intro k hk
  by_cases hlt : k < l.length
  · have hx : l[k]? = some l[k] := List.getElem?_eq_getElem hlt
    have hg := encE_at hx
    have h1 : decide ((k : Int) < (l.length : Int)) = true := decide_eq_true (by omega)
    have w1 : IntKind.i64.wrap ((k : Int) + 1) = k + 1 := wrap_i64 (by omega) (by omega)
    have hnx : (l.take (k + 1)).foldl refOver1 t = refOver1 ((l.take k).foldl refOver1 t) l[k] := by
      rw [List.take_add_one, hx, List.foldl_append]; rfl
    have p1 := h.plen _ (List.getElem_mem hlt)
    have hul1 := hul k
    have hum1 := hum k
    generalize l[k] = x at hx hg hnx p1
    generalize (l.take k).foldl refOver1 t = u at hul1 hum1 hnx
    have hup : ∀ y ∈ u, y.p.length ≤ 9223372036854775807 := fun y hy => Nat.le_trans (hum1 y hy).1 (by decide)
    have hnb : (noneBelow u x.p).length ≤ u.length := List.length_filter_le ..
    have hdi := isDirR_c (t := u) (p := x.p) (by omega)
    have hN := PLift.up hnx
    clear hul hum hum1 hnx hfin hR ht h hx
    by_cases c4 : (x.k == 2) = true
    · have ho : refOver1 u x = removeR u x.p := by unfold refOver1; rw [if_pos c4]
      repeat' (first | simp only [*, go_sem, Nat.reduceLT, Nat.reduceLeDiff, Nat.reduceEqDiff, ↓reduceIte, Nat.reduceAdd, ] | ((with_reducible refine useN (removeR_c (t := u) (p := x.p) (by omega) (by omega) hup) ?_ ?_ ?_); (focus exact rfl); (focus exact fun _ => rfl)) | ((with_reducible refine And.intro ?_ ?_); (focus (omega))))
      exact qr_n (k + 1) (by omega) (by omega) (weak_mk rfl rfl rfl (by simp [wk_cons, wk_nil, look_cons, closedD, closedC, hN.down, ho]))
    · have c4 : (x.k == 2) = false := by simpa using c4
      have ho : refOver1 u x = setR (if x.o || (x.n.k != 2 || !isDirR u x.p) then noneBelow u x.p else u) x.p x.n := by unfold refOver1; rw [if_neg (by rw [c4]; decide)]
      have e1 := setR_c (t := u) (p := x.p) (k := x.n.k) (m := x.n.m) (tt := x.n.t) (d := x.n.d) (by omega)
      have e2 := setR_c (t := noneBelow u x.p) (p := x.p) (k := x.n.k) (m := x.n.m) (tt := x.n.t) (d := x.n.d) (by omega)
      cases c1 : x.o <;> cases c2 : (x.n.k != 2) <;> cases c3 : isDirR u x.p
      all_goals rw [c3] at hdi
      all_goals rw [c1, c2, c3] at ho
      all_goals simp only [Bool.not_true, Bool.not_false, Bool.or_true, Bool.or_false, if_true, Bool.false_eq_true, if_false] at ho
      all_goals repeat' (first | simp only [*, go_sem, Nat.reduceLT, Nat.reduceLeDiff, Nat.reduceEqDiff, ↓reduceIte, Nat.reduceAdd, Bool.not_true, Bool.not_false] | ((with_reducible refine useF (hdi) ?_ ?_ ?_); (focus exact rfl); (focus exact rfl)) | ((with_reducible refine useN (noneBelow_c (t := u) (p := x.p) (by omega) (by omega) hup) ?_ ?_ ?_); (focus exact rfl); (focus exact fun _ => rfl)) | ((with_reducible refine useN (e1) ?_ ?_ ?_); (focus exact rfl); (focus exact fun _ => rfl)) | ((with_reducible refine useN (e2) ?_ ?_ ?_); (focus exact rfl); (focus exact fun _ => rfl)) | ((with_reducible refine And.intro ?_ ?_); (focus (omega))))
      all_goals exact qr_n (k + 1) (by omega) (by omega) (weak_mk rfl rfl rfl (by simp [wk_cons, wk_nil, look_cons, closedD, closedC, hN.down, ho]))
  · have h1 : decide ((k : Int) < (l.length : Int)) = false := decide_eq_false (by omega)
    have hk2 : k = l.length := by omega
    subst hk2
    have hul1 := hul l.length
    have hum1 := hum l.length
    rw [List.take_length, hfin] at hul1 hum1 ⊢
    clear hul hum hfin hR
    have hro := refRight_c (t := overs t l) (by omega) (fun y hy => Nat.le_trans (hum1 y hy).1 (by decide)) (fun y hy => Nat.le_trans (hum1 y hy).2.1 (by decide))
    rw [← rightT_ref fun y hy => (hum1 y hy).2.2] at hro
    unfold overF
    clear hum1
    generalize overs t l = u at *
    cases c1 : rightT u
    · rw [c1] at hro
      repeat' (first | simp only [*, go_sem, Nat.reduceLT, Nat.reduceEqDiff, ↓reduceIte, Bool.not_false] | ((with_reducible refine useF (hro) ?_ ?_ ?_); (focus exact rfl); (focus exact rfl)))
      all_goals exact .inr ⟨_, rfl⟩
    · rw [c1] at hro
      repeat' (first | simp only [*, go_sem, Nat.reduceLT, Nat.reduceEqDiff, ↓reduceIte, Bool.not_true] | ((with_reducible refine useF (hro) ?_ ?_ ?_); (focus exact rfl); (focus exact rfl)))
end Go.Proofs.YtjpmajeekikdhaaGreatDoor

end
