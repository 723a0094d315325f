import Derived.Test.YtjpmajeekikdhaaGreatDoorN25
import Derived.Test.YtjpmajeekikdhaaGreatDoorN8
import Derived.Test.YtjpmajeekikdhaaGreatDoorLA
import Derived.Test.YtjpmajeekikdhaaGreatDoorVB
import Derived.Test.YtjpmajeekikdhaaGreatDoorN14
import Derived.Test.YtjpmajeekikdhaaGreatDoorD8
import Derived.Test.YtjpmajeekikdhaaGreatDoorG5

section
/-
  Contracts: layers that are the same, copies of layers, chapter 12's example.
-/

set_option linter.unusedSimpArgs false
set_option linter.unusedVariables false
namespace Go.Proofs.YtjpmajeekikdhaaGreatDoor
open Go Go.Dm Go.Proofs
set_option maxRecDepth 100000
set_option maxHeartbeats 8000000

theorem sameLayer_c {a : List En} (ha : a.length ≤ 1000000) : DCalls Tryz.prog 19 [.c (.p (.sl 7 (encE a))), .c (.p (.sl 7 (encE a)))] [] fun r h => r = .c (.p (.b true)) ∧ h = [] := by
  refine ent tabOK hmix Tryz.func19 rfl rfl fun X0 hX => ?_
  simp only [Tryz.f19, go_sem]
  repeat' (simp only [*, go_sem, Nat.reduceLT, Nat.reduceEqDiff, ↓reduceIte, bne_self_eq_false])
  refine loop_ren tabOK hmix (α := Nat) (fun k => ⟨68, [(0, .c (.p (.sl 7 (encE a)))), (1, .c (.p (.sl 7 (encE a)))), (5, .c (.p (.i .i64 k)))], []⟩)
    (fun k => k ≤ a.length) (fun k => a.length - k) 0 (Nat.zero_le _) (.inl (weak_mk (by rw [hX]; rfl) rfl rfl (by simp [wk_cons, wk_nil, look_cons, closedD, closedC, ]))) ?_
  intro k hk
  by_cases hlt : k < a.length
  · have hx : a[k]? = some a[k] := List.getElem?_eq_getElem hlt
    have hg := encE_at hx
    have h1 : decide ((k : Int) < (a.length : Int)) = true := decide_eq_true (by omega)
    have hli : (k : Int) < (a.length : Int) := by omega
    have hk0 : (0 : Int) ≤ k := by omega
    have w1 : IntKind.i64.wrap ((k : Int) + 1) = k + 1 := wrap_i64 (by omega) (by omega)
    generalize a[k] = x at hx hg
    clear hx
    obtain ⟨xp, xk, xo, ⟨nk, nm, nt, nd⟩⟩ := x
    have hsn := sameNode_c (k := nk) (m := nm) (t := nt) (d := nd) (k' := nk) (m' := nm) (t' := nt) (d' := nd)
    rw [sameNd_refl] at hsn
    unfold ndc at hsn
    simp only at hg
    cases xo
    all_goals repeat' (first | simp only [*, go_sem, Nat.reduceLT, Nat.reduceEqDiff, ↓reduceIte, ] | ((refine vc_drawn (id := 6) tabOK hmix [] [0,1,2,3,4,5,6,7,8,9,10,11,12,13,14,15,16,17,18,19,20,21,22,23,24,25,26,27,28,29,30,31,32,33,34,35,36,37,38,39,40,41,42,43,44,45,46,47,48,49,50] (by decide +kernel) ?_); (repeat' (first | (refine ds_nil ?_) | ((refine ds_one ?_ rfl rfl ?_ ?_); (rotate_left 1); (focus ((repeat' (first | simp only [*, go_sem, Nat.reduceLT, Nat.reduceLeDiff, Nat.reduceEqDiff, ↓reduceIte, Nat.reduceAdd, beq_self_eq_true, bne_self_eq_false, Bool.not_true, ] | ((with_reducible refine useF (hsn) ?_ ?_ ?_); (focus exact rfl); (focus exact rfl)))); exact rfl)); (simp only [putF_some]))))))
    all_goals exact qr_n (k + 1) (by omega) (by omega) (weak_mk rfl rfl rfl (by simp [wk_cons, wk_nil, look_cons, closedD, closedC, ]))
  · have h1 : decide ((k : Int) < (a.length : Int)) = false := decide_eq_false (by omega)
    repeat' (simp only [*, go_sem, Nat.reduceLT, Nat.reduceEqDiff, ↓reduceIte, ])

theorem d12_c {p : List UInt8} : DCalls Tryz.prog 68 [.c (.p (.s p))] [] fun r h => r = .agg [.p (.s p), .p (.i .i64 2), .p (.i .i64 493), .p (.f 0), .p .nil] ∧ h = [] := by
  refine ent tabOK hmix Tryz.func68 rfl rfl fun X0 hX => ?_
  simp only [Tryz.f68, go_sem]
  repeat' (simp only [*, go_sem, Nat.reduceLT, Nat.reduceLeDiff, Nat.reduceEqDiff, ↓reduceIte, Nat.reduceAdd, ])

def it12 (p : List UInt8) : It := ⟨p, ⟨2, 493, 0, []⟩⟩

def row12 (p : List UInt8) : List PV := [.s p, .i .i64 2, .i .i64 493, .f 0, .nil]

theorem row12_wk (p : List UInt8) : wkPs (row12 p) (it12 p).cs := ⟨.inl rfl, .inl rfl, .inl rfl, .inl rfl, .inr ⟨rfl, 1, rfl⟩, True.intro⟩

def t12 : List It := [it12 [100], it12 [100, 47, 97], it12 [100, 47, 98]]

def w12 : List It := [it12 [100]]

theorem t12_ok : OkT t12 := ⟨⟨by decide +kernel, by
  intro x hx
  simp only [t12, List.mem_cons, List.not_mem_nil, or_false] at hx
  rcases hx with rfl | rfl | rfl <;> exact ⟨by decide, by decide +kernel, by decide +kernel, by decide⟩, by decide⟩, by
  intro x hx
  simp only [t12, List.mem_cons, List.not_mem_nil, or_false] at hx
  rcases hx with rfl | rfl | rfl <;> decide +kernel⟩

theorem w12_ok : OkT w12 := ⟨⟨by decide +kernel, by
  intro x hx
  simp only [w12, List.mem_cons, List.not_mem_nil, or_false] at hx
  rcases hx with rfl <;> exact ⟨by decide, by decide +kernel, by decide +kernel, by decide⟩, by decide⟩, by
  intro x hx
  simp only [w12, List.mem_cons, List.not_mem_nil, or_false] at hx
  rcases hx with rfl <;> decide +kernel⟩

theorem make12 : makeF t12 w12 = [⟨[100], 1, true, ⟨2, 493, 0, []⟩⟩] := by
  unfold makeF opqM opqB
  simp only [namesF_len]
  kernel_rfl

theorem known12_c : DCalls Tryz.prog 18 [] [] fun r h => r = .c (.p (.b true)) ∧ h = [] := by
  have q1 : wkRows [row12 [100], row12 [100, 47, 97], row12 [100, 47, 98]] (encT t12) := ⟨row12_wk _, row12_wk _, row12_wk _, True.intro⟩
  have q2 : wkRows [row12 [100]] (encT w12) := ⟨row12_wk _, True.intro⟩
  have a1 := DCalls.wkR2 q1 q2 (layerMake_c t12_ok w12_ok)
  clear q1 q2
  have a2 := layerRight_c (make_ok t12_ok w12_ok)
  rw [make12] at a1 a2
  unfold row12 at a1
  have hg := encE_at (t := [⟨[100], 1, true, ⟨2, 493, 0, []⟩⟩]) (k := 0) rfl
  have hl : (([⟨[100], 1, true, ⟨2, 493, 0, []⟩⟩] : List En).length : Int) = 1 := rfl
  generalize ([⟨[100], 1, true, ⟨2, 493, 0, []⟩⟩] : List En) = m at a1 a2 hg hl
  refine ent tabOK hmix Tryz.func18 rfl rfl fun X0 hX => ?_
  simp only [Tryz.f18, go_sem]
  repeat' (first | simp only [*, go_sem, Nat.reduceLT, Nat.reduceLeDiff, Nat.reduceEqDiff, ↓reduceIte, Nat.reduceAdd, Nat.reduceMul, Int.reduceLT, Int.reduceLE, Int.reduceToNat, beq_self_eq_true, ] | ((with_reducible refine useF (d12_c) ?_ ?_ ?_); (focus exact rfl); (focus exact rfl)) | ((with_reducible refine useN (a1) ?_ ?_ ?_); (focus exact rfl); (focus exact fun _ => rfl)) | ((with_reducible refine useF (a2) ?_ ?_ ?_); (focus exact rfl); (focus exact rfl)) | ((with_reducible apply DCalls.frz); (focus exact rfl); (focus exact rfl)) | ((with_reducible refine And.intro ?_ ?_); (focus (decide))))
end Go.Proofs.YtjpmajeekikdhaaGreatDoor

end

section
/-
  Chapter 12's laws: what is made of two trees is what the document makes; a layer over a layer.
-/

set_option linter.unusedSimpArgs false
set_option linter.unusedVariables false
namespace Go.Proofs.YtjpmajeekikdhaaGreatDoor
open Go Go.Dm Go.Proofs
set_option maxRecDepth 100000
set_option maxHeartbeats 8000000

def smI (l : List RI) : Prop := l.length ≤ 9223372036854775807 ∧ (∀ x ∈ l, x.n.d.length ≤ 9223372036854775807) ∧ ∀ x ∈ l, x.n.x < 18446744073709551616
end Go.Proofs.YtjpmajeekikdhaaGreatDoor

end

section
/-
  Chapter 12's law: what is made leads from any tree to any other one; no entry could be left out.
-/

set_option linter.unusedSimpArgs false
set_option linter.unusedVariables false
namespace Go.Proofs.YtjpmajeekikdhaaGreatDoor
open Go Go.Dm Go.Proofs
set_option maxRecDepth 100000
set_option maxHeartbeats 8000000

end Go.Proofs.YtjpmajeekikdhaaGreatDoor

end
