import Derived.Test.YtfiopamaiolfhaaGreatDoorIN
import Derived.Test.YtfiopamaiolfhaaGreatDoorTab
import Derived.Test.YtfiopamaiolfhaaGreatDoorProg
import Derived.Test.YtfiopamaiolfhaaGreatDoorF2
import Derived.Test.YtfiopamaiolfhaaGreatDoorSU

section
/-
  slices.Insert at the program's items.
-/

set_option linter.unusedSimpArgs false
set_option linter.unusedVariables false
namespace Go.Proofs.YtfiopamaiolfhaaGreatDoor
open Go Go.Dm Go.Shelf
set_option maxRecDepth 100000
set_option maxHeartbeats 4000000

def insItem_ren : Go.Shelf.Ren := ⟨fun | 22 => 113 | 29 => 169 | 30 => 170 | n => n, fun | 24 => 30 | 9 => 43 | 3 => 3 | 4 => 4 | 0 => 0 | n => n, fun | n => n⟩

theorem insItem : InsL Tryz.prog insItem_ren := {
  mixed := by kernel_rfl
  f22 := ⟨Tryz.f113.name, by decide, Tryz.func113.trans (congrArg some (by kernel_rfl))⟩
  ov := fun xs w w' v h => by
    have := run_callFunc_extern Tryz.func169 (by kernel_rfl) (by kernel_rfl) (by kernel_rfl) (e := Extern.SlicesOverlaps.overlaps #[30, 30] #[4]) (by kernel_rfl) xs w
    refine this.trans ?_
    rw [show (Extern.SlicesOverlaps.overlaps #[30, 30] #[4] xs).run Tryz.prog w = .ok v w' from h]
    rfl
  t0 := Tryz.underlying0
  a0 := Tryz.isAgg0
  z0 := Tryz.sizeOf0
  v0 := Tryz.zeroValue0
  t3 := Tryz.underlying3
  a3 := Tryz.isAgg3
  z3 := Tryz.sizeOf3
  v3 := Tryz.zeroValue3
  t4 := Tryz.underlying4
  a4 := Tryz.isAgg4
  z4 := Tryz.sizeOf4
  v4 := Tryz.zeroValue4
  t24 := Tryz.underlying30
  a24 := Tryz.isAgg30
  z24 := Tryz.sizeOf30
  v24 := Tryz.zeroValue30 }

theorem insert_c {h : DHeap} {id jd n i : Nat} {es : List (List PV)} {x : List PV} (hid : h[id]? = some (.arr 5 es false)) (hjd : h[jd]? = some (.arr 5 [x] false)) (hne : id ≠ jd) (hn : n ≤ es.length) (hin : i ≤ n) (hn2 : n ≤ 1000000) :
    DCalls Tryz.prog 113 [.c (.own id 0 n), .c (.p (.i .i64 i)), .c (.own jd 0 1)] h fun d h' => d = .c (.own (h.length + 1) 0 (n + 1)) ∧ h' = h.set id .dead ++ [.dead, .arr 5 (insAt i x (es.take n)) false] :=
  dcalls_insert (k := 5) tabOK insItem (enters Tryz.func113 rfl rfl) (by show (tab 43).size = 5; rw [tab43]) (by decide) (by show (tab 30).k = _; rw [tab30]; rfl)
    hid hjd hne hn hin (by show (n + 1) * (tab 43).bytes ≤ _; rw [tab43]; simp only; omega) (by omega)
end Go.Proofs.YtfiopamaiolfhaaGreatDoor

end

section
/-
  Contracts of the program's trees: a node put.
-/

set_option linter.unusedSimpArgs false
set_option linter.unusedVariables false
namespace Go.Proofs.YtfiopamaiolfhaaGreatDoor
open Go Go.Dm Go.Proofs
set_option maxRecDepth 100000
set_option maxHeartbeats 8000000

theorem findO_k {h : DHeap} {i n : Nat} {es : List (List PV)} {t : List It} {p : List UInt8} {K : DV → DHeap → Prop} (h0 : h[i]? = some (.arr 5 es false)) (hes : es.take n = encT t) (ht : t.length ≤ 1000000) (hs : Srt t) (hk : ∀ j, FindC t p j → K (findE t p j) h) :
    DCalls Tryz.prog 112 [.c (.own i 0 n), .c (.p (.s p))] h K :=
  useO2 (R := fun d => ∃ j, FindC t p j ∧ d = findE t p j) rfl hes (DCalls.mono (find_c ht hs) fun d h' ⟨j, a, b, c⟩ => ⟨⟨j, a, b⟩, c⟩) h0 (fun d ⟨j, h1, h2⟩ => by subst h2; exact ⟨rfl, hk j h1⟩)

theorem insert_k {h : DHeap} {id jd n i : Nat} {es : List (List PV)} {x : List PV} {K : DV → DHeap → Prop} (hid : h[id]? = some (.arr 5 es false)) (hjd : h[jd]? = some (.arr 5 [x] false)) (hne : id ≠ jd) (hn : n ≤ es.length) (hin : i ≤ n) (hn2 : n ≤ 1000000)
    (hk : K (.c (.own (h.length + 1) 0 (n + 1))) (h.set id .dead ++ [.dead, .arr 5 (insAt i x (es.take n)) false])) :
    DCalls Tryz.prog 113 [.c (.own id 0 n), .c (.p (.i .i64 i)), .c (.own jd 0 1)] h K :=
  DCalls.mono (insert_c hid hjd hne hn hin hn2) (by rintro _ _ ⟨rfl, rfl⟩; exact hk)

theorem without_o {t : List It} {p : List UInt8} {it : Bool} (hp : p.length ≤ 1000000000) (ht : t.length ≤ 1000000) (hd : ∀ x ∈ t, x.n.d.length ≤ 140737488355328) :
    DCalls Tryz.prog 111 [.c (.p (.sl 5 (encT t))), .c (.p (.s p)), .c (.p (.b it))] [] fun r h => ∃ es : List (List PV), es.take (t.filter fun x => !goF p it x).length = encT (t.filter fun x => !goF p it x) ∧ r = .c (.own 2 0 (t.filter fun x => !goF p it x).length) ∧ h = [.box [.p (.s p)], .box [.p (.b it)], .arr 5 es false] := by
  have hc := copyT_c ht hd
  refine entR tabOK hmix Tryz.func111 rfl rfl fun X0 hX => ?_
  simp only [Tryz.ntmps111, Tryz.f111, go_sem]
  repeat' (first | simp (maxSteps := 1000000) only [*, go_sem, Nat.reduceLT, Nat.reduceLeDiff, Nat.reduceEqDiff, ↓reduceIte, Nat.reduceAdd, Nat.reduceSub, Nat.reduceMul, Int.reduceLT, Int.reduceLE, Int.reduceAdd, Int.reduceSub, Int.reduceMul, Int.reduceNeg, Int.reduceToNat, Int.reduceEq, Int.reduceBEq, Int.reduceBNe, Nat.reduceBEq, beq_self_eq_true, bne_self_eq_false] | refine useO hc rfl ?_ | with_reducible refine vcond_split (fun _ => ?_) (fun _ => ?_) | with_reducible refine vg_split (fun _ => ?_) (fun _ => ?_) | ((with_reducible apply DCalls.frz); (focus exact rfl); (focus exact rfl)) | ((with_reducible refine And.intro ?_ ?_); (focus (first | omega | decide | assumption | (simp only [decide_eq_true_eq, decide_eq_false_iff_not] at *; omega)))))
  refine delete_c hp ht fun es hes => ?_
  generalize (t.filter fun x => !goF p it x) = f at hes
  repeat' (first | simp (maxSteps := 1000000) only [*, go_sem, Nat.reduceLT, Nat.reduceLeDiff, Nat.reduceEqDiff, ↓reduceIte, Nat.reduceAdd, Nat.reduceSub, Nat.reduceMul, Int.reduceLT, Int.reduceLE, Int.reduceAdd, Int.reduceSub, Int.reduceMul, Int.reduceNeg, Int.reduceToNat, Int.reduceEq, Int.reduceBEq, Int.reduceBNe, Nat.reduceBEq, beq_self_eq_true, bne_self_eq_false] | with_reducible refine vcond_split (fun _ => ?_) (fun _ => ?_) | with_reducible refine vg_split (fun _ => ?_) (fun _ => ?_) | ((with_reducible apply DCalls.frz); (focus exact rfl); (focus exact rfl)) | ((with_reducible refine And.intro ?_ ?_); (focus (first | omega | decide | assumption | (simp only [decide_eq_true_eq, decide_eq_false_iff_not] at *; omega)))))
  all_goals first | exact ⟨es, hes, rfl, rfl⟩ | exact ⟨es, hes, rfl⟩ | (trace_state; exact ⟨es, hes⟩)

theorem without_k {t : List It} {p : List UInt8} {it : Bool} {h : DHeap} {K : DV → DHeap → Prop} (hp : p.length ≤ 1000000000) (ht : t.length ≤ 1000000) (hd : ∀ x ∈ t, x.n.d.length ≤ 140737488355328)
    (hk : ∀ es : List (List PV), es.take (t.filter fun x => !goF p it x).length = encT (t.filter fun x => !goF p it x) → K (.c (.own (2 + h.length) 0 (t.filter fun x => !goF p it x).length)) (h ++ [.box [.p (.s p)], .box [.p (.b it)], .arr 5 es false])) :
    DCalls Tryz.prog 111 [.c (.p (.sl 5 (encT t))), .c (.p (.s p)), .c (.p (.b it))] h K := by
  refine DCalls.mono (DCalls.frame h rfl (without_o hp ht hd)) ?_
  rintro _ _ ⟨d0, h0, ⟨es, h1, rfl, rfl⟩, rfl, rfl⟩
  exact hk es h1

theorem copyT_k {t : List It} {h : DHeap} {K : DV → DHeap → Prop} (ht : t.length ≤ 1000000) (hd : ∀ x ∈ t, x.n.d.length ≤ 140737488355328) (hk : K (.c (.own h.length 0 t.length)) (h ++ [.arr 5 (encT t) false])) :
    DCalls Tryz.prog 57 [.c (.p (.sl 5 (encT t)))] h K := useO (copyT_c ht hd) rfl hk
end Go.Proofs.YtfiopamaiolfhaaGreatDoor

end
