import Derived.Test.YtcoedlaifhfnnaaDoorIN
import Derived.Test.YtcoedlaifhfnnaaDoorTab
import Derived.Test.YtcoedlaifhfnnaaDoorProg
import Derived.Test.YtcoedlaifhfnnaaDoorF1
import Derived.Test.YtcoedlaifhfnnaaDoorSU

section
/-
  slices.Insert at the program's items.
-/

set_option linter.unusedSimpArgs false
set_option linter.unusedVariables false
namespace Go.Proofs.YtcoedlaifhfnnaaDoor
open Go Go.Dm Go.Shelf
set_option maxRecDepth 100000
set_option maxHeartbeats 4000000

def insItem_ren : Go.Shelf.Ren := ⟨fun | 22 => 50 | 29 => 64 | 30 => 65 | n => n, fun | 24 => 36 | 9 => 63 | 3 => 3 | 4 => 4 | 0 => 0 | n => n, fun | n => n⟩

theorem insItem : InsL Tryd.prog insItem_ren := {
  mixed := by kernel_rfl
  f22 := ⟨Tryd.f50.name, by decide, Tryd.func50.trans (congrArg some (by kernel_rfl))⟩
  ov := fun xs w w' v h => by
    have := run_callFunc_extern Tryd.func64 (by kernel_rfl) (by kernel_rfl) (by kernel_rfl) (e := Extern.SlicesOverlaps.overlaps #[36, 36] #[4]) (by kernel_rfl) xs w
    refine this.trans ?_
    rw [show (Extern.SlicesOverlaps.overlaps #[36, 36] #[4] xs).run Tryd.prog w = .ok v w' from h]
    rfl
  t0 := Tryd.underlying0
  a0 := Tryd.isAgg0
  z0 := Tryd.sizeOf0
  v0 := Tryd.zeroValue0
  t3 := Tryd.underlying3
  a3 := Tryd.isAgg3
  z3 := Tryd.sizeOf3
  v3 := Tryd.zeroValue3
  t4 := Tryd.underlying4
  a4 := Tryd.isAgg4
  z4 := Tryd.sizeOf4
  v4 := Tryd.zeroValue4
  t24 := Tryd.underlying36
  a24 := Tryd.isAgg36
  z24 := Tryd.sizeOf36
  v24 := Tryd.zeroValue36 }

theorem insert_c {h : DHeap} {id jd n i : Nat} {es : List (List PV)} {x : List PV} (hid : h[id]? = some (.arr 5 es false)) (hjd : h[jd]? = some (.arr 5 [x] false)) (hne : id ≠ jd) (hn : n ≤ es.length) (hin : i ≤ n) (hn2 : n ≤ 1000000) :
    DCalls Tryd.prog 50 [.c (.own id 0 n), .c (.p (.i .i64 i)), .c (.own jd 0 1)] h fun d h' => d = .c (.own (h.length + 1) 0 (n + 1)) ∧ h' = h.set id .dead ++ [.dead, .arr 5 (insAt i x (es.take n)) false] :=
  dcalls_insert (k := 5) tabOK insItem (enters Tryd.func50 rfl rfl) (by show (tab 63).size = 5; rw [tab63]) (by decide) (by show (tab 36).k = _; rw [tab36]; rfl)
    hid hjd hne hn hin (by show (n + 1) * (tab 63).bytes ≤ _; rw [tab63]; simp only; omega) (by omega)
end Go.Proofs.YtcoedlaifhfnnaaDoor

end

section
/-
  Contracts of the program's trees: a node put.
-/

set_option linter.unusedSimpArgs false
set_option linter.unusedVariables false
namespace Go.Proofs.YtcoedlaifhfnnaaDoor
open Go Go.Dm Go.Proofs
set_option maxRecDepth 100000
set_option maxHeartbeats 8000000

theorem insert_k {h : DHeap} {id jd n i : Nat} {es : List (List PV)} {x : List PV} {K : DV → DHeap → Prop} (hid : h[id]? = some (.arr 5 es false)) (hjd : h[jd]? = some (.arr 5 [x] false)) (hne : id ≠ jd) (hn : n ≤ es.length) (hin : i ≤ n) (hn2 : n ≤ 1000000)
    (hk : K (.c (.own (h.length + 1) 0 (n + 1))) (h.set id .dead ++ [.dead, .arr 5 (insAt i x (es.take n)) false])) :
    DCalls Tryd.prog 50 [.c (.own id 0 n), .c (.p (.i .i64 i)), .c (.own jd 0 1)] h K :=
  DCalls.mono (insert_c hid hjd hne hn hin hn2) (by rintro _ _ ⟨rfl, rfl⟩; exact hk)

theorem copyT_k {t : List It} {h : DHeap} {K : DV → DHeap → Prop} (ht : t.length ≤ 1000000) (hd : ∀ x ∈ t, x.n.d.length ≤ 140737488355328) (hk : K (.c (.own h.length 0 t.length)) (h ++ [.arr 5 (encT t) false])) :
    DCalls Tryd.prog 18 [.c (.p (.sl 5 (encT t)))] h K := useO (copyT_c ht hd) rfl hk
end Go.Proofs.YtcoedlaifhfnnaaDoor

end

section
/-
  Contracts of the program's trees: a node put.
-/

set_option linter.unusedSimpArgs false
set_option linter.unusedVariables false
namespace Go.Proofs.YtcoedlaifhfnnaaDoor
open Go Go.Dm Go.Proofs
set_option maxRecDepth 100000
set_option maxHeartbeats 8000000

theorem insAt_enc (t : List It) (i : Nat) (p : List UInt8) (k m : Int) (tt : Nat) (d : List UInt8) : insAt i [.s p, .i .i64 k, .i .i64 m, .f tt, .sl 1 (encB d)] (encT t) = encT (t.take i ++ ⟨p, ⟨k, m, tt, d⟩⟩ :: t.drop i) := by
  simp [insAt, encT, It.cs, List.map_take, List.map_drop]
end Go.Proofs.YtcoedlaifhfnnaaDoor

end
