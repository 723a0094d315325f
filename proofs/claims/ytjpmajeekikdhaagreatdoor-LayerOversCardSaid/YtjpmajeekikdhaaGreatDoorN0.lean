import Derived.Test.YtjpmajeekikdhaaGreatDoorIN
import Derived.Test.YtjpmajeekikdhaaGreatDoorTab
import Derived.Test.YtjpmajeekikdhaaGreatDoorProg
import Derived.Test.YtjpmajeekikdhaaGreatDoorF1
import Derived.Test.YtjpmajeekikdhaaGreatDoorSU
import Derived.Test.YtjpmajeekikdhaaGreatDoorShelf
import Derived.Test.YtjpmajeekikdhaaGreatDoorBQ

section
/-
  slices.Insert at the program's items.
-/

set_option linter.unusedSimpArgs false
set_option linter.unusedVariables false
namespace Go.Proofs.YtjpmajeekikdhaaGreatDoor
open Go Go.Dm Go.Shelf
set_option maxRecDepth 100000
set_option maxHeartbeats 4000000

def insItem_ren : Go.Shelf.Ren := ⟨fun | 22 => 82 | 29 => 118 | 30 => 119 | n => n, fun | 24 => 31 | 9 => 55 | 3 => 3 | 4 => 4 | 0 => 0 | n => n, fun | n => n⟩

theorem insItem : InsL Tryz.prog insItem_ren := {
  mixed := by kernel_rfl
  f22 := ⟨Tryz.f82.name, by decide, Tryz.func82.trans (congrArg some (by kernel_rfl))⟩
  ov := fun xs w w' v h => by
    have := run_callFunc_extern Tryz.func118 (by kernel_rfl) (by kernel_rfl) (by kernel_rfl) (e := Extern.SlicesOverlaps.overlaps #[31, 31] #[4]) (by kernel_rfl) xs w
    refine this.trans ?_
    rw [show (Extern.SlicesOverlaps.overlaps #[31, 31] #[4] xs).run Tryz.prog w = .ok v w' from h]
    rfl
  t0 := Tryz.underlying0
  a0 := Tryz.isAgg0
  z0 := Tryz.sizeOf0
  v0 := Tryz.zeroValue0
  t3 := Tryz.underlying3
  a3 := Tryz.isAgg3
  z3 := Tryz.sizeOf3
  v3 := Tryz.zeroValue3
  t4 := Tryz.underlying4
  a4 := Tryz.isAgg4
  z4 := Tryz.sizeOf4
  v4 := Tryz.zeroValue4
  t24 := Tryz.underlying31
  a24 := Tryz.isAgg31
  z24 := Tryz.sizeOf31
  v24 := Tryz.zeroValue31 }

theorem insert_c {h : DHeap} {id jd n i : Nat} {es : List (List PV)} {x : List PV} (hid : h[id]? = some (.arr 5 es false)) (hjd : h[jd]? = some (.arr 5 [x] false)) (hne : id ≠ jd) (hn : n ≤ es.length) (hin : i ≤ n) (hn2 : n ≤ 1000000) :
    DCalls Tryz.prog 82 [.c (.own id 0 n), .c (.p (.i .i64 i)), .c (.own jd 0 1)] h fun d h' => d = .c (.own (h.length + 1) 0 (n + 1)) ∧ h' = h.set id .dead ++ [.dead, .arr 5 (insAt i x (es.take n)) false] :=
  dcalls_insert (k := 5) tabOK insItem (enters Tryz.func82 rfl rfl) (by show (tab 55).size = 5; rw [tab55]) (by decide) (by show (tab 31).k = _; rw [tab31]; rfl)
    hid hjd hne hn hin (by show (n + 1) * (tab 55).bytes ≤ _; rw [tab55]; simp only; omega) (by omega)
end Go.Proofs.YtjpmajeekikdhaaGreatDoor

end

section
/-
  Contracts of the program's trees: a node put.
-/

set_option linter.unusedSimpArgs false
set_option linter.unusedVariables false
namespace Go.Proofs.YtjpmajeekikdhaaGreatDoor
open Go Go.Dm Go.Proofs
set_option maxRecDepth 100000
set_option maxHeartbeats 8000000

theorem insert_k {h : DHeap} {id jd n i : Nat} {es : List (List PV)} {x : List PV} {K : DV → DHeap → Prop} (hid : h[id]? = some (.arr 5 es false)) (hjd : h[jd]? = some (.arr 5 [x] false)) (hne : id ≠ jd) (hn : n ≤ es.length) (hin : i ≤ n) (hn2 : n ≤ 1000000)
    (hk : K (.c (.own (h.length + 1) 0 (n + 1))) (h.set id .dead ++ [.dead, .arr 5 (insAt i x (es.take n)) false])) :
    DCalls Tryz.prog 82 [.c (.own id 0 n), .c (.p (.i .i64 i)), .c (.own jd 0 1)] h K :=
  DCalls.mono (insert_c hid hjd hne hn hin hn2) (by rintro _ _ ⟨rfl, rfl⟩; exact hk)

theorem copyT_k {t : List It} {h : DHeap} {K : DV → DHeap → Prop} (ht : t.length ≤ 1000000) (hd : ∀ x ∈ t, x.n.d.length ≤ 140737488355328) (hk : K (.c (.own h.length 0 t.length)) (h ++ [.arr 5 (encT t) false])) :
    DCalls Tryz.prog 32 [.c (.p (.sl 5 (encT t)))] h K := useO (copyT_c ht hd) rfl hk
end Go.Proofs.YtjpmajeekikdhaaGreatDoor

end

section
/-
  Contracts of the program's trees: a node put.
-/

set_option linter.unusedSimpArgs false
set_option linter.unusedVariables false
namespace Go.Proofs.YtjpmajeekikdhaaGreatDoor
open Go Go.Dm Go.Proofs
set_option maxRecDepth 100000
set_option maxHeartbeats 8000000

theorem insAt_enc (t : List It) (i : Nat) (p : List UInt8) (k m : Int) (tt : Nat) (d : List UInt8) : insAt i [.s p, .i .i64 k, .i .i64 m, .f tt, .sl 1 (encB d)] (encT t) = encT (t.take i ++ ⟨p, ⟨k, m, tt, d⟩⟩ :: t.drop i) := by
  simp [insAt, encT, It.cs, List.map_take, List.map_drop]
end Go.Proofs.YtjpmajeekikdhaaGreatDoor

end

section
/-
  Contracts of the program's trees: a path moved.
-/

set_option linter.unusedSimpArgs false
set_option linter.unusedVariables false
namespace Go.Proofs.YtjpmajeekikdhaaGreatDoor
open Go Go.Dm Go.Proofs
set_option maxRecDepth 100000
set_option maxHeartbeats 8000000

end Go.Proofs.YtjpmajeekikdhaaGreatDoor

end
