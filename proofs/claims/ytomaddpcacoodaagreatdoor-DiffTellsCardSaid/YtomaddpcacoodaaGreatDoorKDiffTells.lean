/-
  DiffTells: the law's row, its listed tables tied to the program's text. No condition beyond what the row lists.
-/
import Derived.Test.YtomaddpcacoodaaGreatDoorCards
import Derived.Test.YtomaddpcacoodaaGreatDoorTie
import Derived.Test.YtomaddpcacoodaaGreatDoorLDiffTells
set_option linter.unusedSimpArgs false
set_option linter.unusedVariables false
namespace Go.Proofs.YtomaddpcacoodaaGreatDoor
open Go

theorem diffTells_card : Rows.DiffTellsCardSaid :=
  Claim7.holds_tied_plain_at .later [] [.data, .pinned] true (true, "c5ce2d46269f2b469079bc401cc7fe4e9dbf73cb2459fd60971ebc67095d8479") false
    diffTells_holds (fun _ h => by cases h) (by kernel_rfl) (fun _ h => by cases h) diffTells_row_tie rfl ⟨rfl, rfl⟩ (by kernel_rfl) rfl
    (fun f fn hf hfn => by
      obtain rfl : f = 9 := Option.some.inj ((show Tryz.prog.funcNamed "pentimento/pentimentolaw17.DiffTells" = some 9 by kernel_rfl).symm.trans hf) |>.symm
      obtain rfl : fn = Tryz.f9 := (Option.some.inj (Tryz.func9.symm.trans hfn)).symm
      refine ⟨by kernel_rfl, fun j t ht => ?_⟩
      have hall : (Tryz.f9.params.toList.all fun t => !Tryz.prog.wantsStandIn t) = true := by kernel_rfl
      have hm : t ∈ Tryz.f9.params.toList := by
        rw [← Array.getElem?_toList] at ht
        exact List.mem_of_getElem? ht
      have := List.all_eq_true.1 hall t hm
      have h2 : Tryz.prog.wantsStandIn t = false := by simpa using this
      exact h2)
    (by kernel_rfl)

end Go.Proofs.YtomaddpcacoodaaGreatDoor
