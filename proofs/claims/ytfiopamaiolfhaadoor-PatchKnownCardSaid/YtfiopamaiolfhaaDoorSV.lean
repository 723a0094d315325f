/-
  The changes of two trees, done to the one, are the other. No condition.
-/
import Derived.Test.YtfiopamaiolfhaaDoorSU
set_option linter.unusedSimpArgs false
set_option linter.unusedVariables false
namespace Go.Dm
open Go Go.Sort Go.Proofs
set_option maxRecDepth 100000

theorem srt_nd {s : List It} (hs : Srt s) : s.Nodup := hs.imp fun {a b} h e => by subst e; rw [blt_irrefl] at h; cases h
theorem srt_mem_eq {s t : List It} (hs : Srt s) (ht : Srt t) (h : ∀ x, x ∈ s ↔ x ∈ t) : s = t :=
  List.Perm.eq_of_pairwise (le := fun (x y : It) => bltL x.p y.p = true) (fun _ _ _ _ h k => by rw [blt_asymm h] at k; cases k) hs ht ((List.perm_ext_iff_of_nodup (srt_nd hs) (srt_nd ht)).2 h)

end Go.Dm
