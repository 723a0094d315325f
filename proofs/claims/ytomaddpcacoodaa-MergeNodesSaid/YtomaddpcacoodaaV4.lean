/-
  The engine, part 24: loops by rewriting: a known number of rounds; an invariant. No condition: consequences of the parts before.
-/
import Derived.Test.YtomaddpcacoodaaV3
import Derived.LoopN
set_option linter.unusedSimpArgs false
set_option linter.unusedVariables false

namespace Go.Dm
open Go

section
variable {P : Program} {T : Tab} {X0 : Ctx} {c : Code} {Q : Exit → DS → Prop}

/-- At most n rounds. -/
def VR (P : Program) (T : Tab) (X0 : Ctx) (c : Code) (Q : Exit → DS → Prop) : Nat → DS → Prop
  | 0, _ => False
  | n + 1, s => vc P T X0 c s fun e s' => match e with
    | .normal => VR P T X0 c Q n s'
    | e => Q e s'
def kround (P : Program) (T : Tab) (X0 : Ctx) (c : Code) (Q : Exit → DS → Prop) (n : Nat) : Exit → DS → Prop := fun e s' => match e with
  | .normal => Later (VR P T X0 c Q n s')
  | e => Q e s'
theorem VR_succ {n : Nat} {s : DS} : VR P T X0 c Q (n + 1) s = vc P T X0 c s (kround P T X0 c Q n) := by
  have e : kround P T X0 c Q n = fun e s' => match e with
      | .normal => VR P T X0 c Q n s'
      | e => Q e s' := by
    funext e s'
    cases e <;> first | rfl | exact later_eq _
  rw [e]; rfl
theorem kr_n {n : Nat} {s : DS} : kround P T X0 c Q n .normal s = VR P T X0 c Q n s := later_eq _
theorem kr_r {n : Nat} {s : DS} : kround P T X0 c Q n .ret s = Q .ret s := nr rfl
theorem kr_e {n : Nat} {id : Nat} {s : DS} : kround P T X0 c Q n (.exit id) s = Q (.exit id) s := nr rfl

theorem loop_rounds (hT : TabOK P T) (hm : P.follows .mixedOrders = true) (n : Nat) {s : DS} (h : VR P T X0 c Q n s) : SWP P X0 (.loop c) s Q := by
  intro X a hh hi hs ht
  refine wp_loop_rounds n ?_
  induction n generalizing s X a with
  | zero => exact h.elim
  | succ n ih =>
    refine wp_mono (vc_sound hT hm c h X a hh hi hs ht) fun e a' w' hp => ?_
    obtain ⟨s', Z, p1, rfl, p3, p4, p5, p6⟩ := hp
    cases e <;> simp only [Exit.then] at p1 ⊢
    case normal => exact ih p1 Z a' p3 p4 p5 p6
    all_goals exact ⟨s', Z, p1, rfl, p3, p4, p5, p6⟩

theorem loop_inv (hT : TabOK P T) (hm : P.follows .mixedOrders = true) {α : Type} (I : α → DS) (J : α → Prop) (μ : α → Nat) (x0 : α) {s : DS} (hJ : J x0) (hw : Weak X0.h.length s (I x0))
    (h : ∀ x, J x → vc P T X0 c (I x) (qloop X0.h.length I J μ x Q)) : SWP P X0 (.loop c) s Q :=
  go_loop I J μ x0 hJ hw fun x hx => vc_sound hT hm c (h x hx)

theorem ql_n {α : Type} {n0 : Nat} {I : α → DS} {J : α → Prop} {μ : α → Nat} {x : α} {s : DS} (y : α) (h1 : J y) (h2 : μ y < μ x) (h3 : Weak n0 s (I y)) : qloop n0 I J μ x Q .normal s := ⟨y, h1, h2, h3⟩

theorem weak_mk {n0 n : Nat} {t t' : Fr} {h h' : DHeap} (h0 : (Nat.ble n0 h'.length) = true) (h1 : h' = h.take h'.length) (h2 : h'.all (closedB h'.length) = true) (h3 : WkT h'.length t t') : Weak n0 ⟨n, t, h⟩ ⟨n, t', h'⟩ :=
  ⟨rfl, Nat.le_of_ble_eq_true h0, h1, h2, h3⟩
theorem wk_nil {n : Nat} {t : Fr} : WkT n t [] = True := nr rfl
theorem wk_cons {n : Nat} {t t' : Fr} {i : Nat} {d : DV} : WkT n t ((i, d) :: t') = ((look t i = d ∧ closedD n d = true) ∧ WkT n t t') := nr rfl
theorem vc_virt (hT : TabOK P T) (hm : P.follows .mixedOrders = true) {n : Nat} {t : Fr} {h : DHeap} (i k : Nat) (hn : look t i = .c (.p .nil)) (hd : SWP P X0 c ⟨n, (i, .c (.own h.length 0 0)) :: t, h ++ [.arr k [] false]⟩ Q) : SWP P X0 c ⟨n, t, h⟩ Q :=
  swp_virt i k hn hd
end

theorem wkD_nil {k : Nat} : wkD (.c (.p .nil)) (.c (.p (.sl k []))) := wkP_nil
theorem wkD_rfl {x : PV} : wkD (.c (.p x)) (.c (.p x)) := wkP.rfl
theorem take_enc (l : List UInt8) (n : Nat) (h : l.length = n) : (encB l).take n = encB l := by subst h; rw [← encB_len l, List.take_length]

theorem allB (l : List UInt8) : (∀ x ∈ encB l, x.length = 1) = True := eq_true (encB_one l)
theorem encB_app (a b : List UInt8) : encB a ++ encB b = encB (a ++ b) := (encB_append a b).symm
theorem consB (n : Int) (l : List UInt8) (h1 : 0 ≤ n) (h2 : n ≤ 255) : [PV.i .u8 n] :: encB l = encB (UInt8.ofNat n.toNat :: l) := by
  simp only [encB, List.map_cons]
  congr 2
  have : (UInt8.ofNat n.toNat).toNat = n.toNat := by rw [UInt8.toNat_ofNat']; omega
  rw [this]
  congr 1
  omega
theorem take_l1 {α : Type} (n : Nat) (a : α) (l : List α) : List.take (1 + n) (a :: l) = a :: List.take n l := by rw [Nat.add_comm]; rfl
theorem take_l2 {α : Type} (n : Nat) (a : α) (l : List α) : List.take (2 + n) (a :: l) = a :: List.take (1 + n) l := by rw [show 2 + n = (1 + n) + 1 by omega]; rfl
theorem take_l3 {α : Type} (n : Nat) (a : α) (l : List α) : List.take (3 + n) (a :: l) = a :: List.take (2 + n) l := by rw [show 3 + n = (2 + n) + 1 by omega]; rfl
attribute [go_sem] consB take_l1 take_l2 take_l3
attribute [go_sem] encB_take encB_drop allB encB_app
attribute [go_sem] exists_eq_right wkD wkE wkEs wkC wkCs wkP
attribute [go_sem] VR_succ kr_n kr_r kr_e wk_nil wk_cons closedD
end Go.Dm
