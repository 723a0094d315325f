/-
  What the arguments of this seat's laws are as data: raw items, raw turns.
-/
import Derived.Test.YtomaddpcacoodaaGreatDoorO1
import Derived.Test.YtomaddpcacoodaaGreatDoorSB
set_option linter.unusedSimpArgs false
set_option linter.unusedVariables false
namespace Go.Proofs.YtomaddpcacoodaaGreatDoor
set_option maxRecDepth 100000
open Go Go.Dm Go.RowKit Go.ChangeShapes Go.WideShapes

theorem list_of {α : Type} {f : α → List PV} {B : α → Prop} : ∀ {es : List (List PV)}, (∀ x ∈ es, ∃ r, x = f r ∧ B r) → ∃ l : List α, es = l.map f ∧ ∀ r ∈ l, B r
  | [], _ => ⟨[], rfl, fun r h => by simp at h⟩
  | e :: es, h => by
    obtain ⟨r, rfl, hr⟩ := h e List.mem_cons_self
    obtain ⟨l, rfl, hl⟩ := list_of fun x hx => h x (List.mem_cons_of_mem _ hx)
    exact ⟨r :: l, rfl, fun q hq => by rcases List.mem_cons.1 hq with rfl | hq; exact hr; exact hl q hq⟩

def OkRI (r : RI) : Prop := r.n.d.length ≤ 9223372036854775807 ∧ r.n.x < 18446744073709551616
def OkRU (r : RU) : Prop := r.n.d.length ≤ 9223372036854775807 ∧ r.n.x < 18446744073709551616
theorem pv_ri {g : Nat} {xs : List PV} (h : PVOK tab (g + 1 + 1 + 1 + 1) 95 xs) : ∃ r : RI, xs = r.cs ∧ OkRI r := by
  obtain ⟨parts, rfl, hp⟩ := pvok_struct (by rw [tab95]) h
  obtain ⟨a, _, rfl, ha, hp⟩ := pvs_cons hp
  obtain ⟨b, _, rfl, hb, hp⟩ := pvs_cons hp
  obtain rfl := pvs_nil hp
  obtain ⟨p, rfl⟩ := pv_int ha
  obtain ⟨k, m, t, x, l, rfl, hx, hl⟩ := pv_rn hb
  exact ⟨⟨p, ⟨k, m, t, x, l⟩⟩, rfl, hl, hx⟩
theorem pv_ru {g : Nat} {xs : List PV} (h : PVOK tab (g + 1 + 1 + 1 + 1) 127 xs) : ∃ r : RU, xs = r.cs ∧ OkRU r := by
  obtain ⟨parts, rfl, hp⟩ := pvok_struct (by rw [tab127]) h
  obtain ⟨a, _, rfl, ha, hp⟩ := pvs_cons hp
  obtain ⟨a2, _, rfl, ha2, hp⟩ := pvs_cons hp
  obtain ⟨a3, _, rfl, ha3, hp⟩ := pvs_cons hp
  obtain ⟨b, _, rfl, hb, hp⟩ := pvs_cons hp
  obtain rfl := pvs_nil hp
  obtain ⟨p, rfl⟩ := pv_int ha
  obtain ⟨p2, rfl⟩ := pv_int ha2
  obtain ⟨p3, rfl⟩ := pv_int ha3
  obtain ⟨k, m, t, x, l, rfl, hx, hl⟩ := pv_rn hb
  exact ⟨⟨p, p2, p3, ⟨k, m, t, x, l⟩⟩, rfl, hl, hx⟩
theorem pv_items {g : Nat} {xs : List PV} (h : PVOK tab (g + 1 + 1 + 1 + 1 + 1) 48 xs) : ∃ l : List RI, xs = [.sl 6 (Go.Dm.encI l)] ∧ l.length ≤ 9223372036854775807 ∧ ∀ r ∈ l, OkRI r := by
  unfold PVOK at h
  rw [tab48] at h
  simp only [tab95] at h
  obtain ⟨es, h, h2, h3⟩ := h
  obtain ⟨l, rfl, hl⟩ := list_of (f := RI.cs) (B := OkRI) fun x hx => pv_ri (h2 x hx)
  exact ⟨l, h, by simp at h3; omega, hl⟩
theorem pv_turns {g : Nat} {xs : List PV} (h : PVOK tab (g + 1 + 1 + 1 + 1 + 1) 68 xs) : ∃ l : List RU, xs = [.sl 8 (Go.Dm.encU l)] ∧ l.length ≤ 9223372036854775807 ∧ ∀ r ∈ l, OkRU r := by
  unfold PVOK at h
  rw [tab68] at h
  simp only [tab127] at h
  obtain ⟨es, h, h2, h3⟩ := h
  obtain ⟨l, rfl, hl⟩ := list_of (f := RU.cs) (B := OkRU) fun x hx => pv_ru (h2 x hx)
  exact ⟨l, h, by simp at h3; omega, hl⟩

section
variable {H : Type} {enc : TypeId × Value → H} {W : World} {base : Nat} {v : Value} {d : DataW H} {p : List MemPlace}
theorem arg_items (hv : Value.okWide Tryz.prog W .any base 48 v) (h : DataW.Trod enc Tryz.prog W 0 (fun _ => true) true 48 v d p) :
    ∃ l : List RI, (l.length ≤ 9223372036854775807 ∧ ∀ r ∈ l, OkRI r) ∧ RelD (lawStart W) (.c (.p (.sl 6 (Go.Dm.encI l)))) v := by
  obtain ⟨xs, hx, hr⟩ := arg_open tabOK 5 (by kernel_rfl) hv h
  obtain ⟨l, rfl, hl⟩ := pv_items hx
  exact ⟨l, hl, hr⟩
theorem arg_turns (hv : Value.okWide Tryz.prog W .any base 68 v) (h : DataW.Trod enc Tryz.prog W 0 (fun _ => true) true 68 v d p) :
    ∃ l : List RU, (l.length ≤ 9223372036854775807 ∧ ∀ r ∈ l, OkRU r) ∧ RelD (lawStart W) (.c (.p (.sl 8 (Go.Dm.encU l)))) v := by
  obtain ⟨xs, hx, hr⟩ := arg_open tabOK 5 (by kernel_rfl) hv h
  obtain ⟨l, rfl, hl⟩ := pv_turns hx
  exact ⟨l, hl, hr⟩
end

end Go.Proofs.YtomaddpcacoodaaGreatDoor
