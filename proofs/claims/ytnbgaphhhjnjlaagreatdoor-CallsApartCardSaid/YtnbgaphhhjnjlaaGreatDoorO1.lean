/-
  What the arguments of this seat's laws are as data.
-/
import Derived.Test.YtnbgaphhhjnjlaaGreatDoorTab
import Derived.Test.YtnbgaphhhjnjlaaGreatDoorBA
import Derived.Test.YtnbgaphhhjnjlaaGreatDoorSB
set_option linter.unusedSimpArgs false
set_option linter.unusedVariables false
namespace Go.Proofs.YtnbgaphhhjnjlaaGreatDoor
open Go Go.Dm Go.RowKit Go.ChangeShapes Go.WideShapes
set_option maxRecDepth 100000

theorem own : ownKnob Tryz.prog.godebug = none := by kernel_rfl

theorem laidOut : laidOutB Tryz.prog = true := by kernel_rfl

section
variable {H : Type} {enc : TypeId × Value → H} {W : World} {base : Nat} {v : Value} {d : DataW H} {p : List MemPlace}

theorem pv_int {g : Nat} {xs : List PV} (h : PVOK tab (g + 1) 3 xs) : ∃ n, xs = [.i .i64 n] := by
  simp only [PVOK, tab3] at h
  obtain ⟨n, h, _⟩ := h
  exact ⟨n, h⟩

theorem pv_float {g : Nat} {xs : List PV} (h : PVOK tab (g + 1) 23 xs) : ∃ n, xs = [.f n] ∧ n < 18446744073709551616 := by
  simp only [PVOK, tab23] at h
  obtain ⟨n, h, h2⟩ := h
  exact ⟨n, h, h2⟩

theorem pv_bytes {g : Nat} {xs : List PV} (h : PVOK tab (g + 1 + 1) 24 xs) : ∃ l, xs = [.sl 1 (encB l)] ∧ l.length ≤ 9223372036854775807 := by
  simp only [PVOK, tab24, tab5] at h
  obtain ⟨es, h, h2, h3⟩ := h
  obtain ⟨l, rfl, hl⟩ := bytes_of h2
  exact ⟨l, h, by omega⟩

theorem pv_rn {g : Nat} {xs : List PV} (h : PVOK tab (g + 1 + 1 + 1) 71 xs) : ∃ k m t x l, xs = [.i .i64 k, .i .i64 m, .i .i64 t, .f x, .sl 1 (encB l)] ∧ x < 18446744073709551616 ∧ l.length ≤ 9223372036854775807 := by
  obtain ⟨parts, rfl, hp⟩ := pvok_struct (by rw [tab71]) h
  obtain ⟨a, _, rfl, ha, hp⟩ := pvs_cons hp
  obtain ⟨b, _, rfl, hb, hp⟩ := pvs_cons hp
  obtain ⟨c, _, rfl, hc, hp⟩ := pvs_cons hp
  obtain ⟨x, _, rfl, hx, hp⟩ := pvs_cons hp
  obtain ⟨y, _, rfl, hy, hp⟩ := pvs_cons hp
  obtain rfl := pvs_nil hp
  obtain ⟨k, rfl⟩ := pv_int ha
  obtain ⟨m, rfl⟩ := pv_int hb
  obtain ⟨t, rfl⟩ := pv_int hc
  obtain ⟨q, rfl, hq⟩ := pv_float hx
  obtain ⟨l, rfl, hl⟩ := pv_bytes hy
  exact ⟨k, m, t, q, l, rfl, hq, hl⟩

end

theorem list_of {α : Type} {f : α → List PV} {B : α → Prop} : ∀ {es : List (List PV)}, (∀ x ∈ es, ∃ r, x = f r ∧ B r) → ∃ l : List α, es = l.map f ∧ ∀ r ∈ l, B r
  | [], _ => ⟨[], rfl, fun r h => by simp at h⟩
  | e :: es, h => by
    obtain ⟨r, rfl, hr⟩ := h e List.mem_cons_self
    obtain ⟨l, rfl, hl⟩ := list_of fun x hx => h x (List.mem_cons_of_mem _ hx)
    exact ⟨r :: l, rfl, fun q hq => by rcases List.mem_cons.1 hq with rfl | hq; exact hr; exact hl q hq⟩

def OkRI (r : RI) : Prop := r.n.d.length ≤ 9223372036854775807 ∧ r.n.x < 18446744073709551616

theorem pv_ri {g : Nat} {xs : List PV} (h : PVOK tab (g + 1 + 1 + 1 + 1) 73 xs) : ∃ r : RI, xs = r.cs ∧ OkRI r := by
  obtain ⟨parts, rfl, hp⟩ := pvok_struct (by rw [tab73]) h
  obtain ⟨a, _, rfl, ha, hp⟩ := pvs_cons hp
  obtain ⟨b, _, rfl, hb, hp⟩ := pvs_cons hp
  obtain rfl := pvs_nil hp
  obtain ⟨p, rfl⟩ := pv_int ha
  obtain ⟨k, m, t, x, l, rfl, hx, hl⟩ := pv_rn hb
  exact ⟨⟨p, ⟨k, m, t, x, l⟩⟩, rfl, hl, hx⟩

theorem pv_items {g : Nat} {xs : List PV} (h : PVOK tab (g + 1 + 1 + 1 + 1 + 1) 41 xs) : ∃ l : List RI, xs = [.sl 6 (Go.Dm.encI l)] ∧ l.length ≤ 9223372036854775807 ∧ ∀ r ∈ l, OkRI r := by
  unfold PVOK at h
  rw [tab41] at h
  simp only [tab73] at h
  obtain ⟨es, h, h2, h3⟩ := h
  obtain ⟨l, rfl, hl⟩ := list_of (f := RI.cs) (B := OkRI) fun x hx => pv_ri (h2 x hx)
  exact ⟨l, h, by simp at h3; omega, hl⟩

section
variable {H : Type} {enc : TypeId × Value → H} {W : World} {base : Nat} {v : Value} {d : DataW H} {p : List MemPlace}

theorem arg_items (hv : Value.okWide Tryz.prog W .any base 41 v) (h : DataW.Trod enc Tryz.prog W 0 (fun _ => true) true 41 v d p) :
    ∃ l : List RI, (l.length ≤ 9223372036854775807 ∧ ∀ r ∈ l, OkRI r) ∧ RelD (lawStart W) (.c (.p (.sl 6 (Go.Dm.encI l)))) v := by
  obtain ⟨xs, hx, hr⟩ := arg_open tabOK 5 (by kernel_rfl) hv h
  obtain ⟨l, rfl, hl⟩ := pv_items hx
  exact ⟨l, hl, hr⟩
end

end Go.Proofs.YtnbgaphhhjnjlaaGreatDoor
