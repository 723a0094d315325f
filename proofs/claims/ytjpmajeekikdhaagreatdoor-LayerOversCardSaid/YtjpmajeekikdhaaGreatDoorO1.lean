import Derived.Test.YtjpmajeekikdhaaGreatDoorTab
import Derived.Test.YtjpmajeekikdhaaGreatDoorBA
import Derived.Test.YtjpmajeekikdhaaGreatDoorSB
import Derived.Test.YtjpmajeekikdhaaGreatDoorD8
import Derived.Test.YtjpmajeekikdhaaGreatDoorVB
import Derived.Test.YtjpmajeekikdhaaGreatDoorSD

section
/-
  What the arguments of this seat's laws are as data.
-/

set_option linter.unusedSimpArgs false
set_option linter.unusedVariables false
namespace Go.Proofs.YtjpmajeekikdhaaGreatDoor
open Go Go.Dm Go.RowKit Go.ChangeShapes Go.WideShapes
set_option maxRecDepth 100000

theorem own : ownKnob Tryz.prog.godebug = none := by kernel_rfl

theorem laidOut : laidOutB Tryz.prog = true := by kernel_rfl

section
variable {H : Type} {enc : TypeId × Value → H} {W : World} {base : Nat} {v : Value} {d : DataW H} {p : List MemPlace}

theorem arg_int (hv : Value.okWide Tryz.prog W .any base 3 v) (h : DataW.Trod enc Tryz.prog W 0 (fun _ => true) true 3 v d p) : ∃ n, RelD (lawStart W) (.c (.p (.i .i64 n))) v := by
  obtain ⟨xs, hx, hr⟩ := arg_open tabOK 1 (by kernel_rfl) hv h
  simp only [PVOK, tab3] at hx
  obtain ⟨n, rfl, _⟩ := hx
  exact ⟨n, hr⟩

theorem pv_int {g : Nat} {xs : List PV} (h : PVOK tab (g + 1) 3 xs) : ∃ n, xs = [.i .i64 n] := by
  simp only [PVOK, tab3] at h
  obtain ⟨n, h, _⟩ := h
  exact ⟨n, h⟩

theorem pv_float {g : Nat} {xs : List PV} (h : PVOK tab (g + 1) 23 xs) : ∃ n, xs = [.f n] ∧ n < 18446744073709551616 := by
  simp only [PVOK, tab23] at h
  obtain ⟨n, h, h2⟩ := h
  exact ⟨n, h, h2⟩

theorem pv_bytes {g : Nat} {xs : List PV} (h : PVOK tab (g + 1 + 1) 24 xs) : ∃ l, xs = [.sl 1 (encB l)] ∧ l.length ≤ 9223372036854775807 := by
  simp only [PVOK, tab24, tab5] at h
  obtain ⟨es, h, h2, h3⟩ := h
  obtain ⟨l, rfl, hl⟩ := bytes_of h2
  exact ⟨l, h, by omega⟩

theorem pv_rn {g : Nat} {xs : List PV} (h : PVOK tab (g + 1 + 1 + 1) 26 xs) : ∃ k m t x l, xs = [.i .i64 k, .i .i64 m, .i .i64 t, .f x, .sl 1 (encB l)] ∧ x < 18446744073709551616 ∧ l.length ≤ 9223372036854775807 := by
  obtain ⟨parts, rfl, hp⟩ := pvok_struct (by rw [tab26]) h
  obtain ⟨a, _, rfl, ha, hp⟩ := pvs_cons hp
  obtain ⟨b, _, rfl, hb, hp⟩ := pvs_cons hp
  obtain ⟨c, _, rfl, hc, hp⟩ := pvs_cons hp
  obtain ⟨x, _, rfl, hx, hp⟩ := pvs_cons hp
  obtain ⟨y, _, rfl, hy, hp⟩ := pvs_cons hp
  obtain rfl := pvs_nil hp
  obtain ⟨k, rfl⟩ := pv_int ha
  obtain ⟨m, rfl⟩ := pv_int hb
  obtain ⟨t, rfl⟩ := pv_int hc
  obtain ⟨q, rfl, hq⟩ := pv_float hx
  obtain ⟨l, rfl, hl⟩ := pv_bytes hy
  exact ⟨k, m, t, q, l, rfl, hq, hl⟩

theorem arg_rn (hv : Value.okWide Tryz.prog W .any base 26 v) (h : DataW.Trod enc Tryz.prog W 0 (fun _ => true) true 26 v d p) :
    ∃ k m t x l, (x < 18446744073709551616 ∧ l.length ≤ 9223372036854775807) ∧ RelD (lawStart W) (.agg [.p (.i .i64 k), .p (.i .i64 m), .p (.i .i64 t), .p (.f x), .p (.sl 1 (encB l))]) v := by
  obtain ⟨xs, hx, hr⟩ := arg_open tabOK 3 (by kernel_rfl) hv h
  obtain ⟨k, m, t, x, l, rfl, h1, h2⟩ := pv_rn hx
  exact ⟨k, m, t, x, l, ⟨h1, h2⟩, hr⟩
end

theorem list_of {α : Type} {f : α → List PV} {B : α → Prop} : ∀ {es : List (List PV)}, (∀ x ∈ es, ∃ r, x = f r ∧ B r) → ∃ l : List α, es = l.map f ∧ ∀ r ∈ l, B r
  | [], _ => ⟨[], rfl, fun r h => by simp at h⟩
  | e :: es, h => by
    obtain ⟨r, rfl, hr⟩ := h e List.mem_cons_self
    obtain ⟨l, rfl, hl⟩ := list_of fun x hx => h x (List.mem_cons_of_mem _ hx)
    exact ⟨r :: l, rfl, fun q hq => by rcases List.mem_cons.1 hq with rfl | hq; exact hr; exact hl q hq⟩

def OkRI (r : RI) : Prop := r.n.d.length ≤ 9223372036854775807 ∧ r.n.x < 18446744073709551616

theorem pv_ri {g : Nat} {xs : List PV} (h : PVOK tab (g + 1 + 1 + 1 + 1) 66 xs) : ∃ r : RI, xs = r.cs ∧ OkRI r := by
  obtain ⟨parts, rfl, hp⟩ := pvok_struct (by rw [tab66]) h
  obtain ⟨a, _, rfl, ha, hp⟩ := pvs_cons hp
  obtain ⟨b, _, rfl, hb, hp⟩ := pvs_cons hp
  obtain rfl := pvs_nil hp
  obtain ⟨p, rfl⟩ := pv_int ha
  obtain ⟨k, m, t, x, l, rfl, hx, hl⟩ := pv_rn hb
  exact ⟨⟨p, ⟨k, m, t, x, l⟩⟩, rfl, hl, hx⟩

theorem pv_items {g : Nat} {xs : List PV} (h : PVOK tab (g + 1 + 1 + 1 + 1 + 1) 22 xs) : ∃ l : List RI, xs = [.sl 6 (Go.Dm.encI l)] ∧ l.length ≤ 9223372036854775807 ∧ ∀ r ∈ l, OkRI r := by
  unfold PVOK at h
  rw [tab22] at h
  simp only [tab66] at h
  obtain ⟨es, h, h2, h3⟩ := h
  obtain ⟨l, rfl, hl⟩ := list_of (f := RI.cs) (B := OkRI) fun x hx => pv_ri (h2 x hx)
  exact ⟨l, h, by simp at h3; omega, hl⟩

section
variable {H : Type} {enc : TypeId × Value → H} {W : World} {base : Nat} {v : Value} {d : DataW H} {p : List MemPlace}

theorem arg_items (hv : Value.okWide Tryz.prog W .any base 22 v) (h : DataW.Trod enc Tryz.prog W 0 (fun _ => true) true 22 v d p) :
    ∃ l : List RI, (l.length ≤ 9223372036854775807 ∧ ∀ r ∈ l, OkRI r) ∧ RelD (lawStart W) (.c (.p (.sl 6 (Go.Dm.encI l)))) v := by
  obtain ⟨xs, hx, hr⟩ := arg_open tabOK 5 (by kernel_rfl) hv h
  obtain ⟨l, rfl, hl⟩ := pv_items hx
  exact ⟨l, hl, hr⟩
end

end Go.Proofs.YtjpmajeekikdhaaGreatDoor

end

section
/-
  What the laws on bytes draw.
-/

set_option linter.unusedSimpArgs false
set_option linter.unusedVariables false
namespace Go.Proofs.YtjpmajeekikdhaaGreatDoor
open Go Go.Dm
set_option maxRecDepth 100000
set_option maxHeartbeats 4000000

theorem fewO_c {b : List UInt8} (hb : b.length ≤ 140737488355328) : DCalls Tryz.prog 14 [.c (.p (.sl 1 (encB b))), .c (.p (.i .i64 b.length))] [] fun r h => r = .c (.own 1 0 b.length) ∧ h = [.dead, .arr 1 (encB b) false] := by
  have h0 : ¬ ((b.length : Int) < (b.length : Int)) := by omega
  have h1 : ((b.length : Int)) ≤ (b.length : Int) := by omega
  have h2 : (0 : Int) ≤ (b.length : Int) := by omega
  have e : (encB b).take b.length = encB b := take_enc b _ rfl
  refine entR tabOK hmix Tryz.func14 rfl rfl fun X0 hX => ?_
  simp only [Tryz.f14, go_sem]
  repeat' (first | simp only [*, go_sem, Nat.reduceLT, Nat.reduceLeDiff, Nat.reduceEqDiff, ↓reduceIte, Nat.reduceAdd, Int.reduceLE, Int.reduceToNat, Int.toNat_natCast] | ((with_reducible refine And.intro ?_ ?_); (focus (decide))))
  all_goals omega

theorem pickN_c {n m : Int} (hm : 0 < m) (hm2 : m ≤ 9223372036854775807) : DCalls Tryz.prog 15 [.c (.p (.i .i64 n)), .c (.p (.i .i64 m))] [] fun r h => ∃ k : Nat, (k : Int) < m ∧ r = .c (.p (.i .i64 k)) ∧ h = [] :=
  (Pick_c hm hm2).mono fun d h ⟨h1, h2⟩ => by
    have e1 := Int.emod_nonneg n (show m ≠ 0 by omega)
    have e2 := Int.emod_lt_of_pos n hm
    exact ⟨(n % m).toNat, by omega, by rw [h1]; congr 4; omega, h2⟩

/-- Whole numbers as a row. -/
def encZ (l : List Int) : List (List PV) := l.map fun z => [.i .i64 z]
theorem encZ_len (l : List Int) : (encZ l).length = l.length := by simp [encZ]
theorem encZ_at {l : List Int} {k : Nat} {z : Int} (h : l[k]? = some z) : (encZ l).getD k [] = [.i .i64 z] := by
  simp [encZ, List.getD_eq_getElem?_getD, List.getElem?_map, h]
theorem encZ_one (l : List Int) : (∀ x ∈ encZ l, x.length = 1) = True := eq_true fun x hx => by
  simp only [encZ, List.mem_map] at hx
  obtain ⟨y, _, rfl⟩ := hx
  rfl
attribute [go_sem] encZ_len encZ_one
theorem encB_setx (z : List UInt8) (k : Nat) (a b : Int) : (encB z).set k [.i .u8 (Dm.bits .xor .u8 a b)] = encB (z.set k (UInt8.ofNat (Dm.bits .xor .u8 a b).toNat)) := by
  have e : ∃ n : Int, Dm.bits .xor .u8 a b = IntKind.u8.wrap n := ⟨_, rfl⟩
  obtain ⟨n, e⟩ := e
  obtain ⟨h1, h2⟩ := wrap_u8_range n
  rw [e]
  have : ((UInt8.ofNat (IntKind.u8.wrap n).toNat).toNat : Int) = IntKind.u8.wrap n := by
    have : (UInt8.ofNat (IntKind.u8.wrap n).toNat).toNat = (IntKind.u8.wrap n).toNat := by
      show _ % 256 = _
      exact Nat.mod_eq_of_lt (by omega)
    rw [this]; omega
  unfold encB
  rw [List.map_set, this]

end Go.Proofs.YtjpmajeekikdhaaGreatDoor

end

section
/-
  What the arguments of the laws on bytes are as data.
-/

set_option linter.unusedSimpArgs false
set_option linter.unusedVariables false
namespace Go.Proofs.YtjpmajeekikdhaaGreatDoor
open Go Go.Dm Go.RowKit Go.ChangeShapes Go.WideShapes
set_option maxRecDepth 100000

section
variable {H : Type} {enc : TypeId × Value → H} {W : World} {base : Nat} {v : Value} {d : DataW H} {p : List MemPlace}
theorem arg_byte (hv : Value.okWide Tryz.prog W .any base 5 v) (h : DataW.Trod enc Tryz.prog W 0 (fun _ => true) true 5 v d p) : ∃ n, RelD (lawStart W) (.c (.p (.i .u8 n))) v := by
  obtain ⟨xs, hx, hr⟩ := arg_open tabOK 1 (by kernel_rfl) hv h
  simp only [PVOK, tab5] at hx
  obtain ⟨n, rfl, _⟩ := hx
  exact ⟨n, hr⟩
theorem arg_bytes (hv : Value.okWide Tryz.prog W .any base 24 v) (h : DataW.Trod enc Tryz.prog W 0 (fun _ => true) true 24 v d p) :
    ∃ l : List UInt8, l.length ≤ 9223372036854775807 ∧ RelD (lawStart W) (.c (.p (.sl 1 (encB l)))) v := by
  obtain ⟨xs, hx, hr⟩ := arg_open tabOK 2 (by kernel_rfl) hv h
  obtain ⟨l, rfl, hl⟩ := pv_bytes hx
  exact ⟨l, hl, hr⟩
/-- No longer than a claim of this form reaches. -/
theorem bytes_reach {l : List UInt8} {ts : List TypeId} {ds : List (DataW H)} {j : Nat} (hs : (DataW.weightsEach Tryz.prog ts ds).all (· ≤ reachBytes) = true) (ht : ts[j]? = some 24) (hd : ds[j]? = some d)
    (h : DataW.Trod enc Tryz.prog W 0 (fun _ => true) true 24 v d p) (hr : RelD (lawStart W) (.c (.p (.sl 1 (encB l)))) v) : l.length ≤ 140737488355328 := by
  rcases trod_len Tryz.underlying24 h hr with h0 | ⟨elems, spare, rfl, hl⟩
  · have := congrArg List.length h0
    simp only [encB_len, List.length_nil] at this
    omega
  · have h1 := sized_slice hs ht hd Tryz.underlying24
    rw [encB_len] at hl
    have h2 : Tryz.prog.bytesOf 5 = 1 := by kernel_rfl
    rw [h2, hl] at h1
    have h3 : reachBytes = 140737488351232 := rfl
    omega
theorem pv_ints {g : Nat} {xs : List PV} (h : PVOK tab (g + 1 + 1) 27 xs) : ∃ l : List Int, xs = [.sl 1 (encZ l)] ∧ l.length ≤ 9223372036854775807 := by
  unfold PVOK at h
  rw [tab27] at h
  simp only [tab3] at h
  obtain ⟨es, h, h2, h3⟩ := h
  obtain ⟨l, rfl, hl⟩ := list_of (f := fun z : Int => [PV.i .i64 z]) (B := fun _ => True) fun x hx => by
    obtain ⟨n, hn⟩ := pv_int (h2 x hx)
    exact ⟨n, hn, trivial⟩
  exact ⟨l, h, by simpa using h3⟩
theorem arg_ints (hv : Value.okWide Tryz.prog W .any base 27 v) (h : DataW.Trod enc Tryz.prog W 0 (fun _ => true) true 27 v d p) :
    ∃ l : List Int, l.length ≤ 9223372036854775807 ∧ RelD (lawStart W) (.c (.p (.sl 1 (encZ l)))) v := by
  obtain ⟨xs, hx, hr⟩ := arg_open tabOK 2 (by kernel_rfl) hv h
  obtain ⟨l, rfl, hl⟩ := pv_ints hx
  exact ⟨l, hl, hr⟩
end

end Go.Proofs.YtjpmajeekikdhaaGreatDoor

end
