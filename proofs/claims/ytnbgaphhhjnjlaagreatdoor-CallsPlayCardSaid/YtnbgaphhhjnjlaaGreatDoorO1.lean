import Derived.Test.YtnbgaphhhjnjlaaGreatDoorTab
import Derived.Test.YtnbgaphhhjnjlaaGreatDoorBA
import Derived.Test.YtnbgaphhhjnjlaaGreatDoorSB
import Derived.Test.YtnbgaphhhjnjlaaGreatDoorRows
import Derived.Test.YtnbgaphhhjnjlaaGreatDoorGB
import Derived.Test.YtnbgaphhhjnjlaaGreatDoorCH
import Derived.Test.YtnbgaphhhjnjlaaGreatDoorW10
import Derived.Test.YtnbgaphhhjnjlaaGreatDoorBB

section
/-
  What the arguments of this seat's laws are as data.
-/

set_option linter.unusedSimpArgs false
set_option linter.unusedVariables false
namespace Go.Proofs.YtnbgaphhhjnjlaaGreatDoor
open Go Go.Dm Go.RowKit Go.ChangeShapes Go.WideShapes
set_option maxRecDepth 100000

theorem own : ownKnob Tryz.prog.godebug = none := by kernel_rfl

theorem laidOut : laidOutB Tryz.prog = true := by kernel_rfl

section
variable {H : Type} {enc : TypeId × Value → H} {W : World} {base : Nat} {v : Value} {d : DataW H} {p : List MemPlace}

theorem pv_int {g : Nat} {xs : List PV} (h : PVOK tab (g + 1) 3 xs) : ∃ n, xs = [.i .i64 n] := by
  simp only [PVOK, tab3] at h
  obtain ⟨n, h, _⟩ := h
  exact ⟨n, h⟩

theorem pv_float {g : Nat} {xs : List PV} (h : PVOK tab (g + 1) 23 xs) : ∃ n, xs = [.f n] ∧ n < 18446744073709551616 := by
  simp only [PVOK, tab23] at h
  obtain ⟨n, h, h2⟩ := h
  exact ⟨n, h, h2⟩

theorem pv_bytes {g : Nat} {xs : List PV} (h : PVOK tab (g + 1 + 1) 24 xs) : ∃ l, xs = [.sl 1 (encB l)] ∧ l.length ≤ 9223372036854775807 := by
  simp only [PVOK, tab24, tab5] at h
  obtain ⟨es, h, h2, h3⟩ := h
  obtain ⟨l, rfl, hl⟩ := bytes_of h2
  exact ⟨l, h, by omega⟩

theorem pv_rn {g : Nat} {xs : List PV} (h : PVOK tab (g + 1 + 1 + 1) 71 xs) : ∃ k m t x l, xs = [.i .i64 k, .i .i64 m, .i .i64 t, .f x, .sl 1 (encB l)] ∧ x < 18446744073709551616 ∧ l.length ≤ 9223372036854775807 := by
  obtain ⟨parts, rfl, hp⟩ := pvok_struct (by rw [tab71]) h
  obtain ⟨a, _, rfl, ha, hp⟩ := pvs_cons hp
  obtain ⟨b, _, rfl, hb, hp⟩ := pvs_cons hp
  obtain ⟨c, _, rfl, hc, hp⟩ := pvs_cons hp
  obtain ⟨x, _, rfl, hx, hp⟩ := pvs_cons hp
  obtain ⟨y, _, rfl, hy, hp⟩ := pvs_cons hp
  obtain rfl := pvs_nil hp
  obtain ⟨k, rfl⟩ := pv_int ha
  obtain ⟨m, rfl⟩ := pv_int hb
  obtain ⟨t, rfl⟩ := pv_int hc
  obtain ⟨q, rfl, hq⟩ := pv_float hx
  obtain ⟨l, rfl, hl⟩ := pv_bytes hy
  exact ⟨k, m, t, q, l, rfl, hq, hl⟩

end

theorem list_of {α : Type} {f : α → List PV} {B : α → Prop} : ∀ {es : List (List PV)}, (∀ x ∈ es, ∃ r, x = f r ∧ B r) → ∃ l : List α, es = l.map f ∧ ∀ r ∈ l, B r
  | [], _ => ⟨[], rfl, fun r h => by simp at h⟩
  | e :: es, h => by
    obtain ⟨r, rfl, hr⟩ := h e List.mem_cons_self
    obtain ⟨l, rfl, hl⟩ := list_of fun x hx => h x (List.mem_cons_of_mem _ hx)
    exact ⟨r :: l, rfl, fun q hq => by rcases List.mem_cons.1 hq with rfl | hq; exact hr; exact hl q hq⟩

def OkRI (r : RI) : Prop := r.n.d.length ≤ 9223372036854775807 ∧ r.n.x < 18446744073709551616

theorem pv_ri {g : Nat} {xs : List PV} (h : PVOK tab (g + 1 + 1 + 1 + 1) 73 xs) : ∃ r : RI, xs = r.cs ∧ OkRI r := by
  obtain ⟨parts, rfl, hp⟩ := pvok_struct (by rw [tab73]) h
  obtain ⟨a, _, rfl, ha, hp⟩ := pvs_cons hp
  obtain ⟨b, _, rfl, hb, hp⟩ := pvs_cons hp
  obtain rfl := pvs_nil hp
  obtain ⟨p, rfl⟩ := pv_int ha
  obtain ⟨k, m, t, x, l, rfl, hx, hl⟩ := pv_rn hb
  exact ⟨⟨p, ⟨k, m, t, x, l⟩⟩, rfl, hl, hx⟩

theorem pv_items {g : Nat} {xs : List PV} (h : PVOK tab (g + 1 + 1 + 1 + 1 + 1) 41 xs) : ∃ l : List RI, xs = [.sl 6 (Go.Dm.encI l)] ∧ l.length ≤ 9223372036854775807 ∧ ∀ r ∈ l, OkRI r := by
  unfold PVOK at h
  rw [tab41] at h
  simp only [tab73] at h
  obtain ⟨es, h, h2, h3⟩ := h
  obtain ⟨l, rfl, hl⟩ := list_of (f := RI.cs) (B := OkRI) fun x hx => pv_ri (h2 x hx)
  exact ⟨l, h, by simp at h3; omega, hl⟩

section
variable {H : Type} {enc : TypeId × Value → H} {W : World} {base : Nat} {v : Value} {d : DataW H} {p : List MemPlace}

theorem arg_items (hv : Value.okWide Tryz.prog W .any base 41 v) (h : DataW.Trod enc Tryz.prog W 0 (fun _ => true) true 41 v d p) :
    ∃ l : List RI, (l.length ≤ 9223372036854775807 ∧ ∀ r ∈ l, OkRI r) ∧ RelD (lawStart W) (.c (.p (.sl 6 (Go.Dm.encI l)))) v := by
  obtain ⟨xs, hx, hr⟩ := arg_open tabOK 5 (by kernel_rfl) hv h
  obtain ⟨l, rfl, hl⟩ := pv_items hx
  exact ⟨l, hl, hr⟩
end

end Go.Proofs.YtnbgaphhhjnjlaaGreatDoor

end

section
/-
  A slice of raw calls as an argument; what stands in the variable that draws kinds.
-/

set_option linter.unusedSimpArgs false
set_option linter.unusedVariables false
namespace Go.Proofs.YtnbgaphhhjnjlaaGreatDoor
open Go Go.Dm Go.RowKit Go.ChangeShapes Go.WideShapes
set_option maxRecDepth 100000

theorem pv_str {g : Nat} {xs : List PV} (h : PVOK tab (g + 1) 9 xs) : ∃ l, xs = [.s l] ∧ l.length ≤ 9223372036854775807 := by
  simp only [PVOK, tab9] at h
  obtain ⟨n, h, h2⟩ := h
  exact ⟨n, h, h2⟩

def OkRC (r : RC) : Prop := r.d.length ≤ 9223372036854775807 ∧ r.s.length ≤ 9223372036854775807 ∧ r.x < 18446744073709551616

theorem pv_rc {g : Nat} {xs : List PV} (h : PVOK tab (g + 1 + 1 + 1) 46 xs) : ∃ r : RC, xs = r.cs ∧ OkRC r := by
  obtain ⟨parts, rfl, hp⟩ := pvok_struct (by rw [tab46]) h
  obtain ⟨a1, _, rfl, h1, hp⟩ := pvs_cons hp
  obtain ⟨a2, _, rfl, h2, hp⟩ := pvs_cons hp
  obtain ⟨a3, _, rfl, h3, hp⟩ := pvs_cons hp
  obtain ⟨a4, _, rfl, h4, hp⟩ := pvs_cons hp
  obtain ⟨a5, _, rfl, h5, hp⟩ := pvs_cons hp
  obtain ⟨a6, _, rfl, h6, hp⟩ := pvs_cons hp
  obtain ⟨a7, _, rfl, h7, hp⟩ := pvs_cons hp
  obtain ⟨a8, _, rfl, h8, hp⟩ := pvs_cons hp
  obtain ⟨a9, _, rfl, h9, hp⟩ := pvs_cons hp
  obtain ⟨a10, _, rfl, h10, hp⟩ := pvs_cons hp
  obtain ⟨a11, _, rfl, h11, hp⟩ := pvs_cons hp
  obtain rfl := pvs_nil hp
  obtain ⟨n1, rfl⟩ := pv_int h1
  obtain ⟨n2, rfl⟩ := pv_int h2
  obtain ⟨n3, rfl⟩ := pv_int h3
  obtain ⟨n4, rfl⟩ := pv_int h4
  obtain ⟨n5, rfl⟩ := pv_int h5
  obtain ⟨n6, rfl⟩ := pv_int h6
  obtain ⟨n7, rfl⟩ := pv_int h7
  obtain ⟨n8, rfl⟩ := pv_int h8
  obtain ⟨n9, rfl, hn9⟩ := pv_float h9
  obtain ⟨n10, rfl, hn10⟩ := pv_bytes h10
  obtain ⟨n11, rfl, hn11⟩ := pv_str h11
  exact ⟨⟨n1, n2, n3, n4, n5, n6, n7, n8, n9, n10, n11⟩, rfl, hn10, hn11, hn9⟩

theorem pv_calls {g : Nat} {xs : List PV} (h : PVOK tab (g + 1 + 1 + 1 + 1) 42 xs) : ∃ l : List RC, xs = [.sl 11 (encRC l)] ∧ l.length ≤ 9223372036854775807 ∧ ∀ r ∈ l, OkRC r := by
  unfold PVOK at h
  rw [tab42] at h
  simp only [tab46] at h
  obtain ⟨es, h, h2, h3⟩ := h
  obtain ⟨l, rfl, hl⟩ := list_of (f := RC.cs) (B := OkRC) fun x hx => pv_rc (h2 x hx)
  exact ⟨l, h, by simp at h3; omega, hl⟩

section
variable {H : Type} {enc : TypeId × Value → H} {W : World} {base : Nat} {v : Value} {d : DataW H} {p : List MemPlace}

theorem arg_calls (hv : Value.okWide Tryz.prog W .any base 42 v) (h : DataW.Trod enc Tryz.prog W 0 (fun _ => true) true 42 v d p) :
    ∃ l : List RC, (l.length ≤ 9223372036854775807 ∧ ∀ r ∈ l, OkRC r) ∧ RelD (lawStart W) (.c (.p (.sl 11 (encRC l)))) v := by
  obtain ⟨xs, hx, hr⟩ := arg_open tabOK 4 (by kernel_rfl) hv h
  obtain ⟨l, rfl, hl⟩ := pv_calls hx
  exact ⟨l, hl, hr⟩
end

theorem saidW_of {W : World} {l : List (String × DataW Unit)} (h : laidMetH Tryz.prog l W.memory) (hn : (l.all fun x => x.2.handleName?.isNone) = true) (hm : ("pentimento/pentimentohand.kinds", (Rows.laid_pentimento_pentimentohand_kinds : DataW Unit)) ∈ l) : SaidW W := by
  rw [Go.MakeChecks.laidMetH_plain _ _ _ hn] at h
  intro g j v hj
  match g, hj with
  | 0, hj => exact laid_ints h hm (vs := said 0) rfl (by kernel_rfl) (by kernel_rfl) Tryz.underlying77 Tryz.underlying3 (by kernel_rfl) j v hj
  | g + 1, hj => simp [said] at hj
end Go.Proofs.YtnbgaphhhjnjlaaGreatDoor

end

section
/-
  A call as an argument: what it holds, and how long its bytes are at most.
-/

set_option linter.unusedSimpArgs false
set_option linter.unusedVariables false
namespace Go.Proofs.YtnbgaphhhjnjlaaGreatDoor
open Go Go.Dm Go.RowKit Go.ChangeShapes Go.WideShapes
set_option maxRecDepth 100000

theorem pv_intr {g : Nat} {xs : List PV} (h : PVOK tab (g + 1) 3 xs) : ∃ n, xs = [.i .i64 n] ∧ -9223372036854775808 ≤ n ∧ n ≤ 9223372036854775807 := by
  simp only [PVOK, tab3] at h
  obtain ⟨n, h, hw⟩ := h
  have h1 : IntKind.i64.min ≤ n ∧ n ≤ IntKind.i64.max := by simpa [Lit.wf] using hw
  exact ⟨n, h, h1.1, h1.2⟩

section
variable {H : Type} {enc : TypeId × Value → H} {W : World} {base : Nat} {v : Value} {d : DataW H} {p : List MemPlace}

theorem trod_part {P : Program} {t : Nat} {fs : Array Field} {w : World} {sp : Nat → Bool} {held : Bool} (hu : P.underlying t = some (.struct fs)) (h : DataW.Trod enc P w 0 sp held t v d p) {j : Nat} {f : Field} (hf : fs.toList[j]? = some f) :
    ∃ parts dj fuel q, d = .agg parts ∧ parts[j]? = some dj ∧ DataW.trod enc P w 0 sp held fuel f.type ((v.cells.toList.drop f.offset).take (P.cellsOf f.type)) = some (dj, q) := by
  obtain ⟨fuel, hf2⟩ := h
  cases fuel with
  | zero => simp [DataW.trod] at hf2
  | succ fuel =>
    simp only [DataW.trod, hu] at hf2
    split at hf2
    · simp only [Option.map_eq_some_iff] at hf2
      obtain ⟨xs, h5, h6⟩ := hf2
      simp only [Prod.mk.injEq] at h6
      obtain ⟨y, hy1, hy2⟩ := (mapM_at h5).2 j f hf
      exact ⟨_, y.1, fuel, y.2, h6.1.symm, by rw [List.getElem?_map, hy1]; rfl, hy2⟩
    · cases hf2

theorem arg_call {ts : List TypeId} {ds : List (DataW H)} {j : Nat} (hs : (DataW.weightsEach Tryz.prog ts ds).all (· ≤ reachBytes) = true) (ht : ts[j]? = some 26) (hd : ds[j]? = some d)
    (hv : Value.okWide Tryz.prog W .any base 26 v) (h : DataW.Trod enc Tryz.prog W 0 (fun _ => true) true 26 v d p) : ∃ c : Cl, OkC c ∧ RelD (lawStart W) (.agg (clv c)) v := by
  obtain ⟨xs, hx, hr⟩ := arg_open tabOK 3 (by kernel_rfl) hv h
  obtain ⟨parts, rfl, hp⟩ := pvok_struct (by rw [tab26]) hx
  obtain ⟨a1, _, rfl, h1, hp⟩ := pvs_cons hp
  obtain ⟨a2, _, rfl, h2, hp⟩ := pvs_cons hp
  obtain ⟨a3, _, rfl, h3, hp⟩ := pvs_cons hp
  obtain ⟨a4, _, rfl, h4, hp⟩ := pvs_cons hp
  obtain ⟨a5, _, rfl, h5, hp⟩ := pvs_cons hp
  obtain ⟨a6, _, rfl, h6, hp⟩ := pvs_cons hp
  obtain ⟨a7, _, rfl, h7, hp⟩ := pvs_cons hp
  obtain ⟨a8, _, rfl, h8, hp⟩ := pvs_cons hp
  obtain rfl := pvs_nil hp
  obtain ⟨n1, rfl⟩ := pv_int h1
  obtain ⟨n2, rfl, hn2⟩ := pv_str h2
  obtain ⟨n3, rfl, hn3⟩ := pv_str h3
  obtain ⟨n4, rfl⟩ := pv_int h4
  obtain ⟨n5, rfl, hn5⟩ := pv_float h5
  obtain ⟨n6, rfl, hn6⟩ := pv_intr h6
  obtain ⟨n7, rfl⟩ := pv_int h7
  obtain ⟨n8, rfl, hn8⟩ := pv_bytes h8
  have hr2 : RelD (lawStart W) (.agg (clv ⟨n1, n2, n3, n4, n5, n6, n7, n8⟩)) v := hr
  refine ⟨⟨n1, n2, n3, n4, n5, n6, n7, n8⟩, ⟨hn2, hn3, hn5, ?_, hn6⟩, hr2⟩
  obtain ⟨vs, rfl, hrv⟩ := hr2
  simp only
  obtain ⟨parts, dj, fuel, q, rfl, hpj, hfj⟩ := trod_part Tryz.underlying26 h (j := 7) rfl
  match vs, hrv with
  | [v0, v1, v2, v3, v4, v5, v6, v7], hrv =>
    have h7r : RelD (lawStart W) (.c (.p (.sl 1 (encB n8)))) v7 := hrv.2.2.2.2.2.2.2.1
    obtain ⟨av, cv, rfl, _⟩ := id h7r
    have ht7 : DataW.Trod enc Tryz.prog W 0 (fun _ => true) true 24 (.slice av (encB n8).length cv) dj q := ⟨fuel, hfj⟩
    rcases trod_len Tryz.underlying24 ht7 h7r with h0 | ⟨elems, spare, rfl, hl⟩
    · have := congrArg List.length h0
      simp only [encB_len, List.length_nil] at this
      omega
    · have hw : (elems.length + spare.length) * Tryz.prog.bytesOf 5 ∈ DataW.weights Tryz.prog 26 (.agg parts) := by
        simp only [DataW.weights, Tryz.underlying26]
        exact DataW.weights_mem_each (j := 7) rfl hpj _ (by simp [DataW.weights, Tryz.underlying24])
      have h1 := List.all_eq_true.1 hs _ (DataW.weights_mem_each ht hd _ hw)
      have h2 : Tryz.prog.bytesOf 5 = 1 := by kernel_rfl
      rw [encB_len] at hl
      rw [h2, hl] at h1
      have h3 : reachBytes = 140737488351232 := rfl
      simp only [decide_eq_true_eq] at h1
      omega
end
end Go.Proofs.YtnbgaphhhjnjlaaGreatDoor

end
