/-
  The engine, part 9: that the operations of the model do what part 6 says: cuts, conversions, new memory, append. No condition beyond the table of types being the program's.
-/
import Derived.Test.YtomaddpcacoodaaE8
import Derived.Deep.AppendSrc
import Derived.Lib.ConvBytes
import Derived.Laws.BytesString
set_option linter.unusedSimpArgs false
set_option linter.unusedVariables false
namespace Go.Dm
open Go

section cuts
variable {P : Program} {T : Tab} {X : Ctx} {K : DV → DHeap → Prop}

theorem bnd_inv {t : Fr} {a : Act} (hρ : ∀ x, RelD X (evD t x) (a.eval x)) {o : Option Operand} {d : Int} {Q : Int → Prop} (h : bnd t o d Q) :
    ∃ n, Q n ∧ ((o.map a.eval = none ∧ n = d) ∨ ∃ k, o.map a.eval = some (.int k n)) := by
  unfold bnd at h
  split at h
  · exact ⟨d, h, .inl ⟨rfl, rfl⟩⟩
  · rename_i x
    split at h
    · rename_i k n he
      have := hρ x
      rw [he] at this
      simp only [RelD, RelC, RelP] at this
      exact ⟨n, h, .inr ⟨k, by simp [this]⟩⟩
    · exact h.elim

theorem run_sliceBound {k : IntKind} {n : Int} {y : Nat} {c : BoundsCode} {w : World} (h0 : 0 ≤ n) (h1 : n ≤ y) : (Instr.sliceBound (.int k n) y c).run P w = .ok n.toNat w := by
  simp [Instr.sliceBound, asIntOf, h0, h1]

theorem run_sliceBounds {b : Bool} {len cap : Nat} {lo hi : Option Value} {x y : Int} {w : World} (hx : (lo = none ∧ x = 0) ∨ ∃ k, lo = some (.int k x)) (hy : (hi = none ∧ y = len) ∨ ∃ k, hi = some (.int k y))
    (h0 : 0 ≤ x) (h1 : x ≤ y) (h2 : y ≤ len) (h3 : len ≤ cap) : (Instr.sliceBounds b len cap lo hi none).run P w = .ok (x.toNat, y.toNat, cap) w := by
  have h4 : y ≤ cap := by omega
  rcases hx with ⟨rfl, rfl⟩ | ⟨k, rfl⟩ <;> rcases hy with ⟨rfl, rfl⟩ | ⟨k', rfl⟩
  · simp [Instr.sliceBounds]
  · simp [Instr.sliceBounds, run_sliceBound (P := P) (show (0 : Int) ≤ y by omega) h4]
  · have : (x : Int) ≤ ((len : Nat) : Int) := h1
    simp [Instr.sliceBounds, run_sliceBound (P := P) h0 this]
  · have : (x : Int) ≤ ((y.toNat : Nat) : Int) := by omega
    simp [Instr.sliceBounds, run_sliceBound (P := P) (show (0 : Int) ≤ y by omega) h4, run_sliceBound (P := P) h0 this]

theorem dslice_val (hT : TabOK P T) (hi : HInv X) {t : Fr} {a : Act} (hρ : ∀ x, RelD X (evD t x) (a.eval x)) {ty : Nat} {x : DV} {vx : Value} {lo hi' : Option Operand} (hx : RelD X x vx)
    (h : dslice T ty X.h x (bnd t lo) (bnd t hi') fun d => K d X.h) : Val X K ((Instr.sliceAt ty vx (lo.map a.eval) (hi'.map a.eval) none).run P X.w) := by
  unfold dslice at h
  split at h
  · rename_i l hk
    obtain ⟨n, h, hn⟩ := bnd_inv hρ h
    obtain ⟨m, ⟨h0, h1, h2, h⟩, hm⟩ := bnd_inv hρ h
    simp only [RelD, RelC, RelP] at hx
    subst hx
    refine Val.same hi (v := .string ⟨((l.take m.toNat).drop n.toNat).toArray⟩) ?_ (oneP (x := .s _) rfl) h
    have hb := run_sliceBounds (P := P) (b := false) (w := X.w) (len := l.length) (cap := l.length) hn hm h0 h1 h2 (Nat.le_refl _)
    simp only [Instr.sliceAt, Sem.run_bind, run_underlying (und_str hT hk), Result.andThen_ok]
    simp only [Instr.slice, Sem.run_bind, run_underlying (und_str hT hk), Result.andThen_ok]
    have hsz : (⟨l.toArray⟩ : ByteArray).size = l.length := by simp [ByteArray.size]
    rw [hsz]
    simp only [Option.isSome_none, Bool.false_eq_true, if_false, Sem.run_bind, hb, Result.andThen_ok, Sem.run_pure]
    congr 2
    apply ByteArray.ext
    rw [ByteArray.data_extract]
    simp [List.drop_take]
  · rename_i e k es hk
    obtain ⟨hs, hsz, h⟩ := h
    obtain ⟨n, h, hn⟩ := bnd_inv hρ h
    obtain ⟨m, ⟨h0, h1, h2, h⟩, hm⟩ := bnd_inv hρ h
    simp only [RelD, RelC, RelP] at hx
    obtain ⟨ad, c, rfl, hc, hL⟩ := hx
    have hb := run_sliceBounds (P := P) (b := true) (w := X.w) hn hm h0 h1 h2 hc
    have hlen : ((es.take m.toNat).drop n.toNat).length = m.toNat - n.toNat := by simp; omega
    have hrun : (Instr.sliceAt ty (.slice ad es.length c) (lo.map a.eval) (hi'.map a.eval) none).run P X.w = .ok (.slice (if c = n.toNat then ad else ad.map (·.add (n.toNat * (T e).size))) (m.toNat - n.toNat) (c - n.toNat)) X.w := by
      simp only [Instr.sliceAt, Sem.run_bind, run_underlying (und_slice hT hk), Result.andThen_ok]
      simp only [Instr.slice, Sem.run_bind, run_underlying (und_slice hT hk), Result.andThen_ok, hb, run_size hT (tab_known hT hs), Sem.run_pure]
    refine Val.same hi hrun (oneP (x := .sl k ((es.take m.toNat).drop n.toNat)) ?_) h
    simp only [RelP]
    refine ⟨_, _, by rw [hlen], by rw [hlen]; omega, ?_⟩
    rcases hL with rfl | ⟨bl, off, rfl, hS, hL⟩
    · exact .inl (by simp)
    · by_cases he : m.toNat = n.toNat
      · exact .inl (List.eq_nil_of_length_eq_zero (by omega))
      · refine .inr ⟨bl, off + n.toNat * k, ?_, hS, (hL.take _).drop _⟩
        rw [if_neg (by omega), hsz]
        simp [add_mk]
  · rename_i e hk
    obtain ⟨hs, h⟩ := h
    obtain ⟨n, h', hn⟩ := bnd_inv hρ h
    obtain ⟨m, ⟨h0, h1, h2, hK⟩, hm⟩ := bnd_inv hρ h'
    simp only [RelD, RelC, RelP] at hx
    subst hx
    have hn0 : n = 0 := by omega
    have hm0 : m = 0 := by omega
    subst hn0; subst hm0
    have hb := run_sliceBounds (P := P) (b := true) (w := X.w) (len := 0) (cap := 0) (hi := hi'.map a.eval) (y := 0) hn (by rcases hm with ⟨hm, _⟩ | hm; exact .inl ⟨hm, rfl⟩; exact .inr hm) (by omega) (by omega) (by omega) (Nat.le_refl _)
    refine Val.same hi (v := .slice none 0 0) ?_ (oneP (x := .nil) rfl) hK
    simp only [Instr.sliceAt, Sem.run_bind, run_underlying (und_slice hT hk), Result.andThen_ok]
    simp only [Instr.slice, Sem.run_bind, run_underlying (und_slice hT hk), Result.andThen_ok, hb, run_size hT (tab_known hT hs), Sem.run_pure]
    simp
  · rename_i e id off len hk
    split at h
    · rename_i k es ro he
      obtain ⟨hs, hsz, h⟩ := h
      obtain ⟨n, h', hn⟩ := bnd_inv hρ h
      obtain ⟨m, ⟨h0, h1, h2, hK⟩, hm⟩ := bnd_inv hρ h'
      obtain ⟨hid, _, h3⟩ := hx
      obtain ⟨h4, h5⟩ := h3 _ _ _ he
      cases hG : X.G id with
      | none =>
        rw [hG] at h5
        simp only at h5
        subst h5
        have hlen0 : len = 0 := by
          have hb := hi.blk id _ he
          simp only [RelB] at hb
          rcases hb with hb | ⟨g', _, _, _, hg, _⟩
          · rw [hb.2] at h4; simp only [List.length_nil] at h4; omega
          · rw [hG] at hg; cases hg
        subst hlen0
        have hn0 : n = 0 := by omega
        have hm0 : m = 0 := by omega
        subst hn0; subst hm0
        have hb := run_sliceBounds (P := P) (b := true) (w := X.w) (len := 0) (cap := 0) (hi := hi'.map a.eval) (y := 0) hn hm (by omega) (by omega) (by omega) (Nat.le_refl _)
        refine Val.same hi (v := .slice none 0 0) ?_ (relC (x := .own id off 0) ⟨hid, rfl, fun k' es' ro' hc => ⟨by rw [he] at hc; cases hc; omega, by rw [hG]⟩⟩) (by simpa using hK)
        simp only [Instr.sliceAt, Sem.run_bind, run_underlying (und_slice hT hk), Result.andThen_ok]
        simp only [Instr.slice, Sem.run_bind, run_underlying (und_slice hT hk), Result.andThen_ok, hb, run_size hT (tab_known hT hs), Sem.run_pure]
        simp
      | some g =>
        rw [hG] at h5
        obtain ⟨cap, o, arr, el, fz, h6, rfl, h7, h8, h9, h10⟩ := h5
        have hb := run_sliceBounds (P := P) (b := true) (w := X.w) hn hm h0 h1 h2 h8
        have hrun : (Instr.sliceAt ty (.slice (some ⟨g.1, o, none⟩) len cap) (lo.map a.eval) (hi'.map a.eval) none).run P X.w =
            .ok (.slice (some ⟨g.1, if cap = n.toNat then o else o + n.toNat * k, none⟩) (m.toNat - n.toNat) (cap - n.toNat)) X.w := by
          simp only [Instr.sliceAt, Sem.run_bind, run_underlying (und_slice hT hk), Result.andThen_ok]
          simp only [Instr.slice, Sem.run_bind, run_underlying (und_slice hT hk), Result.andThen_ok, hb, run_size hT (tab_known hT hs), Sem.run_pure, hsz]
          congr 2
          split
          · rfl
          · simp [add_mk]
        refine Val.same hi hrun (relC (x := .own id (off + n.toNat) (m.toNat - n.toNat)) ⟨hid, rfl, fun k' es' ro' hc => ?_⟩) hK
        rw [he] at hc; cases hc
        refine ⟨by omega, ?_⟩
        rw [hG]
        refine ⟨cap - n.toNat, _, arr, el, fz, h6, rfl, ?_, by omega, by omega, ?_⟩
        · by_cases hcn : cap = n.toNat
          · exact .inl (by omega)
          · right
            rw [if_neg hcn]
            rcases h7 with h7 | h7
            · omega
            · rw [h7, Nat.add_mul]; omega
        · have : off + n.toNat + (cap - n.toNat) = off + cap := by omega
          rw [this]; exact h10
    · exact h.elim
  · exact h.elim

/-! Bytes and texts. -/
theorem bytesOf_vals {w : World} {S : Nat → Prop} : ∀ {es : List (List PV)} {l : List UInt8} {vs : List Value}, bytesOf es = some l → RelPs w S es.flatten vs → ∃ ns : List Int, vs = ns.map (Value.int .u8) ∧ ns.map (fun n => UInt8.ofNat n.toNat) = l ∧ es.length = l.length
  | [], l, vs, h, hr => by
    simp only [bytesOf, Option.some.injEq] at h
    subst h
    cases vs with
    | nil => exact ⟨[], rfl, rfl, rfl⟩
    | cons _ _ => exact hr.elim
  | e :: es, l, vs, h, hr => by
    simp only [bytesOf] at h
    split at h
    · rename_i b l' hb hl
      simp only [Option.some.injEq] at h
      subst h
      unfold byteOf at hb
      split at hb
      · rename_i n
        simp only [Option.some.injEq] at hb
        subst hb
        simp only [List.flatten_cons, List.cons_append, List.nil_append] at hr
        cases vs with
        | nil => exact hr.elim
        | cons v vs =>
          obtain ⟨h1, h2⟩ := hr
          simp only [RelP] at h1
          subst h1
          obtain ⟨ns, rfl, h4, h5⟩ := bytesOf_vals hl h2
          exact ⟨n :: ns, rfl, by simp [h4], by simp [h5]⟩
      · cases hb
    · cases h

theorem foldl_push_bytes : ∀ (ns : List Int) (s : ByteArray), ns.foldl (fun r n => r.push (UInt8.ofNat n.toNat)) s = ⟨(s.data.toList ++ ns.map fun n => UInt8.ofNat n.toNat).toArray⟩
  | [], s => by simp
  | n :: ns, s => by
    simp only [List.foldl_cons]
    rw [foldl_push_bytes ns]
    simp

/-- What a slice's elements read as, in memory. -/
theorem elemsOf_vals {X : Ctx} (hi : HInv X) {d : DV} {v : Value} {es : List (List PV)} (hd : RelD X d v) (he : elemsOf X.h d = some es) :
    ∃ a c vs, v = .slice a es.length c ∧ RelPs X.w X.S es.flatten vs ∧ (a = none → es = []) ∧
      ∀ ad, a = some ad → ∀ (j : Nat) (u : Value), vs[j]? = some u → X.w.cell? (ad.add j) = some u := by
  have base : ∀ {a : Option Addr} {k : Nat} {es : List (List PV)}, (es = [] ∨ ∃ bl off, a = some ⟨bl, off, none⟩ ∧ RelL X.w X.S k bl off es) →
      ∃ vs : List Value, RelPs X.w X.S es.flatten vs ∧ (a = none → es = []) ∧ ∀ ad, a = some ad → ∀ (j : Nat) (u : Value), vs[j]? = some u → X.w.cell? (ad.add j) = some u := by
    intro a k es h
    rcases h with rfl | ⟨bl, off, rfl, hL⟩
    · exact ⟨[], True.intro, fun _ => rfl, fun ad h j u h => by simp at h⟩
    · obtain ⟨vs, h1, _, h2⟩ := hL.vals
      exact ⟨vs, h1, (fun h => by cases h), (fun ad h j u hj => by cases h; rw [add_mk]; exact h2 j u hj)⟩
  unfold elemsOf at he
  split at he
  · cases he
    simp only [RelD, RelC, RelP] at hd
    exact ⟨none, 0, [], hd, True.intro, (fun _ => rfl), (fun ad h => by cases h)⟩
  · rename_i k es'
    cases he
    simp only [RelD, RelC, RelP] at hd
    obtain ⟨a, c, rfl, hc, hL⟩ := hd
    obtain ⟨vs, h1, h2, h3⟩ := base (a := a) (k := k) (es := es) (by
      rcases hL with hL | ⟨bl, off, h1, _, h2⟩
      · exact .inl hL
      · exact .inr ⟨bl, off, h1, h2⟩)
    exact ⟨a, c, vs, rfl, h1, h2, h3⟩
  · rename_i id off len
    split at he
    · rename_i k es' ro hx
      cases he
      obtain ⟨_, _, h3⟩ := hd
      obtain ⟨h4, h5⟩ := h3 _ _ _ hx
      have hlen : ((es'.drop off).take len).length = len := by simp; omega
      have hb := hi.blk id _ hx
      simp only [RelB] at hb
      cases hG : X.G id with
      | none =>
        rw [hG] at h5
        rcases hb with hb | ⟨g', _, _, _, hg, _⟩
        · rw [hb.2] at h4 hlen ⊢
          have : len = 0 := by simp at h4; omega
          subst this
          exact ⟨none, 0, [], by simpa using h5, by simp [RelPs], (fun _ => by simp), (fun ad h => by cases h)⟩
        · rw [hG] at hg; cases hg
      | some g =>
        rw [hG] at h5
        obtain ⟨cap, o, arr, el, fz, h6, rfl, h7, h8, h9, h10⟩ := h5
        rcases hb with hb | ⟨g', _, _, _, hg, _, _, _, hL⟩
        · rw [hG] at hb; cases hb.1
        rw [hG] at hg; cases hg
        obtain ⟨vs, h11, h12, h13⟩ := base (a := some ⟨g.1, o, none⟩) (k := k) (es := (es'.drop off).take len) (by
          rcases h7 with h7 | h7
          · exact .inl (List.eq_nil_of_length_eq_zero (by omega))
          · exact .inr ⟨g.1, g.2 + off * k, by rw [h7], (hL.drop off).take len⟩)
        exact ⟨_, cap, vs, by rw [hlen], h11, h12, h13⟩
    · cases he
  · cases he

end cuts

end Go.Dm
