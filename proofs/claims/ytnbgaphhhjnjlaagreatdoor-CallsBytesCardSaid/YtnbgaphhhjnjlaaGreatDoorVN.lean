import Derived.Test.YtnbgaphhhjnjlaaGreatDoorVB

section
/-
  The engine: a contract over one box of data with two more arguments. No condition.
-/

set_option linter.unusedSimpArgs false
set_option linter.unusedVariables false
namespace Go.Dm
open Go
theorem useB2 {P : Program} {f : FuncId} {h : DHeap} {i : Nat} {c0 c1 : List CV} {x y : PV} {r : DV} {K : DV → DHeap → Prop}
    (hc : DCalls P f [.c (.ptr 0 0), .c (.p x), .c (.p y)] [.box c0] fun d h' => d = r ∧ h' = [.box c1])
    (h0 : h[i]? = some (.box c0)) (hd : (c0.all datC && (c1.all datC && datD r)) = true) (hk : K r (h.set i (.box c1))) :
    DCalls P f [.c (.ptr i 0), .c (.p x), .c (.p y)] h K := DCalls.box (ps := [x, y]) hc h0 hd hk
end Go.Dm

end

section
/-
  The engine: a contract over one box of data behind another argument. No condition.
-/

set_option linter.unusedSimpArgs false
set_option linter.unusedVariables false
namespace Go.Dm
open Go
/-- The same, the box behind one argument of data: a closure's captured variable. -/
theorem DCalls.boxA {P : Program} {f : FuncId} {h : DHeap} {i : Nat} {c0 c1 : List CV} {a : DV} {r : DV} {K : DV → DHeap → Prop}
    (hc : DCalls P f [a, .c (.ptr 0 0)] [.box c0] fun d h' => d = r ∧ h' = [.box c1])
    (ha : datD a = true) (h0 : h[i]? = some (.box c0)) (hd : (c0.all datC && (c1.all datC && datD r)) = true) (hk : K r (h.set i (.box c1))) :
    DCalls P f [a, .c (.ptr i 0)] h K := by
  simp only [Bool.and_eq_true] at hd
  obtain ⟨hd0, hd1, hdr⟩ := hd
  intro X vals hh hi gd hr
  subst hh
  have hlt := lt_of_some h0
  obtain ⟨g, arr, el, fz, hg, hb1, hb2, hb3, hb4⟩ := hi.blk i _ h0
  let Y : Ctx := ⟨X.w, X.S, fun j => if j = 0 then some g else none, [.box c0]⟩
  have hiY : HInv Y := by
    refine ⟨hi.slt, fun id db hdb => ?_, fun id db g' hdb hl hg' => ?_, fun id db id' db' g1 g2 hdb _ _ hdb' _ _ _ _ => ?_⟩
    · cases id with
      | zero =>
        simp only [Y, List.getElem?_cons_zero, Option.some.injEq] at hdb
        subst hdb
        exact ⟨g, arr, el, fz, rfl, hb1, hb2, hb3, datBox_mk hd0 hb4⟩
      | succ n => simp [Y] at hdb
    · cases id with
      | zero =>
        simp only [Y, List.getElem?_cons_zero, Option.some.injEq, if_true] at hdb hg'
        subst hdb; subst hg'
        exact hi.own i _ g h0 rfl hg
      | succ n => simp [Y] at hdb
    · have e1 := lt_of_some hdb
      have e2 := lt_of_some hdb'
      simp only [Y, List.length_cons, List.length_nil] at e1 e2
      omega
  match vals, hr with
  | [va, v0], hr =>
    obtain ⟨hra, ⟨_, hv1, hv2⟩, _⟩ := hr
    obtain ⟨g', hg', rfl⟩ := hv2 _ h0
    rw [hg] at hg'; cases hg'
    have hrY : RelDs Y [a, .c (.ptr 0 0)] [va, .pointer (some ⟨g.1, g.2 + 0, none⟩)] :=
      ⟨datD_rel (X := X) (Y := Y) rfl rfl ha hra, ⟨Nat.zero_lt_one, rfl, fun cells hcells => ⟨g, rfl, rfl⟩⟩, True.intro⟩
    have key : ∀ v w', Ret Y (fun d h' => d = r ∧ h' = [.box c1]) v w' → Ret X K v w' := by
      rintro v w' ⟨d, Z, h1, h2, h3, h4, rfl, h5⟩
      have hZ0 : Z.h[0]? = some (.box c1) := by rw [h5]; rfl
      obtain ⟨db, e1, e2, e3, e4⟩ := h3.ids 0 _ (by simp [Y]) hZ0 rfl
      have hGZ : Z.G 0 = some g := e3
      have e4 := e4 g rfl
      have hfr : ∀ b, b < X.w.heap.size → b ≠ g.1 → Z.w.heap[b]? = X.w.heap[b]? := fun b hb hne => h3.frame b hb fun id db g' hdb hl hf hg' => by
        have e1 := lt_of_some hdb
        simp only [Y, List.length_cons, List.length_nil] at e1
        have : id = 0 := by omega
        subst this
        simp only [Y, if_true, Option.some.injEq] at hg'
        subst hg'
        exact fun e => hne e.symm
      have hst : Step X ⟨Z.w, Z.S, X.G, X.h.set i (.box c1)⟩ := by
        refine ⟨h3.size, h3.os, h3.tape, h3.output, h3.kept, by simp, fun id db' hl' hdb' hlv => ?_, fun b hb hno => ?_, fun id db g' hdb hl hf hg' => ?_, fun b hb => ?_⟩
        · rcases put_some hdb' with ⟨rfl, rfl, _⟩ | ⟨hne, h'⟩
          · exact ⟨_, h0, True.intro, rfl, fun g' hg' => by rw [hg] at hg'; cases hg'; exact e4⟩
          · refine ⟨db', h', SameB.refl hlv, rfl, fun g' hg' => ?_⟩
            rw [show Z.w.heap[g'.1]? = X.w.heap[g'.1]? from hfr _ (hi.block_lt h' hlv hg') fun e => hne (hi.inj i _ id db' g g' h0 rfl rfl h' hlv hg hg' e.symm).symm]
            exact (hi.blk id db' h').same hlv g' hg'
        · exact hfr b hb fun e => hno i _ g h0 rfl rfl hg e.symm
        · rcases put_some hdb with ⟨rfl, rfl, _⟩ | ⟨hne, h'⟩
          · exact .inr ⟨id, _, g', h0, rfl, rfl, hg', rfl⟩
          · exact .inr ⟨id, db, g', h', hl, hf, hg', rfl⟩
        · rcases h3.upper b hb with h | h | ⟨id, db, g', hdb, hl, hg', e⟩
          · exact .inl h
          · exact .inr (.inl h)
          · have e1 := lt_of_some hdb
            simp only [Y, List.length_cons, List.length_nil] at e1
            have : id = 0 := by omega
            subst this
            simp only [Y, if_true, Option.some.injEq] at hg'
            subst hg'
            exact .inr (.inr ⟨i, _, g, h0, rfl, hg, e⟩)
      refine ⟨d, ⟨Z.w, Z.S, X.G, X.h.set i (.box c1)⟩, h1, ⟨h2.slt, fun id db hdb => ?_, fun id db g' hdb hl hg' => ?_, fun id db id' db' g1 g2 hdb hl hf hdb' hl' hg1 hg2 he => ?_⟩, hst, datD_mk hdr h4, hk⟩
      · rcases put_some hdb with ⟨rfl, rfl, _⟩ | ⟨hne, h'⟩
        · obtain ⟨g', arr', el', fz', k1, k2, k3, k4, k5⟩ := h2.blk 0 _ hZ0
          rw [hGZ] at k1; cases k1
          exact ⟨g, arr', el', fz', hg, k2, k3, k4, datBox_mk hd1 k5⟩
        · by_cases hl : db.live = true
          · exact (hi.blk id db h').move hst rfl fun g' hg' => hfr _ (hi.block_lt h' hl hg') fun e => hne (hi.inj i _ id db g g' h0 rfl rfl h' hl hg hg' e.symm).symm
          · cases db <;> simp_all [DB.live, RelB]
      · rcases put_some hdb with ⟨rfl, rfl, _⟩ | ⟨hne, h'⟩
        · have hgg : g' = g := by
            have : X.G id = some g' := hg'
            rw [hg] at this; cases this; rfl
          subst hgg
          exact h2.own 0 _ g' hZ0 rfl hGZ
        · have ho := hi.own id db g' h' hl hg'
          refine ⟨fun hf hS => ?_, fun hf => (h3.kept _ (ho.2 hf)).1⟩
          rcases h3.upper _ hS with h | h | ⟨j, d', g2, hdb2, hl2, hg2, e⟩
          · exact ho.1 hf h
          · have := hi.block_lt h' hl hg'
            have hYw : Y.w.heap.size = X.w.heap.size := rfl
            omega
          · have e1 := lt_of_some hdb2
            simp only [Y, List.length_cons, List.length_nil] at e1
            have : j = 0 := by omega
            subst this
            simp only [Y, if_true, Option.some.injEq] at hg2
            subst hg2
            exact hne (hi.inj i _ id db g g' h0 rfl rfl h' hl hg hg' e).symm
      · rcases put_some hdb with ⟨rfl, rfl, _⟩ | ⟨hne, h1'⟩ <;> rcases put_some hdb' with ⟨rfl, rfl, _⟩ | ⟨hne', h2'⟩
        · rfl
        · exact hi.inj id _ id' db' g1 g2 h0 rfl rfl h2' hl' hg1 hg2 he
        · exact hi.inj id db id' _ g1 g2 h1' hl hf h0 rfl hg1 hg2 he
        · exact hi.inj id db id' db' g1 g2 h1' hl hf h2' hl' hg1 hg2 he
    have gdY : Gnd P Y := gd
    rcases hc Y _ rfl hiY gdY hrY with ⟨h1, h2⟩ | ⟨v, w', h1, h2⟩
    · exact .inl ⟨h1, h2.mono fun e w' ⟨v, he, hv⟩ => ⟨v, he, key v w' hv⟩⟩
    · exact .inr ⟨v, w', h1, key v w' h2⟩

theorem useBA {P : Program} {f : FuncId} {h : DHeap} {i : Nat} {c0 c1 : List CV} {a : DV} {r : DV} {K : DV → DHeap → Prop}
    (hc : DCalls P f [a, .c (.ptr 0 0)] [.box c0] fun d h' => d = r ∧ h' = [.box c1]) (ha : datD a = true)
    (h0 : h[i]? = some (.box c0)) (hd : (c0.all datC && (c1.all datC && datD r)) = true) (hk : K r (h.set i (.box c1))) :
    DCalls P f [a, .c (.ptr i 0)] h K := DCalls.boxA hc ha h0 hd hk
/-- A row within an argument of data ahead of a box is made immutable first. -/
theorem DCalls.frzA {P : Program} {f : FuncId} {h : DHeap} {i : Nat} {a a' : DV} {K : DV → DHeap → Prop} (hne : (didss [a]).isEmpty = false) (hp : dpures h [a] = some [a'])
    (hd : DCalls P f [a', .c (.ptr i 0)] (frzs h (didss [a])) K) : DCalls P f [a, .c (.ptr i 0)] h K := by
  intro X vals hh hi gd hr
  obtain ⟨X', h1, h2, h3, h4, h5, h6⟩ := freezes (didss [a]) hi
  rw [← hh] at hp hd
  match vals, hr with
  | [va, v0], ⟨hra, hrp, _⟩ =>
    have hr1 : RelDs X' [a'] [va] := dpures_rel (Y := X') (ds := [a]) hi h4 h1 rfl rfl (show RelDs X [a] [va] from ⟨hra, True.intro⟩) hp h6
    have hrq : RelD X' (.c (.ptr i 0)) v0 := RelD.step h4 hrp
    have key : ∀ v w', Ret X' K v w' → Ret X K v w' := fun v w' ⟨d, Y, k1, k2, k3, k4, k5⟩ => ⟨d, Y, k1, k2, h4.trans h5 k3, k4, k5⟩
    rw [← h1]
    rcases hd X' [va, v0] h2 h5 (gd.step h4) ⟨hr1.1, hrq, True.intro⟩ with ⟨h7, h8⟩ | ⟨v, w', h7, h8⟩
    · exact .inl ⟨h7, h8.mono fun e w' ⟨v, he, hv⟩ => ⟨v, he, key _ _ hv⟩⟩
    · exact .inr ⟨v, w', h7, key _ _ h8⟩
end Go.Dm

end
