/-
  The engine: a literal of slices whose rows stay the call's own (its entries are written into later); it is taken as data afterwards. No condition.
-/
import Derived.Test.YtcoedlaifhfnnaaDoorMM
import Derived.Test.YtcoedlaifhfnnaaDoorRA
set_option linter.unusedSimpArgs false
set_option linter.unusedVariables false
set_option maxRecDepth 100000
namespace Go.Dm
open Go

theorem one_cells {v : Value} (h : v.oneCell' = true) : v.cells = #[v] := by
  cases v <;> first | rfl | (simp [Value.oneCell'] at h; done)
theorem RelCs.flat {X : Ctx} : ∀ {cs : List CV} {vs : List Value}, RelCs X cs vs → (vs.map fun v => v.cells.toList).flatten = vs
  | [], [], _ => rfl
  | c :: cs, v :: vs, h => by
    rw [List.map_cons, List.flatten_cons, one_cells (oneCell_of_relC h.1), RelCs.flat h.2]
    rfl
  | [], _ :: _, h => h.elim
  | _ :: _, [], h => h.elim

section
variable {P : Program} {T : Tab} {X X0 : Ctx}
theorem buildBox_val (hT : TabOK P T) (hi : HInv X) {t e len : Nat} (hk : (T t).k = .slice e) (h1 : (T e).size = 1) (hln : len ≤ 1000) {cs : List CV} {vparts : Array (Nat × Value)} (hr : vparts.toList.map (·.1) = List.range len) (hc : RelCs X cs (vparts.toList.map (·.2))) :
    ∃ X' v, (Instr.buildSlice t len vparts).run P X.w = .ok v X'.w ∧ X'.h = X.h ++ [.box cs] ∧ HInv X' ∧ Step X X' ∧ RelD X' (.c (.bs X.h.length len)) v := by
  have hs : (T e).size ≠ 0 := by omega
  obtain ⟨_, i, z, g1, g2, g3, g4, g5, g6, g7, g8⟩ := tab_info hT (tab_known hT hs)
  have hn : vparts.size = len := by
    have := congrArg List.length hr
    simpa using this
  have hpart : ∀ p ∈ vparts.toList, p.2.cells.size = 1 := fun p hp => by
    rw [one_cells (RelCs.oneCell hc p.2 (List.mem_map.2 ⟨p, hp, rfl⟩))]
    rfl
  have hfl : (vparts.toList.map fun p => p.2.cells.toList).flatten = vparts.toList.map (·.2) := by
    have := hc.flat
    rwa [List.map_map] at this
  have hrun : (Instr.buildSlice t len vparts).run P X.w = .ok (.slice (some ⟨X.w.heap.size, 0, none⟩) len len) (X.w.alloc (.cells (vparts.toList.map (·.2)).toArray e)) := by
    have hbig' : ¬ 16777216 < len * i.size := by rw [g2, h1]; omega
    have hfill := fill_dense (size := 1) vparts.toList 0 (((Array.range (len * 1)).map fun j => (if len * 1 = 0 then #[] else z.cells)[j % (if len * 1 = 0 then #[] else z.cells).size]!).toList) hpart
      (by rw [hr]; simp [hn, List.range_eq_range']) (by simp [hn])
    have hdrop : ((0 + vparts.toList.length) * 1) = len * 1 := by simp [hn]
    rw [hdrop, List.drop_of_length_le (by simp)] at hfill
    simp only [Nat.zero_mul, List.take_zero, List.nil_append, List.append_nil] at hfill
    rw [hfl] at hfill
    have g2' : i.size = 1 := by omega
    by_cases q : len * 1 = 0
    · simp only [q, if_true] at hfill
      have q' : len * i.size = 0 := by rw [g2']; exact q
      simp only [Instr.buildSlice, Sem.run_bind, run_underlying (und_slice hT hk), Result.andThen_ok, sizeOf, typeInfo, Sem.run_bind, run_program, g1, Sem.run_pure, q']
      simp only [gt_iff_lt, Nat.not_lt_zero, if_false, Sem.run_bind, Result.andThen_ok, Sem.run_pure, if_true]
      simp [g2'] at hfill ⊢
      have hr0 : ((Array.range 0).map fun _ => (default : Value)) = #[] := by apply Array.ext'; simp
      simp [hr0, hfill, newRow]
    · simp only [if_neg q, Array.toArray_toList] at hfill
      have q' : ¬ len * i.size = 0 := by rw [g2']; exact q
      rw [← g2'] at hfill
      simp [Instr.buildSlice, run_underlying (und_slice hT hk), sizeOf, typeInfo, g1, hbig', q', zeroValue, g4, hfill, newRow]
  obtain ⟨k1, k2, k3⟩ := new_box (cells := cs) hi (Grew.alloc X.w (.cells (vparts.toList.map (·.2)).toArray e)) hc (Free.zero _ _)
  refine ⟨X.push _ (.box cs), _, hrun, rfl, k2, k1, relC (x := .bs X.h.length len) ⟨by simp [Ctx.push], rfl, fun cells hd => ⟨(X.w.heap.size, 0), by simp [Ctx.push], rfl⟩⟩⟩

/-- A region with such a literal at place n. -/
theorem swp_boxS (hT : TabOK P T) {id : Nat} {l l2 : List Oper} {s : DS} {Q : Exit → DS → Prop} (n : Nat) {o : Oper} {ty e len i : Nat} {ps : List (Nat × Operand)} (hl : l.drop n = o :: l2) (ho : o.op = .buildSlice ty len ps.toArray) (hg : o.guard = none) (hd : o.dst = some i) (hk : (T ty).k = .slice e) (h1 : (T e).size = 1) (hln : len ≤ 1000) (hr : ps.map (·.1) = List.range len)
    (h : ∀ K : DS → Prop, (∀ n' t' h' cs, i < n' → (ps.map fun p => evD t' p.2) = cs.map .c → (∀ K2 : DS → Prop, (∀ s2, Q .normal s2 → K2 s2) → dops P T l.toArray l2 ⟨n', (i, .c (.bs h'.length len)) :: t', h' ++ [.box cs]⟩ K2) → K ⟨n', t', h'⟩) → dops P T l.toArray (l.take n) s K) :
    SWP P X0 (.region id l.toArray false) s Q := by
  intro gd X a hh hi hs ht
  refine wp_region_list ?_
  rw [show l.toArray.toList = l.take n ++ o :: l2 by rw [← hl]; simp]
  refine dops_then hT (gd.step hs) (l.take n) hh hi (Step.refl hi) ht (h _ fun n' t' h' cs hin hev hq => ?_)
  intro X' a' hh' hi' hst ht'
  have hrel : RelCs X' cs (ps.map fun p => a'.eval p.2) := by
    have h5 := relDs_map (X := X') (t := t') (a := a') ht'.ev (ps.map (·.2))
    rw [List.map_map, List.map_map] at h5
    have e1 : ps.map (evD t' ∘ fun p => p.2) = cs.map .c := hev
    rw [e1] at h5
    have key : ∀ {cs : List CV} {vs : List Value}, RelDs X' (cs.map .c) vs → RelCs X' cs vs := by
      intro cs
      induction cs with
      | nil => intro vs h; cases vs with
        | nil => exact True.intro
        | cons _ _ => exact h.elim
      | cons c cs ih => intro vs h; cases vs with
        | nil => exact h.elim
        | cons v vs => exact ⟨h.1, ih h.2⟩
    exact key h5
  obtain ⟨X2, v, r1, r2, r3, r4, r5⟩ := buildBox_val (X := X') hT hi' hk h1 hln (vparts := (ps.map fun p => (p.1, a'.eval p.2)).toArray) (by simpa [List.map_map, Function.comp_def] using hr) (by simpa [List.map_map, Function.comp_def] using hrel)
  refine wpList_plain hg fun K hK => ?_
  unfold Oper.wp execOp
  have hps : (Array.map (fun p : Nat × Operand => (p.1, a'.eval p.2)) ps.toArray) = (ps.map fun p => (p.1, a'.eval p.2)).toArray := by apply Array.ext'; simp
  simp only [ho, Sem.run_bind]
  rw [show (Array.map (fun x : Nat × Operand => match x with | (i, x) => (i, a'.eval x)) ps.toArray) = (ps.map fun p => (p.1, a'.eval p.2)).toArray from hps, r1]
  simp only [Result.andThen_ok, Sem.run_pure]
  rw [Oper.upon_value]
  refine hK _ _ ?_
  have hh3 : X'.h = h' := hh'
  have ht2 : TInv X2 ⟨n', (i, .c (.bs h'.length len)) :: t', h' ++ [.box cs]⟩ (a'.put o.dst v) := by
    have := (ht'.step r4).put (d := .c (.bs X'.h.length len)) r5 o.dst (h' ++ [.box cs])
    rw [hd] at this ⊢
    rw [show (⟨n', t', h'⟩ : DS).put (some i) (.c (.bs X'.h.length len)) (h' ++ [.box cs]) = ⟨n', (i, .c (.bs X'.h.length len)) :: t', h' ++ [.box cs]⟩ from if_pos hin, hh3] at this
    exact this
  rw [← List.append_nil l2]
  refine dops_then hT (gd.step ((hs.trans hi hst).trans hi' r4)) l2 (by rw [r2, hh3]) r3 (Step.refl r3) ht2 (hq _ fun s2 hs2 => ?_)
  intro X3 a3 hh4 hi4 hst4 ht4
  exact wpList_nil ⟨s2, X3, hs2, rfl, hh4, hi4, ((hs.trans hi hst).trans hi' r4).trans r3 hst4, ht4⟩

/-- Such a literal taken as data. -/
theorem lead_bs {n0 : Nat} {s : DS} (i id n : Nat) {cells : List CV} {xs : List PV} (hl : look s.t i = .c (.bs id n)) (hd : s.h[id]? = some (.box cells)) (hp : pvs s.h cells = some xs) (hn : xs.length = n) (hid : n0 ≤ id) :
    Lead n0 s ⟨s.n, (i, .c (.p (.sl 1 (xs.map fun x => [x])))) :: s.t, (frzs s.h (idsOf cells)).set id .dead⟩ := by
  intro X0 X a hn0 hh hi hs ht
  obtain ⟨F, f1, f2, f3, f4, f5, f6⟩ := freezes (idsOf cells) hi
  rw [← hh] at hd hp
  obtain ⟨g, arr, el, fz, q1, q2, q3, q4, q5⟩ := hi.blk id _ hd
  have hsl := ht.rel i
  rw [hl] at hsl
  obtain ⟨p1, p2, p3⟩ := hsl
  obtain ⟨g', hg', hv⟩ := p3 _ hd
  rw [q1] at hg'; cases hg'
  have hdF : F.h[id]? = some (.box cells) := by
    rw [f2]
    have : ∀ (ids : List Nat) (h : DHeap), h[id]? = some (.box cells) → (frzs h ids)[id]? = some (.box cells) := by
      intro ids
      induction ids with
      | nil => intro h hh; exact hh
      | cons j ids ih =>
        intro h hh
        refine ih (frzH h j) ?_
        unfold frzH
        split
        · rename_i k es ro he
          rw [List.getElem?_set_ne]
          · exact hh
          · rintro rfl; rw [he] at hh; cases hh
        · exact hh
    exact this _ _ hd
  have hGF : F.G id = some g := by rw [f3]; exact q1
  obtain ⟨vs, hvs, hcell⟩ := q5.cells
  have hrp : RelPs F.w F.S xs vs := pvs_rel hi f4 f1 hvs hp f6
  -- the literal's own block among what is immutable
  let Y : Ctx := ⟨F.w, fun b => F.S b ∨ b = g.1, F.G, F.h.set id .dead⟩
  have hlive : ∀ j db, Y.h[j]? = some db → db.live = true → j ≠ id ∧ F.h[j]? = some db := fun j db h hl' => kill_some h hl'
  have stY : Step F Y := by
    refine ⟨Nat.le_refl _, rfl, rfl, OutW.rfl', fun b hb => ⟨.inl hb, rfl⟩, by simp [Y], fun j db' _ h hl' => ?_, fun _ _ _ => rfl, fun j db g2 h hl' hf hg2 => ?_, fun b hb => ?_⟩
    · obtain ⟨_, h'⟩ := hlive j db' h hl'
      exact ⟨db', h', SameB.refl hl', rfl, (f5.blk j db' h').same hl'⟩
    · obtain ⟨_, h'⟩ := hlive j db h hl'
      exact .inr ⟨j, db, g2, h', hl', hf, hg2, rfl⟩
    · rcases hb with hb | rfl
      · exact .inl hb
      · exact .inr (.inr ⟨id, _, g, hdF, rfl, hGF, rfl⟩)
  have hiY : HInv Y := by
    refine ⟨fun b hb => ?_, fun j db h => ?_, fun j db g2 h hl' hg2 => ?_, fun j db j' db' g1 g2 h hl' hf h' hl2 hg1 hg2 he => ?_⟩
    · rcases hb with hb | rfl
      · exact f5.slt b hb
      · exact f5.block_lt hdF rfl hGF
    · by_cases hl' : db.live = true
      · obtain ⟨_, h'⟩ := hlive j db h hl'
        exact (f5.blk j db h').move stY rfl fun _ _ => rfl
      · cases db <;> simp_all [DB.live, RelB]
    · obtain ⟨hne, h'⟩ := hlive j db h hl'
      have ho := f5.own j db g2 h' hl' hg2
      refine ⟨fun hf hS => ?_, fun hf => .inl (ho.2 hf)⟩
      rcases hS with hS | hS
      · exact ho.1 hf hS
      · exact hne (f5.inj j db id _ g2 g h' hl' hf hdF rfl hg2 hGF hS)
    · obtain ⟨_, h1'⟩ := hlive j db h hl'
      obtain ⟨_, h2'⟩ := hlive j' db' h' hl2
      exact f5.inj j db j' db' g1 g2 h1' hl' hf h2' hl2 hg1 hg2 he
  refine ⟨Y, f1, by show F.h.set id .dead = _; rw [f2, hh], hiY, (hs.trans hi f4).trans f5 stY, ht.size, fun j => ?_, ht.defs⟩
  simp only [look]
  split
  · rename_i hij
    subst hij
    show RelP F.w _ (.sl 1 (xs.map fun x => [x])) _
    simp only [RelP]
    refine ⟨_, n, by rw [List.length_map, hn]; exact hv, by rw [List.length_map, hn]; exact Nat.le_refl _, .inr ⟨g.1, g.2, rfl, .inr rfl, ?_⟩⟩
    have hfl : (xs.map fun x => [x]).flatten = xs := by
      clear hrp hp hn
      induction xs with
      | nil => rfl
      | cons x xs ih => simp [ih]
    refine RelL.of_vals (vs := vs) (fun e he => ?_) ?_ (fun j v hj => ?_)
    · obtain ⟨x, _, rfl⟩ := List.mem_map.1 he; rfl
    · rw [hfl]
      exact hrp.kept (show Kept F.w F.w F.S Y.S from fun b hb => ⟨.inl hb, rfl⟩)
    · rw [f1]; exact hcell j v hj
  · exact ((ht.rel j).step f4).step stY
end
end Go.Dm
