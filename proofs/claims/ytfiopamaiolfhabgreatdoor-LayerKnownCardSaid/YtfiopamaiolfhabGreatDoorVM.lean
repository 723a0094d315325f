/-
  The engine: a region whose order is drawn, of operations that change nothing, rows that it makes taken as data at once. No condition.
-/
import Derived.Test.YtfiopamaiolfhabGreatDoorVE
set_option linter.unusedSimpArgs false
set_option linter.unusedVariables false
namespace Go.Dm
open Go

/-! What a call's memory says when the last row of it is taken as data and let go. -/
theorem relK_cut {F X : Ctx} (pre : ∀ (id : Nat) (db : DB), X.h[id]? = some db → F.h[id]? = some db) {c : KV} {v v0 : Value} (h : RelK F c v) (h0 : RelK X c v0) : RelK ⟨F.w, F.S, F.G, X.h⟩ c v := by
  cases c <;> simp only [RelK] at h h0 ⊢
  case p => exact h
  case ptr => exact ⟨h0.1, h.2.1, fun cells hc => h.2.2 cells (pre _ _ hc)⟩
theorem relKs_cut {F X : Ctx} (pre : ∀ (id : Nat) (db : DB), X.h[id]? = some db → F.h[id]? = some db) : ∀ {cs : List KV} {vs vs0 : List Value}, RelKs F cs vs → RelKs X cs vs0 → RelKs ⟨F.w, F.S, F.G, X.h⟩ cs vs
  | [], [], _, _, _ => True.intro
  | _ :: _, _ :: _, _ :: _, h, h0 => ⟨relK_cut pre h.1 h0.1, relKs_cut pre h.2 h0.2⟩
  | [], _ :: _, _, h, _ => h.elim
  | _ :: _, [], _, h, _ => h.elim
  | _ :: _, _ :: _, [], _, h => h.elim
theorem relC_cut {F X : Ctx} (pre : ∀ (id : Nat) (db : DB), X.h[id]? = some db → F.h[id]? = some db) {c : CV} {v v0 : Value} (h : RelC F c v) (h0 : RelC X c v0) : RelC ⟨F.w, F.S, F.G, X.h⟩ c v := by
  cases c <;> simp only [RelC] at h h0 ⊢
  case p => exact h
  case own => exact ⟨h0.1, h.2.1, fun k es ro hc => h.2.2 k es ro (pre _ _ hc)⟩
  case ptr => exact ⟨h0.1, h.2.1, fun cells hc => h.2.2 cells (pre _ _ hc)⟩
  case aptr => exact ⟨h0.1, h.2.1, fun k es ro hc => h.2.2 k es ro (pre _ _ hc)⟩
  case eptr => exact h
  case full => exact h
  case clo =>
    obtain ⟨vs, h1, h2⟩ := h
    obtain ⟨_, _, h3⟩ := h0
    exact ⟨vs, h1, relKs_cut pre h2 h3⟩
theorem relBox_cut {F X : Ctx} (pre : ∀ (id : Nat) (db : DB), X.h[id]? = some db → F.h[id]? = some db) {bl bl0 : Nat} : ∀ {cs : List CV} {off off0 : Nat}, RelBox F bl off cs → RelBox X bl0 off0 cs → RelBox ⟨F.w, F.S, F.G, X.h⟩ bl off cs
  | [], _, _, _, _ => by simp only [RelBox]
  | _ :: _, _, _, h, h0 => by
    simp only [RelBox] at h h0 ⊢
    obtain ⟨⟨v, h1, h2⟩, h3⟩ := h
    obtain ⟨⟨_, _, g2⟩, g3⟩ := h0
    exact ⟨⟨v, h1, relC_cut pre h2 g2⟩, relBox_cut pre h3 g3⟩
theorem relB_cut {F X : Ctx} (pre : ∀ (id : Nat) (db : DB), X.h[id]? = some db → F.h[id]? = some db) {id : Nat} {db : DB} (h : RelB F id db) (h0 : RelB X id db) : RelB ⟨F.w, F.S, F.G, X.h⟩ id db := by
  cases db <;> simp only [RelB] at h h0 ⊢
  case box =>
    obtain ⟨g, arr, el, fz, h1, h2, h3, h4, h5⟩ := h
    obtain ⟨_, _, _, _, _, _, _, _, g5⟩ := h0
    exact ⟨g, arr, el, fz, h1, h2, h3, h4, relBox_cut pre h5 g5⟩
  case arr => exact h
theorem unmade {X X' : Ctx} (hi : HInv X) (hi' : HInv X') (hs : Step X X') {k : Nat} {es : List (List PV)} (hh : X'.h = X.h ++ [.arr k es false]) {v : Value} (hr : RelD X' (.c (.own X.h.length 0 es.length)) v) :
    ∃ Y : Ctx, Y.w = X'.w ∧ Y.h = X.h ∧ HInv Y ∧ Step X Y ∧ RelD Y (.c (.p (.sl k es))) v := by
  obtain ⟨F, f1, f2, f3, f4, f5, f6⟩ := freezes [X.h.length] hi'
  have e : F.h = X.h ++ [.arr k es true] := by rw [f2, hh]; simp [frzs, frzH]
  have h6 := hs.trans hi' f4
  have pre : ∀ (id : Nat) (db : DB), X.h[id]? = some db → F.h[id]? = some db := fun id db h => by
    rw [e, List.getElem?_append_left (List.getElem?_eq_some_iff.1 h).1]; exact h
  have hj : X'.h[X.h.length]? = some (.arr k es false) := by rw [hh]; simp
  refine ⟨⟨F.w, F.S, F.G, X.h⟩, f1, rfl, ⟨f5.slt, fun id db h => relB_cut pre (f5.blk id db (pre id db h)) (hi.blk id db h), fun id db g h => f5.own id db g (pre id db h), fun id db id' db' g g' h1 h2 h3 h4 => f5.inj id db id' db' g g' (pre _ _ h1) h2 h3 (pre _ _ h4)⟩,
    ⟨h6.size, h6.os, h6.tape, h6.output, h6.kept, Nat.le_refl _, fun id db' hlt h hl => h6.ids id db' hlt (pre _ _ h) hl, h6.frame, fun id db g h => h6.mine id db g (pre _ _ h), h6.upper⟩, ?_⟩
  simp only [RelD, RelC] at hr ⊢
  exact pvOf_rel (c := .own X.h.length 0 es.length) (x := .sl k es) hi' f4 f1 (by simp only [RelC]; exact hr) (pvOf_row hj rfl) f6

/-- What an operation does: it changes memory as said, or makes a row that is taken as data at once. -/
def OneD (P : Program) (T : Tab) (ops : Array Oper) (n : Nat) (o : Oper) (t : Fr) (h : DHeap) (v : DV) (h' : DHeap) : Prop :=
  (o.dst ≠ none ∧ One P T ops n o t h v h') ∨ ∃ k es, v = .c (.p (.sl k es)) ∧ h' = h ∧ o.dst ≠ none ∧ One P T ops n o t h (.c (.own h.length 0 es.length)) (h ++ [.arr k es false])
namespace WD
section
variable {P : Program} {T : Tab} {X0 : Ctx}
/-- What an operation at a place of the plan does, whether the free change has been or not. -/
def GoodF (P : Program) (T : Tab) (ops : Array Oper) (n : Nat) (chain : List Nat) (f : Nat) (V : Nat → DV) (H : Nat → Bool → DHeap) (t : Fr) (c i : Nat) : Prop :=
  ∃ o, ops[i]? = some o ∧ (chain.contains i = true → ∀ b : Bool, (b = false → waitsT ops 6 i f = false) → (b = true → waitsT ops 6 f i = false) → OneD P T ops n o t (H c b) (V i) (H (c + 1) b)) ∧
    (chain.contains i = false → i = f → ∀ s, loOf ops chain i ≤ s → s ≤ c → OneD P T ops n o t (H s false) (V i) (H s true)) ∧
    (chain.contains i = false → i ≠ f → ∀ s (b : Bool), loOf ops chain i ≤ s → s ≤ c → (b = false → waitsT ops 6 i f = false) → (b = true → waitsT ops 6 f i = false) → OneD P T ops n o t (H s b) (V i) (H s b))
structure RInvF (P : Program) (X0 : Ctx) (ops : Array Oper) (n : Nat) (chain : List Nat) (f : Nat) (V : Nat → DV) (H : Nat → Bool → DHeap) (t0 : Fr) (L : Array Bool) (X : Ctx) (a : Act) : Prop where
  size : L.size = ops.size
  closed : Closed ops L
  hh : X.h = H (chain.filter fun e => L.getD e false).length (L.getD f false)
  hi : HInv X
  hs : Step X0 X
  sz : a.tmps.size = n
  defs : a.defers = []
  relA : ∀ k j, L.getD k false = true → dstOf ops k = some j → RelD X (V k) (a.tmps.getD j undef)
  relB : ∀ j, (∀ k, L.getD k false = true → dstOf ops k ≠ some j) → RelD X (look t0 j) (a.tmps.getD j undef)
section plan
variable {ops : Array Oper} {n : Nat} {chain order : List Nat}

theorem drawn_stepF (hT : TabOK P T) (gd : Gnd P X0) (hp : PlanAt ops n chain order) {f : Nat} (hfc : chain.contains f = false) {V : Nat → DV} {H : Nat → Bool → DHeap} {t0 : Fr} (hG : ∀ pre i post, order = pre ++ i :: post → GoodF P T ops n chain f V H (frameOf ops V t0 pre) (cnt chain pre) i)
    {L : Array Bool} {X : Ctx} {a : Act} {Q : Exit → Act → World → Prop} (hR : RInvF P X0 ops n chain f V H t0 L X a) {i : Nat} (hi : i ∈ Region.ready .any ops L) {next : Act → World → Prop}
    (hn : ∀ X' a', RInvF P X0 ops n chain f V H t0 (L.setIfInBounds i true) X' a' → next a' X'.w) : wpOp P ops Q i next a X.w := by
  obtain ⟨hiL, ⟨o, ho⟩, hpr⟩ := ready_of hi
  have hiL' : L.getD i false = false := getD_both hiL
  have hilt : i < L.size := by rw [hR.size]; exact (Array.getElem?_eq_some_iff.1 ho).1
  obtain ⟨pre, post, e⟩ := List.append_of_mem (hp.all i o ho)
  have hat := hp.at_ pre i post e
  simp only [atOK, ho, Bool.and_eq_true, List.all_eq_true, Bool.or_eq_true, Bool.not_eq_true'] at hat
  obtain ⟨⟨⟨⟨_, hlater⟩, hlook⟩, _⟩, hnp⟩ := hat
  have hdst : dstOf ops i = o.dst := by simp [dstOf, ho]
  have hinpost : i ∉ post := by simpa using hnp
  have waiting : ∀ k, L.getD k false = true → waitsT ops 6 k i = false := fun k hk => by
    cases hw : waitsT ops 6 k i with
    | false => rfl
    | true =>
      have := waits_in hR.closed 6 k i (hR.closed k hk) hw
      rw [hiL'] at this; cases this
  have waited : ∀ k, waitsT ops 6 i k = true → L.getD k false = true := fun k hk => waits_in hR.closed 6 i k hpr hk
  have hch : chain = pre.filter chain.contains ++ ((i :: post).filter chain.contains) := by
    conv => lhs; rw [← hp.chn, e, List.filter_append]
  have hpostL : ∀ k ∈ post.filter chain.contains, L.getD k false = false := fun k hk => by
    obtain ⟨h1, h2⟩ := List.mem_filter.1 hk
    cases hl : L.getD k false with
    | false => rfl
    | true =>
      rcases hlater k h1 with h | h
      · rw [h2] at h; cases h
      · rw [waiting k hl] at h; cases h
  obtain ⟨o', ho', good⟩ := hG pre i post e
  rw [ho] at ho'; cases ho'
  -- the frame as the operation sees it
  have tin : ∀ h, X.h = h → TInv X ⟨n, keep (o.looksAt ops) (frameOf ops V t0 pre), h⟩ a := by
    intro h _
    refine ⟨hR.sz, fun j => ?_, hR.defs⟩
    simp only [look_keep]
    split
    · rename_i hj
      have hj' : j ∈ o.looksAt ops := by simpa using hj
      obtain ⟨l1, l2⟩ := hlook j hj'
      by_cases hk : ∃ k ∈ pre, dstOf ops k = some j
      · obtain ⟨k, hkp, hkd⟩ := hk
        have hkL : L.getD k false = true := by
          rcases l1 k hkp with h | h
          · rw [hkd] at h; simp at h
          · exact waited k h
        rw [frameOf_hit hkd pre t0 hkp fun k' hk' hd' => hp.uniq (e ▸ List.mem_append_left _ hkp) (e ▸ List.mem_append_left _ hk') hkd hd']
        exact hR.relA k j hkL hkd
      · rw [frameOf_miss pre t0 fun k hkp hkd => hk ⟨k, hkp, hkd⟩]
        refine hR.relB j fun k hkL hkd => ?_
        have hko : k ∈ order := by
          unfold dstOf at hkd
          cases hok : ops[k]? with
          | none => rw [hok] at hkd; cases hkd
          | some ok => exact hp.all k ok hok
        rw [e] at hko
        rcases List.mem_append.1 hko with h | h
        · exact hk ⟨k, h, hkd⟩
        · rcases List.mem_cons.1 h with rfl | h
          · rw [hiL'] at hkL; cases hkL
          · rcases l2 k h with h' | h'
            · rw [hkd] at h'; simp at h'
            · rw [waiting k hkL] at h'; cases h'
    · exact True.intro
  -- one operation done
  have fin : ∀ h', OneD P T ops n o (frameOf ops V t0 pre) X.h (V i) h' → h' = H (chain.filter fun k => (L.setIfInBounds i true).getD k false).length ((L.setIfInBounds i true).getD f false) → wpOp P ops Q i next a X.w := by
    intro h' hone hh'
    have last : ∀ X', X'.h = h' → HInv X' → Step X X' → ∀ v, RelD X' (V i) v → next (a.put o.dst v) X'.w := by
      intro X' k1' hi' hs' v hr
      refine hn X' _ ⟨by simp [hR.size], fun x hx k hk => ?_, by rw [k1', hh'], hi', hR.hs.trans hR.hi hs', by rw [put_size]; exact hR.sz, by rw [put_defs]; exact hR.defs, fun k j hk hkd => ?_, fun j hj => ?_⟩
      · rcases getD_set_cases hx with rfl | hx
        · exact getD_set_true (hpr k hk)
        · exact getD_set_true (hR.closed x hx k hk)
      · rcases getD_set_cases hk with rfl | hk
        · rw [hdst] at hkd
          have hjn : j < n := hp.dlt k j (by rw [hdst]; exact hkd)
          rw [hkd, put_self (by rw [hR.sz]; exact hjn)]
          exact hr
        · rw [put_get]
          · exact (hR.relA k j hk hkd).step hs'
          · intro hd
            have : k = i := hp.uniq (hp.all i o ho) (by
              unfold dstOf at hkd
              cases hok : ops[k]? with
              | none => rw [hok] at hkd; cases hkd
              | some ok => exact hp.all k ok hok) (hdst.trans hd) hkd
            rw [this, hiL'] at hk; cases hk
      · rw [put_get]
        · exact (hR.relB j fun k hk => hj k (getD_set_true hk)).step hs'
        · rw [← hdst]; exact hj i (getD_set_self hilt false)
    have relv : ∀ (X' : Ctx) (d : DV) (v : Value) (v' : DV) (h2 : DHeap), (DS.put ⟨n, keep (o.looksAt ops) (frameOf ops V t0 pre), X.h⟩ o.dst d X'.h).h = h2 → res (DS.put ⟨n, keep (o.looksAt ops) (frameOf ops V t0 pre), X.h⟩ o.dst d X'.h) o.dst = v' → RelD X' d v → (o.dst ≠ none → RelD X' v' v) ∧ X'.h = h2 := by
      intro X' d v v' h2 k1 k2 hr
      refine ⟨fun hne => ?_, by rw [← k1]; unfold DS.put; split <;> (try split) <;> rfl⟩
      cases hd : o.dst with
      | none => exact absurd hd hne
      | some j =>
        have hjn : j < n := hp.dlt i j (by rw [hdst]; exact hd)
        simp only [hd, DS.put, if_pos hjn, res, look, if_true] at k2
        rw [← k2]; exact hr
    have goal : (if Region.wanted o (yielded ops a.tmps) then o.wp P a X.w next Q else next (a.put o.dst undef) X.w) → wpOp P ops Q i next a X.w := by
      intro this
      unfold wpOp
      simp only [ho]
      split
      · rename_i hw; rw [if_pos hw] at this; exact .inl this
      · rename_i hw; rw [if_neg hw] at this; exact this
    have hone0 := hone
    rcases hone with ⟨hdn, hone⟩ | ⟨k, es, hv, hhe, hdn, hone⟩
    · exact goal (step_sound (Q := Q) (next := next) hT (s := ⟨n, keep (o.looksAt ops) (frameOf ops V t0 pre), X.h⟩) rfl hR.hi (gd.step hR.hs) (tin _ rfl) hone fun d v X' hk hi' hs' hr => by
        obtain ⟨q1, q2⟩ := relv X' d v _ _ hk.1 hk.2 hr
        exact last X' q2 hi' hs' v (q1 hdn))
    · exact goal (step_sound (Q := Q) (next := next) hT (s := ⟨n, keep (o.looksAt ops) (frameOf ops V t0 pre), X.h⟩) rfl hR.hi (gd.step hR.hs) (tin _ rfl) hone fun d v X' hk hi' hs' hr => by
        obtain ⟨q1, q2⟩ := relv X' d v _ _ hk.1 hk.2 hr
        obtain ⟨Y, y1, y2, y3, y4, y5⟩ := unmade hR.hi hi' hs' q2 (q1 hdn)
        rw [← y1]
        exact last Y (by rw [y2, hhe]) y3 y4 v (by rw [hv]; exact y5))
  have hAL : ((pre.filter chain.contains).filter fun k => L.getD k false).length = (chain.filter fun k => L.getD k false).length := by
    conv => rhs; rw [hch]
    rw [List.filter_append, List.length_append]
    have : ((i :: post).filter chain.contains).filter (fun k => L.getD k false) = [] := by
      rw [List.filter_eq_nil_iff]
      intro k hk
      obtain ⟨h1, h2⟩ := List.mem_filter.1 hk
      rcases List.mem_cons.1 h1 with rfl | h1
      · rw [hiL']; simp
      · rw [hpostL k (List.mem_filter.2 ⟨h1, h2⟩)]; simp
    rw [this]; rfl
  obtain ⟨good1, good2, good3⟩ := good
  by_cases hc : chain.contains i = true
  · have hif : i ≠ f := fun e => by subst e; rw [hfc] at hc; cases hc
    have hch' : chain = pre.filter chain.contains ++ i :: post.filter chain.contains := by
      conv => lhs; rw [hch, List.filter_cons, if_pos hc]
    have hA : ∀ k ∈ pre.filter chain.contains, L.getD k false = true := fun k hk => waited k (hp.prs _ _ _ hch' k hk)
    have hcn : cnt chain pre = (chain.filter fun k => L.getD k false).length := by
      rw [← hAL, List.filter_eq_self.2 hA]; rfl
    have good := good1 hc (L.getD f false) (fun hf => by
      cases hw : waitsT ops 6 i f with
      | false => rfl
      | true => have := waited f hw; rw [hf] at this; cases this) (fun hf => waiting f hf)
    rw [hcn, ← hR.hh] at good
    refine fin _ good ?_
    rw [getD_set_ne false hif]
    refine congrArg (fun k => H k (L.getD f false)) ?_
    rw [← hcn]
    conv => rhs; rw [hch', List.filter_append, List.filter_cons, if_pos (getD_set_self hilt false)]
    have h1 : (pre.filter chain.contains).filter (fun k => (L.setIfInBounds i true).getD k false) = pre.filter chain.contains := List.filter_eq_self.2 fun k hk => getD_set_true (hA k hk)
    have h2 : (post.filter chain.contains).filter (fun k => (L.setIfInBounds i true).getD k false) = [] := by
      rw [List.filter_eq_nil_iff]
      intro k hk
      have hki : i ≠ k := fun e => hinpost (e ▸ (List.mem_filter.1 hk).1)
      rw [getD_set_ne false hki, hpostL k hk]; simp
    rw [h1, h2]
    simp [cnt]
  · have hc' : chain.contains i = false := by simpa using hc
    have hcnt : (chain.filter fun k => (L.setIfInBounds i true).getD k false).length = (chain.filter fun k => L.getD k false).length := by
      refine filter_len_eq _ _ _ fun k hk => ?_
      have hki : i ≠ k := by rintro rfl; exact hc (by simpa using hk)
      rw [getD_set_ne false hki]
    have lo := filter_len_le (waitsT ops 6 i) (fun k => L.getD k false) chain fun k _ hk => waited k hk
    have hi2 : (chain.filter fun k => L.getD k false).length ≤ cnt chain pre := by rw [← hAL]; exact List.length_filter_le _ _
    by_cases hif : i = f
    · have hone := good2 hc' hif (chain.filter fun k => L.getD k false).length lo hi2
      have hhh := hR.hh
      rw [← hif, hiL'] at hhh
      rw [← hhh] at hone
      refine fin _ hone ?_
      rw [hcnt, ← hif, getD_set_self hilt false]
    · have hone := good3 hc' hif (chain.filter fun k => L.getD k false).length (L.getD f false) lo hi2 (fun hf => by
        cases hw : waitsT ops 6 i f with
        | false => rfl
        | true => have := waited f hw; rw [hf] at this; cases this) (fun hf => waiting f hf)
      rw [← hR.hh] at hone
      refine fin _ hone ?_
      rw [hcnt, getD_set_ne false hif, hR.hh]

theorem drawn_allF (hT : TabOK P T) (gd : Gnd P X0) (hp : PlanAt ops n chain order) {f : Nat} (hfc : chain.contains f = false) {V : Nat → DV} {H : Nat → Bool → DHeap} {t0 : Fr} (hG : ∀ pre i post, order = pre ++ i :: post → GoodF P T ops n chain f V H (frameOf ops V t0 pre) (cnt chain pre) i)
    {Q : Exit → DS → Prop} (hfo : f ∈ order) (hK : Q .normal ⟨n, frameOf ops V t0 order, H (cnt chain order) true⟩) : ∀ (fuel : Nat) (L : Array Bool) (X : Ctx) (a : Act), RInvF P X0 ops n chain f V H t0 L X a →
      (order.filter fun k => !L.getD k true).length ≤ fuel → wpAny P .any ops (Post X0 Q) fuel L a X.w := by
  have done : ∀ (L : Array Bool) (X : Ctx) (a : Act), RInvF P X0 ops n chain f V H t0 L X a → Region.ready .any ops L = [] → Post X0 Q .normal a X.w := by
    intro L X a hR hr
    have hall : ∀ (post pre : List Nat), order = pre ++ post → (∀ k ∈ pre, L.getD k false = true) → ∀ k ∈ order, L.getD k false = true := by
      intro post
      induction post with
      | nil => intro pre e h k hk; rw [e, List.append_nil] at hk; exact h k hk
      | cons i post ih =>
        intro pre e h
        refine ih (pre ++ [i]) (by simpa using e) fun k hk => ?_
        rcases List.mem_append.1 hk with hk | hk
        · exact h k hk
        · rw [List.mem_singleton] at hk
          subst hk
          have hat := hp.at_ pre k post e
          simp only [atOK, Bool.and_eq_true, List.all_eq_true] at hat
          cases hl : L.getD k false with
          | true => rfl
          | false =>
            have hk : k < ops.size := by
              have := hat.1.1.2
              cases hok : ops[k]? with
              | none => rw [hok] at this; cases this
              | some ok => exact (Array.getElem?_eq_some_iff.1 hok).1
            have : k ∈ Region.ready .any ops L := ready_mk (getD_in (by rw [hR.size]; exact hk) hl) hk fun m hm => h m (by simpa using hat.1.1.1.1 m hm)
            rw [hr] at this; cases this
    have hL := hall order [] rfl (fun k hk => by cases hk)
    refine ⟨_, X, hK, rfl, ?_, hR.hi, hR.hs, hR.sz, fun j => ?_, hR.defs⟩
    · rw [hR.hh, hL f hfo]
      simp only [cnt, hp.chn]
      rw [List.filter_eq_self.2]
      intro k hk
      rw [← hp.chn] at hk
      exact hL k (List.mem_filter.1 hk).1
    · by_cases hk : ∃ k ∈ order, dstOf ops k = some j
      · obtain ⟨k, hkp, hkd⟩ := hk
        simp only
        rw [frameOf_hit hkd order t0 hkp fun k' hk' hd' => hp.uniq hkp hk' hkd hd']
        exact hR.relA k j (hL k hkp) hkd
      · simp only
        rw [frameOf_miss order t0 fun k hkp hkd => hk ⟨k, hkp, hkd⟩]
        refine hR.relB j fun k _ hkd => hk ⟨k, ?_, hkd⟩
        unfold dstOf at hkd
        cases hok : ops[k]? with
        | none => rw [hok] at hkd; cases hkd
        | some ok => exact hp.all k ok hok
  have mem_count : ∀ (L : Array Bool) i, i ∈ Region.ready .any ops L → i ∈ order.filter fun k => !L.getD k true := fun L i hi => by
    obtain ⟨h1, ⟨o, h2⟩, _⟩ := ready_of hi
    exact List.mem_filter.2 ⟨hp.all i o h2, by rw [h1]; rfl⟩
  intro fuel
  induction fuel with
  | zero =>
    intro L X a hR hc
    have hr : Region.ready .any ops L = [] := by
      cases hr : Region.ready .any ops L with
      | nil => rfl
      | cons i l =>
        have := mem_count L i (by rw [hr]; exact List.mem_cons_self)
        rw [List.length_eq_zero_iff.1 (Nat.le_zero.1 hc)] at this
        cases this
    exact ⟨hr, done L X a hR hr⟩
  | succ fuel ih =>
    intro L X a hR hc
    refine ⟨fun hr => done L X a hR hr, fun i hi => drawn_stepF hT gd hp hfc hG hR hi fun X' a' hR' => ih _ X' a' hR' ?_⟩
    have hm := mem_count L i hi
    obtain ⟨hiL, ⟨o, ho⟩, _⟩ := ready_of hi
    obtain ⟨p, q, e⟩ := List.append_of_mem hm
    have hsub : (order.filter fun k => !(L.setIfInBounds i true).getD k true) = (order.filter fun k => !L.getD k true).filter fun k => !(k == i) := by
      rw [List.filter_filter]
      refine List.filter_congr fun k hk => ?_
      by_cases hki : i = k
      · subst hki
        rw [getD_set_self (by rw [hR.size]; exact (Array.getElem?_eq_some_iff.1 ho).1)]
        simp
      · rw [getD_set_ne true hki]
        have : (k == i) = false := by simpa using fun e => hki e.symm
        rw [this]; simp
    rw [hsub, e, List.filter_append, List.filter_cons]
    rw [e, List.length_append, List.length_cons] at hc
    simp only [beq_self_eq_true, Bool.not_true, Bool.false_eq_true, if_false, List.length_append]
    have h1 := List.length_filter_le (fun k => !(k == i)) p
    have h2 := List.length_filter_le (fun k => !(k == i)) q
    omega

end plan
/-- All of a plan, one operation behind the other. -/
def runF (P : Program) (T : Tab) (ops : Array Oper) (n : Nat) (chain : List Nat) (f : Nat) (V : Nat → DV) (H : Nat → Bool → DHeap) : List Nat → Fr → Nat → Prop
  | [], _, _ => True
  | i :: rest, t, c => GoodF P T ops n chain f V H t c i ∧ runF P T ops n chain f V H rest (putF t (dstOf ops i) (V i)) (c + if chain.contains i then 1 else 0)
theorem runF_good {ops : Array Oper} {n : Nat} {chain : List Nat} {f : Nat} {V : Nat → DV} {H : Nat → Bool → DHeap} : ∀ (l : List Nat) (t : Fr) (c : Nat), runF P T ops n chain f V H l t c → ∀ pre i post, l = pre ++ i :: post → GoodF P T ops n chain f V H (frameOf ops V t pre) (c + cnt chain pre) i
  | [], _, _, _, pre, i, post, e => by simp at e
  | x :: l, t, c, h, pre, i, post, e => by
    cases pre with
    | nil =>
      simp only [List.nil_append, List.cons.injEq] at e
      obtain ⟨rfl, _⟩ := e
      exact h.1
    | cons y pre =>
      simp only [List.cons_append, List.cons.injEq] at e
      obtain ⟨rfl, e⟩ := e
      have := runF_good l _ _ h.2 pre i post e
      have e2 : c + cnt chain (x :: pre) = (c + if chain.contains x then 1 else 0) + cnt chain pre := by
        simp only [cnt, List.filter_cons]
        split <;> simp <;> omega
      rw [e2]
      exact this
theorem swp_drawnF (hT : TabOK P T) (hm : P.follows .mixedOrders = true) {Q : Exit → DS → Prop} {n : Nat} {t : Fr} {h : DHeap} {id : Nat} {l : List Oper} (chain order : List Nat) (f : Nat) (V : Nat → DV) (H : Nat → Bool → DHeap) (hp : planOK l.toArray n chain order = true) (hf : (!chain.contains f && order.contains f) = true)
    (h0 : H 0 false = h) (hr : runF P T l.toArray n chain f V H order t 0) (hK : Q .normal ⟨n, frameOf l.toArray V t order, H (cnt chain order) true⟩) : SWP P X0 (.region id l.toArray true) ⟨n, t, h⟩ Q := by
  intro gd X a hh hi hs ht
  have hp := planOK_at hp
  simp only [Bool.and_eq_true, Bool.not_eq_true'] at hf
  have hG : ∀ pre i post, order = pre ++ i :: post → GoodF P T l.toArray n chain f V H (frameOf l.toArray V t pre) (cnt chain pre) i := fun pre i post e => by
    have := runF_good order t 0 hr pre i post e
    rw [Nat.zero_add] at this
    exact this
  refine wp_region_any hm (drawn_allF hT gd hp hf.1 hG (by simpa using hf.2) hK _ _ X.draw a ?_ ?_)
  · have hf : ∀ k, (Array.replicate l.toArray.size false).getD k false = false := getD_replicate_false _
    refine ⟨by simp, fun i hi' => ?_, ?_, draw_inv hi, hs.trans hi (draw_step hi), ht.size, ht.defs, fun k j hk => ?_, fun j _ => (ht.rel j).step (draw_step hi)⟩
    · rw [hf] at hi'; cases hi'
    · have : (chain.filter fun e => (Array.replicate l.toArray.size false).getD e false) = [] := by
        rw [List.filter_eq_nil_iff]
        intro k _; rw [hf]; simp
      rw [this, List.length_nil, hf, h0]
      exact hh
    · rw [hf] at hk; cases hk
  · refine Nat.le_trans (List.length_filter_le _ _) ?_
    exact hp.len
theorem good_see {l : List Oper} {n : Nat} {f c i : Nat} {V : Nat → DV} {t : Fr} {h : DHeap} {o : Oper} (ho : l[i]? = some o) (hn : (match o.dst with | some i => Nat.blt i n | none => false) = true)
    (h1 : dops P T l.toArray [o] ⟨n, t, h⟩ (kOne h o.dst (V i))) : GoodF P T l.toArray n [] f V (fun _ _ => h) t c i := by
  have hd : o.dst ≠ none := by cases hd : o.dst <;> simp [hd] at hn ⊢
  have hn' : (match o.dst with | some i => Nat.blt i n | none => true) = true := by cases hd : o.dst <;> simp [hd] at hn ⊢; exact hn
  exact ⟨o, by simpa using ho, fun e => (by cases e), fun _ _ _ _ _ => .inl ⟨hd, dops_keep rfl hn' h1⟩, fun _ _ _ _ _ _ _ _ => .inl ⟨hd, dops_keep rfl hn' h1⟩⟩
theorem good_data {l : List Oper} {n : Nat} {f c i k : Nat} {es : List (List PV)} {V : Nat → DV} {t : Fr} {h : DHeap} {o : Oper} (ho : l[i]? = some o) (hn : (match o.dst with | some i => Nat.blt i n | none => false) = true)
    (hv : V i = .c (.p (.sl k es))) (h1 : dops P T l.toArray [o] ⟨n, t, h⟩ (kOne (h ++ [.arr k es false]) o.dst (.c (.own h.length 0 es.length)))) : GoodF P T l.toArray n [] f V (fun _ _ => h) t c i := by
  have hd : o.dst ≠ none := by cases hd : o.dst <;> simp [hd] at hn ⊢
  have hn' : (match o.dst with | some i => Nat.blt i n | none => true) = true := by cases hd : o.dst <;> simp [hd] at hn ⊢; exact hn
  have g : OneD P T l.toArray n o t h (V i) h := .inr ⟨k, es, hv, rfl, hd, dops_keep rfl hn' h1⟩
  exact ⟨o, by simpa using ho, fun e => (by cases e), fun _ _ _ _ _ => g, fun _ _ _ _ _ _ _ _ => g⟩
end
end Go.Dm.WD
