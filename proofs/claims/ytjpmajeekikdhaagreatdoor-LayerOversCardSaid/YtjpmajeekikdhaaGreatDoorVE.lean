import Derived.Test.YtjpmajeekikdhaaGreatDoorVB
import Derived.Test.YtjpmajeekikdhaaGreatDoorSB

section
/-
  The engine, sixth part: a nil slice within a box taken as an empty row; a loop's round taken as a whole. No condition.
-/

set_option linter.unusedSimpArgs false
set_option linter.unusedVariables false
namespace Go.Dm
open Go
section
variable {P : Program} {T : Tab} {X0 : Ctx} {Q : Exit → DS → Prop}
theorem swp_box {c : Code} {s : DS} (id : Nat) (cs cs' : List CV) (hb : s.h[id]? = some (.box cs)) (hd : cs.all datC = true) (hw : wkCs cs cs')
    (h : SWP P X0 c ⟨s.n, s.t, s.h.set id (.box cs')⟩ Q) : SWP P X0 c s Q := by
  intro gd X a hh hi hs ht
  have h0 : X.h[id]? = some (.box cs) := by rw [hh]; exact hb
  obtain ⟨g, arr, el, fz, hg, hb1, hb2, hb3, hb4⟩ := hi.blk id _ h0
  have rf := Step.refl hi
  have st : Step X ⟨X.w, X.S, X.G, X.h.set id (.box cs')⟩ := by
    refine ⟨rf.size, rf.os, rf.tape, rf.output, rf.kept, by simp, fun i db' hl hdb hlv => ?_, rf.frame, fun i db g' hdb hl hf hg' => ?_, rf.upper⟩
    · rcases put_some hdb with ⟨rfl, rfl, _⟩ | ⟨hne, h'⟩
      · exact ⟨_, h0, True.intro, rfl, fun g' hg' => (hi.blk _ _ h0).same rfl g' hg'⟩
      · exact ⟨db', h', SameB.refl hlv, rfl, fun g' hg' => (hi.blk i db' h').same hlv g' hg'⟩
    · rcases put_some hdb with ⟨rfl, rfl, _⟩ | ⟨hne, h'⟩
      · exact .inr ⟨_, _, g', h0, rfl, rfl, hg', rfl⟩
      · exact .inr ⟨i, db, g', h', hl, hf, hg', rfl⟩
  have hi' : HInv ⟨X.w, X.S, X.G, X.h.set id (.box cs')⟩ := by
    refine ⟨hi.slt, fun i db hdb => ?_, fun i db g' hdb hl hg' => ?_, fun i db i' db' g1 g2 hdb hl hf hdb' hl' hg1 hg2 he => ?_⟩
    · rcases put_some hdb with ⟨rfl, rfl, _⟩ | ⟨hne, h'⟩
      · exact ⟨g, arr, el, fz, hg, hb1, by rw [wkCs_len hw]; exact hb2, hb3, wkBoxD (X := X) (Y := ⟨X.w, X.S, X.G, X.h.set i (.box cs')⟩) rfl rfl hd hw hb4⟩
      · exact (hi.blk i db h').move st rfl fun _ _ => rfl
    · rcases put_some hdb with ⟨rfl, rfl, _⟩ | ⟨hne, h'⟩
      · have := hi.own _ (.box cs) g' h0 rfl hg'
        exact this
      · exact hi.own i db g' h' hl hg'
    · rcases put_some hdb with ⟨rfl, rfl, _⟩ | ⟨hne, h1'⟩ <;> rcases put_some hdb' with ⟨rfl, rfl, _⟩ | ⟨hne', h2'⟩
      · rfl
      · exact hi.inj i _ i' db' g1 g2 h0 rfl rfl h2' hl' hg1 hg2 he
      · exact hi.inj i db i' _ g1 g2 h1' hl hf h0 rfl hg1 hg2 he
      · exact hi.inj i db i' db' g1 g2 h1' hl hf h2' hl' hg1 hg2 he
  exact h gd ⟨X.w, X.S, X.G, X.h.set id (.box cs')⟩ a (by simp only [hh]) hi' (hs.trans hi st) ⟨ht.size, fun j => (ht.rel j).step st, ht.defs⟩
theorem swp_blockq {id : Nat} {c : Code} {s : DS} (h : SWP P X0 c s (qblock id Q)) : SWP P X0 (.block id c) s Q :=
  swp_block (swp_mono h fun e s' hq => by cases e <;> simp only [qblock] at hq ⊢ <;> exact hq)
theorem swp_vc (hT : TabOK P T) (hm : P.follows .mixedOrders = true) {c : Code} {s : DS} (h : vc P T X0 c s Q) : SWP P X0 c s Q := vc_sound hT hm c h
theorem swp_seq_block {id : Nat} {c y : Code} {s : DS} (h : SWP P X0 c s (qblock id (qrest P X0 y Q))) : SWP P X0 (.seq (.block id c) y) s Q :=
  swp_seq (swp_mono (swp_blockq h) fun e s' hq => by cases e <;> simp only [qrest] at hq ⊢ <;> exact hq)
/-- A loop by an invariant, its round taken as a whole. -/
theorem loop_renS {α : Type} {c : Code} (I : α → DS) (J : α → Prop) (μ : α → Nat) (x0 : α) {s : DS} (hJ : J x0) (hw : WeakR X0.h.length s (I x0))
    (h : ∀ x, J x → SWP P X0 c (I x) (qloopR X0.h.length I J μ x Q)) : SWP P X0 (.loop c) s Q := by
  intro gd X a hh hi hs ht
  obtain ⟨X', h1, h2, h3, h4, h5⟩ := hw.use rfl hh hi hs ht
  rw [← h1]
  refine wp_loop_ghost (fun n a w => ∃ x X, μ x = n ∧ J x ∧ X.w = w ∧ X.h = (I x).h ∧ HInv X ∧ Step X0 X ∧ TInv X (I x) a) (μ x0) ⟨x0, X', rfl, hJ, rfl, h2, h3, h4, h5⟩ ?_
  rintro n a' w' ⟨x, Y, rfl, k1, rfl, k2, k3, k4, k5⟩
  refine wp_mono (h x k1 gd Y a' k2 k3 k4 k5) fun e a w hp => ?_
  obtain ⟨s', Z, p1, rfl, p3, p4, p5, p6⟩ := hp
  cases e <;> simp only [Exit.then, qloopR] at p1 ⊢
  case normal =>
    obtain ⟨y, q1, q2, q3⟩ := p1
    obtain ⟨Z', r1, r2, r3, r4, r5⟩ := q3.use rfl p3 p4 p5 p6
    exact ⟨μ y, q2, y, Z', rfl, q1, r1, r2, r3, r4, r5⟩
  all_goals exact ⟨s', Z, p1, rfl, p3, p4, p5, p6⟩
end
theorem bytesOf_nil : bytesOf [] = some [] := rfl
attribute [go_sem] bytesOf_nil
end Go.Dm

end

section
/-
  The engine, seventh part: a region whose order is drawn, with one change of memory that may come at any moment among the others. No condition.
-/

set_option linter.unusedSimpArgs false
set_option linter.unusedVariables false
namespace Go.Dm
open Go
section
variable {P : Program} {T : Tab} {X0 : Ctx}
/-- What an operation at a place of the plan does, whether the free change has been or not. -/
def GoodF (P : Program) (T : Tab) (ops : Array Oper) (n : Nat) (chain : List Nat) (f : Nat) (V : Nat → DV) (H : Nat → Bool → DHeap) (t : Fr) (c i : Nat) : Prop :=
  ∃ o, ops[i]? = some o ∧ (chain.contains i = true → ∀ b : Bool, (b = false → waitsT ops 6 i f = false) → (b = true → waitsT ops 6 f i = false) → One P T ops n o t (H c b) (V i) (H (c + 1) b)) ∧
    (chain.contains i = false → i = f → ∀ s, loOf ops chain i ≤ s → s ≤ c → One P T ops n o t (H s false) (V i) (H s true)) ∧
    (chain.contains i = false → i ≠ f → ∀ s (b : Bool), loOf ops chain i ≤ s → s ≤ c → (b = false → waitsT ops 6 i f = false) → (b = true → waitsT ops 6 f i = false) → One P T ops n o t (H s b) (V i) (H s b))
structure RInvF (P : Program) (X0 : Ctx) (ops : Array Oper) (n : Nat) (chain : List Nat) (f : Nat) (V : Nat → DV) (H : Nat → Bool → DHeap) (t0 : Fr) (L : Array Bool) (X : Ctx) (a : Act) : Prop where
  size : L.size = ops.size
  closed : Closed ops L
  hh : X.h = H (chain.filter fun e => L.getD e false).length (L.getD f false)
  hi : HInv X
  hs : Step X0 X
  sz : a.tmps.size = n
  defs : a.defers = []
  relA : ∀ k j, L.getD k false = true → dstOf ops k = some j → RelD X (V k) (a.tmps.getD j undef)
  relB : ∀ j, (∀ k, L.getD k false = true → dstOf ops k ≠ some j) → RelD X (look t0 j) (a.tmps.getD j undef)
section plan
variable {ops : Array Oper} {n : Nat} {chain order : List Nat}

theorem drawn_stepF (hT : TabOK P T) (gd : Gnd P X0) (hp : PlanAt ops n chain order) {f : Nat} (hfc : chain.contains f = false) {V : Nat → DV} {H : Nat → Bool → DHeap} {t0 : Fr} (hG : ∀ pre i post, order = pre ++ i :: post → GoodF P T ops n chain f V H (frameOf ops V t0 pre) (cnt chain pre) i)
    {L : Array Bool} {X : Ctx} {a : Act} {Q : Exit → Act → World → Prop} (hR : RInvF P X0 ops n chain f V H t0 L X a) {i : Nat} (hi : i ∈ Region.ready .any ops L) {next : Act → World → Prop}
    (hn : ∀ X' a', RInvF P X0 ops n chain f V H t0 (L.setIfInBounds i true) X' a' → next a' X'.w) : wpOp P ops Q i next a X.w := by
  obtain ⟨hiL, ⟨o, ho⟩, hpr⟩ := ready_of hi
  have hiL' : L.getD i false = false := getD_both hiL
  have hilt : i < L.size := by rw [hR.size]; exact (Array.getElem?_eq_some_iff.1 ho).1
  obtain ⟨pre, post, e⟩ := List.append_of_mem (hp.all i o ho)
  have hat := hp.at_ pre i post e
  simp only [atOK, ho, Bool.and_eq_true, List.all_eq_true, Bool.or_eq_true, Bool.not_eq_true'] at hat
  obtain ⟨⟨⟨⟨_, hlater⟩, hlook⟩, _⟩, hnp⟩ := hat
  have hdst : dstOf ops i = o.dst := by simp [dstOf, ho]
  have hinpost : i ∉ post := by simpa using hnp
  have waiting : ∀ k, L.getD k false = true → waitsT ops 6 k i = false := fun k hk => by
    cases hw : waitsT ops 6 k i with
    | false => rfl
    | true =>
      have := waits_in hR.closed 6 k i (hR.closed k hk) hw
      rw [hiL'] at this; cases this
  have waited : ∀ k, waitsT ops 6 i k = true → L.getD k false = true := fun k hk => waits_in hR.closed 6 i k hpr hk
  have hch : chain = pre.filter chain.contains ++ ((i :: post).filter chain.contains) := by
    conv => lhs; rw [← hp.chn, e, List.filter_append]
  have hpostL : ∀ k ∈ post.filter chain.contains, L.getD k false = false := fun k hk => by
    obtain ⟨h1, h2⟩ := List.mem_filter.1 hk
    cases hl : L.getD k false with
    | false => rfl
    | true =>
      rcases hlater k h1 with h | h
      · rw [h2] at h; cases h
      · rw [waiting k hl] at h; cases h
  obtain ⟨o', ho', good⟩ := hG pre i post e
  rw [ho] at ho'; cases ho'
  -- the frame as the operation sees it
  have tin : ∀ h, X.h = h → TInv X ⟨n, keep (o.looksAt ops) (frameOf ops V t0 pre), h⟩ a := by
    intro h _
    refine ⟨hR.sz, fun j => ?_, hR.defs⟩
    simp only [look_keep]
    split
    · rename_i hj
      have hj' : j ∈ o.looksAt ops := by simpa using hj
      obtain ⟨l1, l2⟩ := hlook j hj'
      by_cases hk : ∃ k ∈ pre, dstOf ops k = some j
      · obtain ⟨k, hkp, hkd⟩ := hk
        have hkL : L.getD k false = true := by
          rcases l1 k hkp with h | h
          · rw [hkd] at h; simp at h
          · exact waited k h
        rw [frameOf_hit hkd pre t0 hkp fun k' hk' hd' => hp.uniq (e ▸ List.mem_append_left _ hkp) (e ▸ List.mem_append_left _ hk') hkd hd']
        exact hR.relA k j hkL hkd
      · rw [frameOf_miss pre t0 fun k hkp hkd => hk ⟨k, hkp, hkd⟩]
        refine hR.relB j fun k hkL hkd => ?_
        have hko : k ∈ order := by
          unfold dstOf at hkd
          cases hok : ops[k]? with
          | none => rw [hok] at hkd; cases hkd
          | some ok => exact hp.all k ok hok
        rw [e] at hko
        rcases List.mem_append.1 hko with h | h
        · exact hk ⟨k, h, hkd⟩
        · rcases List.mem_cons.1 h with rfl | h
          · rw [hiL'] at hkL; cases hkL
          · rcases l2 k h with h' | h'
            · rw [hkd] at h'; simp at h'
            · rw [waiting k hkL] at h'; cases h'
    · exact True.intro
  -- one operation done
  have fin : ∀ h', One P T ops n o (frameOf ops V t0 pre) X.h (V i) h' → h' = H (chain.filter fun k => (L.setIfInBounds i true).getD k false).length ((L.setIfInBounds i true).getD f false) → wpOp P ops Q i next a X.w := by
    intro h' hone hh'
    have := step_sound (Q := Q) (next := next) hT (s := ⟨n, keep (o.looksAt ops) (frameOf ops V t0 pre), X.h⟩) rfl hR.hi (gd.step hR.hs) (tin _ rfl) hone ?_
    · unfold wpOp
      simp only [ho]
      split
      · rename_i hw; rw [if_pos hw] at this; exact .inl this
      · rename_i hw; rw [if_neg hw] at this; exact this
    · intro d v X' hk hi' hs' hr
      obtain ⟨k1, k2⟩ := hk
      have k1' : X'.h = h' := by rw [← k1]; unfold DS.put; split <;> (try split) <;> rfl
      refine hn X' _ ⟨by simp [hR.size], fun x hx k hk => ?_, by rw [k1', hh'], hi', hR.hs.trans hR.hi hs', by rw [put_size]; exact hR.sz, by rw [put_defs]; exact hR.defs, fun k j hk hkd => ?_, fun j hj => ?_⟩
      · rcases getD_set_cases hx with rfl | hx
        · exact getD_set_true (hpr k hk)
        · exact getD_set_true (hR.closed x hx k hk)
      · rcases getD_set_cases hk with rfl | hk
        · rw [hdst] at hkd
          have hjn : j < n := hp.dlt k j (by rw [hdst]; exact hkd)
          simp only [hkd, DS.put, if_pos hjn, res, look, if_true] at k2
          rw [hkd, put_self (by rw [hR.sz]; exact hjn), ← k2]
          exact hr
        · rw [put_get]
          · exact (hR.relA k j hk hkd).step hs'
          · intro hd
            have : k = i := hp.uniq (hp.all i o ho) (by
              unfold dstOf at hkd
              cases hok : ops[k]? with
              | none => rw [hok] at hkd; cases hkd
              | some ok => exact hp.all k ok hok) (hdst.trans hd) hkd
            rw [this, hiL'] at hk; cases hk
      · rw [put_get]
        · exact (hR.relB j fun k hk => hj k (getD_set_true hk)).step hs'
        · rw [← hdst]; exact hj i (getD_set_self hilt false)
  have hAL : ((pre.filter chain.contains).filter fun k => L.getD k false).length = (chain.filter fun k => L.getD k false).length := by
    conv => rhs; rw [hch]
    rw [List.filter_append, List.length_append]
    have : ((i :: post).filter chain.contains).filter (fun k => L.getD k false) = [] := by
      rw [List.filter_eq_nil_iff]
      intro k hk
      obtain ⟨h1, h2⟩ := List.mem_filter.1 hk
      rcases List.mem_cons.1 h1 with rfl | h1
      · rw [hiL']; simp
      · rw [hpostL k (List.mem_filter.2 ⟨h1, h2⟩)]; simp
    rw [this]; rfl
  obtain ⟨good1, good2, good3⟩ := good
  by_cases hc : chain.contains i = true
  · have hif : i ≠ f := fun e => by subst e; rw [hfc] at hc; cases hc
    have hch' : chain = pre.filter chain.contains ++ i :: post.filter chain.contains := by
      conv => lhs; rw [hch, List.filter_cons, if_pos hc]
    have hA : ∀ k ∈ pre.filter chain.contains, L.getD k false = true := fun k hk => waited k (hp.prs _ _ _ hch' k hk)
    have hcn : cnt chain pre = (chain.filter fun k => L.getD k false).length := by
      rw [← hAL, List.filter_eq_self.2 hA]; rfl
    have good := good1 hc (L.getD f false) (fun hf => by
      cases hw : waitsT ops 6 i f with
      | false => rfl
      | true => have := waited f hw; rw [hf] at this; cases this) (fun hf => waiting f hf)
    rw [hcn, ← hR.hh] at good
    refine fin _ good ?_
    rw [getD_set_ne false hif]
    refine congrArg (fun k => H k (L.getD f false)) ?_
    rw [← hcn]
    conv => rhs; rw [hch', List.filter_append, List.filter_cons, if_pos (getD_set_self hilt false)]
    have h1 : (pre.filter chain.contains).filter (fun k => (L.setIfInBounds i true).getD k false) = pre.filter chain.contains := List.filter_eq_self.2 fun k hk => getD_set_true (hA k hk)
    have h2 : (post.filter chain.contains).filter (fun k => (L.setIfInBounds i true).getD k false) = [] := by
      rw [List.filter_eq_nil_iff]
      intro k hk
      have hki : i ≠ k := fun e => hinpost (e ▸ (List.mem_filter.1 hk).1)
      rw [getD_set_ne false hki, hpostL k hk]; simp
    rw [h1, h2]
    simp [cnt]
  · have hc' : chain.contains i = false := by simpa using hc
    have hcnt : (chain.filter fun k => (L.setIfInBounds i true).getD k false).length = (chain.filter fun k => L.getD k false).length := by
      refine filter_len_eq _ _ _ fun k hk => ?_
      have hki : i ≠ k := by rintro rfl; exact hc (by simpa using hk)
      rw [getD_set_ne false hki]
    have lo := filter_len_le (waitsT ops 6 i) (fun k => L.getD k false) chain fun k _ hk => waited k hk
    have hi2 : (chain.filter fun k => L.getD k false).length ≤ cnt chain pre := by rw [← hAL]; exact List.length_filter_le _ _
    by_cases hif : i = f
    · have hone := good2 hc' hif (chain.filter fun k => L.getD k false).length lo hi2
      have hhh := hR.hh
      rw [← hif, hiL'] at hhh
      rw [← hhh] at hone
      refine fin _ hone ?_
      rw [hcnt, ← hif, getD_set_self hilt false]
    · have hone := good3 hc' hif (chain.filter fun k => L.getD k false).length (L.getD f false) lo hi2 (fun hf => by
        cases hw : waitsT ops 6 i f with
        | false => rfl
        | true => have := waited f hw; rw [hf] at this; cases this) (fun hf => waiting f hf)
      rw [← hR.hh] at hone
      refine fin _ hone ?_
      rw [hcnt, getD_set_ne false hif, hR.hh]

theorem drawn_allF (hT : TabOK P T) (gd : Gnd P X0) (hp : PlanAt ops n chain order) {f : Nat} (hfc : chain.contains f = false) {V : Nat → DV} {H : Nat → Bool → DHeap} {t0 : Fr} (hG : ∀ pre i post, order = pre ++ i :: post → GoodF P T ops n chain f V H (frameOf ops V t0 pre) (cnt chain pre) i)
    {Q : Exit → DS → Prop} (hfo : f ∈ order) (hK : Q .normal ⟨n, frameOf ops V t0 order, H (cnt chain order) true⟩) : ∀ (fuel : Nat) (L : Array Bool) (X : Ctx) (a : Act), RInvF P X0 ops n chain f V H t0 L X a →
      (order.filter fun k => !L.getD k true).length ≤ fuel → wpAny P .any ops (Post X0 Q) fuel L a X.w := by
  have done : ∀ (L : Array Bool) (X : Ctx) (a : Act), RInvF P X0 ops n chain f V H t0 L X a → Region.ready .any ops L = [] → Post X0 Q .normal a X.w := by
    intro L X a hR hr
    have hall : ∀ (post pre : List Nat), order = pre ++ post → (∀ k ∈ pre, L.getD k false = true) → ∀ k ∈ order, L.getD k false = true := by
      intro post
      induction post with
      | nil => intro pre e h k hk; rw [e, List.append_nil] at hk; exact h k hk
      | cons i post ih =>
        intro pre e h
        refine ih (pre ++ [i]) (by simpa using e) fun k hk => ?_
        rcases List.mem_append.1 hk with hk | hk
        · exact h k hk
        · rw [List.mem_singleton] at hk
          subst hk
          have hat := hp.at_ pre k post e
          simp only [atOK, Bool.and_eq_true, List.all_eq_true] at hat
          cases hl : L.getD k false with
          | true => rfl
          | false =>
            have hk : k < ops.size := by
              have := hat.1.1.2
              cases hok : ops[k]? with
              | none => rw [hok] at this; cases this
              | some ok => exact (Array.getElem?_eq_some_iff.1 hok).1
            have : k ∈ Region.ready .any ops L := ready_mk (getD_in (by rw [hR.size]; exact hk) hl) hk fun m hm => h m (by simpa using hat.1.1.1.1 m hm)
            rw [hr] at this; cases this
    have hL := hall order [] rfl (fun k hk => by cases hk)
    refine ⟨_, X, hK, rfl, ?_, hR.hi, hR.hs, hR.sz, fun j => ?_, hR.defs⟩
    · rw [hR.hh, hL f hfo]
      simp only [cnt, hp.chn]
      rw [List.filter_eq_self.2]
      intro k hk
      rw [← hp.chn] at hk
      exact hL k (List.mem_filter.1 hk).1
    · by_cases hk : ∃ k ∈ order, dstOf ops k = some j
      · obtain ⟨k, hkp, hkd⟩ := hk
        simp only
        rw [frameOf_hit hkd order t0 hkp fun k' hk' hd' => hp.uniq hkp hk' hkd hd']
        exact hR.relA k j (hL k hkp) hkd
      · simp only
        rw [frameOf_miss order t0 fun k hkp hkd => hk ⟨k, hkp, hkd⟩]
        refine hR.relB j fun k _ hkd => hk ⟨k, ?_, hkd⟩
        unfold dstOf at hkd
        cases hok : ops[k]? with
        | none => rw [hok] at hkd; cases hkd
        | some ok => exact hp.all k ok hok
  have mem_count : ∀ (L : Array Bool) i, i ∈ Region.ready .any ops L → i ∈ order.filter fun k => !L.getD k true := fun L i hi => by
    obtain ⟨h1, ⟨o, h2⟩, _⟩ := ready_of hi
    exact List.mem_filter.2 ⟨hp.all i o h2, by rw [h1]; rfl⟩
  intro fuel
  induction fuel with
  | zero =>
    intro L X a hR hc
    have hr : Region.ready .any ops L = [] := by
      cases hr : Region.ready .any ops L with
      | nil => rfl
      | cons i l =>
        have := mem_count L i (by rw [hr]; exact List.mem_cons_self)
        rw [List.length_eq_zero_iff.1 (Nat.le_zero.1 hc)] at this
        cases this
    exact ⟨hr, done L X a hR hr⟩
  | succ fuel ih =>
    intro L X a hR hc
    refine ⟨fun hr => done L X a hR hr, fun i hi => drawn_stepF hT gd hp hfc hG hR hi fun X' a' hR' => ih _ X' a' hR' ?_⟩
    have hm := mem_count L i hi
    obtain ⟨hiL, ⟨o, ho⟩, _⟩ := ready_of hi
    obtain ⟨p, q, e⟩ := List.append_of_mem hm
    have hsub : (order.filter fun k => !(L.setIfInBounds i true).getD k true) = (order.filter fun k => !L.getD k true).filter fun k => !(k == i) := by
      rw [List.filter_filter]
      refine List.filter_congr fun k hk => ?_
      by_cases hki : i = k
      · subst hki
        rw [getD_set_self (by rw [hR.size]; exact (Array.getElem?_eq_some_iff.1 ho).1)]
        simp
      · rw [getD_set_ne true hki]
        have : (k == i) = false := by simpa using fun e => hki e.symm
        rw [this]; simp
    rw [hsub, e, List.filter_append, List.filter_cons]
    rw [e, List.length_append, List.length_cons] at hc
    simp only [beq_self_eq_true, Bool.not_true, Bool.false_eq_true, if_false, List.length_append]
    have h1 := List.length_filter_le (fun k => !(k == i)) p
    have h2 := List.length_filter_le (fun k => !(k == i)) q
    omega

end plan
/-- All of a plan, one operation behind the other. -/
def runF (P : Program) (T : Tab) (ops : Array Oper) (n : Nat) (chain : List Nat) (f : Nat) (V : Nat → DV) (H : Nat → Bool → DHeap) : List Nat → Fr → Nat → Prop
  | [], _, _ => True
  | i :: rest, t, c => GoodF P T ops n chain f V H t c i ∧ runF P T ops n chain f V H rest (putF t (dstOf ops i) (V i)) (c + if chain.contains i then 1 else 0)
theorem runF_good {ops : Array Oper} {n : Nat} {chain : List Nat} {f : Nat} {V : Nat → DV} {H : Nat → Bool → DHeap} : ∀ (l : List Nat) (t : Fr) (c : Nat), runF P T ops n chain f V H l t c → ∀ pre i post, l = pre ++ i :: post → GoodF P T ops n chain f V H (frameOf ops V t pre) (c + cnt chain pre) i
  | [], _, _, _, pre, i, post, e => by simp at e
  | x :: l, t, c, h, pre, i, post, e => by
    cases pre with
    | nil =>
      simp only [List.nil_append, List.cons.injEq] at e
      obtain ⟨rfl, _⟩ := e
      exact h.1
    | cons y pre =>
      simp only [List.cons_append, List.cons.injEq] at e
      obtain ⟨rfl, e⟩ := e
      have := runF_good l _ _ h.2 pre i post e
      have e2 : c + cnt chain (x :: pre) = (c + if chain.contains x then 1 else 0) + cnt chain pre := by
        simp only [cnt, List.filter_cons]
        split <;> simp <;> omega
      rw [e2]
      exact this
theorem swp_drawnF (hT : TabOK P T) (hm : P.follows .mixedOrders = true) {Q : Exit → DS → Prop} {n : Nat} {t : Fr} {h : DHeap} {id : Nat} {l : List Oper} (chain order : List Nat) (f : Nat) (V : Nat → DV) (H : Nat → Bool → DHeap) (hp : planOK l.toArray n chain order = true) (hf : (!chain.contains f && order.contains f) = true)
    (h0 : H 0 false = h) (hr : runF P T l.toArray n chain f V H order t 0) (hK : Q .normal ⟨n, frameOf l.toArray V t order, H (cnt chain order) true⟩) : SWP P X0 (.region id l.toArray true) ⟨n, t, h⟩ Q := by
  intro gd X a hh hi hs ht
  have hp := planOK_at hp
  simp only [Bool.and_eq_true, Bool.not_eq_true'] at hf
  have hG : ∀ pre i post, order = pre ++ i :: post → GoodF P T l.toArray n chain f V H (frameOf l.toArray V t pre) (cnt chain pre) i := fun pre i post e => by
    have := runF_good order t 0 hr pre i post e
    rw [Nat.zero_add] at this
    exact this
  refine wp_region_any hm (drawn_allF hT gd hp hf.1 hG (by simpa using hf.2) hK _ _ X.draw a ?_ ?_)
  · have hf : ∀ k, (Array.replicate l.toArray.size false).getD k false = false := getD_replicate_false _
    refine ⟨by simp, fun i hi' => ?_, ?_, draw_inv hi, hs.trans hi (draw_step hi), ht.size, ht.defs, fun k j hk => ?_, fun j _ => (ht.rel j).step (draw_step hi)⟩
    · rw [hf] at hi'; cases hi'
    · have : (chain.filter fun e => (Array.replicate l.toArray.size false).getD e false) = [] := by
        rw [List.filter_eq_nil_iff]
        intro k _; rw [hf]; simp
      rw [this, List.length_nil, hf, h0]
      exact hh
    · rw [hf] at hk; cases hk
  · refine Nat.le_trans (List.length_filter_le _ _) ?_
    exact hp.len
theorem goodF_chain {l : List Oper} {n : Nat} {chain : List Nat} {f c i : Nat} {V : Nat → DV} {H : Nat → Bool → DHeap} {t : Fr} {o : Oper} (ho : l[i]? = some o) (hc : chain.contains i = true) (hn : (match o.dst with | some i => Nat.blt i n | none => true) = true)
    (h : ∀ b : Bool, (b = false → waitsT l.toArray 6 i f = false) → (b = true → waitsT l.toArray 6 f i = false) → dops P T l.toArray [o] ⟨n, t, H c b⟩ (kOne (H (c + 1) b) o.dst (V i))) : GoodF P T l.toArray n chain f V H t c i :=
  ⟨o, by simpa using ho, fun _ b h1 h2 => dops_keep rfl hn (h b h1 h2), fun e => (by rw [hc] at e; cases e), fun e => (by rw [hc] at e; cases e)⟩
theorem goodF_free {l : List Oper} {n : Nat} {chain : List Nat} {f c : Nat} {V : Nat → DV} {H : Nat → Bool → DHeap} {t : Fr} {o : Oper} (ho : l[f]? = some o) (hc : chain.contains f = false) (hn : (match o.dst with | some i => Nat.blt i n | none => true) = true)
    (h : ∀ s, loOf l.toArray chain f ≤ s → s ≤ c → dops P T l.toArray [o] ⟨n, t, H s false⟩ (kOne (H s true) o.dst (V f))) : GoodF P T l.toArray n chain f V H t c f :=
  ⟨o, by simpa using ho, fun e => (by rw [hc] at e; cases e), fun _ _ s h1 h2 => dops_keep rfl hn (h s h1 h2), fun _ e => absurd rfl e⟩
theorem goodF_see {l : List Oper} {n : Nat} {chain : List Nat} {f c i : Nat} {V : Nat → DV} {H : Nat → Bool → DHeap} {t : Fr} {o : Oper} (ho : l[i]? = some o) (hc : chain.contains i = false) (hf : (i == f) = false) (hn : (match o.dst with | some i => Nat.blt i n | none => true) = true)
    (h : ∀ s (b : Bool), loOf l.toArray chain i ≤ s → s ≤ c → (b = false → waitsT l.toArray 6 i f = false) → (b = true → waitsT l.toArray 6 f i = false) → dops P T l.toArray [o] ⟨n, t, H s b⟩ (kOne (H s b) o.dst (V i))) : GoodF P T l.toArray n chain f V H t c i :=
  ⟨o, by simpa using ho, fun e => (by rw [hc] at e; cases e), fun _ e => (by subst e; simp at hf), fun _ _ s b h1 h2 h3 h4 => dops_keep rfl hn (h s b h1 h2 h3 h4)⟩
end
end Go.Dm

end

section
/-
  The engine, eighth part: two results as they stand; a row that a caller lends and keeps. No condition.
-/

set_option linter.unusedSimpArgs false
set_option linter.unusedVariables false
namespace Go.Dm
open Go

/-- A function's end, two results as they stand in the call's memory. -/
def v2 (h : DHeap) (R : DV → DHeap → Prop) : DV → DV → Prop
  | .c x, .c y => R (.tup [.c x, .c y]) h
  | _, _ => False
def vres2 (t : Fr) (h : DHeap) (R : DV → DHeap → Prop) : List ResultVar → Prop
  | [.tmp i, .tmp j] => v2 h R (look t i) (look t j)
  | _ => False
def vpost2 (rs : List ResultVar) (R : DV → DHeap → Prop) : Exit → DS → Prop
  | .normal, s => vres2 s.t s.h R rs
  | .ret, s => vres2 s.t s.h R rs
  | _, _ => False
theorem vpost2_n {rs : List ResultVar} {R : DV → DHeap → Prop} {s : DS} : vpost2 rs R .normal s = vres2 s.t s.h R rs := nr rfl
theorem vpost2_r {rs : List ResultVar} {R : DV → DHeap → Prop} {s : DS} : vpost2 rs R .ret s = vres2 s.t s.h R rs := nr rfl
theorem vres2_two {t : Fr} {h : DHeap} {R : DV → DHeap → Prop} {i j : Nat} : vres2 t h R [.tmp i, .tmp j] = v2 h R (look t i) (look t j) := nr rfl
theorem v2_c {h : DHeap} {R : DV → DHeap → Prop} {x y : CV} : v2 h R (.c x) (.c y) = R (.tup [.c x, .c y]) h := nr rfl
attribute [go_sem] vpost2_n vpost2_r vres2_two v2_c
/-- Of two results the first, a row of the call's own, taken as data. -/
theorem DCalls.froz2 {P : Program} {f : FuncId} {args : List DV} {j n k : Nat} {es : List (List PV)} {ro : Bool} {x : PV} {H : DHeap}
    (hc : DCalls P f args [] fun d h' => d = .tup [.c (.own j 0 n), .c (.p x)] ∧ h' = H) (hj : H[j]? = some (.arr k es ro)) (hn : es.length = n) :
    DCalls P f args [] fun d h' => d = .tup [.c (.p (.sl k es)), .c (.p x)] ∧ h' = [] := by
  intro X vals hh hi gd hr
  have key : ∀ v w', Ret X (fun d h' => d = .tup [.c (.own j 0 n), .c (.p x)] ∧ h' = H) v w' → Ret X (fun d h' => d = .tup [.c (.p (.sl k es)), .c (.p x)] ∧ h' = []) v w' := by
    rintro v w' ⟨d, Z, h1, h2, h3, h4, rfl, h5⟩
    rw [← h5] at hj
    obtain ⟨F, f1, f2, f3, f4, f5, f6⟩ := freezes [j] h2
    have h6 := h3.trans h2 f4
    simp only [RelD] at h4
    obtain ⟨vs, hv, hrs⟩ := h4
    have hres : RelEVs ⟨F.w, F.S, fun _ => none, []⟩ [.c (.p (.sl k es)), .c (.p x)] vs := by
      match vs, hrs with
      | [a, b], ⟨ha, hb, _⟩ =>
        simp only [RelEV] at ha hb
        have e1 := pvOf_rel h2 f4 f1 ha (pvOf_row hj hn) f6
        have e2 := pvOf_rel (c := .p x) (x := x) h2 f4 f1 hb rfl (fun id hid => by simp [idOf] at hid)
        refine ⟨?_, ?_, trivial⟩
        · simp only [RelEV, RelC]; exact e1
        · simp only [RelEV, RelC]; exact e2
      | [_], ⟨_, h⟩ => exact h.elim
      | _ :: _ :: _ :: _, ⟨_, _, h⟩ => exact h.elim
    refine ⟨_, ⟨F.w, F.S, fun _ => none, []⟩, by rw [← h1]; exact f1, ⟨f5.slt, fun id db hdb => by simp at hdb, fun id db g' hdb => by simp at hdb, fun id db id' db' g1 g2 hdb => by simp at hdb⟩, ⟨h6.size, h6.os, h6.tape, h6.output, h6.kept, by rw [hh]; simp, fun id db' hl => by rw [hh] at hl; simp at hl, h6.frame, fun id db g' hdb => by simp at hdb, h6.upper⟩, ?_, rfl, rfl⟩
    simp only [RelD]
    exact ⟨vs, hv, hres⟩
  rcases hc X vals hh hi gd hr with ⟨h1, h2⟩ | ⟨v, w', h1, h2⟩
  · exact .inl ⟨h1, h2.mono fun e w' ⟨v, he, hv⟩ => ⟨v, he, key v w' hv⟩⟩
  · exact .inr ⟨v, w', h1, key v w' h2⟩

/-- A contract over one row of the caller's, which stays as it is, used in any memory. -/
def lentA (i n : Nat) : Option PV → DV
  | some x => .c (.p x)
  | none => .c (.own i 0 n)
theorem lent_rel {X Y : Ctx} {i n : Nat} (hw : Y.w = X.w) (hS : Y.S = X.S) (ho : ∀ v, RelD X (.c (.own i 0 n)) v → RelD Y (.c (.own 0 0 n)) v) : ∀ {L : List (Option PV)} {vs : List Value}, RelDs X (L.map (lentA i n)) vs → RelDs Y (L.map (lentA 0 n)) vs
  | [], [], _ => True.intro
  | none :: _, _ :: _, h => ⟨ho _ h.1, lent_rel hw hS ho h.2⟩
  | some _ :: _, _ :: _, h => ⟨datD_rel (X := X) (Y := Y) hw hS rfl h.1, lent_rel hw hS ho h.2⟩
  | [], _ :: _, h => h.elim
  | none :: _, [], h => h.elim
  | some _ :: _, [], h => h.elim
theorem DCalls.lent {P : Program} {f : FuncId} {h : DHeap} {i k n : Nat} {es : List (List PV)} (L : List (Option PV)) {r : DV} {K : DV → DHeap → Prop}
    (hc : DCalls P f (L.map (lentA 0 n)) [.arr k es false] fun d h' => d = r ∧ h' = [.arr k es false])
    (h0 : h[i]? = some (.arr k es false)) (hdr : datD r = true) (hk : K r h) :
    DCalls P f (L.map (lentA i n)) h K := by
  intro X vals hh hi gd hr
  subst hh
  have hlt := lt_of_some h0
  have hb0 := hi.blk i _ h0
  let Y : Ctx := ⟨X.w, X.S, fun j => if j = 0 then X.G i else none, [.arr k es false]⟩
  have at0 : ∀ {id : Nat} {db : DB}, Y.h[id]? = some db → id = 0 ∧ db = .arr k es false := fun {id db} h => by
    cases id with
    | zero => simp only [Y, List.getElem?_cons_zero, Option.some.injEq] at h; exact ⟨rfl, h.symm⟩
    | succ n => simp [Y] at h
  have hiY : HInv Y := by
    refine ⟨hi.slt, fun id db hdb => ?_, fun id db g' hdb hl hg' => ?_, fun id db id' db' g1 g2 hdb _ _ hdb' _ _ _ _ => ?_⟩
    · obtain ⟨rfl, rfl⟩ := at0 hdb
      simpa only [RelB, Y, if_true] using hb0
    · obtain ⟨rfl, rfl⟩ := at0 hdb
      have hg2 : X.G i = some g' := by simpa [Y] using hg'
      exact hi.own i _ g' h0 rfl hg2
    · obtain ⟨rfl, _⟩ := at0 hdb
      obtain ⟨rfl, _⟩ := at0 hdb'
      rfl
  have hrY : RelDs Y (L.map (lentA 0 n)) vals := lent_rel (X := X) (Y := Y) rfl rfl (fun v hv => by
    simp only [RelD, RelC] at hv ⊢
    obtain ⟨_, hv1, hv2⟩ := hv
    refine ⟨by simp [Y], hv1, fun k' es' ro' he => ?_⟩
    obtain ⟨_, e⟩ := at0 he
    cases e
    have := hv2 _ _ _ h0
    simpa only [Y, if_true] using this) hr
  have key : ∀ v w', Ret Y (fun d h' => d = r ∧ h' = [.arr k es false]) v w' → Ret X K v w' := by
    rintro v w' ⟨d, Z, h1, h2, h3, h4, rfl, h5⟩
    have hZ0 : Z.h[0]? = some (.arr k es false) := by rw [h5]; rfl
    obtain ⟨db, e1, e2, e3, e4⟩ := h3.ids 0 _ (by simp [Y]) hZ0 rfl
    have hGZ : Z.G 0 = X.G i := by simpa [Y] using e3
    have e4 : ∀ g, X.G i = some g → SameO (X.w.heap[g.1]?) (Z.w.heap[g.1]?) := fun g hg => e4 g (by simpa [Y] using hg)
    have hfr : ∀ b, b < X.w.heap.size → (∀ g, X.G i = some g → b ≠ g.1) → Z.w.heap[b]? = X.w.heap[b]? := fun b hb hne => h3.frame b hb fun id db g' hdb hl hf hg' => by
      obtain ⟨rfl, _⟩ := at0 hdb
      have hg2 : X.G i = some g' := by simpa [Y] using hg'
      exact fun e => hne g' hg2 e.symm
    have apart : ∀ {id : Nat} {db : DB} {g' : Nat × Nat}, id ≠ i → X.h[id]? = some db → db.live = true → X.G id = some g' → ∀ g, X.G i = some g → g'.1 ≠ g.1 := fun {id db g'} hne h' hl hg' g hg e => hne (hi.inj i _ id db g g' h0 rfl rfl h' hl hg hg' e.symm).symm
    have hst : Step X ⟨Z.w, Z.S, X.G, X.h⟩ := by
      refine ⟨h3.size, h3.os, h3.tape, h3.output, h3.kept, Nat.le_refl _, fun id db' hl' hdb' hlv => ⟨db', hdb', SameB.refl hlv, rfl, fun g' hg' => ?_⟩, fun b hb hno => hfr b hb fun g hg e => hno i _ g h0 rfl rfl hg e.symm, fun id db g' hdb hl hf hg' => .inr ⟨id, db, g', hdb, hl, hf, hg', rfl⟩, fun b hb => ?_⟩
      · by_cases hne : id = i
        · subst hne
          exact e4 g' hg'
        · rw [show Z.w.heap[g'.1]? = X.w.heap[g'.1]? from hfr _ (hi.block_lt hdb' hlv hg') (apart hne hdb' hlv hg')]
          exact (hi.blk id db' hdb').same hlv g' hg'
      · rcases h3.upper b hb with h | h | ⟨id, db, g', hdb, hl, hg', e⟩
        · exact .inl h
        · exact .inr (.inl h)
        · obtain ⟨rfl, _⟩ := at0 hdb
          have hg2 : X.G i = some g' := by simpa [Y] using hg'
          exact .inr (.inr ⟨i, _, g', h0, rfl, hg2, e⟩)
    refine ⟨d, ⟨Z.w, Z.S, X.G, X.h⟩, h1, ⟨h2.slt, fun id db hdb => ?_, fun id db g' hdb hl hg' => ?_, fun id db id' db' g1 g2 hdb hl hf hdb' hl' hg1 hg2 he => hi.inj id db id' db' g1 g2 hdb hl hf hdb' hl' hg1 hg2 he⟩, hst, datD_mk hdr h4, hk⟩
    · by_cases hne : id = i
      · subst hne
        have hdb2 : X.h[id]? = some db := hdb
        rw [h0] at hdb2
        cases hdb2
        have := h2.blk 0 _ hZ0
        simp only [RelB, hGZ] at this ⊢
        exact this
      · by_cases hl : db.live = true
        · exact (hi.blk id db hdb).move hst rfl fun g' hg' => hfr _ (hi.block_lt hdb hl hg') (apart hne hdb hl hg')
        · cases db with
          | dead => simp only [RelB]
          | box _ => exact absurd rfl hl
          | arr _ _ _ => exact absurd rfl hl
    · by_cases hne : id = i
      · subst hne
        have hdb2 : X.h[id]? = some db := hdb
        rw [h0] at hdb2
        cases hdb2
        exact h2.own 0 _ g' hZ0 rfl (by rw [hGZ]; exact hg')
      · have ho := hi.own id db g' hdb hl hg'
        refine ⟨fun hf hS => ?_, fun hf => (h3.kept _ (ho.2 hf)).1⟩
        rcases h3.upper _ hS with h | h | ⟨j, d', g2, hdb2, hl2, hg2, e⟩
        · exact ho.1 hf h
        · have := hi.block_lt hdb hl hg'
          have hYw : Y.w.heap.size = X.w.heap.size := rfl
          omega
        · obtain ⟨rfl, _⟩ := at0 hdb2
          have hg3 : X.G i = some g2 := by simpa [Y] using hg2
          exact apart hne hdb hl hg' g2 hg3 e.symm
  have gdY : Gnd P Y := gd
  rcases hc Y _ rfl hiY gdY hrY with ⟨h1, h2⟩ | ⟨v, w', h1, h2⟩
  · exact .inl ⟨h1, h2.mono fun e w' ⟨v, he, hv⟩ => ⟨v, he, key v w' hv⟩⟩
  · exact .inr ⟨v, w', h1, key v w' h2⟩
end Go.Dm

end

section
/-
  The engine, further: nil slices within rows of rows, taken as empty ones. No condition.
-/

set_option linter.unusedSimpArgs false
set_option linter.unusedVariables false
namespace Go.Dm
open Go
def wkQ (x y : PV) : Prop := wkP x y ∨ ∃ k es es', x = .sl k es ∧ y = .sl k es' ∧ wkRows es es'
def wkQs : List PV → List PV → Prop
  | [], [] => True
  | x :: xs, y :: ys => wkQ x y ∧ wkQs xs ys
  | _, _ => False
def wkQRows : List (List PV) → List (List PV) → Prop
  | [], [] => True
  | e :: es, f :: fs => wkQs e f ∧ wkQRows es fs
  | _, _ => False
theorem wkQs.len : ∀ {e f : List PV}, wkQs e f → f.length = e.length
  | [], [], _ => rfl
  | _ :: _, _ :: _, h => by simp [wkQs.len h.2]
  | [], _ :: _, h => h.elim
  | _ :: _, [], h => h.elim
theorem wkQRows.len : ∀ {e f : List (List PV)}, wkQRows e f → f.length = e.length
  | [], [], _ => rfl
  | _ :: _, _ :: _, h => by simp [wkQRows.len h.2]
  | [], _ :: _, h => h.elim
  | _ :: _, [], h => h.elim
theorem relP_wkRows {w : World} {S : Nat → Prop} {k : Nat} {es es' : List (List PV)} (hw : wkRows es es') {v : Value} (hr : RelP w S (.sl k es) v) : RelP w S (.sl k es') v := by
  simp only [RelP] at hr ⊢
  obtain ⟨a, c, h1, h2, h3⟩ := hr
  refine ⟨a, c, by rw [hw.len]; exact h1, by rw [hw.len]; exact h2, ?_⟩
  rcases h3 with h3 | ⟨bl, off, h4, h5, h6⟩
  · left
    subst h3
    exact List.eq_nil_of_length_eq_zero hw.len
  · exact .inr ⟨bl, off, h4, h5, hw.relL h6⟩
theorem wkQ.relP {w : World} {S : Nat → Prop} {x y : PV} {v : Value} (h : wkQ x y) (hr : RelP w S x v) : RelP w S y v := by
  rcases h with h | ⟨k, es, es', rfl, rfl, h⟩
  · exact h.relP hr
  · exact relP_wkRows h hr
theorem wkQs.relE {w : World} {S : Nat → Prop} {bl : Nat} : ∀ {e f : List PV} {off : Nat}, wkQs e f → RelE w S bl off e → RelE w S bl off f
  | [], [], _, _, _ => True.intro
  | _ :: _, _ :: _, _, h, ⟨⟨v, h1, h2⟩, h3⟩ => ⟨⟨v, h1, h.1.relP h2⟩, wkQs.relE h.2 h3⟩
  | [], _ :: _, _, h, _ => h.elim
  | _ :: _, [], _, h, _ => h.elim
theorem wkQRows.relL {w : World} {S : Nat → Prop} {k bl : Nat} : ∀ {e f : List (List PV)} {off : Nat}, wkQRows e f → RelL w S k bl off e → RelL w S k bl off f
  | [], [], _, _, _ => True.intro
  | _ :: _, _ :: _, _, h, ⟨⟨h1, h2⟩, h3⟩ => ⟨⟨h.1.len.trans h1, h.1.relE h2⟩, wkQRows.relL h.2 h3⟩
  | [], _ :: _, _, h, _ => h.elim
  | _ :: _, [], _, h, _ => h.elim
end Go.Dm

end

section
/-
  The engine, further: nil slices within an own row taken as empty ones. No condition.
-/

set_option linter.unusedSimpArgs false
set_option linter.unusedVariables false
namespace Go.Dm
open Go
section
variable {P : Program} {T : Tab} {X0 : Ctx} {Q : Exit → DS → Prop}
theorem swp_arr {c : Code} {s : DS} (id : Nat) {k : Nat} {es : List (List PV)} (es' : List (List PV)) (hb : s.h[id]? = some (.arr k es false)) (hw : wkRows es es')
    (h : SWP P X0 c ⟨s.n, s.t, s.h.set id (.arr k es' false)⟩ Q) : SWP P X0 c s Q := by
  intro gd X a hh hi hs ht
  have h0 : X.h[id]? = some (.arr k es false) := by rw [hh]; exact hb
  have hlen := hw.len
  have hbl := hi.blk id _ h0
  have rf := Step.refl hi
  have st : Step X ⟨X.w, X.S, X.G, X.h.set id (.arr k es' false)⟩ := by
    refine ⟨rf.size, rf.os, rf.tape, rf.output, rf.kept, by simp, fun i db' hl hdb hlv => ?_, rf.frame, fun i db g' hdb hl hf hg' => ?_, rf.upper⟩
    · rcases put_some hdb with ⟨rfl, rfl, _⟩ | ⟨hne, h'⟩
      · exact ⟨_, h0, ⟨rfl, by omega⟩, rfl, fun g' hg' => (hi.blk _ _ h0).same rfl g' hg'⟩
      · exact ⟨db', h', SameB.refl hlv, rfl, fun g' hg' => (hi.blk i db' h').same hlv g' hg'⟩
    · rcases put_some hdb with ⟨rfl, rfl, _⟩ | ⟨hne, h'⟩
      · exact .inr ⟨_, _, g', h0, rfl, rfl, hg', rfl⟩
      · exact .inr ⟨i, db, g', h', hl, hf, hg', rfl⟩
  have hi' : HInv ⟨X.w, X.S, X.G, X.h.set id (.arr k es' false)⟩ := by
    refine ⟨hi.slt, fun i db hdb => ?_, fun i db g' hdb hl hg' => ?_, fun i db i' db' g1 g2 hdb hl hf hdb' hl' hg1 hg2 he => ?_⟩
    · rcases put_some hdb with ⟨rfl, rfl, _⟩ | ⟨hne, h'⟩
      · rcases hbl with ⟨h1, h2⟩ | ⟨g, arr, el, fz, h1, h2, h3, h4, h5⟩
        · exact .inl ⟨h1, List.eq_nil_of_length_eq_zero (by rw [hlen, h2]; rfl)⟩
        · exact .inr ⟨g, arr, el, fz, h1, h2, by rw [hlen]; exact h3, h4, hw.relL h5⟩
      · exact (hi.blk i db h').move st rfl fun _ _ => rfl
    · rcases put_some hdb with ⟨rfl, rfl, _⟩ | ⟨hne, h'⟩
      · have := hi.own _ (.arr k es false) g' h0 rfl hg'
        exact this
      · exact hi.own i db g' h' hl hg'
    · rcases put_some hdb with ⟨rfl, rfl, _⟩ | ⟨hne, h1'⟩ <;> rcases put_some hdb' with ⟨rfl, rfl, _⟩ | ⟨hne', h2'⟩
      · rfl
      · exact hi.inj i _ i' db' g1 g2 h0 rfl rfl h2' hl' hg1 hg2 he
      · exact hi.inj i db i' _ g1 g2 h1' hl hf h0 rfl hg1 hg2 he
      · exact hi.inj i db i' db' g1 g2 h1' hl hf h2' hl' hg1 hg2 he
  exact h gd ⟨X.w, X.S, X.G, X.h.set id (.arr k es' false)⟩ a (by simp only [hh]) hi' (hs.trans hi st) ⟨ht.size, fun j => (ht.rel j).step st, ht.defs⟩
theorem wkPs_refl : ∀ e : List PV, wkPs e e
  | [] => True.intro
  | _ :: e => ⟨.inl rfl, wkPs_refl e⟩
theorem wkRows_refl : ∀ e : List (List PV), wkRows e e
  | [] => True.intro
  | e :: es => ⟨wkPs_refl e, wkRows_refl es⟩
theorem wkRows_app : ∀ {a b c d : List (List PV)}, wkRows a b → wkRows c d → wkRows (a ++ c) (b ++ d)
  | [], [], _, _, _, h => h
  | _ :: _, _ :: _, _, _, h1, h2 => ⟨h1.1, wkRows_app h1.2 h2⟩
  | [], _ :: _, _, _, h, _ => h.elim
  | _ :: _, [], _, _, h, _ => h.elim
end
/-- Two rows as arguments, their nil slices taken as empty ones. -/
theorem DCalls.wkR2 {P : Program} {f : FuncId} {k k' : Nat} {es es' fs fs' : List (List PV)} {h : DHeap} {R : DV → DHeap → Prop} (h1 : wkRows es es') (h2 : wkRows fs fs')
    (hc : DCalls P f [.c (.p (.sl k es')), .c (.p (.sl k' fs'))] h R) : DCalls P f [.c (.p (.sl k es)), .c (.p (.sl k' fs))] h R := by
  intro X vals hh hi gd hr
  refine hc X vals hh hi gd ?_
  match vals, hr with
  | [v1, v2], ⟨g1, g2, _⟩ => exact ⟨relP_wkRows h1 g1, relP_wkRows h2 g2, True.intro⟩
end Go.Dm

end

section
/-
  The engine: a call's proof, what it runs taken as a whole, two results as they stand. No condition.
-/

set_option linter.unusedSimpArgs false
set_option linter.unusedVariables false
namespace Go.Dm
open Go

theorem entS2 {P : Program} {T : Tab} {h : DHeap} {f : FuncId} {fn : Func} {c : Code} {args : List DV} {R : DV → DHeap → Prop} (hT : TabOK P T) (hf : P.funcs[f]? = some fn) (hb : fn.body = some c)
    (hc : (Nat.ble args.length fn.ntmps && !(fn.name == "runtime.NumGoroutine")) = true)
    (hs : ∀ X0 : Ctx, X0.h = h → SWP P X0 c ⟨fn.ntmps, frameAt 0 args, h⟩ (vpost2 fn.results.toList R)) : DCalls P f args h R := by
  simp only [Bool.and_eq_true, Bool.not_eq_true'] at hc
  refine dcalls_of_swp hT hf hb (Nat.le_of_ble_eq_true hc.1) hc.2 fun X0 hX => ?_
  rw [frameAt_zip]
  refine swp_mono (hs X0 hX) fun e s hv => ?_
  have key : vres2 s.t s.h R fn.results.toList → dpost T h.length fn.results.toList R .normal s ∧ dpost T h.length fn.results.toList R .ret s := by
    intro hr
    generalize fn.results.toList = rs at hr
    unfold vres2 at hr
    split at hr
    · rename_i i j
      unfold v2 at hr
      split at hr
      · rename_i x y hx hy
        simp only [dpost, dresE, hx, hy, dresD]
        exact ⟨.inl hr, .inl hr⟩
      · exact hr.elim
    · exact hr.elim
  cases e <;> simp only [vpost2] at hv
  case normal => exact (key hv).1
  case ret => exact (key hv).2
end Go.Dm

end
