/-
  The engine, part 18: a region whose order is drawn: each operation's value is the same at whatever moment it may run; the memory's changes follow one another in a chain. No condition beyond the table of types being the program's.
-/
import Derived.Test.YtomaddpcacoodaaE17
import Derived.StillTail
set_option linter.unusedSimpArgs false
set_option linter.unusedVariables false
namespace Go.Dm
open Go

section
variable {P : Program} {T : Tab} {X0 : Ctx}

/-- One operation, run from whatever reads as its frame. -/
theorem step_sound (hT : TabOK P T) {ops : Array Oper} {o : Oper} {s : DS} {X : Ctx} {a : Act} {K : DS → Prop} {Q : Exit → Act → World → Prop} {next : Act → World → Prop} (hh : X.h = s.h) (hi : HInv X) (ht : TInv X s a)
    (h : dops P T ops [o] s K) (hn : ∀ d v X', K (s.put o.dst d X'.h) → HInv X' → Step X X' → RelD X' d v → next (a.put o.dst v) X'.w) :
    if Region.wanted o (yielded ops a.tmps) then o.wp P a X.w next Q else next (a.put o.dst undef) X.w := by
  have go : dop P T o.op s.t s.h (fun d h' => K (s.put o.dst d h')) → o.wp P a X.w next Q := by
    intro hd
    rw [← hh] at hd
    exact dop_sound hT hi ht.ev hd fun d v X' h1 h2 h3 h4 => hn d v X' h4 h1 h2 h3
  have skip : K (s.put o.dst (.tup []) s.h) → next (a.put o.dst undef) X.w := fun hd => hn (.tup []) undef X (by rw [hh]; exact hd) hi (Step.refl hi) ⟨[], rfl, True.intro⟩
  simp only [dops] at h
  split at h
  · rename_i hg
    rw [if_pos (by simp [Region.wanted, hg])]
    exact go h
  · rename_i j want hg
    have hy : ∀ d, ((ops[j]?).bind (·.dst)).map (fun i => look s.t i) = some d → ∃ i, (ops[j]?).bind (·.dst) = some i ∧ RelD X d (a.tmps.getD i undef) := by
      intro d hd
      obtain ⟨i, h1, h2⟩ := Option.map_eq_some_iff.1 hd
      exact ⟨i, h1, h2 ▸ ht.rel i⟩
    split at h
    · rename_i v hd
      obtain ⟨i, h1, h3⟩ := hy _ hd
      simp only [RelD, RelC, RelP] at h3
      have hv : a.tmps[i]? = some (.bool v) := by
        rcases Nat.lt_or_ge i a.tmps.size with hlt' | hge
        · rw [Array.getElem?_eq_getElem hlt']
          simp only [Array.getD, hlt', dif_pos] at h3
          congr 1
        · rw [Array.getD_eq_getD_getElem?, Array.getElem?_eq_none hge] at h3
          cases h3
      have hyd : yielded ops a.tmps j = some v := by
        unfold yielded
        rw [h1]
        simp only [Option.bind_some, hv]
      by_cases hw : v = want
      · rw [if_pos (by simp [Region.wanted, hg, hyd, hw])]
        exact go (h.1 hw)
      · rw [if_neg (by simp [Region.wanted, hg, hyd, hw])]
        exact skip (h.2 hw)
    · rename_i hd
      obtain ⟨i, h1, vs, hv, hr⟩ := hy _ hd
      have hvs : vs = [] := by
        cases vs with
        | nil => rfl
        | cons _ _ => exact hr.elim
      subst hvs
      have hyd : yielded ops a.tmps j = none := by
        unfold yielded
        rw [h1]
        simp only [Option.bind_some]
        rw [Array.getD_eq_getD_getElem?] at hv
        cases hx : a.tmps[i]? with
        | none => rfl
        | some u => rw [hx] at hv; simp only [Option.getD_some] at hv; rw [hv]
      rw [if_neg (by simp [Region.wanted, hg, hyd])]
      exact skip h
    · exact h.elim

/-! The world behind a draw. -/
def Ctx.draw (X : Ctx) : Ctx := ⟨{ X.w with drawn := X.w.drawn + 1 }, X.S, X.G, X.h⟩
theorem draw_step {X : Ctx} (hi : HInv X) : Step X X.draw where
  size := Nat.le_refl _
  os := rfl
  tape := rfl
  output := rfl
  kept := fun _ hb => ⟨hb, rfl⟩
  len := Nat.le_refl _
  ids := fun id db' _ h hl => ⟨db', h, SameB.refl hl, rfl, (hi.blk id db' h).same hl⟩
  frame := fun _ _ _ => rfl
  mine := fun id db g h hl hf hg => .inr ⟨id, db, g, h, hl, hf, hg, rfl⟩
  upper := fun _ h => .inl h
theorem draw_inv {X : Ctx} (hi : HInv X) : HInv X.draw :=
  ⟨fun b hb => hi.slt b hb, fun id db h => (hi.blk id db h).move (draw_step hi) rfl (fun _ _ => rfl), fun id db g h hl hg => hi.own id db g h hl hg,
   fun id db id' db' g g' h hl hf h' hl' hg hg' he => hi.inj id db id' db' g g' h hl hf h' hl' hg hg' he⟩

/-! The plan. -/
def keep (S : List Nat) : Fr → Fr
  | [] => []
  | p :: t => if S.contains p.1 then p :: keep S t else keep S t
theorem look_keep (S : List Nat) (j : Nat) : ∀ t : Fr, look (keep S t) j = if S.contains j then look t j else .jk
  | [] => by simp [keep, look]
  | p :: t => by
    simp only [keep]
    by_cases hp : S.contains p.1 = true
    · rw [if_pos hp]
      simp only [look]
      by_cases hj : j = p.1
      · subst hj; rw [if_pos rfl, if_pos rfl, if_pos hp]
      · rw [if_neg hj, if_neg hj]; exact look_keep S j t
    · rw [if_neg hp, look_keep S j t]
      by_cases hj : j = p.1
      · subst hj; rw [if_neg hp, if_neg hp]
      · simp only [look]; rw [if_neg hj]

def res (s : DS) : Option Tmp → DV
  | some i => look s.t i
  | none => .tup []
def putF (t : Fr) : Option Tmp → DV → Fr
  | some i, v => (i, v) :: t
  | none, _ => t
def One (P : Program) (T : Tab) (ops : Array Oper) (n : Nat) (o : Oper) (t : Fr) (h : DHeap) (v : DV) (h' : DHeap) : Prop :=
  dops P T ops [o] ⟨n, keep (o.looksAt ops) t, h⟩ fun s' => s'.h = h' ∧ res s' o.dst = v

def dstOf (ops : Array Oper) (i : Nat) : Option Tmp := (ops[i]?).bind (·.dst)
def predsOf (ops : Array Oper) (i : Nat) : List Nat := match ops[i]? with
  | some o => (o.after.toList.filter (Region.binds .any)).map (·.on)
  | none => []
def waitsT (ops : Array Oper) : Nat → Nat → Nat → Bool
  | 0, _, _ => false
  | f + 1, i, k => (predsOf ops i).any fun m => m == k || waitsT ops f m k
def loOf (ops : Array Oper) (chain : List Nat) (i : Nat) : Nat := (chain.filter (waitsT ops 4 i)).length

/-- The operations in an order of the prover's choice, each at every moment at which it may run. -/
def dseq (P : Program) (T : Tab) (ops : Array Oper) (n : Nat) (chain : List Nat) (K : DS → Prop) : List Nat → Fr → List DHeap → Prop
  | [], t, hs => ∀ h old, hs = h :: old → K ⟨n, t, h⟩
  | i :: rest, t, hs => ∃ o h old, ops[i]? = some o ∧ hs = h :: old ∧
      if chain.contains i then ∃ v h', One P T ops n o t h v h' ∧ dseq P T ops n chain K rest (putF t o.dst v) (h' :: hs)
      else ∃ v, One P T ops n o t h v h ∧ (∀ h0 ∈ old.take (old.length - loOf ops chain i), One P T ops n o t h0 v h0) ∧ dseq P T ops n chain K rest (putF t o.dst v) hs

def frameOf (ops : Array Oper) (V : Nat → DV) : Fr → List Nat → Fr
  | t, [] => t
  | t, i :: l => frameOf ops V (putF t (dstOf ops i) (V i)) l

theorem frameOf_congr {ops : Array Oper} {V V' : Nat → DV} : ∀ (l : List Nat) (t : Fr), (∀ i ∈ l, V i = V' i) → frameOf ops V t l = frameOf ops V' t l
  | [], _, _ => rfl
  | i :: l, t, h => by
    simp only [frameOf]
    rw [h i List.mem_cons_self]
    exact frameOf_congr l _ fun k hk => h k (List.mem_cons_of_mem _ hk)

theorem frameOf_append {ops : Array Oper} {V : Nat → DV} : ∀ (l l' : List Nat) (t : Fr), frameOf ops V t (l ++ l') = frameOf ops V (frameOf ops V t l) l'
  | [], _, _ => rfl
  | i :: l, l', t => frameOf_append l l' _

theorem frameOf_miss {ops : Array Oper} {V : Nat → DV} {j : Nat} : ∀ (l : List Nat) (t : Fr), (∀ k ∈ l, dstOf ops k ≠ some j) → look (frameOf ops V t l) j = look t j
  | [], _, _ => rfl
  | i :: l, t, h => by
    simp only [frameOf]
    rw [frameOf_miss l _ fun k hk => h k (List.mem_cons_of_mem _ hk)]
    have := h i List.mem_cons_self
    cases hd : dstOf ops i with
    | none => rfl
    | some d =>
      simp only [putF, look]
      rw [if_neg]
      rintro rfl
      exact this hd
theorem frameOf_hit {ops : Array Oper} {V : Nat → DV} {j k : Nat} (hd : dstOf ops k = some j) : ∀ (l : List Nat) (t : Fr), k ∈ l → (∀ k' ∈ l, dstOf ops k' = some j → k' = k) → look (frameOf ops V t l) j = V k
  | [], _, h, _ => by cases h
  | i :: l, t, h, hu => by
    simp only [frameOf]
    by_cases hk : k ∈ l
    · exact frameOf_hit hd l _ hk fun k' hk' => hu k' (List.mem_cons_of_mem _ hk')
    · have hki : k = i := by rcases List.mem_cons.1 h with h | h; exact h; exact absurd h hk
      subst hki
      rw [frameOf_miss l _ fun k' hk' hd' => hk (hu k' (List.mem_cons_of_mem _ hk') hd' ▸ hk'), hd]
      simp only [putF, look]
      rw [if_pos trivial]

def cnt (chain l : List Nat) : Nat := (l.filter chain.contains).length

/-- What an operation at a place of the plan does. -/
def Good (P : Program) (T : Tab) (ops : Array Oper) (n : Nat) (chain : List Nat) (V : Nat → DV) (H : Nat → DHeap) (t : Fr) (c i : Nat) : Prop :=
  ∃ o, ops[i]? = some o ∧ if chain.contains i then One P T ops n o t (H c) (V i) (H (c + 1)) else ∀ s, loOf ops chain i ≤ s → s ≤ c → One P T ops n o t (H s) (V i) (H s)

theorem dseq_plan {ops : Array Oper} {n : Nat} {chain : List Nat} {K : DS → Prop} : ∀ (rest : List Nat) (t : Fr) (hs : List DHeap) (c : Nat), hs.length = c + 1 → rest.Nodup → dseq P T ops n chain K rest t hs →
    ∃ (V : Nat → DV) (H : Nat → DHeap), (∀ k, k ≤ c → some (H k) = hs[c - k]?) ∧ (∀ pre i post, rest = pre ++ i :: post → Good P T ops n chain V H (frameOf ops V t pre) (c + cnt chain pre) i) ∧
      K ⟨n, frameOf ops V t rest, H (c + cnt chain rest)⟩
  | [], t, hs, c, hc, _, h => by
    match hs, hc with
    | h0 :: old, hc =>
      simp only [List.length_cons, Nat.add_right_cancel_iff] at hc
      refine ⟨fun _ => .jk, fun k => ((h0 :: old)[c - k]?).getD [], fun k hk => ?_, fun pre i post e => by simp at e, ?_⟩
      · have : c - k < (h0 :: old).length := by simp; omega
        simp only [List.getElem?_eq_getElem this, Option.getD_some]
      · have := h h0 old rfl
        simp only [frameOf, cnt, List.filter_nil, List.length_nil, Nat.add_zero, Nat.sub_self, List.getElem?_cons_zero, Option.getD_some]
        exact this
  | i :: rest, t, hs, c, hc, hnd, h => by
    obtain ⟨o, h0, old, ho, rfl, h⟩ := h
    have hin : i ∉ rest := (List.nodup_cons.1 hnd).1
    have hnd' := (List.nodup_cons.1 hnd).2
    have hd : dstOf ops i = o.dst := by simp [dstOf, ho]
    have hold : old.length = c := by simpa using hc
    by_cases hch : chain.contains i = true
    · rw [if_pos hch] at h
      obtain ⟨v, h', h1, h2⟩ := h
      obtain ⟨V, H, hH, hG, hK⟩ := dseq_plan rest _ _ (c + 1) (by simp [hold]) hnd' h2
      have hV : ∀ l : List Nat, (∀ k ∈ l, k ∈ rest) → ∀ t, frameOf ops (fun k => if k = i then v else V k) t l = frameOf ops V t l := fun l hl t => frameOf_congr l t fun k hk => by
        rw [if_neg]; rintro rfl; exact hin (hl _ hk)
      have hcn : ∀ l, c + cnt chain (i :: l) = c + 1 + cnt chain l := fun l => by simp only [cnt, List.filter_cons, hch, if_true, List.length_cons]; omega
      refine ⟨fun k => if k = i then v else V k, H, fun k hk => ?_, fun pre i' post e => ?_, ?_⟩
      · have := hH k (by omega)
        rw [this, show c + 1 - k = (c - k) + 1 by omega, List.getElem?_cons_succ]
      · cases pre with
        | nil =>
          simp only [List.nil_append, List.cons.injEq] at e
          obtain ⟨rfl, _⟩ := e
          refine ⟨o, ho, ?_⟩
          rw [if_pos hch]
          simp only [frameOf, cnt, List.filter_nil, List.length_nil, Nat.add_zero, if_true]
          have e1 := hH c (by omega)
          have e2 := hH (c + 1) (by omega)
          rw [show c + 1 - c = 0 + 1 by omega, List.getElem?_cons_succ, List.getElem?_cons_zero] at e1
          rw [Nat.sub_self, List.getElem?_cons_zero] at e2
          cases e1; cases e2
          exact h1
        | cons x pre =>
          simp only [List.cons_append, List.cons.injEq] at e
          obtain ⟨rfl, e⟩ := e
          have hmem : ∀ k ∈ pre, k ∈ rest := fun k hk => by rw [e]; exact List.mem_append_left _ hk
          have hi' : i' ∈ rest := by rw [e]; exact List.mem_append_right _ List.mem_cons_self
          have := hG pre i' post e
          simp only [frameOf, if_true, hd]
          rw [hV pre hmem, hcn]
          simp only [Good] at this ⊢
          rw [if_neg (show ¬ i' = i from fun he => hin (he ▸ hi'))]
          exact this
      · simp only [frameOf, if_true, hd]
        rw [hV rest (fun _ h => h), hcn]
        exact hK
    · rw [if_neg hch] at h
      obtain ⟨v, h1, h3, h2⟩ := h
      obtain ⟨V, H, hH, hG, hK⟩ := dseq_plan rest _ _ c hc hnd' h2
      have hV : ∀ l : List Nat, (∀ k ∈ l, k ∈ rest) → ∀ t, frameOf ops (fun k => if k = i then v else V k) t l = frameOf ops V t l := fun l hl t => frameOf_congr l t fun k hk => by
        rw [if_neg]; rintro rfl; exact hin (hl _ hk)
      have hcn : ∀ l, c + cnt chain (i :: l) = c + cnt chain l := fun l => by simp only [cnt, List.filter_cons, hch]; simp
      refine ⟨fun k => if k = i then v else V k, H, hH, fun pre i' post e => ?_, ?_⟩
      · cases pre with
        | nil =>
          simp only [List.nil_append, List.cons.injEq] at e
          obtain ⟨rfl, _⟩ := e
          refine ⟨o, ho, ?_⟩
          rw [if_neg hch]
          intro s hs1 hs2
          simp only [frameOf, cnt, List.filter_nil, List.length_nil, Nat.add_zero, if_true] at hs2 ⊢
          have e1 := hH s hs2
          rcases Nat.lt_or_ge s c with hlt | hge
          · rw [show c - s = (c - s - 1) + 1 by omega, List.getElem?_cons_succ] at e1
            refine h3 _ (List.mem_iff_getElem?.2 ⟨c - s - 1, ?_⟩)
            rw [List.getElem?_take, if_pos (by omega), e1]
          · have : s = c := by omega
            subst this
            rw [Nat.sub_self, List.getElem?_cons_zero] at e1
            cases e1
            exact h1
        | cons x pre =>
          simp only [List.cons_append, List.cons.injEq] at e
          obtain ⟨rfl, e⟩ := e
          have hmem : ∀ k ∈ pre, k ∈ rest := fun k hk => by rw [e]; exact List.mem_append_left _ hk
          have hi' : i' ∈ rest := by rw [e]; exact List.mem_append_right _ List.mem_cons_self
          have := hG pre i' post e
          simp only [frameOf, if_true, hd]
          rw [hV pre hmem, hcn]
          simp only [Good] at this ⊢
          rw [if_neg (show ¬ i' = i from fun he => hin (he ▸ hi'))]
          exact this
      · simp only [frameOf, if_true, hd]
        rw [hV rest (fun _ h => h), hcn]
        exact hK

/-! The plan's conditions on the region itself. -/
def chainOK (ops : Array Oper) : List Nat → Bool
  | [] => true
  | e :: es => es.all (fun e' => waitsT ops 4 e' e) && chainOK ops es
def atOK (ops : Array Oper) (chain : List Nat) (i : Nat) (pre post : List Nat) : Bool :=
  (predsOf ops i).all pre.contains &&
  (post.all fun e => !chain.contains e || waitsT ops 4 e i) &&
  (match ops[i]? with
   | some o => (o.looksAt ops).all fun j => (pre.all fun k => !(dstOf ops k == some j) || waitsT ops 4 i k) && (post.all fun k => !(dstOf ops k == some j) || waitsT ops 4 k i)
   | none => false) &&
  (match dstOf ops i with
   | some j => post.all fun k => !(dstOf ops k == some j)
   | none => true) &&
  !post.contains i
def allOK (ops : Array Oper) (chain : List Nat) : List Nat → List Nat → Bool
  | _, [] => true
  | pre, i :: post => atOK ops chain i pre post && allOK ops chain (pre ++ [i]) post
def planOK (ops : Array Oper) (n : Nat) (chain order : List Nat) : Bool :=
  decide (order.length ≤ ops.size) && ((List.range ops.size).all fun i => order.contains i && match dstOf ops i with | some x => decide (x < n) | none => true) && (order.filter chain.contains == chain) && chainOK ops chain && allOK ops chain [] order

theorem allOK_at {ops : Array Oper} {chain : List Nat} : ∀ (l pre0 : List Nat), allOK ops chain pre0 l = true → ∀ pre i post, l = pre ++ i :: post → atOK ops chain i (pre0 ++ pre) post = true
  | [], _, _, pre, i, post, e => by simp at e
  | x :: l, pre0, h, pre, i, post, e => by
    simp only [allOK, Bool.and_eq_true] at h
    cases pre with
    | nil =>
      simp only [List.nil_append, List.cons.injEq] at e
      obtain ⟨rfl, rfl⟩ := e
      simpa using h.1
    | cons y pre =>
      simp only [List.cons_append, List.cons.injEq] at e
      obtain ⟨rfl, e⟩ := e
      have := allOK_at l (pre0 ++ [x]) h.2 pre i post e
      simpa using this

/-- A set of operations with what they wait for. -/
def Closed (ops : Array Oper) (L : Array Bool) : Prop := ∀ i, L.getD i false = true → ∀ k ∈ predsOf ops i, L.getD k false = true

theorem waits_in {ops : Array Oper} {L : Array Bool} (hc : Closed ops L) : ∀ (f i k : Nat), (∀ m ∈ predsOf ops i, L.getD m false = true) → waitsT ops f i k = true → L.getD k false = true
  | 0, _, _, _, h => by cases h
  | f + 1, i, k, hp, h => by
    simp only [waitsT, List.any_eq_true, Bool.or_eq_true, beq_iff_eq] at h
    obtain ⟨m, hm, h⟩ := h
    rcases h with rfl | h
    · exact hp _ hm
    · exact waits_in hc f m k (hc m (hp m hm)) h

theorem mem_preds {ops : Array Oper} {i k : Nat} : k ∈ predsOf ops i ↔ ∃ o, ops[i]? = some o ∧ ∃ e ∈ o.after, Region.binds .any e = true ∧ e.on = k := by
  unfold predsOf
  cases ho : ops[i]? with
  | none => simp
  | some o =>
    simp only [List.mem_map, List.mem_filter, Array.mem_toList_iff, Option.some.injEq, exists_eq_left']
    constructor
    · rintro ⟨e, ⟨h1, h2⟩, h3⟩; exact ⟨e, h1, h2, h3⟩
    · rintro ⟨e, h1, h2, h3⟩; exact ⟨e, ⟨h1, h2⟩, h3⟩

theorem ready_of {ops : Array Oper} {L : Array Bool} {i : Nat} (h : i ∈ Region.ready .any ops L) : L.getD i true = false ∧ (∃ o, ops[i]? = some o) ∧ ∀ k ∈ predsOf ops i, L.getD k false = true := by
  obtain ⟨h1, o, h2, h3⟩ := mem_ready.1 h
  refine ⟨h1, ⟨o, h2⟩, fun k hk => ?_⟩
  obtain ⟨o', ho', e, he, hb, rfl⟩ := mem_preds.1 hk
  rw [h2] at ho'; cases ho'
  exact h3 e he hb
theorem ready_mk {ops : Array Oper} {L : Array Bool} {i : Nat} (h1 : L.getD i true = false) (h2 : i < ops.size) (h3 : ∀ k ∈ predsOf ops i, L.getD k false = true) : i ∈ Region.ready .any ops L :=
  mem_ready.2 ⟨h1, ops[i], Array.getElem?_eq_getElem h2, fun e he hb => h3 _ (mem_preds.2 ⟨_, Array.getElem?_eq_getElem h2, e, he, hb, rfl⟩)⟩

/-- Where a drawn region stands. -/
structure RInv (P : Program) (X0 : Ctx) (ops : Array Oper) (n : Nat) (chain : List Nat) (V : Nat → DV) (H : Nat → DHeap) (t0 : Fr) (L : Array Bool) (X : Ctx) (a : Act) : Prop where
  size : L.size = ops.size
  closed : Closed ops L
  hh : X.h = H (chain.filter fun e => L.getD e false).length
  hi : HInv X
  hs : Step X0 X
  sz : a.tmps.size = n
  defs : a.defers = []
  relA : ∀ k j, L.getD k false = true → dstOf ops k = some j → RelD X (V k) (a.tmps.getD j undef)
  relB : ∀ j, (∀ k, L.getD k false = true → dstOf ops k ≠ some j) → RelD X (look t0 j) (a.tmps.getD j undef)

theorem getD_set_self {L : Array Bool} {i : Nat} (h : i < L.size) (d : Bool) : (L.setIfInBounds i true).getD i d = true := by
  simp [h]
theorem getD_set_cases {L : Array Bool} {i k : Nat} (h : (L.setIfInBounds i true).getD k false = true) : k = i ∨ L.getD k false = true := by
  by_cases hk : i = k
  · exact .inl hk.symm
  · rw [getD_set_ne false hk] at h; exact .inr h

theorem filter_len_le {α : Type} (p q : α → Bool) : ∀ (l : List α), (∀ x ∈ l, p x = true → q x = true) → (l.filter p).length ≤ (l.filter q).length
  | [], _ => Nat.le_refl _
  | x :: l, h => by
    have ih := filter_len_le p q l fun y hy => h y (List.mem_cons_of_mem _ hy)
    simp only [List.filter_cons]
    by_cases hp : p x = true
    · rw [if_pos hp, if_pos (h x List.mem_cons_self hp)]; simp only [List.length_cons]; omega
    · rw [if_neg hp]
      split <;> (try simp only [List.length_cons]) <;> omega
theorem filter_len_eq {α : Type} (p q : α → Bool) (l : List α) (h : ∀ x ∈ l, p x = q x) : (l.filter p).length = (l.filter q).length := by
  rw [List.filter_congr h]

/-- What the plan's conditions give. -/
structure PlanAt (ops : Array Oper) (n : Nat) (chain order : List Nat) : Prop where
  all : ∀ i o, ops[i]? = some o → i ∈ order
  dlt : ∀ i x, dstOf ops i = some x → x < n
  chn : order.filter chain.contains = chain
  prs : ∀ A e B, chain = A ++ e :: B → ∀ k ∈ A, waitsT ops 4 e k = true
  len : order.length ≤ ops.size
  at_ : ∀ pre i post, order = pre ++ i :: post → atOK ops chain i pre post = true

theorem chainOK_at {ops : Array Oper} : ∀ (l : List Nat), chainOK ops l = true → ∀ A e B, l = A ++ e :: B → ∀ k ∈ A, waitsT ops 4 e k = true
  | [], _, A, e, B, h, _, _ => by simp at h
  | x :: l, hc, A, e, B, h, k, hk => by
    simp only [chainOK, Bool.and_eq_true, List.all_eq_true] at hc
    cases A with
    | nil => cases hk
    | cons y A =>
      simp only [List.cons_append, List.cons.injEq] at h
      obtain ⟨rfl, rfl⟩ := h
      rcases List.mem_cons.1 hk with rfl | hk
      · exact hc.1 e (by simp)
      · exact chainOK_at _ hc.2 A e B rfl k hk

theorem planOK_at {ops : Array Oper} {n : Nat} {chain order : List Nat} (h : planOK ops n chain order = true) : PlanAt ops n chain order := by
  simp only [planOK, Bool.and_eq_true, List.all_eq_true, List.mem_range, beq_iff_eq, decide_eq_true_eq] at h
  obtain ⟨⟨⟨⟨h0, h1⟩, h2⟩, h3⟩, h4⟩ := h
  refine ⟨fun i o hi => ?_, fun i x hx => ?_, h2, chainOK_at _ h3, h0, fun pre i post e => by simpa using allOK_at order [] h4 pre i post e⟩
  · have := (h1 i (Array.getElem?_eq_some_iff.1 hi).1).1
    simpa using this
  · have hi : i < ops.size := by
      rcases Nat.lt_or_ge i ops.size with h | h
      · exact h
      · simp [dstOf, Array.getElem?_eq_none h] at hx
    have := (h1 i hi).2
    rw [hx] at this
    simpa using this

section plan
variable {ops : Array Oper} {n : Nat} {chain order : List Nat}

theorem PlanAt.uniq (hp : PlanAt ops n chain order) {k k' : Nat} {j : Tmp} (hk : k ∈ order) (hk' : k' ∈ order) (h : dstOf ops k = some j) (h' : dstOf ops k' = some j) : k' = k := by
  obtain ⟨pre, post, e⟩ := List.append_of_mem hk
  rw [e] at hk'
  have key : ∀ x y p q, order = p ++ x :: q → dstOf ops x = some j → y ∈ q → dstOf ops y = some j → False := by
    intro x y p q e hx hy hy'
    have := hp.at_ p x q e
    simp only [atOK, Bool.and_eq_true, hx, List.all_eq_true, Bool.not_eq_true', beq_eq_false_iff_ne] at this
    exact this.1.2 y hy hy'
  rcases List.mem_append.1 hk' with hk' | hk'
  · obtain ⟨p2, q2, e2⟩ := List.append_of_mem hk'
    exact (key k' k p2 (q2 ++ k :: post) (by rw [e, e2]; simp) h' (by simp) h).elim
  · rcases List.mem_cons.1 hk' with rfl | hk'
    · rfl
    · exact (key k k' pre post e h hk' h').elim

theorem PlanAt.nodup (hp : PlanAt ops n chain order) : order.Nodup := by
  suffices h : ∀ (l pre : List Nat), order = pre ++ l → l.Nodup from h order [] rfl
  intro l
  induction l with
  | nil => intro _ _; exact List.nodup_nil
  | cons i l ih =>
    intro pre e
    refine List.nodup_cons.2 ⟨fun hi => ?_, ih (pre ++ [i]) (by simpa using e)⟩
    have := hp.at_ pre i l e
    simp only [atOK, Bool.and_eq_true, Bool.not_eq_true'] at this
    have h2 := this.2
    simp at h2
    exact h2 hi

theorem put_get {a : Act} {o : Option Tmp} {v : Value} {j : Nat} (h : o ≠ some j) : (a.put o v).tmps.getD j undef = a.tmps.getD j undef := by
  cases o with
  | none => rfl
  | some i =>
    have hij : i ≠ j := fun e => h (by rw [e])
    simp only [Act.put]
    rw [Array.getD_eq_getD_getElem?, Array.getElem?_setIfInBounds_ne hij, ← Array.getD_eq_getD_getElem?]
theorem put_self {a : Act} {v : Value} {j : Nat} (h : j < a.tmps.size) : (a.put (some j) v).tmps.getD j undef = v := by
  simp only [Act.put]
  rw [Array.getD_eq_getD_getElem?, Array.getElem?_setIfInBounds_self_of_lt h]; rfl
theorem put_size {a : Act} {o : Option Tmp} {v : Value} : (a.put o v).tmps.size = a.tmps.size := by cases o <;> simp [Act.put]
theorem put_defs {a : Act} {o : Option Tmp} {v : Value} : (a.put o v).defers = a.defers := by cases o <;> rfl

theorem drawn_step (hT : TabOK P T) (hp : PlanAt ops n chain order) {V : Nat → DV} {H : Nat → DHeap} {t0 : Fr} (hG : ∀ pre i post, order = pre ++ i :: post → Good P T ops n chain V H (frameOf ops V t0 pre) (cnt chain pre) i)
    {L : Array Bool} {X : Ctx} {a : Act} {Q : Exit → Act → World → Prop} (hR : RInv P X0 ops n chain V H t0 L X a) {i : Nat} (hi : i ∈ Region.ready .any ops L) {next : Act → World → Prop}
    (hn : ∀ X' a', RInv P X0 ops n chain V H t0 (L.setIfInBounds i true) X' a' → next a' X'.w) : wpOp P ops Q i next a X.w := by
  obtain ⟨hiL, ⟨o, ho⟩, hpr⟩ := ready_of hi
  have hiL' : L.getD i false = false := getD_both hiL
  have hilt : i < L.size := by rw [hR.size]; exact (Array.getElem?_eq_some_iff.1 ho).1
  obtain ⟨pre, post, e⟩ := List.append_of_mem (hp.all i o ho)
  have hat := hp.at_ pre i post e
  simp only [atOK, ho, Bool.and_eq_true, List.all_eq_true, Bool.or_eq_true, Bool.not_eq_true'] at hat
  obtain ⟨⟨⟨⟨_, hlater⟩, hlook⟩, _⟩, hnp⟩ := hat
  have hdst : dstOf ops i = o.dst := by simp [dstOf, ho]
  have hinpost : i ∉ post := by simpa using hnp
  have waiting : ∀ k, L.getD k false = true → waitsT ops 4 k i = false := fun k hk => by
    cases hw : waitsT ops 4 k i with
    | false => rfl
    | true =>
      have := waits_in hR.closed 4 k i (hR.closed k hk) hw
      rw [hiL'] at this; cases this
  have waited : ∀ k, waitsT ops 4 i k = true → L.getD k false = true := fun k hk => waits_in hR.closed 4 i k hpr hk
  have hch : chain = pre.filter chain.contains ++ ((i :: post).filter chain.contains) := by
    conv => lhs; rw [← hp.chn, e, List.filter_append]
  have hpostL : ∀ k ∈ post.filter chain.contains, L.getD k false = false := fun k hk => by
    obtain ⟨h1, h2⟩ := List.mem_filter.1 hk
    cases hl : L.getD k false with
    | false => rfl
    | true =>
      rcases hlater k h1 with h | h
      · rw [h2] at h; cases h
      · rw [waiting k hl] at h; cases h
  obtain ⟨o', ho', good⟩ := hG pre i post e
  rw [ho] at ho'; cases ho'
  -- the frame as the operation sees it
  have tin : ∀ h, X.h = h → TInv X ⟨n, keep (o.looksAt ops) (frameOf ops V t0 pre), h⟩ a := by
    intro h _
    refine ⟨hR.sz, fun j => ?_, hR.defs⟩
    simp only [look_keep]
    split
    · rename_i hj
      have hj' : j ∈ o.looksAt ops := by simpa using hj
      obtain ⟨l1, l2⟩ := hlook j hj'
      by_cases hk : ∃ k ∈ pre, dstOf ops k = some j
      · obtain ⟨k, hkp, hkd⟩ := hk
        have hkL : L.getD k false = true := by
          rcases l1 k hkp with h | h
          · rw [hkd] at h; simp at h
          · exact waited k h
        rw [frameOf_hit hkd pre t0 hkp fun k' hk' hd' => hp.uniq (e ▸ List.mem_append_left _ hkp) (e ▸ List.mem_append_left _ hk') hkd hd']
        exact hR.relA k j hkL hkd
      · rw [frameOf_miss pre t0 fun k hkp hkd => hk ⟨k, hkp, hkd⟩]
        refine hR.relB j fun k hkL hkd => ?_
        have hko : k ∈ order := by
          unfold dstOf at hkd
          cases hok : ops[k]? with
          | none => rw [hok] at hkd; cases hkd
          | some ok => exact hp.all k ok hok
        rw [e] at hko
        rcases List.mem_append.1 hko with h | h
        · exact hk ⟨k, h, hkd⟩
        · rcases List.mem_cons.1 h with rfl | h
          · rw [hiL'] at hkL; cases hkL
          · rcases l2 k h with h' | h'
            · rw [hkd] at h'; simp at h'
            · rw [waiting k hkL] at h'; cases h'
    · exact True.intro
  -- one operation done
  have fin : ∀ h', One P T ops n o (frameOf ops V t0 pre) X.h (V i) h' → h' = H (chain.filter fun k => (L.setIfInBounds i true).getD k false).length → wpOp P ops Q i next a X.w := by
    intro h' hone hh'
    have := step_sound (Q := Q) (next := next) hT (s := ⟨n, keep (o.looksAt ops) (frameOf ops V t0 pre), X.h⟩) rfl hR.hi (tin _ rfl) hone ?_
    · unfold wpOp
      simp only [ho]
      split
      · rename_i hw; rw [if_pos hw] at this; exact .inl this
      · rename_i hw; rw [if_neg hw] at this; exact this
    · intro d v X' hk hi' hs' hr
      obtain ⟨k1, k2⟩ := hk
      have k1' : X'.h = h' := by rw [← k1]; unfold DS.put; split <;> (try split) <;> rfl
      refine hn X' _ ⟨by simp [hR.size], fun x hx k hk => ?_, by rw [k1', hh'], hi', hR.hs.trans hR.hi hs', by rw [put_size]; exact hR.sz, by rw [put_defs]; exact hR.defs, fun k j hk hkd => ?_, fun j hj => ?_⟩
      · rcases getD_set_cases hx with rfl | hx
        · exact getD_set_true (hpr k hk)
        · exact getD_set_true (hR.closed x hx k hk)
      · rcases getD_set_cases hk with rfl | hk
        · rw [hdst] at hkd
          have hjn : j < n := hp.dlt k j (by rw [hdst]; exact hkd)
          simp only [hkd, DS.put, if_pos hjn, res, look, if_true] at k2
          rw [hkd, put_self (by rw [hR.sz]; exact hjn), ← k2]
          exact hr
        · rw [put_get]
          · exact (hR.relA k j hk hkd).step hs'
          · intro hd
            have : k = i := hp.uniq (hp.all i o ho) (by
              unfold dstOf at hkd
              cases hok : ops[k]? with
              | none => rw [hok] at hkd; cases hkd
              | some ok => exact hp.all k ok hok) (hdst.trans hd) hkd
            rw [this, hiL'] at hk; cases hk
      · rw [put_get]
        · exact (hR.relB j fun k hk => hj k (getD_set_true hk)).step hs'
        · rw [← hdst]; exact hj i (getD_set_self hilt false)
  have hAL : ((pre.filter chain.contains).filter fun k => L.getD k false).length = (chain.filter fun k => L.getD k false).length := by
    conv => rhs; rw [hch]
    rw [List.filter_append, List.length_append]
    have : ((i :: post).filter chain.contains).filter (fun k => L.getD k false) = [] := by
      rw [List.filter_eq_nil_iff]
      intro k hk
      obtain ⟨h1, h2⟩ := List.mem_filter.1 hk
      rcases List.mem_cons.1 h1 with rfl | h1
      · rw [hiL']; simp
      · rw [hpostL k (List.mem_filter.2 ⟨h1, h2⟩)]; simp
    rw [this]; rfl
  by_cases hc : chain.contains i = true
  · rw [if_pos hc] at good
    have hch' : chain = pre.filter chain.contains ++ i :: post.filter chain.contains := by
      conv => lhs; rw [hch, List.filter_cons, if_pos hc]
    have hA : ∀ k ∈ pre.filter chain.contains, L.getD k false = true := fun k hk => waited k (hp.prs _ _ _ hch' k hk)
    have hcn : cnt chain pre = (chain.filter fun k => L.getD k false).length := by
      rw [← hAL, List.filter_eq_self.2 hA]; rfl
    rw [hcn, ← hR.hh] at good
    refine fin _ good ?_
    congr 1
    rw [← hcn]
    conv => rhs; rw [hch', List.filter_append, List.filter_cons, if_pos (getD_set_self hilt false)]
    have h1 : (pre.filter chain.contains).filter (fun k => (L.setIfInBounds i true).getD k false) = pre.filter chain.contains := List.filter_eq_self.2 fun k hk => getD_set_true (hA k hk)
    have h2 : (post.filter chain.contains).filter (fun k => (L.setIfInBounds i true).getD k false) = [] := by
      rw [List.filter_eq_nil_iff]
      intro k hk
      have hki : i ≠ k := fun e => hinpost (e ▸ (List.mem_filter.1 hk).1)
      rw [getD_set_ne false hki, hpostL k hk]; simp
    rw [h1, h2]
    simp [cnt]
  · rw [if_neg hc] at good
    have hone := good (chain.filter fun k => L.getD k false).length (filter_len_le _ _ _ fun k _ hk => waited k hk) (by rw [← hAL]; exact List.length_filter_le _ _)
    rw [← hR.hh] at hone
    refine fin _ hone ?_
    rw [hR.hh]
    congr 1
    refine filter_len_eq _ _ _ fun k hk => ?_
    have hki : i ≠ k := by rintro rfl; exact hc (by simpa using hk)
    rw [getD_set_ne false hki]

theorem drawn_all (hT : TabOK P T) (hp : PlanAt ops n chain order) {V : Nat → DV} {H : Nat → DHeap} {t0 : Fr} (hG : ∀ pre i post, order = pre ++ i :: post → Good P T ops n chain V H (frameOf ops V t0 pre) (cnt chain pre) i)
    {Q : Exit → DS → Prop} (hK : Q .normal ⟨n, frameOf ops V t0 order, H (cnt chain order)⟩) : ∀ (fuel : Nat) (L : Array Bool) (X : Ctx) (a : Act), RInv P X0 ops n chain V H t0 L X a →
      (order.filter fun k => !L.getD k true).length ≤ fuel → wpAny P .any ops (Post X0 Q) fuel L a X.w := by
  have done : ∀ (L : Array Bool) (X : Ctx) (a : Act), RInv P X0 ops n chain V H t0 L X a → Region.ready .any ops L = [] → Post X0 Q .normal a X.w := by
    intro L X a hR hr
    have hall : ∀ (post pre : List Nat), order = pre ++ post → (∀ k ∈ pre, L.getD k false = true) → ∀ k ∈ order, L.getD k false = true := by
      intro post
      induction post with
      | nil => intro pre e h k hk; rw [e, List.append_nil] at hk; exact h k hk
      | cons i post ih =>
        intro pre e h
        refine ih (pre ++ [i]) (by simpa using e) fun k hk => ?_
        rcases List.mem_append.1 hk with hk | hk
        · exact h k hk
        · rw [List.mem_singleton] at hk
          subst hk
          have hat := hp.at_ pre k post e
          simp only [atOK, Bool.and_eq_true, List.all_eq_true] at hat
          cases hl : L.getD k false with
          | true => rfl
          | false =>
            have hk : k < ops.size := by
              have := hat.1.1.2
              cases hok : ops[k]? with
              | none => rw [hok] at this; cases this
              | some ok => exact (Array.getElem?_eq_some_iff.1 hok).1
            have : k ∈ Region.ready .any ops L := ready_mk (getD_in (by rw [hR.size]; exact hk) hl) hk fun m hm => h m (by simpa using hat.1.1.1.1 m hm)
            rw [hr] at this; cases this
    have hL := hall order [] rfl (fun k hk => by cases hk)
    refine ⟨_, X, hK, rfl, ?_, hR.hi, hR.hs, hR.sz, fun j => ?_, hR.defs⟩
    · rw [hR.hh]
      simp only [cnt, hp.chn]
      rw [List.filter_eq_self.2]
      intro k hk
      rw [← hp.chn] at hk
      exact hL k (List.mem_filter.1 hk).1
    · by_cases hk : ∃ k ∈ order, dstOf ops k = some j
      · obtain ⟨k, hkp, hkd⟩ := hk
        simp only
        rw [frameOf_hit hkd order t0 hkp fun k' hk' hd' => hp.uniq hkp hk' hkd hd']
        exact hR.relA k j (hL k hkp) hkd
      · simp only
        rw [frameOf_miss order t0 fun k hkp hkd => hk ⟨k, hkp, hkd⟩]
        refine hR.relB j fun k _ hkd => hk ⟨k, ?_, hkd⟩
        unfold dstOf at hkd
        cases hok : ops[k]? with
        | none => rw [hok] at hkd; cases hkd
        | some ok => exact hp.all k ok hok
  have mem_count : ∀ (L : Array Bool) i, i ∈ Region.ready .any ops L → i ∈ order.filter fun k => !L.getD k true := fun L i hi => by
    obtain ⟨h1, ⟨o, h2⟩, _⟩ := ready_of hi
    exact List.mem_filter.2 ⟨hp.all i o h2, by rw [h1]; rfl⟩
  intro fuel
  induction fuel with
  | zero =>
    intro L X a hR hc
    have hr : Region.ready .any ops L = [] := by
      cases hr : Region.ready .any ops L with
      | nil => rfl
      | cons i l =>
        have := mem_count L i (by rw [hr]; exact List.mem_cons_self)
        rw [List.length_eq_zero_iff.1 (Nat.le_zero.1 hc)] at this
        cases this
    exact ⟨hr, done L X a hR hr⟩
  | succ fuel ih =>
    intro L X a hR hc
    refine ⟨fun hr => done L X a hR hr, fun i hi => drawn_step hT hp hG hR hi fun X' a' hR' => ih _ X' a' hR' ?_⟩
    have hm := mem_count L i hi
    obtain ⟨hiL, ⟨o, ho⟩, _⟩ := ready_of hi
    obtain ⟨p, q, e⟩ := List.append_of_mem hm
    have hsub : (order.filter fun k => !(L.setIfInBounds i true).getD k true) = (order.filter fun k => !L.getD k true).filter fun k => !(k == i) := by
      rw [List.filter_filter]
      refine List.filter_congr fun k hk => ?_
      by_cases hki : i = k
      · subst hki
        rw [getD_set_self (by rw [hR.size]; exact (Array.getElem?_eq_some_iff.1 ho).1)]
        simp
      · rw [getD_set_ne true hki]
        have : (k == i) = false := by simpa using fun e => hki e.symm
        rw [this]; simp
    rw [hsub, e, List.filter_append, List.filter_cons]
    rw [e, List.length_append, List.length_cons] at hc
    simp only [beq_self_eq_true, Bool.not_true, Bool.false_eq_true, if_false, List.length_append]
    have h1 := List.length_filter_le (fun k => !(k == i)) p
    have h2 := List.length_filter_le (fun k => !(k == i)) q
    omega

end plan

theorem swp_drawn (hT : TabOK P T) (hm : P.follows .mixedOrders = true) {Q : Exit → DS → Prop} {s : DS} {id : Nat} {ops : Array Oper} (chain order : List Nat) (hp : planOK ops s.n chain order = true)
    (h : dseq P T ops s.n chain (fun s' => Q .normal s') order s.t [s.h]) : SWP P X0 (.region id ops true) s Q := by
  intro X a hh hi hs ht
  have hp := planOK_at hp
  obtain ⟨V, H, h1, h2, h3⟩ := dseq_plan order s.t [s.h] 0 rfl hp.nodup h
  simp only [Nat.zero_add] at h2 h3
  have h0 := h1 0 (Nat.le_refl _)
  simp only [Nat.sub_self, List.getElem?_cons_zero, Option.some.injEq] at h0
  refine wp_region_any hm (drawn_all hT hp h2 h3 _ _ X.draw a ?_ ?_)
  · have hf : ∀ k, (Array.replicate ops.size false).getD k false = false := getD_replicate_false _
    refine ⟨by simp, fun i hi' => ?_, ?_, draw_inv hi, hs.trans hi (draw_step hi), ht.size, ht.defs, fun k j hk => ?_, fun j _ => (ht.rel j).step (draw_step hi)⟩
    · rw [hf] at hi'; cases hi'
    · have : (chain.filter fun e => (Array.replicate ops.size false).getD e false) = [] := by
        rw [List.filter_eq_nil_iff]
        intro k _; rw [hf]; simp
      rw [this, List.length_nil, h0]
      exact hh
    · rw [hf] at hk; cases hk
  · refine Nat.le_trans (List.length_filter_le _ _) ?_
    exact hp.len

end
end Go.Dm
