/-
  The engine, part 25: an operation sees its operands alone; so a region whose order is drawn is gone through as if it stood in the text's order. No condition: consequences of the parts before.
-/
import Derived.Test.YtomaddpcacoodaaV4
set_option linter.unusedSimpArgs false
set_option linter.unusedVariables false
namespace Go.Dm
open Go

section
variable {P : Program} {T : Tab} {X0 : Ctx}

theorem evD_keep {S : List Nat} {t : Fr} {x : Operand} (h : ∀ i, x = .tmp i → S.contains i = true) : evD (keep S t) x = evD t x := by
  cases x with
  | tmp i => simp only [evD]; exact look_kept (h i rfl)
  | _ => rfl

theorem dop_keep {S : List Nat} {t : Fr} {op : Op} {h : DHeap} {K : DV → DHeap → Prop} (hS : ∀ x ∈ op.operands.toList, ∀ i, x = .tmp i → S.contains i = true) : dop P T op (keep S t) h K = dop P T op t h K := by
  have e : ∀ x ∈ op.operands.toList, evD (keep S t) x = evD t x := fun x hx => evD_keep (hS x hx)
  have em : ∀ l : List Operand, (∀ x ∈ l, x ∈ op.operands.toList) → l.map (evD (keep S t)) = l.map (evD t) := fun l hl => List.map_congr_left fun x hx => e x (hl x hx)
  cases op with
  | move x => simp only [dop, e x (by simp [Op.operands])]
  | assign x => simp only [dop, e x (by simp [Op.operands])]
  | pick c a b => simp only [dop, e c (by simp [Op.operands]), e a (by simp [Op.operands]), e b (by simp [Op.operands])]
  | alloc ty => rfl
  | box ty x => simp only [dop, e x (by simp [Op.operands])]
  | build ty ps =>
    simp only [dop]
    rw [List.map_congr_left (g := fun p => (p.1, evD t p.2)) fun p hp => by rw [e p.2 (by simp only [Op.operands, List.toList_toArray, List.mem_map]; exact ⟨p, hp, rfl⟩)]]
  | buildSlice ty n ps =>
    simp only [dop]
    rw [List.map_congr_left (g := fun p => (p.1, evD t p.2)) fun p hp => by rw [e p.2 (by simp only [Op.operands, List.toList_toArray, List.mem_map]; exact ⟨p, hp, rfl⟩)]]
  | load ty x => simp only [dop, e x (by simp [Op.operands])]
  | store ty a v => simp only [dop, e a (by simp [Op.operands]), e v (by simp [Op.operands])]
  | nilCheck x => simp only [dop, e x (by simp [Op.operands])]
  | binOp o ty a v ty' => simp only [dop, e a (by simp [Op.operands]), e v (by simp [Op.operands])]
  | unOp o ty x => simp only [dop, e x (by simp [Op.operands])]
  | convert s d x => simp only [dop, e x (by simp [Op.operands])]
  | slice ty x lo hi mx =>
    cases mx with
    | some _ => rfl
    | none =>
      have e1 := e x (by simp [Op.operands])
      have e2 : ∀ d K, bnd (keep S t) lo d K = bnd t lo d K := fun d K => by
        cases lo with
        | none => rfl
        | some y => simp only [bnd, e y (by simp [Op.operands])]
      have e3 : ∀ d K, bnd (keep S t) hi d K = bnd t hi d K := fun d K => by
        cases hi with
        | none => rfl
        | some y => simp only [bnd, e y (by simp [Op.operands])]
      simp only [dop]
      rw [show bnd (keep S t) lo = bnd t lo from funext fun d => funext fun K => e2 d K, show bnd (keep S t) hi = bnd t hi from funext fun d => funext fun K => e3 d K, e1]
  | fieldAddr s x f => simp only [dop, e x (by simp [Op.operands])]
  | field ty x f => simp only [dop, e x (by simp [Op.operands])]
  | indexAddr ty a v => simp only [dop, e a (by simp [Op.operands]), e v (by simp [Op.operands])]
  | index ty a v => simp only [dop, e a (by simp [Op.operands]), e v (by simp [Op.operands])]
  | extract x n => simp only [dop, e x (by simp [Op.operands])]
  | makeFunc f first cap =>
    cases f with
    | func f =>
      simp only [dop]
      rw [em cap.toList fun x hx => by simp only [Op.operands, Array.toList_append, List.mem_append]; exact .inr hx]
    | _ => rfl
  | makeSlice ty a v => simp only [dop, e a (by simp [Op.operands]), e v (by simp [Op.operands])]
  | call c =>
    obtain ⟨cal, args, ats⟩ := c
    have ea : args.toList.map (evD (keep S t)) = args.toList.map (evD t) := em _ fun x hx => by
      simp only [Op.operands, Call.operands, Array.toList_append, List.mem_append]; exact .inr hx
    cases cal with
    | value f =>
      have ef := e f (by simp [Op.operands, Call.operands])
      simp only [dop, ea, ef]
    | invoke r m => rfl
    | builtin b =>
      have eone : ∀ x ∈ args.toList, evD (keep S t) x = evD t x := fun x hx => e x (by simp only [Op.operands, Call.operands, Array.toList_append, List.mem_append]; exact .inr hx)
      cases b with
      | len =>
        simp only [dop]
        split
        · rename_i hx; rw [eone _ (by rw [hx]; simp)]
        · rfl
      | append =>
        simp only [dop]
        split
        · rename_i hx; rw [eone _ (by rw [hx]; simp), eone _ (by rw [hx]; simp)]
        · rfl
      | min => simp only [dop, ea]
      | max => simp only [dop, ea]
      | _ => rfl
  | _ => rfl

theorem dops_keep {l : List Oper} {o : Oper} {n : Nat} {t : Fr} {h h' : DHeap} {v : DV} {S : List Nat} (hS : S = o.looksAt l.toArray) (hn : (match o.dst with | some i => Nat.blt i n | none => true) = true)
    (hd : dops P T l.toArray [o] ⟨n, t, h⟩ (kOne h' o.dst v)) : dops P T l.toArray [o] ⟨n, keep S t, h⟩ (kOne h' o.dst v) := by
  have hop : ∀ K, dop P T o.op (keep S t) h K = dop P T o.op t h K := fun K => dop_keep fun x hx i hi => by
    subst hi; subst hS
    simp only [Oper.looksAt, List.contains_eq_mem, List.mem_append, decide_eq_true_eq]
    exact .inl (List.mem_filterMap.2 ⟨_, hx, rfl⟩)
  have hk : ∀ d h0, kOne h' o.dst v (DS.put ⟨n, keep S t, h⟩ o.dst d h0) = kOne h' o.dst v (DS.put ⟨n, t, h⟩ o.dst d h0) := by
    intro d h0
    cases hd' : o.dst with
    | none => rfl
    | some i =>
      rw [hd'] at hn
      have hi : i < n := Nat.blt_eq.mp hn
      simp only [DS.put, if_pos hi, kOne, res, look_cons, if_true]
  have hk' : (fun d h0 => dops P T l.toArray [] (DS.put ⟨n, keep S t, h⟩ o.dst d h0) (kOne h' o.dst v)) = fun d h0 => dops P T l.toArray [] (DS.put ⟨n, t, h⟩ o.dst d h0) (kOne h' o.dst v) := by
    funext d h0; exact hk d h0
  simp only [dops] at hd ⊢
  cases hg : o.guard with
  | none =>
    simp only [hg] at hd ⊢
    rw [hop]
    simp only [hk]
    exact hd
  | some g =>
    obtain ⟨j, b⟩ := g
    simp only [hg] at hd ⊢
    have hgv : ((l.toArray[j]?).bind (·.dst)).map (fun i => look (keep S t) i) = ((l.toArray[j]?).bind (·.dst)).map fun i => look t i := by
      cases hy : (l.toArray[j]?).bind (·.dst) with
      | none => rfl
      | some i =>
        simp only [Option.map_some]
        rw [look_kept]
        subst hS
        simp only [Oper.looksAt, hg, hy, List.contains_eq_mem, List.mem_append, decide_eq_true_eq]
        exact .inr (by simp)
    rw [hgv]
    simp only [hop, hk]
    exact hd

/-- One operation of a region without changes of memory, as if it stood in the text's order. -/
theorem ds_one {l : List Oper} {n i : Nat} {rest : List Nat} {t : Fr} {h : DHeap} {K : DS → Prop} {o : Oper} (v : DV) (ho : l[i]? = some o) (hn : (match o.dst with | some i => Nat.blt i n | none => true) = true)
    (h1 : dops P T l.toArray [o] ⟨n, t, h⟩ (kOne h o.dst v)) (h3 : dseq P T l.toArray n [] K rest (putF t o.dst v) [h]) : dseq P T l.toArray n [] K (i :: rest) t [h] :=
  ds_pure v ho (fun _ hS => dops_keep hS hn h1) h3
/-- One operation of a region with changes of memory: a change. -/
theorem ds_chg {l : List Oper} {n i : Nat} {chain rest : List Nat} {t : Fr} {h : DHeap} {old : List DHeap} {K : DS → Prop} {o : Oper} (v : DV) (h' : DHeap) (ho : l[i]? = some o) (hn : (match o.dst with | some i => Nat.blt i n | none => true) = true) (hc : chain.contains i = true)
    (h1 : dops P T l.toArray [o] ⟨n, t, h⟩ (kOne h' o.dst v)) (h3 : dseq P T l.toArray n chain K rest (putF t o.dst v) (h' :: h :: old)) : dseq P T l.toArray n chain K (i :: rest) t (h :: old) :=
  ds_do v h' ho hc (fun _ hS => dops_keep hS hn h1) h3
/-- One operation of a region with changes of memory: no change. -/
theorem ds_see {l : List Oper} {n i : Nat} {chain rest : List Nat} {t : Fr} {h : DHeap} {old : List DHeap} {K : DS → Prop} {o : Oper} (v : DV) (ho : l[i]? = some o) (hn : (match o.dst with | some i => Nat.blt i n | none => true) = true) (hc : chain.contains i = false)
    (h1 : ∀ h0 ∈ h :: old.take (old.length - loOf l.toArray chain i), dops P T l.toArray [o] ⟨n, t, h0⟩ (kOne h0 o.dst v)) (h3 : dseq P T l.toArray n chain K rest (putF t o.dst v) (h :: old)) : dseq P T l.toArray n chain K (i :: rest) t (h :: old) :=
  ds_read v ho hc (fun _ hS h0 hh => dops_keep hS hn (h1 h0 hh)) h3
/-- The same, looked at in every memory so far. -/
theorem ds_all {l : List Oper} {n i : Nat} {chain rest : List Nat} {t : Fr} {h : DHeap} {old : List DHeap} {K : DS → Prop} {o : Oper} (v : DV) (ho : l[i]? = some o) (hn : (match o.dst with | some i => Nat.blt i n | none => true) = true) (hc : chain.contains i = false)
    (h1 : ∀ h0 ∈ h :: old, dops P T l.toArray [o] ⟨n, t, h0⟩ (kOne h0 o.dst v)) (h3 : dseq P T l.toArray n chain K rest (putF t o.dst v) (h :: old)) : dseq P T l.toArray n chain K (i :: rest) t (h :: old) :=
  ds_see v ho hn hc (fun h0 hh => h1 h0 (by
    rcases List.mem_cons.1 hh with e | e
    · exact e ▸ List.mem_cons_self
    · exact List.mem_cons_of_mem _ (List.mem_of_mem_take e))) h3
theorem allH_nil {p : DHeap → Prop} : ∀ h ∈ ([] : List DHeap), p h := fun _ h => by cases h
theorem allH_cons {p : DHeap → Prop} {h : DHeap} {l : List DHeap} (h1 : p h) (h2 : ∀ x ∈ l, p x) : ∀ x ∈ h :: l, p x := fun x hx => by
  rcases List.mem_cons.1 hx with e | e
  · exact e ▸ h1
  · exact h2 x e
end
end Go.Dm
