/-
  The engine, part 7: that the operations of the model do what part 6 says: operands, integers, texts, floats, memory that is read. No condition beyond the table of types being the program's.
-/
import Derived.Test.YtomaddpcacoodaaE6
set_option linter.unusedSimpArgs false
set_option linter.unusedVariables false
namespace Go.Dm
open Go

section types
variable {P : Program} {T : Tab} {w : World}

theorem tab_known (hT : TabOK P T) {t : Nat} (h : (T t).size ≠ 0) : (T t).k ≠ .no := by
  intro hk
  have := hT t
  unfold OkTI at this
  rw [hk] at this
  exact h this

theorem tab_info (hT : TabOK P T) {t : Nat} (h : (T t).k ≠ .no) : DescOK (P.underlying t) (T t).k ∧ ∃ i z, P.info? t = some i ∧ i.size = (T t).size ∧ i.bytes = (T t).bytes ∧ i.zero = some z ∧ (T t).zero.map flatV = z.cells.toList.map some ∧ (T t).size = (T t).zero.length ∧
      ((T t).k.agg = true → ∃ cs, z = .agg cs) ∧ ((T t).k.agg = false → (T t).size = 1 ∧ z.oneCell' = true) := by
  have := hT t
  unfold OkTI at this
  split at this
  · rename_i hk; exact absurd hk h
  · exact this

theorem run_size (hT : TabOK P T) {t : Nat} (h : (T t).k ≠ .no) : (sizeOf t).run P w = .ok (T t).size w := by
  obtain ⟨_, i, z, h1, h2, _⟩ := tab_info hT h
  simp [sizeOf, typeInfo, h1, h2]

theorem run_isAgg (hT : TabOK P T) {t : Nat} (h : (T t).k ≠ .no) : (isAgg t).run P w = .ok (T t).k.agg w := by
  obtain ⟨hd, _⟩ := tab_info hT h
  unfold isAgg
  cases hk : (T t).k <;> rw [hk] at hd <;> simp only [DescOK] at hd <;> (cases hu : P.underlying t with
    | none => rw [hu] at hd; simp only at hd
    | some d => rw [hu] at hd; cases d <;> simp only at hd <;> simp [run_underlying hu, TK.agg])

theorem und_slice (hT : TabOK P T) {t e : Nat} (h : (T t).k = .slice e) : P.underlying t = some (.slice e) := by
  obtain ⟨hd, _⟩ := tab_info hT (t := t) (by rw [h]; simp)
  rw [h] at hd
  cases hu : P.underlying t with
  | none => rw [hu] at hd; exact hd.elim
  | some d => rw [hu] at hd; cases d <;> simp only [DescOK] at hd <;> subst hd <;> rfl
theorem und_array (hT : TabOK P T) {t n e : Nat} (h : (T t).k = .array n e) : P.underlying t = some (.array n e) := by
  obtain ⟨hd, _⟩ := tab_info hT (t := t) (by rw [h]; simp)
  rw [h] at hd
  cases hu : P.underlying t with
  | none => rw [hu] at hd; exact hd.elim
  | some d => rw [hu] at hd; cases d <;> simp only [DescOK] at hd <;> (obtain ⟨rfl, rfl⟩ := hd; rfl)
theorem und_str (hT : TabOK P T) {t : Nat} (h : (T t).k = .str) : P.underlying t = some .string := by
  obtain ⟨hd, _⟩ := tab_info hT (t := t) (by rw [h]; simp)
  rw [h] at hd
  cases hu : P.underlying t with
  | none => rw [hu] at hd; exact hd.elim
  | some d => rw [hu] at hd; cases d <;> simp only [DescOK] at hd <;> rfl
theorem und_bool (hT : TabOK P T) {t : Nat} (h : (T t).k = .bool) : P.underlying t = some .bool := by
  obtain ⟨hd, _⟩ := tab_info hT (t := t) (by rw [h]; simp)
  rw [h] at hd
  cases hu : P.underlying t with
  | none => rw [hu] at hd; exact hd.elim
  | some d => rw [hu] at hd; cases d <;> simp only [DescOK] at hd <;> rfl
theorem und_int (hT : TabOK P T) {t : Nat} {k : IntKind} (h : (T t).k = .int k) : P.underlying t = some (.int k) := by
  obtain ⟨hd, _⟩ := tab_info hT (t := t) (by rw [h]; simp)
  rw [h] at hd
  cases hu : P.underlying t with
  | none => rw [hu] at hd; exact hd.elim
  | some d => rw [hu] at hd; cases d <;> simp only [DescOK] at hd <;> subst hd <;> rfl
theorem und_struct (hT : TabOK P T) {t : Nat} {fs : List (Nat × Nat)} (h : (T t).k = .struct fs) : ∃ fields, P.underlying t = some (.struct fields) ∧ fields.toList.map (fun f => (f.type, f.offset)) = fs := by
  obtain ⟨hd, _⟩ := tab_info hT (t := t) (by rw [h]; simp)
  rw [h] at hd
  cases hu : P.underlying t with
  | none => rw [hu] at hd; exact hd.elim
  | some d => rw [hu] at hd; cases d <;> simp only [DescOK] at hd <;> exact ⟨_, rfl, hd⟩
theorem und_some (hT : TabOK P T) {t : Nat} (h : (T t).k ≠ .no) : ∃ d, P.underlying t = some d := by
  obtain ⟨hd, _⟩ := tab_info hT h
  cases hu : P.underlying t with
  | some d => exact ⟨d, rfl⟩
  | none => rw [hu] at hd; cases hk : (T t).k <;> rw [hk] at hd <;> exact hd.elim

end types

theorem flatV_rel {w : World} {S : Nat → Prop} {x : PV} {v : Value} (h : flatV x = some v) : RelP w S x v := by
  cases x <;> simp only [flatV, Option.some.injEq, reduceCtorEq, Option.ite_none_right_eq_some] at h <;> simp only [RelP]
  case o => exact ⟨h.2.symm, h.1⟩
  all_goals exact h.symm
theorem flatVs_rel {w : World} {S : Nat → Prop} : ∀ {xs : List PV} {vs : List Value}, xs.map flatV = vs.map some → RelPs w S xs vs
  | [], [], _ => True.intro
  | x :: xs, v :: vs, h => by
    simp only [List.map_cons, List.cons.injEq] at h
    exact ⟨flatV_rel h.1, flatVs_rel h.2⟩
  | [], _ :: _, h => by simp at h
  | _ :: _, [], h => by simp at h

theorem constD_rel (X : Ctx) (v : Value) : RelD X (constD v) v := by
  unfold constD
  split <;> simp only [RelD, RelC, RelP, Value.oneCell', and_self]

theorem evD_rel {X : Ctx} {t : Fr} {a : Act} (h : ∀ i : Nat, RelD X (look t i) (a.tmps.getD i undef)) (x : Operand) : RelD X (evD t x) (a.eval x) := by
  cases x with
  | tmp i => exact h i
  | const v => exact constD_rel X v
  | global g => exact True.intro
  | func f => exact ⟨[], rfl, True.intro⟩

/-- What an operation comes to. -/
def Val (X : Ctx) (K : DV → DHeap → Prop) (r : Result Value) : Prop := ∃ v d X', r = .ok v X'.w ∧ HInv X' ∧ Step X X' ∧ RelD X' d v ∧ K d X'.h

theorem Val.same {X : Ctx} {K : DV → DHeap → Prop} {r : Result Value} {v : Value} {d : DV} (hi : HInv X) (hr : r = .ok v X.w) (hd : RelD X d v) (hk : K d X.h) : Val X K r := ⟨v, d, X, hr, hi, Step.refl hi, hd, hk⟩

theorem byteArray_toList (l : List UInt8) : (⟨l.toArray⟩ : ByteArray).toList = l := by
  have key : ∀ (n i : Nat) (r : List UInt8), l.length - i = n → ByteArray.toList.loop ⟨l.toArray⟩ i r = r.reverse ++ l.drop i := by
    intro n
    induction n with
    | zero =>
      intro i r h
      unfold ByteArray.toList.loop
      rw [if_neg (by simp only [ByteArray.size, List.size_toArray]; omega), List.drop_of_length_le (by omega), List.append_nil]
    | succ n ih =>
      intro i r h
      unfold ByteArray.toList.loop
      rw [if_pos (by simp only [ByteArray.size, List.size_toArray]; omega), ih (i + 1) _ (by omega)]
      have hlt : i < l.length := by omega
      simp only [List.reverse_cons, List.append_assoc, List.cons_append, List.nil_append]
      congr 1
      rw [List.drop_eq_getElem_cons hlt]
      congr 1
      simp [ByteArray.get!, hlt]
  simpa [ByteArray.toList] using key l.length 0 [] (by simp)

theorem relAgg {X : Ctx} {xs : List CV} {vs : List Value} (h : RelCs X xs vs) : RelD X (.agg xs) (.agg vs.toArray) := ⟨vs, rfl, h⟩
theorem relC {X : Ctx} {x : CV} {v : Value} (h : RelC X x v) : RelD X (.c x) v := h
theorem oneP {X : Ctx} {x : PV} {v : Value} (h : RelP X.w X.S x v) : RelD X (.c (.p x)) v := h

section ints
variable {P : Program}

theorem binOp_int (op : BinOp) (t : TypeId) {k : IntKind} {a b : Int} {w : World} {Q : PV → Prop} (hn : op ≠ .shl) (hn' : op ≠ .shr) (h : dint op k a b Q) :
    ∃ x v, Q x ∧ flatV x = some v ∧ (binOp op t (.int k a) (.int k b)).run P w = .ok v w := by
  cases op <;> simp only [dint, ne_eq, reduceCtorEq] at h hn hn'
  case quo => exact ⟨_, _, h.2, rfl, by simp [binOp, Op.intDiv, h.1]⟩
  case rem => exact ⟨_, _, h.2, rfl, by simp [binOp, Op.intDiv, h.1]⟩
  case and => exact ⟨_, _, h, rfl, by simp only [binOp, ne_eq, not_true_eq_false, if_false]; rfl⟩
  case or => exact ⟨_, _, h, rfl, by simp only [binOp, ne_eq, not_true_eq_false, if_false]; rfl⟩
  case xor => exact ⟨_, _, h, rfl, by simp only [binOp, ne_eq, not_true_eq_false, if_false]; rfl⟩
  case andNot => exact ⟨_, _, h, rfl, by simp only [binOp, ne_eq, not_true_eq_false, if_false]; rfl⟩
  all_goals exact ⟨_, _, h, rfl, by simp [binOp, Op.intArith, Op.intCmp]⟩

theorem binOp_shl (t : TypeId) {k k' : IntKind} {a b : Int} {w : World} (hb : 0 ≤ b) :
    (binOp .shl t (.int k a) (.int k' b)).run P w = .ok (.int k (k.wrap (a * 2 ^ (min b.toNat k.bits)))) w := by
  have hb' : ¬ b < 0 := by omega
  simp [binOp, Op.shift, hb']
theorem binOp_shr (t : TypeId) {k k' : IntKind} {a b : Int} {w : World} (hb : 0 ≤ b) :
    (binOp .shr t (.int k a) (.int k' b)).run P w = .ok (.int k (a.fdiv (2 ^ (min b.toNat k.bits)))) w := by
  have hb' : ¬ b < 0 := by omega
  simp [binOp, Op.shift, hb']

theorem binOp_str (op : BinOp) (t : TypeId) {a b : List UInt8} {w : World} {Q : PV → Prop} (h : dstr op a b Q) :
    ∃ x v, Q x ∧ flatV x = some v ∧ (binOp op t (.string ⟨a.toArray⟩) (.string ⟨b.toArray⟩)).run P w = .ok v w := by
  cases op <;> simp only [dstr] at h
  case add =>
    refine ⟨_, _, h.2, rfl, ?_⟩
    have h1 := h.1
    have h2 : (⟨a.toArray⟩ : ByteArray) ++ ⟨b.toArray⟩ = ⟨(a ++ b).toArray⟩ := by apply ByteArray.ext; simp
    simp [binOp, Op.stringOp, ByteArray.size, h2, IntKind.max, IntKind.signed, IntKind.bits]
    omega
  all_goals exact ⟨_, _, h, rfl, by simp only [binOp, Op.stringOp, byteArray_toList, bltL]; rfl⟩

theorem binOp_flt (op : BinOp) (t : TypeId) {a b : Nat} {w : World} {Q : PV → Prop} (h : dflt op a b Q) :
    ∃ x v, Q x ∧ flatV x = some v ∧ (binOp op t (.float .f64 a) (.float .f64 b)).run P w = .ok v w := by
  cases op <;> simp only [dflt] at h
  all_goals exact ⟨_, _, h, rfl, by simp [binOp, Op.floatCmp, ford]⟩

theorem run_equal_bool {t : TypeId} (h : P.underlying t = some .bool) (a b : Bool) (w : World) : (Op.equal t (.bool a) (.bool b)).run P w = .ok (a == b) w := by
  have key : ∀ d : Nat, (Op.equalIn (d + 1) t (.bool a) (.bool b)).run P w = .ok (a == b) w := fun d => by
    simp only [Op.equalIn]
    simp [run_underlying h]
  exact key 9999

theorem run_equal_nil {t e : TypeId} (h : P.underlying t = some (.slice e)) (a : Option Addr) (n c : Nat) (w : World) : (Op.equal t (.slice a n c) (.slice none 0 0)).run P w = .ok a.isNone w := by
  have key : ∀ d : Nat, (Op.equalIn (d + 1) t (.slice a n c) (.slice none 0 0)).run P w = .ok a.isNone w := fun d => by
    simp only [Op.equalIn]
    cases a <;> simp [run_underlying h]
  exact key 9999

theorem nilq_run {X : Ctx} {x : PV} {v : Value} {K : Bool → Prop} (hr : RelP X.w X.S x v) (h : nilq x K) : ∃ a n c, v = .slice a n c ∧ K a.isNone := by
  unfold nilq at h
  split at h
  · simp only [RelP] at hr; exact ⟨_, _, _, hr, h⟩
  · simp only [RelP] at hr
    obtain ⟨a, c, rfl, _, h2⟩ := hr
    rcases h2 with h2 | ⟨bl, off, rfl, _⟩
    · cases h2
    · exact ⟨_, _, _, rfl, h⟩
  · simp only [RelP] at hr
    obtain ⟨a, c, rfl, _, _⟩ := hr
    cases a
    · exact ⟨_, _, _, rfl, h.1⟩
    · exact ⟨_, _, _, rfl, h.2⟩
  · exact h.elim

theorem dbin_val {X : Ctx} {T : Tab} (hT : TabOK P T) (hi : HInv X) (op : BinOp) (t : TypeId) {x y : DV} {vx vy : Value} {K : DV → DHeap → Prop} (hx : RelD X x vx) (hy : RelD X y vy)
    (h : dbin op (T t) x y fun d => K (.c (.p d)) X.h) : Val X K ((binOp op t vx vy).run P X.w) := by
  have fin : ∀ {r : Result Value}, (∃ z v, K (.c (.p z)) X.h ∧ flatV z = some v ∧ r = .ok v X.w) → Val X K r := by
    rintro r ⟨z, v, h1, h2, h3⟩
    exact Val.same hi h3 (oneP (flatV_rel h2)) h1
  unfold dbin at h
  split at h
  · rename_i k a k' b
    simp only [RelD, RelC, RelP] at hx hy
    subst hx; subst hy
    split at h
    · exact fin ⟨_, _, h.2, rfl, binOp_shl t h.1⟩
    · exact fin ⟨_, _, h.2, rfl, binOp_shr t h.1⟩
    · rename_i h1 h2
      obtain ⟨rfl, h3⟩ := h
      exact fin (binOp_int op t (fun e => h1 e) (fun e => h2 e) h3)
  · simp only [RelD, RelC, RelP] at hx hy
    subst hx; subst hy
    exact fin (binOp_str op t h)
  · simp only [RelD, RelC, RelP] at hx hy
    subst hx; subst hy
    exact fin (binOp_flt op t h)
  · simp only [RelD, RelC, RelP] at hx hy
    subst hx; subst hy
    split at h
    · rename_i hk
      exact fin ⟨_, _, h, rfl, by simp only [binOp, Sem.run_bind, run_equal_bool (und_bool hT hk)]; rfl⟩
    · rename_i hk
      exact fin ⟨_, _, h, rfl, by simp only [binOp, Sem.run_bind, run_equal_bool (und_bool hT hk)]; rfl⟩
    · exact h.elim
  · simp only [RelD, RelC] at hx hy
    simp only [RelP] at hy
    subst hy
    split at h
    · rename_i e hk
      obtain ⟨a, n, c, rfl, h⟩ := nilq_run hx h
      exact fin ⟨_, _, h, rfl, by simp only [binOp, Sem.run_bind, run_equal_nil (und_slice hT hk)]; rfl⟩
    · rename_i e hk
      obtain ⟨a, n, c, rfl, h⟩ := nilq_run hx h
      exact fin ⟨_, _, h, rfl, by simp only [binOp, Sem.run_bind, run_equal_nil (und_slice hT hk)]; rfl⟩
    · exact h.elim
  · exact h.elim

theorem dun_val {X : Ctx} (hi : HInv X) (op : UnOp) {x : DV} {vx : Value} {K : DV → DHeap → Prop} (hx : RelD X x vx)
    (h : dun op x fun d => K (.c (.p d)) X.h) : Val X K ((Op.unary op vx).run P X.w) := by
  have fin : ∀ {r : Result Value}, (∃ z v, K (.c (.p z)) X.h ∧ flatV z = some v ∧ r = .ok v X.w) → Val X K r := by
    rintro r ⟨z, v, h1, h2, h3⟩
    exact Val.same hi h3 (oneP (flatV_rel h2)) h1
  unfold dun at h
  split at h
  · simp only [RelD, RelC, RelP] at hx; subst hx
    exact fin ⟨_, _, h, rfl, rfl⟩
  · simp only [RelD, RelC, RelP] at hx; subst hx
    exact fin ⟨_, _, h, rfl, by simp [Op.unary, Op.intArith]⟩
  · simp only [RelD, RelC, RelP] at hx; subst hx
    exact fin ⟨_, _, h, rfl, by simp only [Op.unary]; rfl⟩
  · exact h.elim

end ints

/-! Memory that is read. -/
theorem add_mk (bl o n : Nat) : (⟨bl, o, none⟩ : Addr).add n = ⟨bl, o + n, none⟩ := by
  unfold Addr.add; split
  · rename_i h; simp [h]
  · rfl

theorem RelE.cells {w : World} {S : Nat → Prop} {bl off : Nat} {cs : List PV} (h : RelE w S bl off cs) {P : Program} : ∃ vs : List Value, RelPs w S cs vs ∧ (loadCells ⟨bl, off, none⟩ cs.length).run P w = .ok vs.toArray w := by
  obtain ⟨vs, h1, h2⟩ := h.vals
  refine ⟨vs, h1, ?_⟩
  rw [h1.length]
  exact run_loadCells_list (P := P) w ⟨bl, off, none⟩ vs fun j v hj => by rw [add_mk]; exact h2 j v hj

theorem RelBox.cells {X : Ctx} {bl : Nat} : ∀ {cs : List CV} {off : Nat}, RelBox X bl off cs → ∃ vs : List Value, RelCs X cs vs ∧ ∀ (j : Nat) (v : Value), vs[j]? = some v → X.w.cell? ⟨bl, off + j, none⟩ = some v
  | [], _, _ => ⟨[], True.intro, fun j v h => by simp at h⟩
  | c :: cs, off, h => by
    simp only [RelBox] at h
    obtain ⟨⟨v, hv, hr⟩, ht⟩ := h
    obtain ⟨vs, h1, h2⟩ := RelBox.cells ht
    refine ⟨v :: vs, ⟨hr, h1⟩, fun j u hj => ?_⟩
    cases j with
    | zero => simp only [List.getElem?_cons_zero, Option.some.injEq] at hj; subst hj; simpa using hv
    | succ j => simp only [List.getElem?_cons_succ] at hj; have := h2 j u hj; rwa [show off + (j + 1) = off + 1 + j by omega]

theorem RelCs.drop {X : Ctx} : ∀ {xs : List CV} {vs : List Value} (n : Nat), RelCs X xs vs → RelCs X (xs.drop n) (vs.drop n)
  | _, _, 0, h => by simpa using h
  | [], [], n + 1, _ => by simp [RelCs]
  | _ :: _, _ :: _, n + 1, h => by simpa using RelCs.drop n h.2
  | [], _ :: _, _ + 1, h => h.elim
  | _ :: _, [], _ + 1, h => h.elim
theorem RelCs.take {X : Ctx} : ∀ {xs : List CV} {vs : List Value} (n : Nat), RelCs X xs vs → RelCs X (xs.take n) (vs.take n)
  | _, _, 0, _ => by simp [RelCs]
  | [], [], n + 1, _ => by simp [RelCs]
  | _ :: _, _ :: _, n + 1, h => by simpa using ⟨h.1, RelCs.take n h.2⟩
  | [], _ :: _, _ + 1, h => h.elim
  | _ :: _, [], _ + 1, h => h.elim

section loads
variable {P : Program} {T : Tab} {X : Ctx} {K : DV → DHeap → Prop}

theorem run_loadVar_one (hT : TabOK P T) {t : Nat} (hs : (T t).size ≠ 0) (hk : (T t).k.agg = false) {bl off : Nat} {v : Value} (hv : X.w.cell? ⟨bl, off, none⟩ = some v) :
    (loadVar t ⟨bl, off, none⟩).run P X.w = .ok v X.w := by
  simp [loadVar, run_isAgg hT (tab_known hT hs), hk, hv]
theorem run_loadVar_agg (hT : TabOK P T) {t : Nat} (hs : (T t).size ≠ 0) (hk : (T t).k.agg = true) {bl off : Nat} {vs : List Value} (hl : vs.length = (T t).size)
    (hv : ∀ (j : Nat) (v : Value), vs[j]? = some v → X.w.cell? ⟨bl, off + j, none⟩ = some v) :
    (loadVar t ⟨bl, off, none⟩).run P X.w = .ok (.agg vs.toArray) X.w := by
  have := run_loadCells_list (P := P) X.w ⟨bl, off, none⟩ vs fun j v hj => by rw [add_mk]; exact hv j v hj
  rw [hl] at this
  simp [loadVar, run_isAgg hT (tab_known hT hs), hk, run_size hT (tab_known hT hs), this]

/-- A value that is read. -/
def Ld (X : Ctx) (Q : DV → Prop) (r : Result Value) : Prop := ∃ v d, r = .ok v X.w ∧ RelD X d v ∧ Q d
theorem Ld.mk {X : Ctx} {Q : DV → Prop} {r : Result Value} {v : Value} {d : DV} (hr : r = .ok v X.w) (hd : RelD X d v) (hq : Q d) : Ld X Q r := ⟨v, d, hr, hd, hq⟩

theorem dload_run (hT : TabOK P T) (hi : HInv X) {t : Nat} (hs : (T t).size ≠ 0) {a : DV} {va : Value} {Q : DV → Prop} (ha : RelD X a va) (h : dload (T t) X.h a Q) : Ld X Q ((Instr.loadAt t va).run P X.w) := by
  unfold dload at h
  split at h
  · rename_i id off
    split at h
    · rename_i cells he
      obtain ⟨_, _, h3⟩ := ha
      obtain ⟨g, hg, rfl⟩ := h3 _ he
      have hb := hi.blk id _ he
      simp only [RelB] at hb
      obtain ⟨g', arr, el, fz, h1, h2, h4, h5, h6⟩ := hb
      rw [hg] at h1; cases h1
      split at h
      · rename_i hk
        obtain ⟨vs, h7, h8⟩ := h6.cells
        have hl := h7.length
        have hr := (h7.drop off).take (T t).size
        refine Ld.mk (v := .agg ((vs.drop off).take (T t).size).toArray) ?_ (relAgg hr) h.2
        simp only [Instr.loadAt, Instr.sureAddr, Sem.run_bind, Sem.run_pure, Result.andThen_ok]
        refine run_loadVar_agg hT hs hk (by simp; omega) fun j v hj => ?_
        rw [List.getElem?_take] at hj
        split at hj
        · rw [List.getElem?_drop] at hj
          have := h8 _ v hj
          rwa [← Nat.add_assoc] at this
        · cases hj
      · rename_i hk
        split at h
        · rename_i c hc
          obtain ⟨v, h7, h8⟩ := h6.at_ hc
          refine Ld.mk (v := v) ?_ (relC h8) h
          simp only [Instr.loadAt, Instr.sureAddr, Sem.run_bind, Sem.run_pure, Result.andThen_ok]
          exact run_loadVar_one hT hs (by simpa using hk) h7
        · exact h.elim
    · exact h.elim
  · rename_i id i j
    split at h
    · rename_i k es ro he
      obtain ⟨_, _, h3⟩ := ha
      obtain ⟨g, hg, rfl⟩ := h3 _ _ _ he
      have hb := hi.blk id _ he
      simp only [RelB] at hb
      rcases hb with hb | ⟨g', arr, el, fz, h1, h2, h4, h5, h6⟩
      · rw [hg] at hb; cases hb.1
      rw [hg] at h1; cases h1
      have hel : ∀ hlt : i < es.length, es[i]? = some (es.getD i []) := fun hlt => by rw [List.getD_eq_getElem?_getD, List.getElem?_eq_getElem hlt]; rfl
      split at h
      · rename_i hk
        obtain ⟨h7, h8, h9⟩ := h
        obtain ⟨h10, h11⟩ := h6.at_ (hel h7)
        obtain ⟨vs, h12, h13⟩ := ((h11.drop j).take (T t).size).vals
        have hl := h12.length
        refine Ld.mk (v := .agg vs.toArray) ?_ (relAgg (RelCs.of_ps h12)) h9
        simp only [Instr.loadAt, Instr.sureAddr, Sem.run_bind, Sem.run_pure, Result.andThen_ok]
        exact run_loadVar_agg hT hs hk (by rw [← hl]; simp only [List.length_take, List.length_drop]; omega) h13
      · rename_i hk
        obtain ⟨h7, h8, h9⟩ := h
        obtain ⟨h10, h11⟩ := h6.at_ (hel h7)
        have hj : (es.getD i [])[j]? = some ((es.getD i []).getD j .nil) := by rw [List.getD_eq_getElem?_getD (l := es.getD i []), List.getElem?_eq_getElem (by omega)]; rfl
        obtain ⟨v, h12, h13⟩ := h11.at_ hj
        refine Ld.mk (v := v) ?_ (oneP h13) h9
        simp only [Instr.loadAt, Instr.sureAddr, Sem.run_bind, Sem.run_pure, Result.andThen_ok]
        exact run_loadVar_one hT hs (by simpa using hk) h12
    · exact h.elim
  · rename_i cs
    obtain ⟨bl, off, rfl, hS, h1⟩ := ha
    split at h
    · rename_i hk
      obtain ⟨vs, h12, h13⟩ := (h1.take (T t).size).vals
      have hl := h12.length
      refine Ld.mk (v := .agg vs.toArray) ?_ (relAgg (RelCs.of_ps h12)) h.2
      simp only [Instr.loadAt, Instr.sureAddr, Sem.run_bind, Sem.run_pure, Result.andThen_ok]
      exact run_loadVar_agg hT hs hk (by rw [← hl]; simp only [List.length_take, List.length_drop]; omega) h13
    · rename_i hk
      split at h
      · rename_i c cs'
        simp only [RelE] at h1
        obtain ⟨⟨v, h2, h3⟩, _⟩ := h1
        refine Ld.mk (v := v) ?_ (oneP h3) h
        simp only [Instr.loadAt, Instr.sureAddr, Sem.run_bind, Sem.run_pure, Result.andThen_ok]
        exact run_loadVar_one hT hs (by simpa using hk) h2
      · exact h.elim
  · exact h.elim

theorem dload_val (hT : TabOK P T) (hi : HInv X) {t : Nat} (hs : (T t).size ≠ 0) {a : DV} {va : Value} (ha : RelD X a va) (h : dload (T t) X.h a fun d => K d X.h) : Val X K ((Instr.loadAt t va).run P X.w) := by
  obtain ⟨v, d, h1, h2, h3⟩ := dload_run hT hi hs ha h
  exact Val.same hi h1 h2 h3

end loads

end Go.Dm
