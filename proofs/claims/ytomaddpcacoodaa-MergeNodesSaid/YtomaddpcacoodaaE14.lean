/-
  The engine, part 14: all operations together: what part 6 says of an operation holds of the model's. No condition beyond the table of types being the program's.
-/
import Derived.Test.YtomaddpcacoodaaE13
set_option linter.unusedSimpArgs false
set_option linter.unusedVariables false
namespace Go.Dm
open Go

section all
variable {P : Program} {T : Tab} {X : Ctx} {K : DV → DHeap → Prop}

theorem relDs_map {t : Fr} {a : Act} (hρ : ∀ x, RelD X (evD t x) (a.eval x)) : ∀ l : List Operand, RelDs X (l.map (evD t)) (l.map a.eval)
  | [] => True.intro
  | x :: l => ⟨hρ x, relDs_map hρ l⟩

theorem relDs_append : ∀ {xs ys : List DV} {vs us : List Value}, RelDs X xs vs → RelDs X ys us → RelDs X (xs ++ ys) (vs ++ us)
  | [], _, [], _, _, k => k
  | _ :: _, _, _ :: _, _, h, k => ⟨h.1, relDs_append h.2 k⟩
  | [], _, _ :: _, _, h, _ => h.elim
  | _ :: _, _, [], _, h, _ => h.elim

theorem relKs_toDV : ∀ {cs : List KV} {vs : List Value}, RelKs X cs vs → RelDs X (cs.map KV.toDV) vs
  | [], [], _ => True.intro
  | c :: cs, v :: vs, h => ⟨by cases c <;> exact h.1, relKs_toDV h.2⟩
  | [], _ :: _, h => h.elim
  | _ :: _, [], h => h.elim

theorem relParts_map {t : Fr} {a : Act} (hρ : ∀ x, RelD X (evD t x) (a.eval x)) : ∀ l : List (Nat × Operand), RelParts X (l.map fun p => (p.1, evD t p.2)) (l.map fun (i, x) => (i, a.eval x))
  | [] => True.intro
  | (_, x) :: l => ⟨rfl, hρ x, relParts_map hρ l⟩

theorem capsD_rel : ∀ {ds : List DV} {vs : List Value} {cap : List KV}, RelDs X ds vs → capsD ds = some cap → RelKs X cap vs
  | [], [], cap, _, h => by simp only [capsD, Option.some.injEq] at h; subst h; exact True.intro
  | d :: ds, v :: vs, cap, hr, h => by
    unfold capsD at h
    split at h
    · rename_i heq; cases heq
    · rename_i x ds' heq
      cases heq
      obtain ⟨c, h1, rfl⟩ := Option.map_eq_some_iff.1 h
      exact ⟨hr.1, capsD_rel hr.2 h1⟩
    · rename_i id off ds' heq
      cases heq
      obtain ⟨c, h1, rfl⟩ := Option.map_eq_some_iff.1 h
      exact ⟨hr.1, capsD_rel hr.2 h1⟩
    · cases h
  | [], _ :: _, _, h, _ => h.elim
  | _ :: _, [], _, h, _ => h.elim

/-- What part 6 says of an operation's outcome, for the walk. -/
def Out (X : Ctx) (K : DV → DHeap → Prop) (o : Oper) (a : Act) (next : Act → World → Prop) : Prop :=
  ∀ d v X', HInv X' → Step X X' → RelD X' d v → K d X'.h → next (a.put o.dst v) X'.w

theorem wp_of_val {o : Oper} {a : Act} {next : Act → World → Prop} {Q : Exit → Act → World → Prop} {s : Sem Value} (he : execOp a.eval o = (do pure (.value (← s)))) (hv : Val X K (s.run P X.w)) (hK : Out X K o a next) : o.wp P a X.w next Q := by
  obtain ⟨v, d, X', h1, h2, h3, h4, h5⟩ := hv
  unfold Oper.wp
  rw [he]
  simp only [Sem.run_bind, h1, Result.andThen_ok, Sem.run_pure]
  exact hK d v X' h2 h3 h4 h5

theorem eqGuard_ok (op : BinOp) (t : TypeId) (ox oy : Operand) {x y : Value} (w : World) (h : x.oneCell' = true) (hx : x ≠ .nilIface) : (eqGuard op t ox oy x y).run P w = .ok () w := by
  unfold eqGuard
  cases x <;> first
    | (simp [Value.oneCell'] at h; done)
    | exact absurd rfl hx
    | simp

theorem dbin_guard {op : BinOp} {t : Nat} {x y : DV} {vx vy : Value} {Q : PV → Prop} (hx : RelD X x vx) (h : dbin op (T t) x y Q) : vx.oneCell' = true ∧ vx ≠ .nilIface ∧ RelD X y vy = RelD X y vy := by
  unfold dbin at h
  split at h <;> first
    | exact h.elim
    | (simp only [RelD, RelC, RelP] at hx; subst hx; exact ⟨rfl, by simp, rfl⟩)
    | (simp only [RelD, RelC] at hx
       split at h <;> first
        | exact h.elim
        | (obtain ⟨a, n, c, rfl, _⟩ := nilq_run (X := X) hx h; exact ⟨rfl, by simp, rfl⟩))

theorem wp_call {g : FuncId} {o : Oper} {a : Act} {next : Act → World → Prop} {Q : Exit → Act → World → Prop} {ds : List DV} {vals : List Value} (he : (execOp a.eval o).run P X.w = (callFunc g vals.toArray).run P X.w) (hi : HInv X) (hr : RelDs X ds vals)
    (hc : DCalls P g ds X.h K) (hK : Out X K o a next) : o.wp P a X.w next Q := by
  unfold Oper.wp
  rw [he]
  rcases hc X vals rfl hi hr with ⟨h1, h2⟩ | ⟨v, w', h1, h2⟩
  · rw [h1]
    refine h2.mono fun e w' hv => ?_
    obtain ⟨v, rfl, d, X', rfl, h3, h4, h5, h6⟩ := hv
    exact hK d v X' h3 h4 h5 h6
  · rw [h1]
    obtain ⟨d, X', rfl, h3, h4, h5, h6⟩ := h2
    exact hK d v X' h3 h4 h5 h6

theorem dop_sound (hT : TabOK P T) {o : Oper} {a : Act} {t : Fr} {next : Act → World → Prop} {Q : Exit → Act → World → Prop} (hi : HInv X) (hρ : ∀ x, RelD X (evD t x) (a.eval x)) (h : dop P T o.op t X.h K) (hK : Out X K o a next) :
    o.wp P a X.w next Q := by
  unfold dop at h
  split at h
  · -- move
    rename_i x ho
    exact wp_of_val (s := pure (a.eval x)) (by simp [execOp, ho]) (Val.same hi rfl (hρ x) h) hK
  · rename_i x ho
    exact wp_of_val (s := pure (a.eval x)) (by simp [execOp, ho]) (Val.same hi rfl (hρ x) h) hK
  · -- pick
    rename_i c x y ho
    split at h
    · rename_i v hc
      have hcv := hρ c
      rw [hc] at hcv
      simp only [RelD, RelC, RelP] at hcv
      refine wp_of_val (s := do pure (if ← asBool (a.eval c) then a.eval x else a.eval y)) (by simp [execOp, ho]) ?_ hK
      cases v
      · exact Val.same hi (by simp [hcv, asBool]) (hρ y) (h.2 rfl)
      · exact Val.same hi (by simp [hcv, asBool]) (hρ x) (h.1 rfl)
    · exact h.elim
  · -- alloc
    rename_i ty ho
    refine wp_of_val (s := Instr.alloc ty true (.tuple #[])) (by simp [execOp, ho]) ?_ hK
    have : (T ty).k ≠ .no := by
      intro hk; rw [hk] at h; exact h
    refine alloc_val hT hi this ?_
    split at h
    · exact h.elim
    · exact h
  · -- box
    rename_i ty x ho
    split at h
    · rename_i ys hc
      exact wp_of_val (s := Instr.box ty (a.eval x)) (by simp [execOp, ho]) (box_val hi (hρ x) hc h) hK
    · exact h.elim
  · -- build
    rename_i ty parts ho
    refine wp_of_val (s := Instr.build ty (parts.map fun (i, x) => (i, a.eval x))) (by simp [execOp, ho]) (dbuild_val hT hi ?_ h) hK
    rw [Array.toList_map]
    exact relParts_map hρ parts.toList
  · -- buildSlice
    rename_i ty len parts ho
    refine wp_of_val (s := Instr.buildSlice ty len (parts.map fun (i, x) => (i, a.eval x))) (by simp [execOp, ho]) (dbuildS_val hT hi ?_ h) hK
    rw [Array.toList_map]
    exact relParts_map hρ parts.toList
  · -- load
    rename_i ty x ho
    exact wp_of_val (s := Instr.loadAt ty (a.eval x)) (by simp [execOp, ho]) (dload_val hT hi h.1 (hρ x) h.2) hK
  · -- store
    rename_i ty x y ho
    obtain ⟨X', h1, h2, h3, h4⟩ := dstore_val hT hi (hρ x) (hρ y) h
    unfold Oper.wp
    have : execOp a.eval o = (do Instr.storeAt ty (a.eval x) (a.eval y); pure .skip) := by simp [execOp, ho]
    rw [this]
    simp only [Sem.run_bind, h1, Result.andThen_ok, Sem.run_pure]
    exact hK (.tup []) undef X' h2 h3 ⟨[], rfl, True.intro⟩ h4
  · -- nilCheck
    rename_i x ho
    have hx := hρ x
    have fin : ∀ {d : DV}, (execOp a.eval o).run P X.w = .ok (.value (a.eval x)) X.w → RelD X d (a.eval x) → K d X.h → o.wp P a X.w next Q := fun he hd hk => by
      unfold Oper.wp
      rw [he]
      exact hK _ _ X hi (Step.refl hi) hd hk
    split at h
    · rename_i id off he
      split at h
      · rename_i cells hh
        rw [he] at hx
        have hx' := hx
        obtain ⟨_, _, h3⟩ := hx
        obtain ⟨g, _, hv⟩ := h3 _ hh
        exact fin (by simp [execOp, ho, hv]) hx' h
      · exact h.elim
    · rename_i cs he
      rw [he] at hx
      have hx' := hx
      obtain ⟨bl, off, hv, _⟩ := hx
      exact fin (by simp [execOp, ho, hv]) hx' h
    · rename_i f cap he
      rw [he] at hx
      have hx' := hx
      obtain ⟨vs, hv, _⟩ := hx
      exact fin (by simp [execOp, ho, hv]) hx' h
    · exact h.elim
  · -- binOp
    rename_i op ty x y ty' ho
    have hg := dbin_guard (vy := a.eval y) (hρ x) h
    refine wp_of_val (s := do eqGuard op ty x y (a.eval x) (a.eval y); binOp op ty (a.eval x) (a.eval y)) (by simp [execOp, ho]) ?_ hK
    have := dbin_val hT hi op ty (hρ x) (hρ y) h
    simp only [Sem.run_bind, eqGuard_ok op ty x y X.w hg.1 hg.2.1, Result.andThen_ok]
    exact this
  · -- unOp
    rename_i op ty x ho
    exact wp_of_val (s := Op.unary op (a.eval x)) (by simp [execOp, ho]) (dun_val hi op (hρ x) h) hK
  · -- convert
    rename_i src dst x ho
    exact wp_of_val (s := convert src dst (a.eval x)) (by simp [execOp, ho]) (dconv_val hT hi (hρ x) h) hK
  · -- slice
    rename_i ty x lo hi' ho
    exact wp_of_val (s := Instr.sliceAt ty (a.eval x) (lo.map a.eval) (hi'.map a.eval) none) (by simp [execOp, ho]) (dslice_val hT hi hρ (hρ x) h) hK
  · -- fieldAddr
    rename_i s x f ho
    exact wp_of_val (s := Instr.fieldAt s (a.eval x) f) (by simp [execOp, ho]) (dfield_val hT hi (hρ x) h) hK
  · -- field
    rename_i ty x f ho
    split at h
    · rename_i fs cells hk he
      split at h
      · rename_i ft off hf
        obtain ⟨fields, hu, hfs⟩ := und_struct hT hk
        have hx := hρ x
        rw [he] at hx
        obtain ⟨vs, hv, hr⟩ := hx
        obtain ⟨d, v, h1, h2, h3⟩ := dpart_run (X := X) hT hr h
        refine wp_of_val (s := Instr.field ty (a.eval x) f) (by simp [execOp, ho]) (Val.same hi (v := v) ?_ h2 h3) hK
        rw [← hfs, List.getElem?_map] at hf
        obtain ⟨fd, h4, h5⟩ := Option.map_eq_some_iff.1 hf
        simp only [Prod.mk.injEq] at h5
        obtain ⟨rfl, rfl⟩ := h5
        have h6 : fields[f]? = some fd := by simpa using h4
        simp [Instr.field, run_underlying hu, h6, hv, asAgg, h1]
      · exact h.elim
    · exact h.elim
  · -- indexAddr
    rename_i ty x i ho
    exact wp_of_val (s := Instr.indexAt ty (a.eval x) (a.eval i)) (by simp [execOp, ho]) (dindexA_val hT hi (hρ x) (hρ i) h) hK
  · rename_i ty x i ho
    exact wp_of_val (s := Instr.index ty (a.eval x) (a.eval i)) (by simp [execOp, ho]) (dindex_val hT hi (hρ x) (hρ i) h) hK
  · -- extract
    rename_i x n ho
    split at h
    · rename_i xs he
      split at h
      · rename_i e hn
        have hx := hρ x
        rw [he] at hx
        obtain ⟨vs, hv, hr⟩ := hx
        have : ∀ (xs : List EV) (vs : List Value) (n : Nat) (e : EV), RelEVs X xs vs → xs[n]? = some e → ∃ v, vs[n]? = some v ∧ RelEV X e v := by
          intro xs
          induction xs with
          | nil => intro vs n e _ hn; simp at hn
          | cons c cs ih =>
            intro vs n e hr hn
            cases vs with
            | nil => exact hr.elim
            | cons v vs =>
              cases n with
              | zero => simp only [List.getElem?_cons_zero, Option.some.injEq] at hn; subst hn; exact ⟨v, rfl, hr.1⟩
              | succ n => simp only [List.getElem?_cons_succ] at hn ⊢; exact ih vs n e hr.2 hn
        obtain ⟨v, h1, h2⟩ := this xs vs n e hr hn
        refine wp_of_val (s := Instr.extract (a.eval x) n) (by simp [execOp, ho]) (Val.same hi (v := v) ?_ (by cases e <;> exact h2) h) hK
        simp [Instr.extract, hv, h1]
      · exact h.elim
    · exact h.elim
  · -- makeFunc
    rename_i f first captured ho
    split at h
    · rename_i cap h1 h2
      have hf : first = #[] := Array.toList_inj.1 (by simpa using h1)
      subst hf
      refine wp_of_val (s := Instr.makeFunc (.func f) (#[].map a.eval) (captured.map a.eval)) (by simp [execOp, ho]) (Val.same hi (v := .func (.func f) #[] (captured.map a.eval)) (by simp [Instr.makeFunc]) (relC (x := .clo f cap) ⟨(captured.toList.map a.eval), congrArg (Value.func (.func f) #[]) (by apply Array.ext'; simp), capsD_rel (relDs_map hρ _) h2⟩) h) hK
    · exact h.elim
  · -- makeSlice
    rename_i ty l c ho
    exact wp_of_val (s := Instr.makeSlice ty (a.eval l) (a.eval c)) (by simp [execOp, ho]) (dmake_val hT hi (hρ l) (hρ c) h) hK
  · -- call
    rename_i c ho
    split at h
    · rename_i f hf
      split at h
      · rename_i g cap he
        have hx := hρ f
        rw [he] at hx
        obtain ⟨vs, hv, hr⟩ := hx
        refine wp_call (g := g) (vals := c.args.toList.map a.eval ++ vs) ?_ hi (relDs_append (relDs_map hρ _) (relKs_toDV hr)) h hK
        simp only [execOp, ho, resolve, hf, hv, Deferred.ofValue, Sem.run_bind, Sem.run_pure, Result.andThen_ok, invoke]
        congr 2
        apply Array.ext'
        simp
      · exact h.elim
    · rename_i hf
      split at h
      · rename_i ty tys x h1 h2
        have ha : c.args = #[x] := by apply Array.ext'; simpa using h2
        have ht : c.argTypes[0]? = some ty := by rw [← Array.getElem?_toList, h1]; rfl
        refine wp_of_val (s := Builtin.len_ c.argTypes o.type #[a.eval x]) (by simp [execOp, ho, resolve, hf, invoke, builtin, ha]) (dlen_val hT hi ht (hρ x) h) hK
      · exact h.elim
    · rename_i hf
      split at h
      · rename_i ty tu x y h1 h2
        have ha : c.args = #[x, y] := by apply Array.ext'; simpa using h2
        have ht : c.argTypes = #[ty, tu] := by apply Array.ext'; simpa using h1
        refine wp_of_val (s := Builtin.append_ #[ty, tu] o.type #[a.eval x, a.eval y]) (by simp [execOp, ho, resolve, hf, invoke, builtin, ha, ht]) (dappend_val hT hi (hρ x) (hρ y) h) hK
      · exact h.elim
    · rename_i hf
      refine wp_of_val (s := Builtin.min_ c.argTypes o.type (c.args.toList.map a.eval).toArray) ?_ (dmm_val (ts := c.argTypes) (ty := o.type) hi (lt := true) (relDs_map hρ _) h) hK
      have : (c.args.toList.map a.eval).toArray = c.args.map a.eval := by apply Array.ext'; simp
      rw [this]
      simp [execOp, ho, resolve, hf, invoke, builtin]
    · rename_i hf
      refine wp_of_val (s := Builtin.max_ c.argTypes o.type (c.args.toList.map a.eval).toArray) ?_ (dmm_val (ts := c.argTypes) (ty := o.type) hi (lt := false) (relDs_map hρ _) h) hK
      have : (c.args.toList.map a.eval).toArray = c.args.map a.eval := by apply Array.ext'; simp
      rw [this]
      simp [execOp, ho, resolve, hf, invoke, builtin]
    · exact h.elim
  · exact h.elim

end all

end Go.Dm
