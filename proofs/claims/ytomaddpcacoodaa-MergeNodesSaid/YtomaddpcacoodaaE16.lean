/-
  The engine, part 16: how a function's contract follows from its body; how contracts are used. No condition beyond the table of types being the program's.
-/
import Derived.Test.YtomaddpcacoodaaE15
set_option linter.unusedSimpArgs false
set_option linter.unusedVariables false
namespace Go.Dm
open Go

def dresE (T : Tab) (s : DS) : List ResultVar → (List EV → Prop) → Prop
  | [], K => K []
  | .tmp t :: rs, K =>
    match look s.t t with
    | .c x => dresE T s rs fun es => K (.c x :: es)
    | .agg xs => dresE T s rs fun es => K (.agg xs :: es)
    | _ => False
  | .cell a ty :: rs, K => (T ty).size ≠ 0 ∧ dload (T ty) s.h (look s.t a) fun d =>
    match d with
    | .c x => dresE T s rs fun es => K (.c x :: es)
    | .agg xs => dresE T s rs fun es => K (.agg xs :: es)
    | _ => False

def dresD : List EV → DV
  | [e] => e.toDV
  | es => .tup es

/-! A result taken out of the call's memory. -/
def epure (h : DHeap) : EV → Option EV
  | .c x => (cpure h x).map .c
  | .agg xs => (pvs h xs).map fun ys => .agg (ys.map .p)
def epures (h : DHeap) : List EV → Option (List EV)
  | [] => some []
  | e :: es => match epure h e, epures h es with
    | some x, some xs => some (x :: xs)
    | _, _ => none
def eids : EV → List Nat
  | .c x => idOf x
  | .agg xs => idsOf xs
def eidss : List EV → List Nat
  | [] => []
  | e :: es => eids e ++ eidss es
def rpure (h : DHeap) : DV → Option DV
  | .tup es => (epures h es).map .tup
  | d => dpure h d
def rids : DV → List Nat
  | .tup es => eidss es
  | d => dids d

/-- What a function hands back out of the memory h, of which the first n numbers are its caller's. -/
def Fin (n : Nat) (h : DHeap) (d : DV) (R : DV → DHeap → Prop) : Prop :=
  R d h ∨
  (∃ d', rpure h d = some d' ∧ ((frzs h (rids d)).take n).all (closedB n) = true ∧ R d' ((frzs h (rids d)).take n)) ∨
  (∃ id len k es, d = .c (.own id 0 len) ∧ n ≤ id ∧ h[id]? = some (.arr k es false) ∧ (h.take n).all (closedB n) = true ∧ R (.c (.own n 0 len)) (h.take n ++ [.arr k es false]))

def dpost (T : Tab) (n : Nat) (rs : List ResultVar) (R : DV → DHeap → Prop) : Exit → DS → Prop
  | .normal, s => dresE T s rs fun es => Fin n s.h (dresD es) R
  | .ret, s => dresE T s rs fun es => Fin n s.h (dresD es) R
  | _, _ => False

/-- One result, as the model reads it. -/
def resOf (tmps : Array Value) : ResultVar → Sem Value
  | .tmp t => pure (tmps.getD t undef)
  | .cell b t => do loadVar t (← asAddr (tmps.getD b undef))
theorem results_eq (fn : Func) (tmps : Array Value) : results fn tmps = (do let vs ← fn.results.mapM (resOf tmps); pure (if h : vs.size = 1 then vs[0] else .tuple vs)) := by
  unfold results
  congr 2

section fin
variable {P : Program} {T : Tab} {X0 : Ctx}

theorem dresE_run (hT : TabOK P T) {X : Ctx} {s : DS} {a : Act} (hh : X.h = s.h) (hi : HInv X) (ht : TInv X s a) : ∀ (rs : List ResultVar) {K : List EV → Prop}, dresE T s rs K →
    ∃ es vs, K es ∧ RelEVs X es vs ∧ (rs.mapM (resOf a.tmps)).run P X.w = .ok vs X.w
  | [], K, h => ⟨[], [], h, True.intro, by simp⟩
  | .tmp t :: rs, K, h => by
    simp only [dresE] at h
    have hr := ht.ev (.tmp t)
    simp only [evD, Act.eval] at hr
    split at h
    · rename_i x he
      rw [he] at hr
      obtain ⟨es, vs, h1, h2, h3⟩ := dresE_run hT hh hi ht rs h
      exact ⟨_, _ :: vs, h1, ⟨hr, h2⟩, by rw [List.mapM_cons]; simp only [resOf, Sem.run_bind, Sem.run_pure, Result.andThen_ok, h3]⟩
    · rename_i xs he
      rw [he] at hr
      obtain ⟨es, vs, h1, h2, h3⟩ := dresE_run hT hh hi ht rs h
      exact ⟨_, _ :: vs, h1, ⟨hr, h2⟩, by rw [List.mapM_cons]; simp only [resOf, Sem.run_bind, Sem.run_pure, Result.andThen_ok, h3]⟩
    · exact h.elim
  | .cell b ty :: rs, K, h => by
    simp only [dresE] at h
    have hr := ht.ev (.tmp b)
    simp only [evD, Act.eval] at hr
    obtain ⟨hs, h⟩ := h
    rw [← hh] at h
    obtain ⟨v, d, h1, h2, h3⟩ := dload_run hT hi hs hr h
    have h1' : ((do loadVar ty (← asAddr (a.tmps.getD b undef))) : Sem Value).run P X.w = .ok v X.w := by
      unfold dload at h
      split at h
      · rename_i id off he
        split at h
        · rename_i cells hc
          rw [he] at hr
          obtain ⟨_, _, h5⟩ := hr
          obtain ⟨g, _, hv⟩ := h5 _ hc
          rw [hv] at h1 ⊢
          simpa [Instr.loadAt, Instr.sureAddr, asAddr] using h1
        · exact h.elim
      · rename_i id i j he
        split at h
        · rename_i k es ro hc
          rw [he] at hr
          obtain ⟨_, _, h5⟩ := hr
          obtain ⟨g, _, hv⟩ := h5 _ _ _ hc
          rw [hv] at h1 ⊢
          simpa [Instr.loadAt, Instr.sureAddr, asAddr] using h1
        · exact h.elim
      · rename_i cs he
        rw [he] at hr
        obtain ⟨bl, off, hv, _⟩ := hr
        rw [hv] at h1 ⊢
        simpa [Instr.loadAt, Instr.sureAddr, asAddr] using h1
      · exact h.elim
    cases d <;> simp only at h3
    case c x =>
      obtain ⟨es, vs, k1, k2, k3⟩ := dresE_run hT hh hi ht rs h3
      refine ⟨_, v :: vs, k1, ⟨h2, k2⟩, ?_⟩
      rw [List.mapM_cons]
      simp only [resOf, Sem.run_bind] at h1' ⊢
      simp only [h1', Result.andThen_ok, k3, Sem.run_pure]
    case agg xs =>
      obtain ⟨es, vs, k1, k2, k3⟩ := dresE_run hT hh hi ht rs h3
      refine ⟨_, v :: vs, k1, ⟨h2, k2⟩, ?_⟩
      rw [List.mapM_cons]
      simp only [resOf, Sem.run_bind] at h1' ⊢
      simp only [h1', Result.andThen_ok, k3, Sem.run_pure]

theorem RelEV.toDV {X : Ctx} {e : EV} {v : Value} (h : RelEV X e v) : RelD X e.toDV v := by cases e <;> exact h

theorem results_run (hT : TabOK P T) {X : Ctx} {s : DS} {a : Act} {fn : Func} {K : List EV → Prop} (hh : X.h = s.h) (hi : HInv X) (ht : TInv X s a) (h : dresE T s fn.results.toList K) :
    ∃ es v, K es ∧ RelD X (dresD es) v ∧ (results fn a.tmps).run P X.w = .ok v X.w := by
  obtain ⟨es, vs, h1, h2, h3⟩ := dresE_run hT hh hi ht fn.results.toList h
  refine ⟨es, if h : vs.length = 1 then vs[0] else .tuple vs.toArray, h1, ?_, ?_⟩
  · match es, vs, h2 with
    | [], [], _ => exact ⟨[], rfl, True.intro⟩
    | [e], [v], h => exact h.1.toDV
    | e :: f :: es, v :: u :: vs, h => exact ⟨v :: u :: vs, rfl, h⟩
  · rw [results_eq]
    rw [Array.mapM_eq_mapM_toList]
    simp only [Sem.run_bind, Sem.run_map, h3, Result.andThen_ok, Sem.run_pure]
    rfl

theorem epure_rel {X X' Y : Ctx} (hi : HInv X) (hs : Step X X') (hw : X'.w = X.w) (hYw : Y.w = X'.w) (hYS : Y.S = X'.S) {e e' : EV} {v : Value} (hr : RelEV X e v) (hp : epure X.h e = some e') (hf : Fixed X X' (eids e)) : RelEV Y e' v := by
  cases e <;> simp only [epure] at hp
  case c x =>
    obtain ⟨z, hz, rfl⟩ := Option.map_eq_some_iff.1 hp
    exact cpure_rel hi hs hw hYw hYS hr hz hf
  case agg xs =>
    obtain ⟨ys, hy, rfl⟩ := Option.map_eq_some_iff.1 hp
    obtain ⟨vs, h1, h2⟩ := hr
    refine ⟨vs, h1, RelCs.of_ps ?_⟩
    rw [hYw, hYS]
    exact pvs_rel hi hs hw h2 hy hf

theorem epures_rel {X X' Y : Ctx} (hi : HInv X) (hs : Step X X') (hw : X'.w = X.w) (hYw : Y.w = X'.w) (hYS : Y.S = X'.S) : ∀ {es es' : List EV} {vs : List Value}, RelEVs X es vs → epures X.h es = some es' → Fixed X X' (eidss es) → RelEVs Y es' vs
  | [], _, [], _, hp, _ => by simp only [epures, Option.some.injEq] at hp; subst hp; exact True.intro
  | d :: ds, ds', v :: vs, hr, hp, hf => by
    simp only [epures] at hp
    split at hp
    · rename_i x xs h1 h2
      cases hp
      exact ⟨epure_rel hi hs hw hYw hYS hr.1 h1 (hf.sub fun id h => by simp [eidss, h]), epures_rel hi hs hw hYw hYS hr.2 h2 (hf.sub fun id h => by simp [eidss, h])⟩
    · cases hp
  | [], _, _ :: _, h, _, _ => h.elim
  | _ :: _, _, [], h, _, _ => h.elim

theorem rpure_rel {X X' Y : Ctx} (hi : HInv X) (hs : Step X X') (hw : X'.w = X.w) (hYw : Y.w = X'.w) (hYS : Y.S = X'.S) {d d' : DV} {v : Value} (hr : RelD X d v) (hp : rpure X.h d = some d') (hf : Fixed X X' (rids d)) : RelD Y d' v := by
  cases d
  case tup es =>
    obtain ⟨z, hz, rfl⟩ := Option.map_eq_some_iff.1 hp
    obtain ⟨vs, h1, h2⟩ := hr
    exact ⟨vs, h1, epures_rel hi hs hw hYw hYS h2 hz hf⟩
  all_goals exact dpure_rel hi hs hw hYw hYS hr hp hf

theorem fin_ret {X : Ctx} {d : DV} {v : Value} {R : DV → DHeap → Prop} (hi : HInv X) (hs : Step X0 X) (hd : RelD X d v) (h : Fin X0.h.length X.h d R) : Ret X0 R v X.w := by
  rcases h with h | ⟨d', h1, h2, h3⟩ | ⟨id, len, k, es, rfl, h1, h2, h3, h4⟩
  · exact ⟨d, X, rfl, hi, hs, hd, h⟩
  · obtain ⟨X1, hw, hh, hG, hst, hi1, hfx⟩ := freezes (rids d) hi
    rw [← hh] at h2 h3
    exact ⟨d', X1.cut X0.h.length, hw, hi1.cut h2, (hs.trans hi hst).cut (Nat.le_refl _), rpure_rel (Y := X1.cut X0.h.length) hi hst hw rfl rfl hd h1 hfx, h3⟩
  · -- a row of the call's own, handed back
    have hid := lt_of_some h2
    let g := X.G id
    let Y : Ctx := ⟨X.w, X.S, fun i => if i = X0.h.length then X.G id else X.G i, X.h.take X0.h.length ++ [.arr k es false]⟩
    have hYlen : (X.h.take X0.h.length).length = X0.h.length := by simp only [List.length_take]; omega
    have hYat : ∀ {i : Nat} {db : DB}, Y.h[i]? = some db → (i < X0.h.length ∧ X.h[i]? = some db) ∨ (i = X0.h.length ∧ db = .arr k es false) := by
      intro i db hh
      rcases getElem?_push_inv hh with ⟨k1, k2⟩ | ⟨k1, k2⟩
      · rw [hYlen] at k1
        rw [List.getElem?_take, if_pos k1] at k2
        exact .inl ⟨k1, k2⟩
      · exact .inr ⟨by omega, k2⟩
    have hGlt : ∀ {i : Nat}, i < X0.h.length → Y.G i = X.G i := fun hlt => by
      show (if _ then _ else _) = _
      rw [if_neg (by omega)]
    have hGeq : Y.G X0.h.length = X.G id := by show (if _ then _ else _) = _; rw [if_pos rfl]
    have hcut := hi.cut h3
    have hscut := hs.cut (Nat.le_refl X0.h.length)
    have hstep : Step X0 Y := by
      refine ⟨hs.size, hs.os, hs.tape, hs.output, hs.kept, by show _ ≤ (_ ++ _ : List DB).length; simp only [List.length_append, hYlen]; omega, fun i db hlt hh hl => ?_, hs.frame, fun i db g' hh hl hf hg' => ?_, hs.upper⟩
      · rcases hYat hh with ⟨k1, k2⟩ | ⟨k1, _⟩
        · obtain ⟨db0, q1, q2, q3, q4⟩ := hs.ids i db hlt k2 hl
          exact ⟨db0, q1, q2, (hGlt k1).trans q3, q4⟩
        · omega
      · rcases hYat hh with ⟨k1, k2⟩ | ⟨k1, k2⟩
        · rw [hGlt k1] at hg'
          exact hs.mine i db g' k2 hl hf hg'
        · subst k1; rw [hGeq] at hg'
          exact hs.mine id _ g' h2 rfl rfl hg'
    have hinv : HInv Y := by
      refine ⟨hi.slt, fun i db hh => ?_, fun i db g' hh hl hg' => ?_, fun i d i' d' g1 g1' hh hl hf hh' hl' hg1 hg1' he => ?_⟩
      · rcases hYat hh with ⟨k1, k2⟩ | ⟨k1, k2⟩
        · have hb := hcut.blk i db (by simp only [Ctx.cut]; rw [List.getElem?_take, if_pos k1]; exact k2)
          have hcl := all_at h3 (show (X.h.take X0.h.length)[i]? = some db by rw [List.getElem?_take, if_pos k1]; exact k2)
          cases db <;> simp only [RelB] at hb ⊢
          case box cells =>
            obtain ⟨g', arr, el, fz, q1, q2, q3, q4, q5⟩ := hb
            refine ⟨g', arr, el, fz, (hGlt k1).trans q1, q2, q3, q4, RelBox.mk fun j c hj => ?_⟩
            obtain ⟨u, q6, q7⟩ := q5.at_ hj
            refine ⟨u, q6, ?_⟩
            have hcc := all_at (show cells.all (closedC X0.h.length) = true from hcl) hj
            have q8 := hi.blk i _ k2
            simp only [RelB] at q8
            have hmono : ∀ {c : CV} {u : Value}, closedC X0.h.length c = true → RelC X c u → RelC Y c u := by
              intro c u hc hr
              have hlenY : ∀ j, j < X0.h.length → j < Y.h.length := fun j hj => by show _ < (_ ++ _ : List DB).length; simp only [List.length_append, hYlen]; omega
              have hget : ∀ j db, j < X0.h.length → Y.h[j]? = some db → X.h[j]? = some db := fun j db hj hh => by
                rcases hYat hh with ⟨_, k⟩ | ⟨k, _⟩
                · exact k
                · omega
              cases c <;> simp only [closedC, decide_eq_true_eq] at hc <;> simp only [RelC] at hr ⊢
              case p => exact hr
              case own id' off' len' =>
                refine ⟨hlenY _ hc, hr.2.1, fun k' es' ro' hh => ?_⟩
                rw [hGlt hc]
                exact hr.2.2 k' es' ro' (hget _ _ hc hh)
              case ptr id' off' =>
                refine ⟨hlenY _ hc, hr.2.1, fun cs hh => ?_⟩
                rw [hGlt hc]
                exact hr.2.2 cs (hget _ _ hc hh)
              case aptr id' i' j' =>
                refine ⟨hlenY _ hc, hr.2.1, fun k' es' ro' hh => ?_⟩
                rw [hGlt hc]
                exact hr.2.2 k' es' ro' (hget _ _ hc hh)
              case eptr => exact hr
              case clo f cap =>
                obtain ⟨vs, r1, r2⟩ := hr
                refine ⟨vs, r1, ?_⟩
                have : ∀ (cs : List KV) (vs : List Value), cs.all (closedK X0.h.length) = true → RelKs X cs vs → RelKs Y cs vs := by
                  intro cs
                  induction cs with
                  | nil => intro vs _ h; cases vs with
                    | nil => exact True.intro
                    | cons _ _ => exact h.elim
                  | cons c cs ih =>
                    intro vs hc h
                    cases vs with
                    | nil => exact h.elim
                    | cons v vs =>
                      simp only [List.all_cons, Bool.and_eq_true] at hc
                      refine ⟨?_, ih vs hc.2 h.2⟩
                      have h1 := h.1
                      cases c <;> simp only [RelK] at h1 ⊢
                      · exact h1
                      · have hc1 := hc.1
                        simp only [closedK, decide_eq_true_eq] at hc1
                        refine ⟨hlenY _ hc1, h1.2.1, fun cs' hh => ?_⟩
                        rw [hGlt hc1]
                        exact h1.2.2 cs' (hget _ _ hc1 hh)
                exact this cap vs hc r2
            obtain ⟨g2, arr2, el2, fz2, r1, r2, r3, r4, r5⟩ := q8
            rw [show X.G i = some g' from q1] at r1
            cases r1
            obtain ⟨u2, r6, r7⟩ := r5.at_ hj
            have : u2 = u := Option.some.inj (r6.symm.trans q6)
            subst this
            exact hmono hcc r7
          case arr => rw [hGlt k1]; exact hb
        · subst k1; subst k2
          have hb := hi.blk id _ h2
          simp only [RelB] at hb ⊢
          rw [hGeq]; exact hb
      · rcases hYat hh with ⟨k1, k2⟩ | ⟨k1, k2⟩
        · rw [hGlt k1] at hg'
          exact hi.own i db g' k2 hl hg'
        · subst k1; subst k2; rw [hGeq] at hg'
          exact hi.own id _ g' h2 rfl hg'
      · rcases hYat hh with ⟨k1, k2⟩ | ⟨k1, k2⟩ <;> rcases hYat hh' with ⟨k1', k2'⟩ | ⟨k1', k2'⟩
        · rw [hGlt k1] at hg1; rw [hGlt k1'] at hg1'
          exact hi.inj i d i' d' g1 g1' k2 hl hf k2' hl' hg1 hg1' he
        · subst k1'
          rw [hGlt k1] at hg1; rw [hGeq] at hg1'
          have := hi.inj i d id _ g1 g1' k2 hl hf h2 rfl hg1 hg1' he
          omega
        · subst k1
          rw [hGeq] at hg1; rw [hGlt k1'] at hg1'
          have := hi.inj id _ i' d' g1 g1' h2 rfl rfl k2' hl' hg1 hg1' he
          omega
        · omega
    refine ⟨.c (.own X0.h.length 0 len), Y, rfl, hinv, hstep, ?_, h4⟩
    obtain ⟨_, q2, q3⟩ := hd
    refine relC (x := .own X0.h.length 0 len) ⟨by show _ < (_ ++ _ : List DB).length; simp only [List.length_append, hYlen, List.length_cons]; omega, q2, fun k' es' ro' hh => ?_⟩
    rcases hYat hh with ⟨k1, _⟩ | ⟨_, k2⟩
    · omega
    · cases k2
      rw [hGeq]
      exact q3 _ _ _ h2

/-- A function's contract, from its body. -/
theorem dcalls_of_swp (hT : TabOK P T) {f : FuncId} {fn : Func} {c : Code} {args : List DV} {h : DHeap} {R : DV → DHeap → Prop} (hf : P.funcs[f]? = some fn) (hb : fn.body = some c) (har : args.length ≤ fn.ntmps) (hn : (fn.name == "runtime.NumGoroutine") = false)
    (hs : ∀ X0 : Ctx, X0.h = h → SWP P X0 c ⟨fn.ntmps, args.zipIdx.map (fun p => (p.2, p.1)), h⟩ (dpost T h.length fn.results.toList R)) : DCalls P f args h R := by
  intro X vals hh hi hr
  refine .inl ⟨?_, calls_of_wp hf hb ?_⟩
  · have hn' : ¬ fn.name = "runtime.NumGoroutine" := by simpa using hn
    simp [callFunc, hf, hn', hb]
  · have hlen : ∀ (ds : List DV) (vs : List Value), RelDs X ds vs → ds.length = vs.length := by
      intro ds
      induction ds with
      | nil => intro vs h; cases vs with
        | nil => rfl
        | cons _ _ => exact h.elim
      | cons d ds ih => intro vs h; cases vs with
        | nil => exact h.elim
        | cons v vs => simp [ih vs h.2]
    have hl := hlen args vals hr
    have hat : ∀ (ds : List DV) (vs : List Value) (i : Nat) (d : DV), RelDs X ds vs → ds[i]? = some d → ∃ v, vs[i]? = some v ∧ RelD X d v := by
      intro ds
      induction ds with
      | nil => intro vs i d _ h; simp at h
      | cons c ds ih => intro vs i d h hd; cases vs with
        | nil => exact h.elim
        | cons v vs =>
          cases i with
          | zero => simp only [List.getElem?_cons_zero, Option.some.injEq] at hd; subst hd; exact ⟨v, rfl, h.1⟩
          | succ i => simp only [List.getElem?_cons_succ] at hd ⊢; exact ih vs i d h.2 hd
    have hlook : ∀ (ds : List DV) (k i : Nat), look ((ds.zipIdx k).map fun p => (p.2, p.1)) i = if k ≤ i then (ds[i - k]?).getD .jk else .jk := by
      intro ds
      induction ds with
      | nil => intro k i; simp [look]
      | cons d ds ih =>
        intro k i
        simp only [List.zipIdx_cons, List.map_cons, look]
        by_cases hik : i = k
        · subst hik; simp
        · rw [if_neg hik, ih]
          by_cases hki : k ≤ i
          · rw [if_pos hki, if_pos (by omega), show i - k = (i - (k + 1)) + 1 by omega]
            rfl
          · rw [if_neg hki, if_neg (by omega)]
    have ht : TInv X ⟨fn.ntmps, args.zipIdx.map (fun p => (p.2, p.1)), h⟩ { tmps := vals.toArray ++ Array.replicate (fn.ntmps - vals.toArray.size) undef, defers := [] } := by
      refine ⟨by simp; omega, fun i => ?_, rfl⟩
      simp only
      rw [hlook args 0 i, if_pos (Nat.zero_le _), Nat.sub_zero, Array.getD_eq_getD_getElem?]
      rcases Nat.lt_or_ge i args.length with hlt | hge
      · have hd : args[i]? = some args[i] := List.getElem?_eq_getElem hlt
        obtain ⟨v, h1, h2⟩ := hat args vals i _ hr hd
        rw [Array.getElem?_append_left (by simp; omega)]
        simp only [List.getElem?_toArray, h1, hd, Option.getD_some]
        exact h2
      · rw [List.getElem?_eq_none hge]
        exact True.intro
    refine wp_mono (hs X hh X _ hh hi (Step.refl hi) ht) fun e a w hp => ?_
    obtain ⟨s, X', h1, rfl, h3, h4, h5, h6⟩ := hp
    have fin : dresE T s fn.results.toList (fun es => Fin h.length s.h (dresD es) R) → a.defers = [] ∧ ∃ v, (results fn a.tmps).run P X'.w = .ok v X'.w ∧ ∃ u, Ending.returned v = Ending.returned u ∧ Ret X R u X'.w := by
      intro hd
      obtain ⟨es, v, k1, k2, k3⟩ := results_run (P := P) hT h3 h4 h6 hd
      refine ⟨h6.defs, v, k3, v, rfl, fin_ret h4 h5 k2 ?_⟩
      rw [hh, h3]; exact k1
    cases e <;> simp only [dpost] at h1
    case normal => exact fin h1
    case ret => exact fin h1

end fin

/-! Contracts in use. -/
theorem shP (n : Nat) (x : PV) : (CV.p x).sh n = .p x := rfl

/-- A pure contract whose result holds no row: nothing of the caller's memory turns. -/
theorem DCalls.use {P : Program} {f : FuncId} {args args' : List DV} {h : DHeap} {r : DV} {K : DV → DHeap → Prop} (hc : DCalls P f args' [] fun d h' => d = r ∧ h' = []) (hp : dpures h args = some args') (hsh : ∀ n, r.sh n = r)
    (hk : K r (frzs h (didss args))) : DCalls P f args h K :=
  (DCalls.frame h hp hc).mono fun d h' ⟨d0, h0, ⟨h1, h2⟩, h3, h4⟩ => by
    subst h1; subst h2
    rw [hsh] at h3
    simp only [List.map_nil, List.append_nil] at h4
    rw [h3, h4]; exact hk

/-- The same, of a result without any address: no row is made immutable. -/
theorem DCalls.useFlat {P : Program} {f : FuncId} {args args' : List DV} {h : DHeap} {r : DV} {K : DV → DHeap → Prop} (hc : DCalls P f args' [] fun d h' => d = r ∧ h' = []) (hp : dpures h args = some args') (hfl : flatD r = true)
    (hk : K r h) : DCalls P f args h K :=
  (DCalls.flat h hp (fun d h0 hd => by rw [hd.1]; exact hfl) hc).mono fun d h' ⟨⟨h0, h1⟩, h2⟩ => by
    rw [h1.1, h2]; exact hk

end Go.Dm
