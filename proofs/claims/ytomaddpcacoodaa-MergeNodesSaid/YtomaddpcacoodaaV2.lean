/-
  The engine, part 22: the same, as rewriting rules: what follows an operation is kept as data, so that rewriting goes from one operation to the next. No condition: consequences of the parts before.
-/
import Derived.Test.YtomaddpcacoodaaV1
set_option linter.unusedSimpArgs false
set_option linter.unusedVariables false
namespace Go.Dm
open Go

section
variable {P : Program} {T : Tab} {X0 : Ctx}

/-- A stop for definitional unfolding. -/
inductive Later (p : Prop) : Prop where
  | mk (h : p) : Later p
theorem later_eq (p : Prop) : Later p = p := propext ⟨fun ⟨h⟩ => h, .mk⟩
theorem nr {α : Sort _} {a b : α} (h : a = b) : a = b := h

/-! What follows, as data. -/
def vsq (P : Program) (T : Tab) (X0 : Ctx) (y : Code) (Q : Exit → DS → Prop) : Exit → DS → Prop := fun e s' => match e with
  | .normal => Later (vc P T X0 y s' Q)
  | e => Q e s'
def vcond (P : Program) (T : Tab) (X0 : Ctx) (d : DV) (x y : Code) (s : DS) (Q : Exit → DS → Prop) : Prop :=
  match d with
  | .c (.p (.b t)) => (t = true → vc P T X0 x s Q) ∧ (t = false → vc P T X0 y s Q)
  | _ => False
def kont (P : Program) (T : Tab) (ops : Array Oper) (rest : List Oper) (n : Nat) (t : Fr) (dst : Option Tmp) (K : DS → Prop) : DV → DHeap → Prop := fun d h' => Later (dops P T ops rest (DS.put ⟨n, t, h'⟩ dst d h') K)
theorem kont_eq {P : Program} {T : Tab} {ops : Array Oper} {rest : List Oper} {n : Nat} {t : Fr} {dst : Option Tmp} {K : DS → Prop} : kont P T ops rest n t dst K = fun d h' => dops P T ops rest (DS.put ⟨n, t, h'⟩ dst d h') K := by
  funext d h'; exact later_eq _
def kP (K : DV → DHeap → Prop) (h : DHeap) : PV → Prop := fun x => K (.c (.p x)) h
def kD (K : DV → DHeap → Prop) (h : DHeap) : DV → Prop := fun d => K d h
def kB (K : PV → Prop) : Bool → Prop := fun b => K (.b b)
def kN (K : PV → Prop) : Bool → Prop := fun b => K (.b (!b))
def kU (K : DV → DHeap → Prop) : DHeap → Prop := fun h => K (.tup []) h
def gvalL (t : Fr) : List Oper → Nat → Option DV
  | [], _ => none
  | o :: _, 0 => o.dst.map fun i => look t i
  | _ :: l, j + 1 => gvalL t l j
def vguard (P : Program) (T : Tab) (ops : Array Oper) (g : Option DV) (b : Bool) (op : Op) (t : Fr) (h : DHeap) (K : DV → DHeap → Prop) : Prop :=
  match g with
  | some (.c (.p (.b v))) => (v = b → dop P T op t h K) ∧ (v ≠ b → K (.tup []) h)
  | some (.tup []) => K (.tup []) h
  | _ => False
def vpick (d : DV) (a b : DV) (h : DHeap) (K : DV → DHeap → Prop) : Prop :=
  match d with
  | .c (.p (.b v)) => (v = true → K a h) ∧ (v = false → K b h)
  | _ => False

theorem vc_skip {s : DS} {Q : Exit → DS → Prop} : vc P T X0 .skip s Q = Q .normal s := nr rfl
theorem vc_ret {s : DS} {Q : Exit → DS → Prop} : vc P T X0 .ret s Q = Q .ret s := nr rfl
theorem vc_exit {id : Nat} {s : DS} {Q : Exit → DS → Prop} : vc P T X0 (.exit id) s Q = Q (.exit id) s := nr rfl
theorem vc_seq {x y : Code} {s : DS} {Q : Exit → DS → Prop} : vc P T X0 (.seq x y) s Q = vc P T X0 x s (vsq P T X0 y Q) := by
  have e : vsq P T X0 y Q = fun e s' => match e with
      | .normal => vc P T X0 y s' Q
      | e => Q e s' := by
    funext e s'
    cases e <;> first | rfl | exact later_eq _
  rw [e]; rfl
theorem vc_block {id : Nat} {c : Code} {s : DS} {Q : Exit → DS → Prop} : vc P T X0 (.block id c) s Q = vc P T X0 c s (qblock id Q) := nr rfl
theorem vc_cond {c : Operand} {x y : Code} {s : DS} {Q : Exit → DS → Prop} : vc P T X0 (.cond c x y) s Q = vcond P T X0 (evD s.t c) x y s Q := nr rfl
theorem vc_region {id : Nat} {l : List Oper} {s : DS} {Q : Exit → DS → Prop} : vc P T X0 (.region id l.toArray false) s Q = dops P T l.toArray l s (Q .normal) := nr rfl
theorem vc_loop {c : Code} {s : DS} {Q : Exit → DS → Prop} : vc P T X0 (.loop c) s Q = SWP P X0 (.loop c) s Q := nr rfl

theorem vsq_n {y : Code} {s : DS} {Q : Exit → DS → Prop} : vsq P T X0 y Q .normal s = vc P T X0 y s Q := later_eq _
theorem vsq_r {y : Code} {s : DS} {Q : Exit → DS → Prop} : vsq P T X0 y Q .ret s = Q .ret s := nr rfl
theorem vsq_e {y : Code} {id : Nat} {s : DS} {Q : Exit → DS → Prop} : vsq P T X0 y Q (.exit id) s = Q (.exit id) s := nr rfl
theorem qb_n {id : Nat} {s : DS} {Q : Exit → DS → Prop} : qblock id Q .normal s = Q .normal s := nr rfl
theorem qb_r {id : Nat} {s : DS} {Q : Exit → DS → Prop} : qblock id Q .ret s = Q .ret s := nr rfl
theorem qb_e {id id' : Nat} {s : DS} {Q : Exit → DS → Prop} : qblock id Q (.exit id') s = if id' = id then Q .normal s else Q (.exit id') s := nr rfl
theorem ql_e {α : Type} {n0 : Nat} {I : α → DS} {J : α → Prop} {μ : α → Nat} {x : α} {id : Nat} {s : DS} {Q : Exit → DS → Prop} : qloop n0 I J μ x Q (.exit id) s = Q (.exit id) s := nr rfl
theorem ql_r {α : Type} {n0 : Nat} {I : α → DS} {J : α → Prop} {μ : α → Nat} {x : α} {s : DS} {Q : Exit → DS → Prop} : qloop n0 I J μ x Q .ret s = Q .ret s := nr rfl
theorem vpost_n {n : Nat} {rs : List ResultVar} {R : DV → DHeap → Prop} {s : DS} : vpost T n rs R .normal s = vres T n s.t s.h R rs [] := nr rfl
theorem vpost_r {n : Nat} {rs : List ResultVar} {R : DV → DHeap → Prop} {s : DS} : vpost T n rs R .ret s = vres T n s.t s.h R rs [] := nr rfl

theorem vcond_t {x y : Code} {s : DS} {Q : Exit → DS → Prop} : vcond P T X0 (.c (.p (.b true))) x y s Q = vc P T X0 x s Q := by simp [vcond]
theorem vcond_f {x y : Code} {s : DS} {Q : Exit → DS → Prop} : vcond P T X0 (.c (.p (.b false))) x y s Q = vc P T X0 y s Q := by simp [vcond]
theorem vcond_split {t : Bool} {x y : Code} {s : DS} {Q : Exit → DS → Prop} (h1 : t = true → vc P T X0 x s Q) (h2 : t = false → vc P T X0 y s Q) : vcond P T X0 (.c (.p (.b t))) x y s Q := ⟨h1, h2⟩

/-! Regions. -/
theorem vo_nil {ops : Array Oper} {s : DS} {K : DS → Prop} : dops P T ops [] s K = K s := nr rfl
theorem vo_one {ops : Array Oper} {dst : Option Tmp} {op : Op} {ty : TypeId} {pos : String} {after : Array Edge} {rest : List Oper} {n : Nat} {t : Fr} {h : DHeap} {K : DS → Prop} :
    dops P T ops ({ dst := dst, op := op, type := ty, pos := pos, after := after, guard := none } :: rest) ⟨n, t, h⟩ K = dop P T op t h (kont P T ops rest n t dst K) := by rw [kont_eq]; rfl
theorem vo_guard {l : List Oper} {dst : Option Tmp} {op : Op} {ty : TypeId} {pos : String} {after : Array Edge} {rest : List Oper} {j : Nat} {b : Bool} {n : Nat} {t : Fr} {h : DHeap} {K : DS → Prop} :
    dops P T l.toArray ({ dst := dst, op := op, type := ty, pos := pos, after := after, guard := some (j, b) } :: rest) ⟨n, t, h⟩ K = vguard P T l.toArray (gvalL t l j) b op t h (kont P T l.toArray rest n t dst K) := by
  have e : ∀ (l : List Oper) (j : Nat), ((l[j]?).bind (·.dst)).map (fun i => look t i) = gvalL t l j := by
    intro l
    induction l with
    | nil => intro j; rfl
    | cons o l ih => intro j; cases j with
      | zero => rfl
      | succ j => exact ih j
  rw [kont_eq]
  simp only [dops, List.getElem?_toArray, e]
  rfl
theorem gv_zero {t : Fr} {o : Oper} {l : List Oper} : gvalL t (o :: l) 0 = o.dst.map fun i => look t i := nr rfl
theorem gv_succ {t : Fr} {o : Oper} {l : List Oper} {j : Nat} : gvalL t (o :: l) (j + 1) = gvalL t l j := nr rfl
theorem kont_some {ops : Array Oper} {rest : List Oper} {n : Nat} {t : Fr} {i : Nat} {K : DS → Prop} {d : DV} {h : DHeap} (hi : i < n) : kont P T ops rest n t (some i) K d h = dops P T ops rest ⟨n, (i, d) :: t, h⟩ K := by
  rw [kont_eq]; simp only [DS.put]; rw [if_pos hi]
theorem kont_none {ops : Array Oper} {rest : List Oper} {n : Nat} {t : Fr} {K : DS → Prop} {d : DV} {h : DHeap} : kont P T ops rest n t none K d h = dops P T ops rest ⟨n, t, h⟩ K := by rw [kont_eq]; rfl
theorem kP_ap {K : DV → DHeap → Prop} {h : DHeap} {x : PV} : kP K h x = K (.c (.p x)) h := nr rfl
theorem kD_ap {K : DV → DHeap → Prop} {h : DHeap} {d : DV} : kD K h d = K d h := nr rfl
theorem kB_ap {K : PV → Prop} {b : Bool} : kB K b = K (.b b) := nr rfl
theorem kN_ap {K : PV → Prop} {b : Bool} : kN K b = K (.b (!b)) := nr rfl
theorem kU_ap {K : DV → DHeap → Prop} {h : DHeap} : kU K h = K (.tup []) h := nr rfl

section g
variable {ops : Array Oper} {op : Op} {t : Fr} {h : DHeap} {K : DV → DHeap → Prop}
theorem vg_tt : vguard P T ops (some (.c (.p (.b true)))) true op t h K = dop P T op t h K := by simp [vguard]
theorem vg_ff : vguard P T ops (some (.c (.p (.b false)))) false op t h K = dop P T op t h K := by simp [vguard]
theorem vg_tf : vguard P T ops (some (.c (.p (.b true)))) false op t h K = K (.tup []) h := by simp [vguard]
theorem vg_ft : vguard P T ops (some (.c (.p (.b false)))) true op t h K = K (.tup []) h := by simp [vguard]
theorem vg_tup {b : Bool} : vguard P T ops (some (.tup [])) b op t h K = K (.tup []) h := nr rfl
theorem vg_split {v b : Bool} (h1 : v = true → vguard P T ops (some (.c (.p (.b v)))) b op t h K) (h2 : v = false → vguard P T ops (some (.c (.p (.b v)))) b op t h K) : vguard P T ops (some (.c (.p (.b v)))) b op t h K := by
  cases v
  · exact h2 rfl
  · exact h1 rfl
theorem vp_t {a b : DV} : vpick (.c (.p (.b true))) a b h K = K a h := by simp [vpick]
theorem vp_f {a b : DV} : vpick (.c (.p (.b false))) a b h K = K b h := by simp [vpick]
theorem vp_split {v : Bool} {a b : DV} (h1 : v = true → K a h) (h2 : v = false → K b h) : vpick (.c (.p (.b v))) a b h K := ⟨h1, h2⟩
theorem vp_b {v x y : Bool} : vpick (.c (.p (.b v))) (.c (.p (.b x))) (.c (.p (.b y))) h K = K (.c (.p (.b (bif v then x else y)))) h := by cases v <;> simp [vpick]

/-! Operations. -/
theorem do_move {x : Operand} : dop P T (.move x) t h K = K (evD t x) h := nr rfl
theorem do_assign {x : Operand} : dop P T (.assign x) t h K = K (evD t x) h := nr rfl
theorem do_pick {c a b : Operand} : dop P T (.pick c a b) t h K = vpick (evD t c) (evD t a) (evD t b) h K := nr rfl
def vkAlloc (k : TK) (z : List PV) (h : DHeap) (K : DV → DHeap → Prop) : Prop :=
  match k with
  | .no => False
  | _ => K (.c (.ptr h.length 0)) (h ++ [.box (z.map .p)])
theorem do_alloc {ty : TypeId} : dop P T (.alloc ty) t h K = vkAlloc (T ty).k (T ty).zero h K := nr rfl
def vbox (o : Option (List CV)) (h : DHeap) (K : DV → DHeap → Prop) : Prop :=
  match o with
  | some ys => K (.c (.ptr h.length 0)) (h ++ [.box ys])
  | none => False
theorem do_box {ty : TypeId} {x : Operand} : dop P T (.box ty x) t h K = vbox (cellsD (evD t x)) h K := nr rfl
def evPs (t : Fr) : List (Nat × Operand) → List (Nat × DV)
  | [] => []
  | p :: l => (p.1, evD t p.2) :: evPs t l
theorem evPs_eq (t : Fr) : ∀ l : List (Nat × Operand), (l.map fun p => (p.1, evD t p.2)) = evPs t l
  | [] => rfl
  | p :: l => by simp only [List.map_cons, evPs, evPs_eq t l]
def evL (t : Fr) : List Operand → List DV
  | [] => []
  | x :: l => evD t x :: evL t l
theorem evL_eq (t : Fr) : ∀ l : List Operand, l.map (evD t) = evL t l
  | [] => rfl
  | x :: l => by simp only [List.map_cons, evL, evL_eq t l]
def vbuild (T : Tab) (k : TK) (z : List PV) (parts : List (Nat × DV)) (h : DHeap) (K : DV → DHeap → Prop) : Prop :=
  match k with
  | .struct fs => (∀ f ∈ fs, (T f.1).size ≠ 0) ∧
    match dfill T (fun i => (fs[i]?).map fun f => (f.2, (T f.1).size)) (z.map .p) parts with
    | some cells => K (.agg cells) h
    | none => False
  | .array _ e => (T e).size ≠ 0 ∧
    match dfill T (fun i => some (i * (T e).size, (T e).size)) (z.map .p) parts with
    | some cells => K (.agg cells) h
    | none => False
  | _ => False
theorem do_build {ty : TypeId} {l : List (Nat × Operand)} : dop P T (.build ty l.toArray) t h K = vbuild T (T ty).k (T ty).zero (evPs t l) h K := by
  rw [← evPs_eq]; rfl
def vfillS (T : Tab) (place : List (Nat × Nat)) : List CV → List (Nat × DV) → Option (List CV)
  | cells, [] => some cells
  | cells, (i, d) :: rest =>
    match place[i]?, cellsD d with
    | some (ft, off), some ys => if ys.length = (T ft).size ∧ off + (T ft).size ≤ cells.length then vfillS T place (splice cells off ys) rest else none
    | _, _ => none
theorem vfillS_eq (T : Tab) (fs : List (Nat × Nat)) : ∀ (parts : List (Nat × DV)) (cells : List CV), dfill T (fun i => (fs[i]?).map fun f => (f.2, (T f.1).size)) cells parts = vfillS T fs cells parts
  | [], _ => rfl
  | (i, d) :: rest, cells => by
    simp only [dfill, vfillS]
    cases fs[i]? with
    | none => rfl
    | some f =>
      cases cellsD d with
      | none => rfl
      | some ys => simp only [Option.map_some]; rw [vfillS_eq T fs rest _]
def vfillA (sz : Nat) : List CV → List (Nat × DV) → Option (List CV)
  | cells, [] => some cells
  | cells, (i, d) :: rest =>
    match cellsD d with
    | some ys => if ys.length = sz ∧ i * sz + sz ≤ cells.length then vfillA sz (splice cells (i * sz) ys) rest else none
    | _ => none
theorem vfillA_eq (T : Tab) (sz : Nat) : ∀ (parts : List (Nat × DV)) (cells : List CV), dfill T (fun i => some (i * sz, sz)) cells parts = vfillA sz cells parts
  | [], _ => rfl
  | (i, d) :: rest, cells => by
    simp only [dfill, vfillA]
    cases cellsD d with
    | none => rfl
    | some ys => simp only; rw [vfillA_eq T sz rest _]
def vopt (o : Option (List CV)) (h : DHeap) (K : DV → DHeap → Prop) : Prop :=
  match o with
  | some cells => K (.agg cells) h
  | none => False
theorem vopt_some {cells : List CV} : vopt (some cells) h K = K (.agg cells) h := nr rfl
theorem vb_struct {fs : List (Nat × Nat)} {z : List PV} {parts : List (Nat × DV)} : vbuild T (.struct fs) z parts h K = ((∀ f ∈ fs, (T f.1).size ≠ 0) ∧ vopt (vfillS T fs (z.map .p) parts) h K) := by
  rw [← vfillS_eq]; rfl
theorem vb_array {n e : Nat} {z : List PV} {parts : List (Nat × DV)} : vbuild T (.array n e) z parts h K = ((T e).size ≠ 0 ∧ vopt (vfillA (T e).size (z.map .p) parts) h K) := by
  rw [← vfillA_eq T]; rfl
theorem do_buildS {ty : TypeId} {len : Nat} {l : List (Nat × Operand)} : dop P T (.buildSlice ty len l.toArray) t h K = dbuildS T ty len (evPs t l) h K := by
  rw [← evPs_eq]; rfl
theorem do_load {ty : TypeId} {a : Operand} : dop P T (.load ty a) t h K = ((T ty).size ≠ 0 ∧ dload (T ty) h (evD t a) (kD K h)) := nr rfl
theorem do_store {ty : TypeId} {a x : Operand} : dop P T (.store ty a x) t h K = dstore (T ty) h (evD t a) (evD t x) (kU K) := nr rfl
def vnilc (d : DV) (h : DHeap) (K : DV → DHeap → Prop) : Prop :=
  match d with
  | .c (.ptr id off) =>
    match h[id]? with
    | some (.box _) => K (.c (.ptr id off)) h
    | _ => False
  | .c (.eptr cs) => K (.c (.eptr cs)) h
  | .c (.clo f cap) => K (.c (.clo f cap)) h
  | _ => False
theorem do_nilc {x : Operand} : dop P T (.nilCheck x) t h K = vnilc (evD t x) h K := nr rfl
theorem do_bin {o : BinOp} {ty ty' : TypeId} {x y : Operand} : dop P T (.binOp o ty x y ty') t h K = dbin o (T ty) (evD t x) (evD t y) (kP K h) := nr rfl
theorem do_un {o : UnOp} {ty : TypeId} {x : Operand} : dop P T (.unOp o ty x) t h K = dun o (evD t x) (kP K h) := nr rfl
theorem do_conv {src dst : TypeId} {x : Operand} : dop P T (.convert src dst x) t h K = dconv T src dst (evD t x) h K := nr rfl
def bndV (t : Fr) (o : Option Operand) (d : Int) : Option Int :=
  match o with
  | none => some d
  | some x => match evD t x with
    | .c (.p (.i _ n)) => some n
    | _ => none
def vslice (T : Tab) (k : TK) (h : DHeap) (x : DV) (lo hi : Int → Option Int) (K : DV → DHeap → Prop) : Prop :=
  match k, x with
  | .str, .c (.p (.s l)) => match lo 0, hi l.length with
    | some a, some b => 0 ≤ a ∧ a ≤ b ∧ b ≤ l.length ∧ K (.c (.p (.s ((l.take b.toNat).drop a.toNat)))) h
    | _, _ => False
  | .slice e, .c (.p (.sl k es)) => match lo 0, hi es.length with
    | some a, some b => (T e).size ≠ 0 ∧ (T e).size = k ∧ 0 ≤ a ∧ a ≤ b ∧ b ≤ es.length ∧ K (.c (.p (.sl k ((es.take b.toNat).drop a.toNat)))) h
    | _, _ => False
  | .slice e, .c (.p .nil) => match lo 0, hi 0 with
    | some a, some b => (T e).size ≠ 0 ∧ 0 ≤ a ∧ a ≤ b ∧ b ≤ 0 ∧ K (.c (.p .nil)) h
    | _, _ => False
  | .slice e, .c (.own id off len) =>
    match h[id]? with
    | some (.arr k _ _) => match lo 0, hi len with
      | some a, some b => (T e).size ≠ 0 ∧ (T e).size = k ∧ 0 ≤ a ∧ a ≤ b ∧ b ≤ len ∧ K (.c (.own id (off + a.toNat) (b.toNat - a.toNat))) h
      | _, _ => False
    | _ => False
  | _, _ => False
theorem bnd_eq (t : Fr) (o : Option Operand) (d : Int) (K : Int → Prop) : bnd t o d K = match bndV t o d with | some n => K n | none => False := by
  cases o with
  | none => rfl
  | some x =>
    simp only [bnd, bndV]
    generalize evD t x = e
    cases e with
    | c c => cases c with
      | p p => cases p <;> rfl
      | _ => rfl
    | _ => rfl
theorem do_slice {ty : TypeId} {x : Operand} {lo hi : Option Operand} : dop P T (.slice ty x lo hi none) t h K = vslice T (T ty).k h (evD t x) (bndV t lo) (bndV t hi) K := by
  show dslice T ty h (evD t x) (bnd t lo) (bnd t hi) (fun d => K d h) = _
  unfold dslice vslice
  simp only [bnd_eq]
  generalize (T ty).k = k
  generalize evD t x = d
  cases k with
  | str => cases d with
    | c c => cases c with
      | p p => cases p with
        | s l =>
          simp only
          cases bndV t lo 0 <;> simp only
          cases bndV t hi (l.length : Int) <;> rfl
        | _ => rfl
      | _ => rfl
    | _ => rfl
  | slice e => cases d with
    | c c => cases c with
      | p p => cases p with
        | nil =>
          simp only
          cases bndV t lo 0 <;> simp only [and_false]
          cases bndV t hi 0 <;> simp only [and_false]
        | sl k es =>
          simp only
          cases bndV t lo 0 <;> simp only [and_false]
          cases bndV t hi (es.length : Int) <;> simp only [and_false]
        | _ => rfl
      | own id off len =>
        simp only
        cases h[id]? with
        | none => rfl
        | some b => cases b with
          | arr k es r =>
            simp only
            cases bndV t lo 0 <;> simp only [and_false]
            cases bndV t hi (len : Int) <;> simp only [and_false]
          | _ => rfl
      | _ => rfl
    | _ => rfl
  | _ => rfl
theorem do_fieldA {s f : Nat} {x : Operand} : dop P T (.fieldAddr s x f) t h K = dfield T s h (evD t x) f (kD K h) := nr rfl
def vfield (T : Tab) (k : TK) (x : DV) (f : Nat) (K : DV → Prop) : Prop :=
  match k, x with
  | .struct fs, .agg cells =>
    match fs[f]? with
    | some (ft, off) => dpart (T ft) cells off K
    | none => False
  | _, _ => False
theorem do_field {ty f : Nat} {x : Operand} : dop P T (.field ty x f) t h K = vfield T (T ty).k (evD t x) f (kD K h) := nr rfl
theorem do_indexA {ty : Nat} {x i : Operand} : dop P T (.indexAddr ty x i) t h K = dindexA T ty h (evD t x) (evD t i) (kD K h) := nr rfl
theorem do_index {ty : Nat} {x i : Operand} : dop P T (.index ty x i) t h K = dindex T ty (evD t x) (evD t i) (kD K h) := nr rfl
def vextract (d : DV) (n : Nat) (h : DHeap) (K : DV → DHeap → Prop) : Prop :=
  match d with
  | .tup xs =>
    match xs[n]? with
    | some e => K e.toDV h
    | none => False
  | _ => False
theorem do_extract {x : Operand} {n : Nat} : dop P T (.extract x n) t h K = vextract (evD t x) n h K := nr rfl
def vclo (f : FuncId) (c : Option (List KV)) (h : DHeap) (K : DV → DHeap → Prop) : Prop :=
  match c with
  | some cap => K (.c (.clo f cap)) h
  | none => False
theorem do_func {f : FuncId} {l : List Operand} : dop P T (.makeFunc (.func f) #[] l.toArray) t h K = vclo f (capsD (evL t l)) h K := by
  rw [← evL_eq]
  simp only [dop, vclo]
  cases capsD (List.map (evD t) l) <;> rfl
theorem do_make {ty : Nat} {l c : Operand} : dop P T (.makeSlice ty l c) t h K = dmake T ty (evD t l) (evD t c) h K := nr rfl
def vcall (P : Program) (d : DV) (args : List DV) (h : DHeap) (K : DV → DHeap → Prop) : Prop :=
  match d with
  | .c (.clo g cap) => DCalls P g (args ++ cap.map KV.toDV) h K
  | _ => False
theorem do_call {f : Operand} {l : List Operand} {ats : Array TypeId} : dop P T (.call { callee := .value f, args := l.toArray, argTypes := ats }) t h K = vcall P (evD t f) (evL t l) h K := by
  rw [← evL_eq]
  simp only [dop]
  rfl
theorem do_len {ty : Nat} {tys : List Nat} {x : Operand} : dop P T (.call { callee := .builtin .len, args := [x].toArray, argTypes := (ty :: tys).toArray }) t h K = dlen (T ty) h (evD t x) (kD K h) := by
  simp only [dop]
  rfl
theorem do_append {ty tu : Nat} {x y : Operand} : dop P T (.call { callee := .builtin .append, args := [x, y].toArray, argTypes := [ty, tu].toArray }) t h K = dappend T ty tu (evD t x) (evD t y) h K := by
  simp only [dop]
theorem do_min {l : List Operand} {ats : Array TypeId} : dop P T (.call { callee := .builtin .min, args := l.toArray, argTypes := ats }) t h K = dmm true (evL t l) (kD K h) := by
  rw [← evL_eq]
  simp only [dop]
  rfl
theorem do_max {l : List Operand} {ats : Array TypeId} : dop P T (.call { callee := .builtin .max, args := l.toArray, argTypes := ats }) t h K = dmm false (evL t l) (kD K h) := by
  rw [← evL_eq]
  simp only [dop]
  rfl
end g

/-! Arithmetic, tests. -/
section b
variable {k : IntKind} {a b : Int} {x y : List UInt8} {K : PV → Prop} {T0 : TI}
theorem db_i {op : BinOp} {k' : IntKind} (h1 : op ≠ .shl) (h2 : op ≠ .shr) : dbin op T0 (.c (.p (.i k a))) (.c (.p (.i k' b))) K = (k = k' ∧ dint op k a b K) := by
  cases op <;> first | rfl | exact absurd rfl h1 | exact absurd rfl h2
theorem db_shl {k' : IntKind} : dbin .shl T0 (.c (.p (.i k a))) (.c (.p (.i k' b))) K = (0 ≤ b ∧ K (.i k (k.wrap (a * 2 ^ (min b.toNat k.bits))))) := nr rfl
theorem db_shr {k' : IntKind} : dbin .shr T0 (.c (.p (.i k a))) (.c (.p (.i k' b))) K = (0 ≤ b ∧ K (.i k (a.fdiv (2 ^ (min b.toNat k.bits))))) := nr rfl
theorem db_s {op : BinOp} : dbin op T0 (.c (.p (.s x))) (.c (.p (.s y))) K = dstr op x y K := nr rfl
theorem db_f {op : BinOp} {x y : Nat} : dbin op T0 (.c (.p (.f x))) (.c (.p (.f y))) K = dflt op x y K := nr rfl
def vbb (k : TK) (op : BinOp) (a b : Bool) (K : PV → Prop) : Prop :=
  match k, op with
  | .bool, .eql => K (.b (a == b))
  | .bool, .neq => K (.b (!(a == b)))
  | _, _ => False
theorem db_b {op : BinOp} {x y : Bool} : dbin op T0 (.c (.p (.b x))) (.c (.p (.b y))) K = vbb T0.k op x y K := nr rfl
def vnl (k : TK) (op : BinOp) (x : PV) (K : PV → Prop) : Prop :=
  match k, op with
  | .slice _, .eql => nilq x (kB K)
  | .slice _, .neq => nilq x (kN K)
  | _, _ => False
theorem db_n {op : BinOp} {x : PV} : dbin op T0 (.c (.p x)) (.c (.p .nil)) K = vnl T0.k op x K := by
  cases x <;> rfl
end b
end
end Go.Dm
