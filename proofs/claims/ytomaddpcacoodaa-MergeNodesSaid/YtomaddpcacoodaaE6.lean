/-
  The engine, part 6: what each operation does to data. Definitions alone.
-/
import Derived.Test.YtomaddpcacoodaaE5
set_option linter.unusedSimpArgs false
set_option linter.unusedVariables false
namespace Go.Dm
open Go

/-! Types, as the engine knows them. -/
inductive TK where
  | no | bool | int (k : IntKind) | float | str | ptr (e : Nat) | slice (e : Nat) | array (n e : Nat) | map (k e : Nat) | struct (fs : List (Nat × Nat)) | func | iface
structure TI where
  k : TK
  size : Nat
  bytes : Nat
  zero : List PV
abbrev Tab := Nat → TI

def TK.agg : TK → Bool
  | .array _ _ => true
  | .struct _ => true
  | _ => false

def flatV : PV → Option Value
  | .b x => some (.bool x)
  | .i k n => some (.int k n)
  | .s l => some (.string ⟨l.toArray⟩)
  | .f x => some (.float .f64 x)
  | .nil => some (.slice none 0 0)
  | .sl _ _ => none
  | .o x => if x.oneCell' then some x else none

def DescOK : Option TypeDesc → TK → Prop
  | some .bool, .bool => True
  | some (.int k), .int k' => k = k'
  | some (.float k), .float => k = .f64
  | some .string, .str => True
  | some (.pointer e), .ptr e' => e = e'
  | some (.slice e), .slice e' => e = e'
  | some (.array n e), .array n' e' => n = n' ∧ e = e'
  | some (.map k e), .map k' e' => k = k' ∧ e = e'
  | some (.struct fs), .struct fs' => fs.toList.map (fun f => (f.type, f.offset)) = fs'
  | some (.func _ _ _), .func => True
  | some (.interface _), .iface => True
  | _, _ => False

def OkTI (P : Program) (t : Nat) (ti : TI) : Prop :=
  match ti.k with
  | .no => ti.size = 0
  | k => DescOK (P.underlying t) k ∧ ∃ i z, P.info? t = some i ∧ i.size = ti.size ∧ i.bytes = ti.bytes ∧ i.zero = some z ∧ ti.zero.map flatV = z.cells.toList.map some ∧ ti.size = ti.zero.length ∧
      (k.agg = true → ∃ cs, z = .agg cs) ∧ (k.agg = false → ti.size = 1 ∧ z.oneCell' = true)
def TabOK (P : Program) (T : Tab) : Prop := ∀ t, OkTI P t (T t)

/-! Operands. -/
def constD : Value → DV
  | .bool x => .c (.p (.b x))
  | .int k n => .c (.p (.i k n))
  | .float .f64 x => .c (.p (.f x))
  | .string s => .c (.p (.s s.data.toList))
  | .slice none 0 0 => .c (.p .nil)
  | .pointer none => .c (.p (.o (.pointer none)))
  | .map none => .c (.p (.o (.map none)))
  | .nilFunc => .c (.p (.o .nilFunc))
  | .nilIface => .c (.p (.o .nilIface))
  | _ => .jk
/-- A frame: what is known of its slots, the latest first. -/
abbrev Fr := List (Nat × DV)
def look : Fr → Nat → DV
  | [], _ => .jk
  | p :: t, i => if i = p.1 then p.2 else look t i
def evD (t : Fr) : Operand → DV
  | .tmp i => look t i
  | .const v => constD v
  | .global _ => .jk
  | .func f => .c (.clo f [])

def EV.toDV : EV → DV
  | .c x => .c x
  | .agg xs => .agg xs
def KV.toDV : KV → DV
  | .p x => .c (.p x)
  | .ptr id off => .c (.ptr id off)

def cellsD : DV → Option (List CV)
  | .c x => some [x]
  | .agg xs => some xs
  | _ => none

/-! Integers, floats, strings. -/
def bits (op : BinOp) (k : IntKind) (a b : Int) : Int :=
  let x := BitVec.ofInt k.bits a
  let y := BitVec.ofInt k.bits b
  match op with
  | .and => k.wrap (x &&& y).toNat
  | .or => k.wrap (x ||| y).toNat
  | .xor => k.wrap (x ^^^ y).toNat
  | .andNot => k.wrap (x &&& ~~~y).toNat
  | _ => 0

def dint (op : BinOp) (k : IntKind) (a b : Int) (K : PV → Prop) : Prop :=
  match op with
  | .add => K (.i k (k.wrap (a + b)))
  | .sub => K (.i k (k.wrap (a - b)))
  | .mul => K (.i k (k.wrap (a * b)))
  | .quo => b ≠ 0 ∧ K (.i k (k.wrap (a.tdiv b)))
  | .rem => b ≠ 0 ∧ K (.i k (a.tmod b))
  | .and => K (.i k (bits .and k a b))
  | .or => K (.i k (bits .or k a b))
  | .xor => K (.i k (bits .xor k a b))
  | .andNot => K (.i k (bits .andNot k a b))
  | .eql => K (.b (a == b))
  | .neq => K (.b (a != b))
  | .lss => K (.b (decide (a < b)))
  | .leq => K (.b (decide (a ≤ b)))
  | .gtr => K (.b (decide (b < a)))
  | .geq => K (.b (decide (b ≤ a)))
  | _ => False

/-- The order of texts, byte by byte. -/
def bltL : List UInt8 → List UInt8 → Bool := Op.bytesLess

def dstr (op : BinOp) (a b : List UInt8) (K : PV → Prop) : Prop :=
  match op with
  | .add => a.length + b.length ≤ 9223372036854775807 ∧ K (.s (a ++ b))
  | .eql => K (.b (a == b))
  | .neq => K (.b (!(a == b)))
  | .lss => K (.b (bltL a b))
  | .leq => K (.b (bltL a b || a == b))
  | .gtr => K (.b (!(bltL a b || a == b)))
  | .geq => K (.b (!bltL a b))
  | _ => False

def ford (a b : Nat) : Option Ordering := FloatKind.f64.format.order a b
def dflt (op : BinOp) (a b : Nat) (K : PV → Prop) : Prop :=
  match op with
  | .eql => K (.b (ford a b == some .eq))
  | .neq => K (.b (ford a b != some .eq))
  | .lss => K (.b (ford a b == some .lt))
  | .leq => K (.b (ford a b == some .lt || ford a b == some .eq))
  | .gtr => K (.b (ford a b == some .gt))
  | .geq => K (.b (ford a b == some .gt || ford a b == some .eq))
  | _ => False

/-- Is a slice nil? Of one without an element it may be, or not. -/
def nilq : PV → (Bool → Prop) → Prop
  | .nil, K => K true
  | .sl _ (_ :: _), K => K false
  | .sl _ [], K => K true ∧ K false
  | _, _ => False

def dbin (op : BinOp) (T : TI) (x y : DV) (K : PV → Prop) : Prop :=
  match x, y with
  | .c (.p (.i k a)), .c (.p (.i k' b)) =>
    match op with
    | .shl => 0 ≤ b ∧ K (.i k (k.wrap (a * 2 ^ (min b.toNat k.bits))))
    | .shr => 0 ≤ b ∧ K (.i k (a.fdiv (2 ^ (min b.toNat k.bits))))
    | op => k = k' ∧ dint op k a b K
  | .c (.p (.s a)), .c (.p (.s b)) => dstr op a b K
  | .c (.p (.f a)), .c (.p (.f b)) => dflt op a b K
  | .c (.p (.b a)), .c (.p (.b b)) =>
    match T.k, op with
    | .bool, .eql => K (.b (a == b))
    | .bool, .neq => K (.b (!(a == b)))
    | _, _ => False
  | .c (.p x), .c (.p .nil) =>
    match T.k, op with
    | .slice _, .eql => nilq x fun b => K (.b b)
    | .slice _, .neq => nilq x fun b => K (.b (!b))
    | _, _ => False
  | _, _ => False

def dun (op : UnOp) (x : DV) (K : PV → Prop) : Prop :=
  match op, x with
  | .not, .c (.p (.b a)) => K (.b (!a))
  | .neg, .c (.p (.i k a)) => K (.i k (k.wrap (0 - a)))
  | .xor, .c (.p (.i k a)) => K (.i k (bits .xor k (if k.signed then -1 else k.max) a))
  | _, _ => False

/-! Memory. -/
def dload (T : TI) (h : DHeap) (a : DV) (K : DV → Prop) : Prop :=
  match a with
  | .c (.ptr id off) =>
    match h[id]? with
    | some (.box cells) =>
      if T.k.agg then off + T.size ≤ cells.length ∧ K (.agg ((cells.drop off).take T.size))
      else match cells[off]? with
        | some c => K (.c c)
        | none => False
    | _ => False
  | .c (.aptr id i j) =>
    match h[id]? with
    | some (.arr k es _) =>
      if T.k.agg then i < es.length ∧ j + T.size ≤ k ∧ K (.agg ((((es.getD i []).drop j).take T.size).map .p))
      else i < es.length ∧ j < k ∧ K (.c (.p ((es.getD i []).getD j .nil)))
    | _ => False
  | .c (.eptr cs) =>
    if T.k.agg then T.size ≤ cs.length ∧ K (.agg ((cs.take T.size).map .p))
    else match cs with
      | c :: _ => K (.c (.p c))
      | [] => False
  | _ => False

def dstore (T : TI) (h : DHeap) (a x : DV) (K : DHeap → Prop) : Prop :=
  match cellsD x with
  | none => False
  | some ys => T.size ≠ 0 ∧ ys.length = T.size ∧
    match a with
    | .c (.ptr id off) =>
      match h[id]? with
      | some (.box cells) => off + ys.length ≤ cells.length ∧ K (h.set id (.box (splice cells off ys)))
      | _ => False
    | .c (.aptr id i j) =>
      match (frzs h (idsOf ys))[id]?, pvs h ys with
      | some (.arr k es false), some xs => i < es.length ∧ j + xs.length ≤ k ∧ K ((frzs h (idsOf ys)).set id (.arr k (es.set i (splice (es.getD i []) j xs)) false))
      | _, _ => False
    | _ => False

def dfield (T : Tab) (s : Nat) (h : DHeap) (x : DV) (f : Nat) (K : DV → Prop) : Prop :=
  match (T s).k with
  | .struct fs =>
    match fs[f]? with
    | some (ft, off) => (T ft).size ≠ 0 ∧
      match x with
      | .c (.ptr id o) =>
        match h[id]? with
        | some (.box _) => K (.c (.ptr id (o + off)))
        | _ => False
      | .c (.aptr id i j) =>
        match h[id]? with
        | some (.arr _ _ _) => K (.c (.aptr id i (j + off)))
        | _ => False
      | .c (.eptr cs) => K (.c (.eptr (cs.drop off)))
      | _ => False
    | none => False
  | _ => False

def dpart (T : TI) (cells : List CV) (off : Nat) (K : DV → Prop) : Prop :=
  T.size ≠ 0 ∧ if T.k.agg then off + T.size ≤ cells.length ∧ K (.agg ((cells.drop off).take T.size))
  else match cells[off]? with
    | some c => K (.c c)
    | none => False

def dindexA (T : Tab) (t : Nat) (h : DHeap) (x i : DV) (K : DV → Prop) : Prop :=
  match (T t).k, x, i with
  | .slice e, .c (.p (.sl k es)), .c (.p (.i _ n)) => (T e).size ≠ 0 ∧ (T e).size = k ∧ 0 ≤ n ∧ n < es.length ∧ K (.c (.eptr (es.getD n.toNat [])))
  | .slice e, .c (.own id off len), .c (.p (.i _ n)) =>
    match h[id]? with
    | some (.arr k _ _) => (T e).size ≠ 0 ∧ (T e).size = k ∧ 0 ≤ n ∧ n < len ∧ K (.c (.aptr id (off + n.toNat) 0))
    | _ => False
  | .array len e, .c (.ptr id off), .c (.p (.i _ n)) =>
    match h[id]? with
    | some (.box _) => (T e).size ≠ 0 ∧ 2 ≤ len ∧ 0 ≤ n ∧ n < len ∧ K (.c (.ptr id (off + n.toNat * (T e).size)))
    | _ => False
  | _, _, _ => False

def dindex (T : Tab) (t : Nat) (x i : DV) (K : DV → Prop) : Prop :=
  match (T t).k, x, i with
  | .str, .c (.p (.s l)), .c (.p (.i _ n)) => 0 ≤ n ∧ n < l.length ∧ K (.c (.p (.i .u8 (l.getD n.toNat 0).toNat)))
  | .array len e, .agg cells, .c (.p (.i _ n)) => (T e).size ≠ 0 ∧ 0 ≤ n ∧ n < len ∧ dpart (T e) cells (n.toNat * (T e).size) K
  | _, _, _ => False

def bnd (t : Fr) (o : Option Operand) (d : Int) (K : Int → Prop) : Prop :=
  match o with
  | none => K d
  | some x => match evD t x with
    | .c (.p (.i _ n)) => K n
    | _ => False

def dslice (T : Tab) (ty : Nat) (h : DHeap) (x : DV) (lo hi : Int → (Int → Prop) → Prop) (K : DV → Prop) : Prop :=
  match (T ty).k, x with
  | .str, .c (.p (.s l)) => lo 0 fun a => hi l.length fun b => 0 ≤ a ∧ a ≤ b ∧ b ≤ l.length ∧ K (.c (.p (.s ((l.take b.toNat).drop a.toNat))))
  | .slice e, .c (.p (.sl k es)) => (T e).size ≠ 0 ∧ (T e).size = k ∧ lo 0 fun a => hi es.length fun b => 0 ≤ a ∧ a ≤ b ∧ b ≤ es.length ∧ K (.c (.p (.sl k ((es.take b.toNat).drop a.toNat))))
  | .slice e, .c (.p .nil) => (T e).size ≠ 0 ∧ lo 0 fun a => hi 0 fun b => 0 ≤ a ∧ a ≤ b ∧ b ≤ 0 ∧ K (.c (.p .nil))
  | .slice e, .c (.own id off len) =>
    match h[id]? with
    | some (.arr k _ _) => (T e).size ≠ 0 ∧ (T e).size = k ∧ lo 0 fun a => hi len fun b => 0 ≤ a ∧ a ≤ b ∧ b ≤ len ∧ K (.c (.own id (off + a.toNat) (b.toNat - a.toNat)))
    | _ => False
  | _, _ => False

def byteOf : List PV → Option UInt8
  | [.i .u8 n] => some (UInt8.ofNat n.toNat)
  | _ => none
def bytesOf : List (List PV) → Option (List UInt8)
  | [] => some []
  | e :: es => match byteOf e, bytesOf es with
    | some b, some l => some (b :: l)
    | _, _ => none
def encB (l : List UInt8) : List (List PV) := l.map fun b => [.i .u8 b.toNat]

/-- The elements that a slice reads as. -/
def elemsOf (h : DHeap) : DV → Option (List (List PV))
  | .c (.p .nil) => some []
  | .c (.p (.sl _ es)) => some es
  | .c (.own id off len) =>
    match h[id]? with
    | some (.arr _ es _) => some ((es.drop off).take len)
    | _ => none
  | _ => none

def dconv (T : Tab) (src dst : Nat) (x : DV) (h : DHeap) (K : DV → DHeap → Prop) : Prop :=
  match (T src).k, (T dst).k, x with
  | .int _, .int k, .c (.p (.i _ n)) => K (.c (.p (.i k (k.wrap n)))) h
  | .str, .str, .c (.p (.s l)) => K (.c (.p (.s l))) h
  | .slice e, .str, x =>
    match (T e).k, elemsOf h x with
    | .int .u8, some es =>
      match bytesOf es with
      | some l => K (.c (.p (.s l))) h
      | none => False
    | _, _ => False
  | .str, .slice e, .c (.p (.s l)) =>
    match (T e).k with
    | .int .u8 => (T e).size = 1 ∧ l.length ≤ 140737488355328 ∧ K (.c (.own h.length 0 l.length)) (h ++ [.arr 1 (encB l) false])
    | _ => False
  | .slice e, .slice _, .c (.own id off len) =>
    match h[id]? with
    | some (.arr _ _ false) => src = dst ∧ (T e).k = .int .u8 ∧ 0 < len ∧ K (.c (.own id off len)) h
    | _ => False
  | _, _, _ => False

/-! Composite values. -/
def dfill (T : Tab) (place : Nat → Option (Nat × Nat)) : List CV → List (Nat × DV) → Option (List CV)
  | cells, [] => some cells
  | cells, (i, d) :: rest =>
    match place i, cellsD d with
    | some (off, size), some ys => if ys.length = size ∧ off + size ≤ cells.length then dfill T place (splice cells off ys) rest else none
    | _, _ => none

def dbuild (T : Tab) (t : Nat) (parts : List (Nat × DV)) (K : DV → Prop) : Prop :=
  match (T t).k with
  | .struct fs => (∀ f ∈ fs, (T f.1).size ≠ 0) ∧
    match dfill T (fun i => (fs[i]?).map fun f => (f.2, (T f.1).size)) ((T t).zero.map .p) parts with
    | some cells => K (.agg cells)
    | none => False
  | .array _ e => (T e).size ≠ 0 ∧
    match dfill T (fun i => some (i * (T e).size, (T e).size)) ((T t).zero.map .p) parts with
    | some cells => K (.agg cells)
    | none => False
  | _ => False

def cellss : List DV → Option (List (List CV))
  | [] => some []
  | d :: ds => match cellsD d, cellss ds with
    | some c, some cs => some (c :: cs)
    | _, _ => none
def pvss (h : DHeap) : List (List CV) → Option (List (List PV))
  | [] => some []
  | c :: cs => match pvs h c, pvss h cs with
    | some x, some xs => some (x :: xs)
    | _, _ => none
def idss : List (List CV) → List Nat
  | [] => []
  | c :: cs => idsOf c ++ idss cs

def dbuildS (T : Tab) (t len : Nat) (parts : List (Nat × DV)) (h : DHeap) (K : DV → DHeap → Prop) : Prop :=
  match (T t).k with
  | .slice e => 0 < (T e).size ∧ (T e).zero.length = (T e).size ∧ len * (T e).size ≤ 16777216 ∧ parts.map (·.1) = List.range len ∧
    match cellss (parts.map (·.2)) with
    | some cs =>
      match pvss h cs with
      | some es => (∀ e' ∈ es, e'.length = (T e).size) ∧ K (.c (.own h.length 0 len)) (frzs h (idss cs) ++ [.arr (T e).size es false])
      | none => False
    | none => False
  | _ => False

/-! Builtins. -/
def dlen (T : TI) (h : DHeap) (x : DV) (K : DV → Prop) : Prop :=
  match T.k, x with
  | .str, .c (.p (.s l)) => K (.c (.p (.i .i64 l.length)))
  | .slice _, .c (.p (.sl _ es)) => K (.c (.p (.i .i64 es.length)))
  | .slice _, .c (.p .nil) => K (.c (.p (.i .i64 0)))
  | .slice _, .c (.own id _ len) =>
    match h[id]? with
    | some (.arr _ _ _) => K (.c (.p (.i .i64 len)))
    | _ => False
  | .array n _, _ => K (.c (.p (.i .i64 n)))
  | _, _ => False

def dappend (T : Tab) (t u : Nat) (dst src : DV) (h : DHeap) (K : DV → DHeap → Prop) : Prop :=
  match (T t).k, (T u).k, elemsOf h src with
  | .slice e, .slice e', some news => e = e' ∧ 0 < (T e).size ∧ (∀ x ∈ news, x.length = (T e).size) ∧
    match dst with
    | .c (.p .nil) => news.length * (T e).bytes ≤ 140737488355328 ∧ news.length ≤ 9223372036854775807 ∧ K (.c (.own h.length 0 news.length)) (h ++ [.arr (T e).size news false])
    | .c (.own id off len) =>
      match h[id]? with
      | some (.arr k es false) => k = (T e).size ∧ off + len = es.length ∧ (len + news.length) * (T e).bytes ≤ 140737488355328 ∧ len + news.length ≤ 9223372036854775807 ∧
        K (.c (.own h.length 0 (len + news.length))) (h.set id .dead ++ [.arr k (es.drop off ++ news) false])
      | _ => False
    | _ => False
  | _, _, _ => False

def dmm (lt : Bool) (xs : List DV) (K : DV → Prop) : Prop :=
  match xs with
  | [.c (.p (.i k a)), .c (.p (.i _ b))] => K (.c (.p (.i k (if lt then (if b < a then b else a) else (if a < b then b else a)))))
  | _ => False

def dmake (T : Tab) (t : Nat) (l c : DV) (h : DHeap) (K : DV → DHeap → Prop) : Prop :=
  match (T t).k, l, c with
  | .slice e, .c (.p (.i .i64 n)), .c (.p (.i .i64 m)) => 0 ≤ n ∧ n ≤ m ∧ m ≤ 9223372036854775807 ∧ m * (T e).bytes ≤ 140737488355328 ∧ 0 < (T e).size ∧ (T e).zero.length = (T e).size ∧
      K (.c (.own h.length 0 n.toNat)) (h ++ [.arr (T e).size (List.replicate n.toNat (T e).zero) false])
  | _, _, _ => False

def capsD : List DV → Option (List KV)
  | [] => some []
  | .c (.p x) :: ds => (capsD ds).map (KV.p x :: ·)
  | .c (.ptr id off) :: ds => (capsD ds).map (KV.ptr id off :: ·)
  | _ => none

/-- What an operation does, as a condition on what comes behind it. -/
def dop (P : Program) (T : Tab) (op : Op) (t : Fr) (h : DHeap) (K : DV → DHeap → Prop) : Prop :=
  match op with
  | .move x => K (evD t x) h
  | .assign x => K (evD t x) h
  | .pick c a b =>
    match evD t c with
    | .c (.p (.b v)) => (v = true → K (evD t a) h) ∧ (v = false → K (evD t b) h)
    | _ => False
  | .alloc ty =>
    match (T ty).k with
    | .no => False
    | _ => K (.c (.ptr h.length 0)) (h ++ [.box ((T ty).zero.map .p)])
  | .box _ x =>
    match cellsD (evD t x) with
    | some ys => K (.c (.ptr h.length 0)) (h ++ [.box ys])
    | none => False
  | .build ty parts => dbuild T ty (parts.toList.map fun p => (p.1, evD t p.2)) fun d => K d h
  | .buildSlice ty len parts => dbuildS T ty len (parts.toList.map fun p => (p.1, evD t p.2)) h K
  | .load ty a => (T ty).size ≠ 0 ∧ dload (T ty) h (evD t a) fun d => K d h
  | .store ty a x => dstore (T ty) h (evD t a) (evD t x) fun h' => K (.tup []) h'
  | .nilCheck x =>
    match evD t x with
    | .c (.ptr id off) =>
      match h[id]? with
      | some (.box _) => K (.c (.ptr id off)) h
      | _ => False
    | .c (.eptr cs) => K (.c (.eptr cs)) h
    | .c (.clo f cap) => K (.c (.clo f cap)) h
    | _ => False
  | .binOp o ty x y _ => dbin o (T ty) (evD t x) (evD t y) fun d => K (.c (.p d)) h
  | .unOp o _ x => dun o (evD t x) fun d => K (.c (.p d)) h
  | .convert src dst x => dconv T src dst (evD t x) h K
  | .slice ty x lo hi none => dslice T ty h (evD t x) (bnd t lo) (bnd t hi) fun d => K d h
  | .fieldAddr s x f => dfield T s h (evD t x) f fun d => K d h
  | .field ty x f =>
    match (T ty).k, evD t x with
    | .struct fs, .agg cells =>
      match fs[f]? with
      | some (ft, off) => dpart (T ft) cells off fun d => K d h
      | none => False
    | _, _ => False
  | .indexAddr ty x i => dindexA T ty h (evD t x) (evD t i) fun d => K d h
  | .index ty x i => dindex T ty (evD t x) (evD t i) fun d => K d h
  | .extract x n =>
    match evD t x with
    | .tup xs =>
      match xs[n]? with
      | some e => K e.toDV h
      | none => False
    | _ => False
  | .makeFunc (.func f) first captured =>
    match first.toList, capsD (captured.toList.map (evD t)) with
    | [], some cap => K (.c (.clo f cap)) h
    | _, _ => False
  | .makeSlice ty l c => dmake T ty (evD t l) (evD t c) h K
  | .call c =>
    match c.callee with
    | .value f =>
      match evD t f with
      | .c (.clo g cap) => DCalls P g (c.args.toList.map (evD t) ++ cap.map KV.toDV) h K
      | _ => False
    | .builtin .len =>
      match c.argTypes.toList, c.args.toList with
      | ty :: _, [x] => dlen (T ty) h (evD t x) fun d => K d h
      | _, _ => False
    | .builtin .append =>
      match c.argTypes.toList, c.args.toList with
      | [ty, tu], [x, y] => dappend T ty tu (evD t x) (evD t y) h K
      | _, _ => False
    | .builtin .min => dmm true (c.args.toList.map (evD t)) fun d => K d h
    | .builtin .max => dmm false (c.args.toList.map (evD t)) fun d => K d h
    | _ => False
  | _ => False

/-- What is known within a call: how many slots its frame has, the frame, the memory. -/
structure DS where
  n : Nat
  t : Fr
  h : DHeap

def DS.put (s : DS) (o : Option Tmp) (d : DV) (h' : DHeap) : DS :=
  match o with
  | some i => if i < s.n then ⟨s.n, (i, d) :: s.t, h'⟩ else ⟨s.n, s.t, h'⟩
  | none => ⟨s.n, s.t, h'⟩

/-- A region, operation by operation. -/
def dops (P : Program) (T : Tab) (ops : Array Oper) : List Oper → DS → (DS → Prop) → Prop
  | [], s, K => K s
  | o :: rest, s, K =>
    match o.guard with
    | none => dop P T o.op s.t s.h fun d h' => dops P T ops rest (s.put o.dst d h') K
    | some (j, want) =>
      match ((ops[j]?).bind (·.dst)).map (fun i => look s.t i) with
      | some (.c (.p (.b v))) =>
        (v = want → dop P T o.op s.t s.h fun d h' => dops P T ops rest (s.put o.dst d h') K) ∧ (v ≠ want → dops P T ops rest (s.put o.dst (.tup []) s.h) K)
      | some (.tup []) => dops P T ops rest (s.put o.dst (.tup []) s.h) K
      | _ => False

end Go.Dm
