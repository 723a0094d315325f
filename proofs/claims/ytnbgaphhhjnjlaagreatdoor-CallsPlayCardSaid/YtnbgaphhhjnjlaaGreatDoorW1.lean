import Derived.Test.YtnbgaphhhjnjlaaGreatDoorE1
import Derived.Test.YtnbgaphhhjnjlaaGreatDoorShelf5
import Derived.Test.YtnbgaphhhjnjlaaGreatDoorCA
import Derived.Test.YtnbgaphhhjnjlaaGreatDoorBB
import Derived.Test.YtnbgaphhhjnjlaaGreatDoorF1
import Derived.Test.YtnbgaphhhjnjlaaGreatDoorD11
import Derived.Test.YtnbgaphhhjnjlaaGreatDoorVN
import Derived.Test.YtnbgaphhhjnjlaaGreatDoorVE
import Derived.Test.YtnbgaphhhjnjlaaGreatDoorCD

section
/-
  Contracts of the library and of the program's paths: rows joined, a path split, a name joined.
-/

set_option linter.unusedSimpArgs false
set_option linter.unusedVariables false
namespace Go.Proofs.YtnbgaphhhjnjlaaGreatDoor
open Go Go.Dm Go.Proofs
set_option maxRecDepth 100000
set_option maxHeartbeats 4000000

theorem growStr_c {h : DHeap} {n : Nat} (hn : n ≤ 1000000000) :
    DCalls Tryz.prog 146 [.c (.p .nil), .c (.p (.i .i64 n))] h fun d h' => d = .c (.own h.length 0 0) ∧ h' = h ++ [.arr 1 [] false] := by
  have := dcalls_grow (n := n) (h := h) (e := 9) tabOK (by rw [tab9]; exact fun h => by cases h) (by rw [tab9]; decide) (enters Tryz.func146 rfl rfl)
    (fun w => Any8.slices_Grow_room Tryz.growStr none 0 0 0 w (Nat.le_refl _) (by decide) (by decide) (Nat.le_refl _))
    (fun i0 z n w h1 h2 h3 h4 h5 h6 => by
      have := Any8.slices_Grow_grow Tryz.growStr i0 z h1 h2 h3 none 0 0 n [] w (Nat.le_refl _) (by omega) (by simpa using h5) (by simpa using h6) (by simp) (fun _ => rfl) (fun a ha => by cases ha)
      simp only [Nat.zero_add, Nat.sub_zero] at this
      exact this)
    (by rw [tab9]; simp only; omega) (by omega)
  rw [tab9] at this
  exact this

theorem growByte_c {h : DHeap} {n : Nat} (hn : n ≤ 1000000000) :
    DCalls Tryz.prog 133 [.c (.p .nil), .c (.p (.i .i64 n))] h fun d h' => d = .c (.own h.length 0 0) ∧ h' = h ++ [.arr 1 [] false] := by
  have := dcalls_grow (n := n) (h := h) (e := 5) tabOK (by rw [tab5]; exact fun h => by cases h) (by rw [tab5]; decide) (enters Tryz.func133 rfl rfl)
    (fun w => Any8.slices_Grow_room Tryz.growByte none 0 0 0 w (Nat.le_refl _) (by decide) (by decide) (Nat.le_refl _))
    (fun i0 z n w h1 h2 h3 h4 h5 h6 => by
      have := Any8.slices_Grow_grow Tryz.growByte i0 z h1 h2 h3 none 0 0 n [] w (Nat.le_refl _) (by omega) (by simpa using h5) (by simpa using h6) (by simp) (fun _ => rfl) (fun a ha => by cases ha)
      simp only [Nat.zero_add, Nat.sub_zero] at this
      exact this)
    (by rw [tab5]; simp only; omega) (by omega)
  rw [tab5] at this
  exact this

theorem growStr_k {h : DHeap} {n : Nat} {K : DV → DHeap → Prop} (hn : n ≤ 1000000000) (hk : K (.c (.own h.length 0 0)) (h ++ [.arr 1 [] false])) :
    DCalls Tryz.prog 146 [.c (.p .nil), .c (.p (.i .i64 n))] h K := (growStr_c hn).mono (by rintro _ _ ⟨rfl, rfl⟩; exact hk)

theorem growByte_k {h : DHeap} {n : Nat} {K : DV → DHeap → Prop} (hn : n ≤ 1000000000) (hk : K (.c (.own h.length 0 0)) (h ++ [.arr 1 [] false])) :
    DCalls Tryz.prog 133 [.c (.p .nil), .c (.p (.i .i64 n))] h K := (growByte_c hn).mono (by rintro _ _ ⟨rfl, rfl⟩; exact hk)

theorem concatS_c {a b : List (List UInt8)} (ha : a.length ≤ 100000) (hb : b.length ≤ 100000) :
    DCalls Tryz.prog 124 [.c (.p (.sl 1 [[.sl 1 (Go.Dm.encS a)], [.sl 1 (Go.Dm.encS b)]]))] [] fun r h => r = .c (.p (.sl 1 (Go.Dm.encS (a ++ b)))) ∧ h = [] := by
  have w1 : IntKind.i64.wrap ((a.length : Int)) = a.length := wrap_i64 (by omega) (by omega)
  have w2 : IntKind.i64.wrap ((a.length : Int) + b.length) = ((a.length + b.length : Nat) : Int) := by rw [wrap_i64 (by omega) (by omega)]; omega
  have h1 : decide ((a.length : Int) < 0) = false := decide_eq_false (by omega)
  have h2 : decide (((a.length + b.length : Nat) : Int) < 0) = false := decide_eq_false (by omega)
  refine ent tabOK hmix Tryz.func124 rfl rfl fun X0 hX => ?_
  simp only [Tryz.f124, go_sem]
  repeat' (first | simp only [*, go_sem, Nat.reduceLT, Nat.reduceLeDiff, Nat.reduceEqDiff, ↓reduceIte, Nat.reduceAdd, Int.reduceLT, Int.reduceLE, Int.reduceAdd, Int.reduceNeg, Int.reduceToNat, Int.zero_add] | refine loop_rounds tabOK hmix 3 ?_ | refine growStr_k (n := a.length + b.length) (by omega) ?_ | ((with_reducible refine And.intro ?_ ?_); (focus (omega))))
  all_goals rw [List.take_of_length_le (by simp)]

theorem nameJoin_c {d s : List UInt8} (hd : d.length ≤ 1000000) (hs : s.length ≤ 1000000) : DCalls Tryz.prog 97 [.c (.p (.s d)), .c (.p (.s s))] [] fun r h => r = .c (.p (.s (joinF d s))) ∧ h = [] := by
  unfold joinF
  refine ent tabOK hmix Tryz.func97 rfl rfl fun X0 hX => ?_
  simp only [Tryz.f97, go_sem]
  repeat' (first | simp only [*, go_sem, Nat.reduceLT, Nat.reduceLeDiff, Nat.reduceEqDiff, ↓reduceIte, ] | with_reducible refine vcond_split (fun _ => ?_) (fun _ => ?_) | ((with_reducible refine And.intro ?_ ?_); (focus (omega))))
  all_goals simp_all

theorem zero_all (s : List UInt8) : (s.all fun b => !(b == 0)) = s.all fun b => !((b.toNat : Int) == 0) := by
  congr 1; funext b
  congr 1
  rw [Bool.eq_iff_iff, beq_iff_eq, beq_iff_eq]
  constructor
  · rintro rfl; rfl
  · intro h; exact UInt8.toNat_inj.1 (by have : (0 : UInt8).toNat = 0 := rfl; omega)

theorem nameSplit_c {s : List UInt8} (hs : s.length ≤ 9223372036854775807) : DCalls Tryz.prog 61 [.c (.p (.s s))] [] fun r h => r = .tup [.c (.p (.sl 1 (Go.Dm.encS (splitF s).1))), .c (.p (.i .i64 (splitF s).2))] ∧ h = [] := by
  have e0 : decide (0 ≤ Lib.indexByte s (Nat.toUInt8 0)) = !(s.all fun b => !((b.toNat : Int) == 0)) := by
    have := indexByte_none 0 s
    rw [← zero_all, ← this, ← decide_not]
    exact decide_eq_decide.2 (by rw [Int.not_lt]; exact Iff.rfl)
  refine dcalls_wk ?_
  unfold splitF
  cases q0 : decide ((120 : Int) < s.length)
  · rw [if_neg (by decide)]
    have q0' : ¬ (120 : Int) < s.length := of_decide_eq_false q0
    generalize (s.all fun b => !((b.toNat : Int) == 0)) = q1 at e0 ⊢
    cases q1
    ·
      rw [if_pos (by rfl)]
      refine ent tabOK hmix Tryz.func61 rfl rfl fun X0 hX => ?_
      simp only [Tryz.f61, go_sem]
      repeat' (first | simp only [*, go_sem, Nat.reduceLT, Nat.reduceEqDiff, ↓reduceIte, Int.reduceToNat, ] | ((with_reducible refine useF (indexByte_c (by omega)) ?_ ?_ ?_); (focus exact rfl); (focus exact rfl)))
      all_goals exact .inr ⟨_, rfl⟩
    · rw [if_neg (by decide)]
      have hcl : (cutR s).length ≤ s.length + 1 := cutL_len s []
      have hsp := split_c (a := s) (by omega)
      generalize cutR s = P at hcl hsp ⊢
      refine ent tabOK hmix Tryz.func61 rfl rfl fun X0 hX => ?_
      simp only [Tryz.f61, go_sem]
      repeat' (first | simp only [*, go_sem, Nat.reduceLT, Nat.reduceEqDiff, ↓reduceIte, Int.reduceToNat, ] | ((with_reducible refine useF (indexByte_c (by omega)) ?_ ?_ ?_); (focus exact rfl); (focus exact rfl)) | ((with_reducible refine useN (hsp) ?_ ?_ ?_); (focus exact rfl); (focus exact fun _ => rfl)))
      clear hsp e0
      refine vc_virt tabOK hmix 4 1 rfl ?_
      refine loop_ren tabOK hmix (α := Nat × List (List UInt8)) (fun x => ⟨33, [(16, .c (.p (.sl 1 (Go.Dm.encS P)))), (17, .c (.p (.i .i64 P.length))), (18, .c (.p (.i .i64 x.1))), (4, .c (.own 0 0 x.2.length))], [.arr 1 (Go.Dm.encS x.2) false]⟩)
        (fun x => x.1 ≤ P.length ∧ ((P.take x.1).all fun y => !decide ((24 : Int) < y.length)) = true ∧ ((P.take x.1).filter fun y => !(y == [])) = x.2) (fun x => P.length - x.1) (0, []) ⟨Nat.zero_le _, rfl, rfl⟩ (.inl (weak_mk (by rw [hX]; rfl) rfl rfl (by simp [wk_cons, wk_nil, look_cons, closedD, closedC, encS_nil]))) ?_
      rintro ⟨k, out⟩ ⟨hk, hal, hfo⟩
      simp only at hk hal hfo
      have hol : out.length ≤ k := by rw [← hfo]; exact Nat.le_trans (List.length_filter_le ..) (List.length_take_le ..)
      by_cases hlt : k < P.length
      · have hx : P[k]? = some P[k] := List.getElem?_eq_getElem hlt
        have hg := encS_at hx
        have h1 : decide ((k : Int) < (P.length : Int)) = true := decide_eq_true (by omega)
        have h2 : (k : Int) < (P.length : Int) := by omega
        have w1 : IntKind.i64.wrap ((k : Int) + 1) = k + 1 := wrap_i64 (by omega) (by omega)
        have htk := List.take_add_one (l := P) (i := k)
        have hmem : P[k] ∈ P := List.getElem_mem hlt
        rw [hx] at htk
        generalize P[k] = x at hx hg htk hmem
        repeat' (first | simp only [*, go_sem, Nat.reduceLT, Nat.reduceLeDiff, Nat.reduceEqDiff, ↓reduceIte, Nat.reduceAdd, Nat.reduceBEq, ] | with_reducible refine vcond_split (fun _ => ?_) (fun _ => ?_) | ((with_reducible refine And.intro ?_ ?_); (focus (first | omega | decide))))
        · rename_i hb
          have : (P.all fun y => !decide ((24 : Int) < y.length)) = false := by
            rw [List.all_eq_false]
            exact ⟨x, hmem, by rw [hb]; decide⟩
          rw [this]
          exact ⟨.inr ⟨_, rfl⟩, rfl⟩
        · rename_i hb hn
          have hn' : x ≠ [] := by simpa using hn
          exact qr_ren (k + 1, out ++ [x]) 0 2 ⟨by omega, by rw [htk]; simp [hal, hb], by rw [htk, List.filter_append, hfo]; simp [hn']⟩ (by simp only; omega) rfl rfl (weak_mk rfl rfl rfl (by simp [wk_cons, wk_nil, look_cons, closedD, closedC, renT, renD, renC, ]))
        · rename_i hb hn
          have hn' : x = [] := by simpa using hn
          exact qr_n (k + 1, out) ⟨by omega, by rw [htk]; simp [hal, hb], by rw [htk, List.filter_append, hfo]; simp [hn']⟩ (by simp only; omega) (weak_mk rfl rfl rfl (by simp [wk_cons, wk_nil, look_cons, closedD, closedC, ]))
      · have h1 : decide ((k : Int) < (P.length : Int)) = false := decide_eq_false (by omega)
        rw [List.take_of_length_le (by omega)] at hal hfo
        rw [hal, if_pos rfl, hfo]
        repeat' (simp only [*, go_sem, Nat.reduceLT, Nat.reduceEqDiff, ↓reduceIte, ])
        all_goals first | exact .inl rfl | rw [List.take_of_length_le (by omega)]
  · rw [if_pos (by rfl)]
    refine ent tabOK hmix Tryz.func61 rfl rfl fun X0 hX => ?_
    simp only [Tryz.f61, go_sem]
    repeat' (simp only [*, go_sem, Nat.reduceLT, Nat.reduceEqDiff, ↓reduceIte, ])
    all_goals exact .inr ⟨_, rfl⟩
end Go.Proofs.YtnbgaphhhjnjlaaGreatDoor

end

section
/-
  Contracts of the program's paths with links: through a link, down by a name, a path walked.
-/

set_option linter.unusedSimpArgs false
set_option linter.unusedVariables false
namespace Go.Proofs.YtnbgaphhhjnjlaaGreatDoor
open Go Go.Dm Go.Proofs
set_option maxRecDepth 100000
set_option maxHeartbeats 8000000

abbrev wbox (t : List It) (c : List UInt8) (ps : List (List UInt8)) (hops : Nat) : DB := .box [.p (.sl 5 (encT t)), .p (.s c), .p (.sl 1 (Go.Dm.encS ps)), .p (.i .i64 hops)]

theorem through_c {t : List It} {c : List UInt8} {ps : List (List UInt8)} {hops : Nat} {d : List UInt8} (hd : d.length ≤ 1000000) (hps : ps.length ≤ 50000) (hh : hops ≤ 1000) :
    DCalls Tryz.prog 98 [.c (.ptr 0 0), .c (.p (.sl 1 (encB d)))] [wbox t c ps hops] fun r h => r = .c (.p (.i .i64 (thrE d hops))) ∧ h = [wbox t (thrC d hops c) (thrP d hops ps) (hops + 1)] := by
  have w1 : IntKind.i64.wrap ((hops : Int) + 1) = ((hops + 1 : Nat) : Int) := by rw [wrap_i64 (by omega) (by omega)]; omega
  have hsp := nameSplit_c (s := d) (by omega)
  have hle := splitF_len (s := d)
  unfold thrE thrC thrP
  cases q0 : decide (8 ≤ hops)
  · have h1 : decide ((8 : Int) < ((hops + 1 : Nat) : Int)) = false := decide_eq_false (by simp at q0; omega)
    generalize splitF d = S at hsp hle ⊢
    obtain ⟨more, e⟩ := S
    simp only at hsp hle ⊢
    cases q1 : (e == 0)
    · have q2 : (e != 0) = true := by rw [bne, q1]; rfl
      refine ent tabOK hmix Tryz.func98 rfl rfl fun X0 hX => ?_
      simp only [Tryz.f98, go_sem]
      repeat' (first | simp only [*, go_sem, Nat.reduceLT, Nat.reduceLeDiff, Nat.reduceEqDiff, ↓reduceIte, Nat.reduceAdd, ] | ((with_reducible refine useN (hsp) ?_ ?_ ?_); (focus exact rfl); (focus exact fun _ => rfl)))
    · have he : e = 0 := eq_of_beq q1
      subst he
      have hcc := concatS_c (a := more) (b := ps) (by omega) (by omega)
      cases d with
      | nil =>
        refine ent tabOK hmix Tryz.func98 rfl rfl fun X0 hX => ?_
        simp only [Tryz.f98, go_sem]
        repeat' (first | simp only [*, go_sem, Nat.reduceLT, Nat.reduceLeDiff, Nat.reduceEqDiff, ↓reduceIte, Nat.reduceAdd, Int.reduceLT, bne_self_eq_false, bytesOf_nil] | ((with_reducible refine useN (hsp) ?_ ?_ ?_); (focus exact rfl); (focus exact fun _ => rfl)) | ((with_reducible refine useN (hcc) ?_ ?_ ?_); (focus exact rfl); (focus exact fun _ => rfl)) | ((with_reducible apply DCalls.frz); (focus exact rfl); (focus exact rfl)) | ((with_reducible refine And.intro ?_ ?_); (focus (decide))))
        all_goals rfl
      | cons b d =>
        have hg : (encB (b :: d)).getD 0 [] = [.i .u8 b.toNat] := rfl
        have h2 : decide ((0 : Int) < ((d.length + 1 : Nat) : Int)) = true := decide_eq_true (by omega)
        have h3 : (0 : Int) < ((d.length + 1 : Nat) : Int) := by omega
        cases hb : ((b.toNat : Int) == 47)
        ·
          refine ent tabOK hmix Tryz.func98 rfl rfl fun X0 hX => ?_
          simp only [Tryz.f98, go_sem]
          repeat' (first | simp only [*, go_sem, Nat.reduceLT, Nat.reduceLeDiff, Nat.reduceEqDiff, ↓reduceIte, Nat.reduceAdd, Int.reduceLE, Int.reduceToNat, bne_self_eq_false] | ((with_reducible refine useN (hsp) ?_ ?_ ?_); (focus exact rfl); (focus exact fun _ => rfl)) | ((with_reducible refine useN (hcc) ?_ ?_ ?_); (focus exact rfl); (focus exact fun _ => rfl)) | ((with_reducible apply DCalls.frz); (focus exact rfl); (focus exact rfl)) | ((with_reducible refine And.intro ?_ ?_); (focus (decide))))
          all_goals (simp only [slashed, hb]; rfl)
        ·
          refine ent tabOK hmix Tryz.func98 rfl rfl fun X0 hX => ?_
          simp only [Tryz.f98, go_sem]
          repeat' (first | simp only [*, go_sem, Nat.reduceLT, Nat.reduceLeDiff, Nat.reduceEqDiff, ↓reduceIte, Nat.reduceAdd, Int.reduceLE, Int.reduceToNat, bne_self_eq_false] | ((with_reducible refine useN (hsp) ?_ ?_ ?_); (focus exact rfl); (focus exact fun _ => rfl)) | ((with_reducible refine useN (hcc) ?_ ?_ ?_); (focus exact rfl); (focus exact fun _ => rfl)) | ((with_reducible apply DCalls.frz); (focus exact rfl); (focus exact rfl)) | ((with_reducible refine And.intro ?_ ?_); (focus (decide))))
          all_goals (simp only [slashed, hb]; rfl)
  · have h1 : decide ((8 : Int) < ((hops + 1 : Nat) : Int)) = true := decide_eq_true (by simp at q0; omega)
    refine ent tabOK hmix Tryz.func98 rfl rfl fun X0 hX => ?_
    simp only [Tryz.f98, go_sem]
    repeat' (simp only [*, go_sem, Nat.reduceLT, Nat.reduceLeDiff, Nat.reduceEqDiff, ↓reduceIte, Nat.reduceAdd, ])

theorem down_c {t : List It} {c s : List UInt8} {ps : List (List UInt8)} {hops : Nat} {fo : Bool} (h : OkT t) (hc : c.length ≤ 1000) (hs : s.length ≤ 1000) (hps : ps.length ≤ 50000) (hh : hops ≤ 1000) :
    DCalls Tryz.prog 62 [.c (.ptr 0 0), .c (.p (.s s)), .c (.p (.b fo))] [wbox t c ps hops] fun r h =>
      r = .tup [.c (.p (.b (downV t fo c s ps hops).1.1)), .c (.p (.i .i64 (downV t fo c s ps hops).1.2))] ∧ h = [wbox t (downV t fo c s ps hops).2.1 (downV t fo c s ps hops).2.2.1 (downV t fo c s ps hops).2.2.2] := by
  have hj := nameJoin_c (d := c) (s := s) (by omega) (by omega)
  have htl := h.len
  have hdir := treeIsDir_c (t := t) (p := c) (by omega) h.srt
  have hget := treeGet_c (t := t) (p := joinF c s) (by omega) h.srt h.ne fun x hx => Nat.le_trans (h.dlen x hx) (by decide)
  have hgl := h.getd (joinF c s)
  have hnil : (ps == []) = true ∨ (ps == []) = false := by cases (ps == []) <;> simp
  have hpd : decide ((0 : Int) < (ps.length : Int)) = !(ps == []) := by
    cases ps with
    | nil => rfl
    | cons p l => exact decide_eq_true (by simp only [List.length_cons]; omega)
  unfold downV
  have hjl : (joinF c s).length ≤ 2001 := by
    unfold joinF
    split
    · omega
    · simp only [List.length_append, List.length_cons]; omega
  generalize joinF c s = q at hj hget hgl hjl ⊢
  generalize (ps == []) = pz at hnil hpd ⊢
  cases q0 : isDirR t c
  · rw [q0] at hdir
    refine ent tabOK hmix Tryz.func62 rfl rfl fun X0 hX => ?_
    simp only [Tryz.f62, go_sem]
    repeat' (first | simp only [*, go_sem, Nat.reduceLT, Nat.reduceEqDiff, ↓reduceIte, Nat.reduceAdd, ] | ((with_reducible refine useF (hj) ?_ ?_ ?_); (focus exact rfl); (focus exact rfl)) | ((refine vc_drawn (id := 2) tabOK hmix [] [0,1,2,3,4,5,6,7,8,9,10] (by decide +kernel) ?_); (repeat' (first | (refine ds_nil ?_) | ((refine ds_one ?_ rfl rfl ?_ ?_); (rotate_left 1); (focus ((repeat' (first | simp only [*, go_sem, Nat.reduceLT, Nat.reduceEqDiff, ↓reduceIte, Bool.not_false] | ((with_reducible refine useF (hdir) ?_ ?_ ?_); (focus exact rfl); (focus exact rfl)))); exact rfl)); (simp only [putF_some]))))))
  · rw [q0] at hdir
    cases q1 : decide ((120 : Int) < (q.length : Int))
    · cases hg : getR t q with
      | none =>
        rw [hg] at hget
        simp only [Option.getD_none, Option.isSome_none, nd0] at hget
        cases pz
        ·
          refine ent tabOK hmix Tryz.func62 rfl rfl fun X0 hX => ?_
          simp only [Tryz.f62, go_sem]
          repeat' (first | simp only [*, go_sem, Nat.reduceLT, Nat.reduceLeDiff, Nat.reduceEqDiff, ↓reduceIte, Nat.reduceAdd, Bool.not_false] | ((with_reducible refine useF (hj) ?_ ?_ ?_); (focus exact rfl); (focus exact rfl)) | ((refine vc_drawn (id := 2) tabOK hmix [] [0,1,2,3,4,5,6,7,8,9,10] (by decide +kernel) ?_); (repeat' (first | (refine ds_nil ?_) | ((refine ds_one ?_ rfl rfl ?_ ?_); (rotate_left 1); (focus ((repeat' (first | simp only [*, go_sem, Nat.reduceLT, Nat.reduceEqDiff, ↓reduceIte, Bool.not_true] | ((with_reducible refine useF (hdir) ?_ ?_ ?_); (focus exact rfl); (focus exact rfl)))); exact rfl)); (simp only [putF_some]))))) | ((with_reducible refine useN (hget) ?_ ?_ ?_); (focus exact rfl); (focus exact fun _ => rfl)))
        ·
          refine ent tabOK hmix Tryz.func62 rfl rfl fun X0 hX => ?_
          simp only [Tryz.f62, go_sem]
          repeat' (first | simp only [*, go_sem, Nat.reduceLT, Nat.reduceLeDiff, Nat.reduceEqDiff, ↓reduceIte, Nat.reduceAdd, Bool.not_false, Bool.not_true] | ((with_reducible refine useF (hj) ?_ ?_ ?_); (focus exact rfl); (focus exact rfl)) | ((refine vc_drawn (id := 2) tabOK hmix [] [0,1,2,3,4,5,6,7,8,9,10] (by decide +kernel) ?_); (repeat' (first | (refine ds_nil ?_) | ((refine ds_one ?_ rfl rfl ?_ ?_); (rotate_left 1); (focus ((repeat' (first | simp only [*, go_sem, Nat.reduceLT, Nat.reduceEqDiff, ↓reduceIte, Bool.not_true] | ((with_reducible refine useF (hdir) ?_ ?_ ?_); (focus exact rfl); (focus exact rfl)))); exact rfl)); (simp only [putF_some]))))) | ((with_reducible refine useN (hget) ?_ ?_ ?_); (focus exact rfl); (focus exact fun _ => rfl)))
      | some n =>
        rw [hg] at hget hgl
        simp only [Option.getD_some, Option.isSome_some] at hget hgl
        have hth := through_c (t := t) (c := c) (ps := ps) (hops := hops) (d := n.d) (by omega) hps hh
        obtain ⟨k, m, tt, d⟩ := n
        cases hk : (k == 3)
        ·
          refine ent tabOK hmix Tryz.func62 rfl rfl fun X0 hX => ?_
          simp only [Tryz.f62, go_sem]
          repeat' (first | simp only [*, go_sem, Nat.reduceLT, Nat.reduceLeDiff, Nat.reduceEqDiff, ↓reduceIte, Nat.reduceAdd, Bool.not_true] | ((with_reducible refine useF (hj) ?_ ?_ ?_); (focus exact rfl); (focus exact rfl)) | ((refine vc_drawn (id := 2) tabOK hmix [] [0,1,2,3,4,5,6,7,8,9,10] (by decide +kernel) ?_); (repeat' (first | (refine ds_nil ?_) | ((refine ds_one ?_ rfl rfl ?_ ?_); (rotate_left 1); (focus ((repeat' (first | simp only [*, go_sem, Nat.reduceLT, Nat.reduceEqDiff, ↓reduceIte, Bool.not_true] | ((with_reducible refine useF (hdir) ?_ ?_ ?_); (focus exact rfl); (focus exact rfl)))); exact rfl)); (simp only [putF_some]))))) | ((with_reducible refine useN (hget) ?_ ?_ ?_); (focus exact rfl); (focus exact fun _ => rfl)))
        · cases pz
          ·
            refine ent tabOK hmix Tryz.func62 rfl rfl fun X0 hX => ?_
            simp only [Tryz.f62, go_sem]
            repeat' (first | simp only [*, go_sem, Nat.reduceLT, Nat.reduceLeDiff, Nat.reduceEqDiff, ↓reduceIte, Nat.reduceAdd, Bool.not_false, Bool.not_true] | ((with_reducible refine useF (hj) ?_ ?_ ?_); (focus exact rfl); (focus exact rfl)) | ((refine vc_drawn (id := 2) tabOK hmix [] [0,1,2,3,4,5,6,7,8,9,10] (by decide +kernel) ?_); (repeat' (first | (refine ds_nil ?_) | ((refine ds_one ?_ rfl rfl ?_ ?_); (rotate_left 1); (focus ((repeat' (first | simp only [*, go_sem, Nat.reduceLT, Nat.reduceEqDiff, ↓reduceIte, Bool.not_true] | ((with_reducible refine useF (hdir) ?_ ?_ ?_); (focus exact rfl); (focus exact rfl)))); exact rfl)); (simp only [putF_some]))))) | ((with_reducible refine useN (hget) ?_ ?_ ?_); (focus exact rfl); (focus exact fun _ => rfl)) | ((with_reducible refine useB1 (hth) ?_ ?_ ?_); (focus exact rfl); (focus exact rfl)))
          · cases fo
            ·
              refine ent tabOK hmix Tryz.func62 rfl rfl fun X0 hX => ?_
              simp only [Tryz.f62, go_sem]
              repeat' (first | simp only [*, go_sem, Nat.reduceLT, Nat.reduceLeDiff, Nat.reduceEqDiff, ↓reduceIte, Nat.reduceAdd, Bool.not_true] | ((with_reducible refine useF (hj) ?_ ?_ ?_); (focus exact rfl); (focus exact rfl)) | ((refine vc_drawn (id := 2) tabOK hmix [] [0,1,2,3,4,5,6,7,8,9,10] (by decide +kernel) ?_); (repeat' (first | (refine ds_nil ?_) | ((refine ds_one ?_ rfl rfl ?_ ?_); (rotate_left 1); (focus ((repeat' (first | simp only [*, go_sem, Nat.reduceLT, Nat.reduceEqDiff, ↓reduceIte, Bool.not_true] | ((with_reducible refine useF (hdir) ?_ ?_ ?_); (focus exact rfl); (focus exact rfl)))); exact rfl)); (simp only [putF_some]))))) | ((with_reducible refine useN (hget) ?_ ?_ ?_); (focus exact rfl); (focus exact fun _ => rfl)))
            ·
              refine ent tabOK hmix Tryz.func62 rfl rfl fun X0 hX => ?_
              simp only [Tryz.f62, go_sem]
              repeat' (first | simp only [*, go_sem, Nat.reduceLT, Nat.reduceLeDiff, Nat.reduceEqDiff, ↓reduceIte, Nat.reduceAdd, Bool.not_true] | ((with_reducible refine useF (hj) ?_ ?_ ?_); (focus exact rfl); (focus exact rfl)) | ((refine vc_drawn (id := 2) tabOK hmix [] [0,1,2,3,4,5,6,7,8,9,10] (by decide +kernel) ?_); (repeat' (first | (refine ds_nil ?_) | ((refine ds_one ?_ rfl rfl ?_ ?_); (rotate_left 1); (focus ((repeat' (first | simp only [*, go_sem, Nat.reduceLT, Nat.reduceEqDiff, ↓reduceIte, Bool.not_true] | ((with_reducible refine useF (hdir) ?_ ?_ ?_); (focus exact rfl); (focus exact rfl)))); exact rfl)); (simp only [putF_some]))))) | ((with_reducible refine useN (hget) ?_ ?_ ?_); (focus exact rfl); (focus exact fun _ => rfl)) | ((with_reducible refine useB1 (hth) ?_ ?_ ?_); (focus exact rfl); (focus exact rfl)))
    ·
      refine ent tabOK hmix Tryz.func62 rfl rfl fun X0 hX => ?_
      simp only [Tryz.f62, go_sem]
      repeat' (first | simp only [*, go_sem, Nat.reduceLT, Nat.reduceEqDiff, ↓reduceIte, Nat.reduceAdd, ] | ((with_reducible refine useF (hj) ?_ ?_ ?_); (focus exact rfl); (focus exact rfl)) | ((refine vc_drawn (id := 2) tabOK hmix [] [0,1,2,3,4,5,6,7,8,9,10] (by decide +kernel) ?_); (repeat' (first | (refine ds_nil ?_) | ((refine ds_one ?_ rfl rfl ?_ ?_); (rotate_left 1); (focus ((repeat' (first | simp only [*, go_sem, Nat.reduceLT, Nat.reduceEqDiff, ↓reduceIte, Bool.not_true] | ((with_reducible refine useF (hdir) ?_ ?_ ?_); (focus exact rfl); (focus exact rfl)))); exact rfl)); (simp only [putF_some]))))))

theorem walk_c {t : List It} {s : List UInt8} {fo : Bool} (h : OkT t) (hs : s.length ≤ 9223372036854775807) :
    DCalls Tryz.prog 32 [.c (.p (.sl 5 (encT t))), .c (.p (.s s)), .c (.p (.b fo))] [] fun r h => r = .tup [.c (.p (.s (walkF t s fo).1)), .c (.p (.b (walkF t s fo).2.1)), .c (.p (.i .i64 (walkF t s fo).2.2))] ∧ h = [] := by
  have hsp := nameSplit_c (s := s) hs
  have hle := splitF_len (s := s)
  have hme := splitF_mem (s := s)
  unfold walkF
  generalize splitF s = S at hsp hle hme ⊢
  obtain ⟨P, e⟩ := S
  simp only at hsp hle hme ⊢
  generalize hW : (if (e == 0) = true then walkW t fo 1400 [] P 0 else ([], false, e)) = W
  refine ent tabOK hmix Tryz.func32 rfl rfl fun X0 hX => ?_
  simp only [Tryz.f32, go_sem]
  repeat' (first | simp only [*, go_sem, Nat.reduceLT, Nat.reduceLeDiff, Nat.reduceEqDiff, ↓reduceIte, Nat.reduceAdd, ] | ((with_reducible refine useN (hsp) ?_ ?_ ?_); (focus exact rfl); (focus exact fun _ => rfl)))
  refine loop_ren tabOK hmix (α := Nat × List UInt8 × List (List UInt8) × Nat × Bool × Int) (fun x => ⟨75, [(2, .c (.p (.b fo))), (10, .c (.p (.i .i64 x.2.2.2.2.2))), (11, .c (.ptr 0 0)), (12, .c (.p (.b x.2.2.2.2.1)))], [wbox t x.2.1 x.2.2.1 x.2.2.2.1]⟩)
    (fun x => WI t fo W x.1 x.2.1 x.2.2.1 x.2.2.2.1 x.2.2.2.2.1 x.2.2.2.2.2) (fun x => x.1) (1400, [], P, 0, true, e) ⟨by simp, hme, by simp, by simp, fun h0 => ?_, fun h0 => ?_⟩ (.inl (weak_mk (by rw [hX]; rfl) rfl rfl (by simp [wk_cons, wk_nil, look_cons, closedD, closedC, ]))) ?_
  · subst h0
    refine ⟨by simp, by simp only; omega, fun _ => ⟨rfl, hW⟩, fun h0 => ?_⟩
    subst h0
    exact hW.symm
  · rw [if_neg (by simpa using h0)] at hW
    exact hW.symm
  rintro ⟨f, c, ps, hops, there, e⟩ hI
  simp only at hI
  clear hW hsp hle hme
  cases q0 : (e == 0)
  · have he : e ≠ 0 := by simpa using q0
    have hw := hI.no he
    rw [hw]
    have q1 : (e != 0) = true := by rw [bne, q0]; rfl
    have hc : decide ((0 : Int) < (ps.length : Int)) = true ∨ decide ((0 : Int) < (ps.length : Int)) = false := by cases decide ((0 : Int) < (ps.length : Int)) <;> simp
    generalize decide ((0 : Int) < (ps.length : Int)) = b at hc
    repeat' (first | simp only [*, go_sem, Nat.reduceLT, Nat.reduceEqDiff, ↓reduceIte, ] | with_reducible refine vg_split (fun _ => ?_) (fun _ => ?_))
  · have he : e = 0 := eq_of_beq q0
    subst he
    cases ps with
    | nil =>
      obtain ⟨_, _, _, hw⟩ := hI.go rfl
      rw [hw rfl]
      repeat' (simp only [*, go_sem, Nat.reduceLT, Nat.reduceEqDiff, ↓reduceIte, Int.reduceLT, bne_self_eq_false])
    | cons p ps =>
      obtain ⟨k, rfl⟩ : ∃ k, f = k + 1 := ⟨f - 1, by have := (hI.go rfl).2.1; omega⟩
      have hfl := hI.fl
      obtain rfl := hI.there_true
      obtain ⟨hh8, hb, _, _⟩ := hI.go rfl
      simp only [List.length_cons] at hb
      have h1 : decide ((0 : Int) < ((ps.length + 1 : Nat) : Int)) = true := decide_eq_true (by omega)
      have h2 : (0 : Int) < ((ps.length + 1 : Nat) : Int) := by omega
      have h3 : (1 : Int) ≤ ((ps.length + 1 : Nat) : Int) := by omega
      have hg : (Go.Dm.encS (p :: ps)).getD 0 [] = [.s p] := rfl
      have hdr : (Go.Dm.encS (p :: ps)).drop 1 = Go.Dm.encS ps := rfl
      have hpl := hI.pl p List.mem_cons_self
      have hcl := hI.cl
      cases q1 : (p == [46])
      · cases q2 : (p == [46, 46])
        · have hdn := hI.down q1 q2
          have hdc := down_c (t := t) (c := c) (s := p) (ps := ps) (hops := hops) (fo := fo) h (by omega) (by omega) (by omega) (by omega)
          generalize downV t fo c p ps hops = D at hdn hdc
          obtain ⟨⟨th, e'⟩, c', ps', h'⟩ := D
          simp only at hdn hdc
          clear hI
          repeat' (first | simp only [*, go_sem, Nat.reduceLT, Nat.reduceLeDiff, Nat.reduceEqDiff, ↓reduceIte, Nat.reduceAdd, Int.reduceLE, Int.reduceToNat, beq_self_eq_true] | refine useB2 hdc rfl rfl ?_ | ((with_reducible refine And.intro ?_ ?_); (focus (omega))))
          exact qr_n (k, c', ps', h', th, e') hdn (by simp only; omega) (weak_mk rfl rfl rfl (by simp [wk_cons, wk_nil, look_cons, closedD, closedC, ]))
        · have hdt := hI.dots q1 q2
          clear hI
          repeat' (first | simp only [*, go_sem, Nat.reduceLT, Nat.reduceLeDiff, Nat.reduceEqDiff, ↓reduceIte, Nat.reduceAdd, Int.reduceLE, Int.reduceToNat, beq_self_eq_true] | ((with_reducible refine useF (nameDir_c (p := c) (by omega)) ?_ ?_ ?_); (focus exact rfl); (focus exact rfl)) | ((with_reducible refine And.intro ?_ ?_); (focus (omega))))
          exact qr_n (k, dirOfR c, ps, hops, true, 0) hdt (by simp only; omega) (weak_mk rfl rfl rfl (by simp [wk_cons, wk_nil, look_cons, closedD, closedC, ]))
      · have hdt := hI.dot q1
        clear hI
        repeat' (first | simp only [*, go_sem, Nat.reduceLT, Nat.reduceLeDiff, Nat.reduceEqDiff, ↓reduceIte, Nat.reduceAdd, Int.reduceLE, Int.reduceToNat, beq_self_eq_true] | ((with_reducible refine And.intro ?_ ?_); (focus (omega))))
        exact qr_n (k, c, ps, hops, true, 0) hdt (by simp only; omega) (weak_mk rfl rfl rfl (by simp [wk_cons, wk_nil, look_cons, closedD, closedC, ]))
end Go.Proofs.YtnbgaphhhjnjlaaGreatDoor

end
