import Derived.Test.YtnbgaphhhjnjlaaGreatDoorIN
import Derived.Test.YtnbgaphhhjnjlaaGreatDoorTab
import Derived.Test.YtnbgaphhhjnjlaaGreatDoorProg
import Derived.Test.YtnbgaphhhjnjlaaGreatDoorF1
import Derived.Test.YtnbgaphhhjnjlaaGreatDoorSU
import Derived.Test.YtnbgaphhhjnjlaaGreatDoorShelf
import Derived.Test.YtnbgaphhhjnjlaaGreatDoorBQ

section
/-
  slices.Insert at the program's items.
-/

set_option linter.unusedSimpArgs false
set_option linter.unusedVariables false
namespace Go.Proofs.YtnbgaphhhjnjlaaGreatDoor
open Go Go.Dm Go.Shelf
set_option maxRecDepth 100000
set_option maxHeartbeats 4000000

def insItem_ren : Go.Shelf.Ren := ⟨fun | 22 => 158 | 29 => 177 | 30 => 178 | n => n, fun | 24 => 22 | 9 => 39 | 3 => 3 | 4 => 4 | 0 => 0 | n => n, fun | n => n⟩

theorem insItem : InsL Tryz.prog insItem_ren := {
  mixed := by kernel_rfl
  f22 := ⟨Tryz.f158.name, by decide, Tryz.func158.trans (congrArg some (by kernel_rfl))⟩
  ov := fun xs w w' v h => by
    have := run_callFunc_extern Tryz.func177 (by kernel_rfl) (by kernel_rfl) (by kernel_rfl) (e := Extern.SlicesOverlaps.overlaps #[22, 22] #[4]) (by kernel_rfl) xs w
    refine this.trans ?_
    rw [show (Extern.SlicesOverlaps.overlaps #[22, 22] #[4] xs).run Tryz.prog w = .ok v w' from h]
    rfl
  t0 := Tryz.underlying0
  a0 := Tryz.isAgg0
  z0 := Tryz.sizeOf0
  v0 := Tryz.zeroValue0
  t3 := Tryz.underlying3
  a3 := Tryz.isAgg3
  z3 := Tryz.sizeOf3
  v3 := Tryz.zeroValue3
  t4 := Tryz.underlying4
  a4 := Tryz.isAgg4
  z4 := Tryz.sizeOf4
  v4 := Tryz.zeroValue4
  t24 := Tryz.underlying22
  a24 := Tryz.isAgg22
  z24 := Tryz.sizeOf22
  v24 := Tryz.zeroValue22 }

theorem insert_c {h : DHeap} {id jd n i : Nat} {es : List (List PV)} {x : List PV} (hid : h[id]? = some (.arr 5 es false)) (hjd : h[jd]? = some (.arr 5 [x] false)) (hne : id ≠ jd) (hn : n ≤ es.length) (hin : i ≤ n) (hn2 : n ≤ 1000000) :
    DCalls Tryz.prog 158 [.c (.own id 0 n), .c (.p (.i .i64 i)), .c (.own jd 0 1)] h fun d h' => d = .c (.own (h.length + 1) 0 (n + 1)) ∧ h' = h.set id .dead ++ [.dead, .arr 5 (insAt i x (es.take n)) false] :=
  dcalls_insert (k := 5) tabOK insItem (enters Tryz.func158 rfl rfl) (by show (tab 39).size = 5; rw [tab39]) (by decide) (by show (tab 22).k = _; rw [tab22]; rfl)
    hid hjd hne hn hin (by show (n + 1) * (tab 39).bytes ≤ _; rw [tab39]; simp only; omega) (by omega)
end Go.Proofs.YtnbgaphhhjnjlaaGreatDoor

end

section
/-
  Contracts of the program's trees: a node put.
-/

set_option linter.unusedSimpArgs false
set_option linter.unusedVariables false
namespace Go.Proofs.YtnbgaphhhjnjlaaGreatDoor
open Go Go.Dm Go.Proofs
set_option maxRecDepth 100000
set_option maxHeartbeats 8000000

theorem findO_k {h : DHeap} {i n : Nat} {es : List (List PV)} {t : List It} {p : List UInt8} {K : DV → DHeap → Prop} (h0 : h[i]? = some (.arr 5 es false)) (hes : es.take n = encT t) (ht : t.length ≤ 1000000) (hs : Srt t) (hk : ∀ j, FindC t p j → K (findE t p j) h) :
    DCalls Tryz.prog 92 [.c (.own i 0 n), .c (.p (.s p))] h K :=
  useO2 (R := fun d => ∃ j, FindC t p j ∧ d = findE t p j) rfl hes (DCalls.mono (find_c ht hs) fun d h' ⟨j, a, b, c⟩ => ⟨⟨j, a, b⟩, c⟩) h0 (fun d ⟨j, h1, h2⟩ => by subst h2; exact ⟨rfl, hk j h1⟩)

theorem insert_k {h : DHeap} {id jd n i : Nat} {es : List (List PV)} {x : List PV} {K : DV → DHeap → Prop} (hid : h[id]? = some (.arr 5 es false)) (hjd : h[jd]? = some (.arr 5 [x] false)) (hne : id ≠ jd) (hn : n ≤ es.length) (hin : i ≤ n) (hn2 : n ≤ 1000000)
    (hk : K (.c (.own (h.length + 1) 0 (n + 1))) (h.set id .dead ++ [.dead, .arr 5 (insAt i x (es.take n)) false])) :
    DCalls Tryz.prog 158 [.c (.own id 0 n), .c (.p (.i .i64 i)), .c (.own jd 0 1)] h K :=
  DCalls.mono (insert_c hid hjd hne hn hin hn2) (by rintro _ _ ⟨rfl, rfl⟩; exact hk)

theorem without_o {t : List It} {p : List UInt8} {it : Bool} (hp : p.length ≤ 1000000000) (ht : t.length ≤ 1000000) (hd : ∀ x ∈ t, x.n.d.length ≤ 140737488355328) :
    DCalls Tryz.prog 109 [.c (.p (.sl 5 (encT t))), .c (.p (.s p)), .c (.p (.b it))] [] fun r h => ∃ es : List (List PV), es.take (t.filter fun x => !goF p it x).length = encT (t.filter fun x => !goF p it x) ∧ r = .c (.own 2 0 (t.filter fun x => !goF p it x).length) ∧ h = [.box [.p (.s p)], .box [.p (.b it)], .arr 5 es false] := by
  have hc := copyT_c ht hd
  refine entR tabOK hmix Tryz.func109 rfl rfl fun X0 hX => ?_
  simp only [Tryz.f109, go_sem]
  repeat' (first | simp only [*, go_sem, Nat.reduceLT, Nat.reduceEqDiff, ↓reduceIte, Nat.reduceAdd, ] | refine useO hc rfl ?_)
  refine delete_c hp ht fun es hes => ?_
  generalize (t.filter fun x => !goF p it x) = f at hes
  repeat' (simp only [*, go_sem, Nat.reduceLT, ↓reduceIte, ])
  all_goals first | exact ⟨es, hes, rfl, rfl⟩ | exact ⟨es, hes, rfl⟩ | (trace_state; exact ⟨es, hes⟩)

theorem without_k {t : List It} {p : List UInt8} {it : Bool} {h : DHeap} {K : DV → DHeap → Prop} (hp : p.length ≤ 1000000000) (ht : t.length ≤ 1000000) (hd : ∀ x ∈ t, x.n.d.length ≤ 140737488355328)
    (hk : ∀ es : List (List PV), es.take (t.filter fun x => !goF p it x).length = encT (t.filter fun x => !goF p it x) → K (.c (.own (2 + h.length) 0 (t.filter fun x => !goF p it x).length)) (h ++ [.box [.p (.s p)], .box [.p (.b it)], .arr 5 es false])) :
    DCalls Tryz.prog 109 [.c (.p (.sl 5 (encT t))), .c (.p (.s p)), .c (.p (.b it))] h K := by
  refine DCalls.mono (DCalls.frame h rfl (without_o hp ht hd)) ?_
  rintro _ _ ⟨d0, h0, ⟨es, h1, rfl, rfl⟩, rfl, rfl⟩
  exact hk es h1

theorem copyT_k {t : List It} {h : DHeap} {K : DV → DHeap → Prop} (ht : t.length ≤ 1000000) (hd : ∀ x ∈ t, x.n.d.length ≤ 140737488355328) (hk : K (.c (.own h.length 0 t.length)) (h ++ [.arr 5 (encT t) false])) :
    DCalls Tryz.prog 31 [.c (.p (.sl 5 (encT t)))] h K := useO (copyT_c ht hd) rfl hk
end Go.Proofs.YtnbgaphhhjnjlaaGreatDoor

end

section
/-
  Contracts of the program's trees: a node put.
-/

set_option linter.unusedSimpArgs false
set_option linter.unusedVariables false
namespace Go.Proofs.YtnbgaphhhjnjlaaGreatDoor
open Go Go.Dm Go.Proofs
set_option maxRecDepth 100000
set_option maxHeartbeats 8000000

theorem insAt_enc (t : List It) (i : Nat) (p : List UInt8) (k m : Int) (tt : Nat) (d : List UInt8) : insAt i [.s p, .i .i64 k, .i .i64 m, .f tt, .sl 1 (encB d)] (encT t) = encT (t.take i ++ ⟨p, ⟨k, m, tt, d⟩⟩ :: t.drop i) := by
  simp [insAt, encT, It.cs, List.map_take, List.map_drop]

theorem put_c {t : List It} {p : List UInt8} {k m : Int} {tt : Nat} {d : List UInt8} (h : OkT t) (hp : p.length ≤ 1000000000) (hd : d.length ≤ 140737488355328) (htt : tt < 18446744073709551616) :
    DCalls Tryz.prog 128 [.c (.p (.sl 5 (encT t))), .c (.p (.s p)), .agg (ndc k m tt d)] [] fun r h =>
      r = .tup [.c (.p (.sl 5 (encT (putR t p ⟨k, m, tt, d⟩).1))), .c (.p (.i .i64 (putR t p ⟨k, m, tt, d⟩).2))] ∧ h = [] := by
  have htl := h.len
  have hdl : ∀ x ∈ t, x.n.d.length ≤ 140737488355328 := fun x hx => Nat.le_trans (h.dlen x hx) (by decide)
  have hdir := treeIsDir_c (t := t) (p := dirOfR p) (by omega) h.srt
  have hpath := isPath_c hp
  have hnode := nodeRight_c (k := k) (m := m) (d := d) htt
  refine dcalls_wk ?_
  unfold putR
  cases q0 : (p == [])
  case true =>
    refine ent tabOK hmix Tryz.func128 rfl rfl fun X0 hX => ?_
    simp only [Tryz.f128, go_sem]
    repeat' (simp only [*, go_sem, Nat.reduceLT, Nat.reduceEqDiff, ↓reduceIte, Nat.reduceAdd, ])
    all_goals simp
  cases q1 : isPathR p
  case false =>
    rw [q1] at hpath
    refine ent tabOK hmix Tryz.func128 rfl rfl fun X0 hX => ?_
    simp only [Tryz.f128, go_sem]
    repeat' (first | simp only [*, go_sem, Nat.reduceLT, Nat.reduceEqDiff, ↓reduceIte, Nat.reduceAdd, Bool.not_false] | ((with_reducible refine useF (hpath) ?_ ?_ ?_); (focus exact rfl); (focus exact rfl)))
    all_goals simp
  cases q2 : rightNodeR ⟨k, m, tt, d⟩
  case false =>
    rw [q1] at hpath
    rw [q2] at hnode
    refine ent tabOK hmix Tryz.func128 rfl rfl fun X0 hX => ?_
    simp only [Tryz.f128, go_sem]
    repeat' (first | simp only [*, go_sem, Nat.reduceLT, Nat.reduceLeDiff, Nat.reduceEqDiff, ↓reduceIte, Nat.reduceAdd, Bool.not_true, Bool.not_false] | ((with_reducible refine useF (hpath) ?_ ?_ ?_); (focus exact rfl); (focus exact rfl)) | ((with_reducible refine useF (hnode) ?_ ?_ ?_); (focus exact rfl); (focus exact rfl)))
    all_goals simp
  cases q3 : isDirR t (dirOfR p)
  case false =>
    rw [q1] at hpath
    rw [q2] at hnode
    rw [q3] at hdir
    refine ent tabOK hmix Tryz.func128 rfl rfl fun X0 hX => ?_
    simp only [Tryz.f128, go_sem]
    repeat' (first | simp only [*, go_sem, Nat.reduceLT, Nat.reduceLeDiff, Nat.reduceEqDiff, ↓reduceIte, Nat.reduceAdd, Bool.not_true, Bool.not_false] | ((with_reducible refine useF (hpath) ?_ ?_ ?_); (focus exact rfl); (focus exact rfl)) | ((with_reducible refine useF (hnode) ?_ ?_ ?_); (focus exact rfl); (focus exact rfl)) | ((with_reducible refine useF (nameDir_c hp) ?_ ?_ ?_); (focus exact rfl); (focus exact rfl)) | ((with_reducible refine useF (hdir) ?_ ?_ ?_); (focus exact rfl); (focus exact rfl)))
    all_goals simp
  rw [q1] at hpath
  rw [q2] at hnode
  rw [q3] at hdir
  have e0 : (false || !true || !true) = false := rfl
  rw [e0, if_neg (by decide), if_neg (by decide)]
  clear e0 q1 q2 q3
  have hcp := copy_c (k := k) (m := m) (t := tt) (d := d) hd
  have hgo : (t.filter fun x => !goF p false x) = noneBelow t p := by
    unfold noneBelow
    congr 1
    funext x
    simp [goF]
  have hub := h.toOkT0.filter (fun x => !belowR p x.p)
  change OkT0 (noneBelow t p) at hub
  cases q4 : (k != 2)
  · simp only [Bool.false_eq_true, if_false]
    have hs := h.srt
    have hle0 : t.length ≤ (encT t).length := Nat.le_of_eq (encT_len t).symm
    have hes0 : (encT t).take t.length = encT t := List.take_of_length_le (Nat.le_of_eq (encT_len t))
    have hsl := setR_len t p ⟨k, m, tt, d⟩
    refine ent tabOK hmix Tryz.func128 rfl rfl fun X0 hX => ?_
    simp only [Tryz.f128, go_sem]
    repeat' (first | simp only [*, go_sem, Nat.reduceLT, Nat.reduceLeDiff, Nat.reduceEqDiff, ↓reduceIte, Nat.reduceAdd, Bool.not_true] | ((with_reducible refine useF (hpath) ?_ ?_ ?_); (focus exact rfl); (focus exact rfl)) | ((with_reducible refine useF (hnode) ?_ ?_ ?_); (focus exact rfl); (focus exact rfl)) | ((with_reducible refine useF (nameDir_c hp) ?_ ?_ ?_); (focus exact rfl); (focus exact rfl)) | ((with_reducible refine useF (hdir) ?_ ?_ ?_); (focus exact rfl); (focus exact rfl)) | refine copyT_k (by omega) hdl ?_ | refine findO_k (i := 1) (t := t) rfl hes0 (by omega) hs ?_)
    intro j hj
    unfold findE
    have hj1 := hj.1
    have hat : At t p j := hj
    cases hf : foundF t p j
    · have hnew := setR_new (n := ⟨k, m, tt, d⟩) hs hat (fun x hx => by unfold foundF at hf; rw [hx] at hf; exact hf)
      rw [hnew]
      have hln : (t.take j ++ (⟨p, ⟨k, m, tt, d⟩⟩ : It) :: t.drop j).length = t.length + 1 := by
        rw [List.length_append, List.length_cons, List.length_take, List.length_drop]; omega
      rw [hln]
      repeat' (first | simp only [*, go_sem, Nat.reduceLT, Nat.reduceLeDiff, Nat.reduceEqDiff, ↓reduceIte, Nat.reduceAdd, Nat.reduceMul, ] | ((with_reducible refine useN (hcp) ?_ ?_ ?_); (focus exact rfl); (focus exact fun _ => rfl)) | refine insert_k (x := [.s p, .i .i64 k, .i .i64 m, .f tt, .sl 1 (encB d)]) rfl rfl (by decide) hle0 hj1 (by omega) ?_ | with_reducible refine vcond_split (fun _ => ?_) (fun _ => ?_) | ((with_reducible refine And.intro ?_ ?_); (focus (decide))))
      all_goals first | exact .inr ⟨_, rfl⟩ | (rw [insAt_enc, List.take_of_length_le (by rw [encT_len, hln]; exact Nat.le_refl _)])
    · unfold foundF at hf
      have hlt : j < t.length := by
        rcases Nat.lt_or_ge j t.length with h | h
        · exact h
        · rw [List.getElem?_eq_none h] at hf; cases hf
      have hx : t[j]? = some t[j] := List.getElem?_eq_getElem hlt
      rw [hx] at hf
      have hset := setR_found (n := ⟨k, m, tt, d⟩) hs hat hx hf
      rw [hset]
      have hln : (t.set j ⟨p, ⟨k, m, tt, d⟩⟩).length = t.length := List.length_set
      rw [hln]
      have hjl : (j : Int) < (t.length : Int) := by omega
      have hgj := encT_at (t := t) (k := j) hx
      have hse := encT_set t j ⟨p, ⟨k, m, tt, d⟩⟩
      clear hx hf hset hat hj
      generalize t[j] = y at hgj
      repeat' (first | simp only [*, go_sem, Nat.reduceLT, Nat.reduceLeDiff, Nat.reduceEqDiff, ↓reduceIte, Nat.reduceAdd, ] | ((with_reducible refine useN (hcp) ?_ ?_ ?_); (focus exact rfl); (focus exact fun _ => rfl)) | with_reducible refine vcond_split (fun _ => ?_) (fun _ => ?_) | ((with_reducible refine And.intro ?_ ?_); (focus (omega))))
      all_goals first | exact .inr ⟨_, rfl⟩ | (rw [List.take_of_length_le (by rw [hln]; exact Nat.le_refl _)])
  · simp only [if_true]
    have hs := hub.srt
    have hul := noneBelow_len t p
    have hsl := setR_len (noneBelow t p) p ⟨k, m, tt, d⟩
    have hw : ∀ (h : DHeap) (K : DV → DHeap → Prop), (∀ es : List (List PV), es.take (noneBelow t p).length = encT (noneBelow t p) → K (.c (.own (2 + h.length) 0 (noneBelow t p).length)) (h ++ [.box [.p (.s p)], .box [.p (.b false)], .arr 5 es false])) →
        DCalls Tryz.prog 109 [.c (.p (.sl 5 (encT t))), .c (.p (.s p)), .c (.p (.b false))] h K := fun h K hk => by
      refine without_k hp (by omega) hdl ?_
      rw [hgo]; exact hk
    refine ent tabOK hmix Tryz.func128 rfl rfl fun X0 hX => ?_
    simp only [Tryz.f128, go_sem]
    repeat' (first | simp only [*, go_sem, Nat.reduceLT, Nat.reduceLeDiff, Nat.reduceEqDiff, ↓reduceIte, Nat.reduceAdd, Bool.not_true] | ((with_reducible refine useF (hpath) ?_ ?_ ?_); (focus exact rfl); (focus exact rfl)) | ((with_reducible refine useF (hnode) ?_ ?_ ?_); (focus exact rfl); (focus exact rfl)) | ((with_reducible refine useF (nameDir_c hp) ?_ ?_ ?_); (focus exact rfl); (focus exact rfl)) | ((with_reducible refine useF (hdir) ?_ ?_ ?_); (focus exact rfl); (focus exact rfl)) | refine copyT_k (by omega) hdl ?_ | refine hw _ _ ?_)
    intro es hes
    clear hw hgo
    generalize noneBelow t p = u at hub hs hul hsl hes ⊢
    have hle0 : u.length ≤ es.length := by
      have := congrArg List.length hes
      rw [List.length_take, encT_len] at this; omega
    repeat' (first | simp only [*, go_sem, Nat.reduceLT, Nat.reduceLeDiff, Nat.reduceEqDiff, ↓reduceIte, Nat.reduceAdd, ] | refine findO_k (i := 4) (t := u) rfl hes (by omega) hs ?_)
    intro j hj
    unfold findE
    have hj1 := hj.1
    have hat : At u p j := hj
    cases hf : foundF u p j
    · have hnew := setR_new (n := ⟨k, m, tt, d⟩) hs hat (fun x hx => by unfold foundF at hf; rw [hx] at hf; exact hf)
      rw [hnew]
      have hln : (u.take j ++ (⟨p, ⟨k, m, tt, d⟩⟩ : It) :: u.drop j).length = u.length + 1 := by
        rw [List.length_append, List.length_cons, List.length_take, List.length_drop]; omega
      rw [hln]
      repeat' (first | simp only [*, go_sem, Nat.reduceLT, Nat.reduceLeDiff, Nat.reduceEqDiff, ↓reduceIte, Nat.reduceAdd, Nat.reduceMul, ] | ((with_reducible refine useN (hcp) ?_ ?_ ?_); (focus exact rfl); (focus exact fun _ => rfl)) | refine insert_k (x := [.s p, .i .i64 k, .i .i64 m, .f tt, .sl 1 (encB d)]) rfl rfl (by decide) hle0 hj1 (by omega) ?_ | with_reducible refine vcond_split (fun _ => ?_) (fun _ => ?_) | ((with_reducible refine And.intro ?_ ?_); (focus (decide))))
      all_goals first | exact .inr ⟨_, rfl⟩ | (rw [insAt_enc, List.take_of_length_le (by rw [encT_len, hln]; exact Nat.le_refl _)])
    · unfold foundF at hf
      have hlt : j < u.length := by
        rcases Nat.lt_or_ge j u.length with h | h
        · exact h
        · rw [List.getElem?_eq_none h] at hf; cases hf
      have hx : u[j]? = some u[j] := List.getElem?_eq_getElem hlt
      rw [hx] at hf
      have hset := setR_found (n := ⟨k, m, tt, d⟩) hs hat hx hf
      rw [hset]
      have hln : (u.set j ⟨p, ⟨k, m, tt, d⟩⟩).length = u.length := List.length_set
      rw [hln]
      have hjl : (j : Int) < (u.length : Int) := by omega
      have hgj : es.getD j [] = u[j].cs := by
        have h1 := encT_at (t := u) (k := j) hx
        rw [← hes, List.getD_eq_getElem?_getD, List.getElem?_take, if_pos hlt, ← List.getD_eq_getElem?_getD] at h1
        exact h1
      have hse : (es.set j [.s p, .i .i64 k, .i .i64 m, .f tt, .sl 1 (encB d)]).take u.length = encT (u.set j ⟨p, ⟨k, m, tt, d⟩⟩) := by
        rw [List.take_set, hes]
        exact encT_set u j ⟨p, ⟨k, m, tt, d⟩⟩
      have hje : (j : Int) < (es.length : Int) := by omega
      clear hx hf hset hat hj
      generalize u[j] = y at hgj
      unfold It.cs at hgj
      repeat' (first | simp only [*, go_sem, Nat.reduceLT, Nat.reduceLeDiff, Nat.reduceEqDiff, ↓reduceIte, Nat.reduceAdd, ] | ((with_reducible refine useN (hcp) ?_ ?_ ?_); (focus exact rfl); (focus exact fun _ => rfl)) | with_reducible refine vcond_split (fun _ => ?_) (fun _ => ?_) | ((with_reducible refine And.intro ?_ ?_); (focus (omega))))
      all_goals first | exact .inr ⟨_, rfl⟩ | rw [hse]
end Go.Proofs.YtnbgaphhhjnjlaaGreatDoor

end

section
/-
  Contracts of the program's trees: a path moved.
-/

set_option linter.unusedSimpArgs false
set_option linter.unusedVariables false
namespace Go.Proofs.YtnbgaphhhjnjlaaGreatDoor
open Go Go.Dm Go.Proofs
set_option maxRecDepth 100000
set_option maxHeartbeats 8000000

theorem found_get {t : List It} {p : List UInt8} {i : Nat} (hs : Srt t) (h : FindC t p i) : foundF t p i = (getR t p).isSome := by
  cases hf : foundF t p i
  · rw [find_no hs h hf]; rfl
  · unfold foundF at hf
    cases hx : t[i]? with
    | none => rw [hx] at hf; cases hf
    | some x => rw [hx] at hf; rw [getR_at hs hx hf]; rfl

def mayF (t : List It) (a b : List UInt8) : Int :=
  if a == [] || b == [] || !isPathR a || !isPathR b then 1 else if !(getR t a).isSome then 6 else if belowR a b then 18 else if (getR t b).isSome then 7 else if !isDirR t (dirOfR b) then 9 else 0

theorem mayMove_c {t : List It} {a b : List UInt8} (ht : t.length ≤ 1000000) (hs : Srt t) (ha : a.length ≤ 1000000000) (hb : b.length ≤ 1000000000) :
    DCalls Tryz.prog 130 [.c (.p (.sl 5 (encT t))), .c (.p (.s a)), .c (.p (.s b))] [] fun r h => r = .c (.p (.i .i64 (mayF t a b))) ∧ h = [] := by
  have hdir := treeIsDir_c (t := t) (p := dirOfR b) ht hs
  have hpa := isPath_c ha
  have hpb := isPath_c hb
  unfold mayF
  generalize isPathR a = pa at *
  generalize isPathR b = pb at *
  generalize isDirR t (dirOfR b) = db at *
  refine ent tabOK hmix Tryz.func130 rfl rfl fun X0 hX => ?_
  simp only [Tryz.f130, go_sem]
  repeat' (simp only [*, go_sem, Nat.reduceLT, Nat.reduceEqDiff, ↓reduceIte, Nat.reduceAdd, ])
  refine useFE (find_c ht hs) rfl (fun _ _ => rfl) fun i hi => ?_
  unfold findE
  rw [found_get hs hi]
  generalize (getR t a).isSome = ga
  repeat' (simp only [*, go_sem, Nat.reduceLT, Nat.reduceEqDiff, ↓reduceIte, ])
  refine useFE (find_c ht hs) rfl (fun _ _ => rfl) fun j hj => ?_
  unfold findE
  rw [found_get hs hj]
  generalize (getR t b).isSome = gb
  cases pa <;> cases pb <;> cases ga <;> cases gb <;> cases db
  all_goals repeat' (first | simp only [*, go_sem, Nat.reduceLT, Nat.reduceEqDiff, ↓reduceIte, Bool.not_true, Bool.not_false] | ((with_reducible refine useF (hpa) ?_ ?_ ?_); (focus exact rfl); (focus exact rfl)) | ((with_reducible refine useF (hpb) ?_ ?_ ?_); (focus exact rfl); (focus exact rfl)) | ((with_reducible refine useF (nameBelow_c ha) ?_ ?_ ?_); (focus exact rfl); (focus exact rfl)) | ((with_reducible refine useF (nameDir_c hb) ?_ ?_ ?_); (focus exact rfl); (focus exact rfl)) | ((with_reducible refine useF (hdir) ?_ ?_ ?_); (focus exact rfl); (focus exact rfl)) | with_reducible refine vcond_split (fun _ => ?_) (fun _ => ?_) | with_reducible refine vg_split (fun _ => ?_) (fun _ => ?_))
  all_goals simp_all

theorem move1_c {q q' : List UInt8} {k k' m m' : Int} {t t' : Nat} {d d' : List UInt8} :
    DCalls Tryz.prog 132 [.agg [.p (.s q), .p (.i .i64 k), .p (.i .i64 m), .p (.f t), .p (.sl 1 (encB d))], .agg [.p (.s q'), .p (.i .i64 k'), .p (.i .i64 m'), .p (.f t'), .p (.sl 1 (encB d'))]] [] fun r h => r = .c (.p (.i .i64 (cmpS q q'))) ∧ h = [] := by
  refine ent tabOK hmix Tryz.func132 rfl rfl fun X0 hX => ?_
  simp only [Tryz.f132, go_sem]
  repeat' (first | simp only [*, go_sem, Nat.reduceLT, Nat.reduceEqDiff, ↓reduceIte, ] | ((with_reducible refine useF (strCmp_c) ?_ ?_ ?_); (focus exact rfl); (focus exact rfl)))

theorem sortM_f {h : DHeap} {id : Nat} {l : List It} (hu : ∀ x ∈ l, ∀ y ∈ l, x.p = y.p → x = y) (hid : h[id]? = some (.arr 5 (encT l) false)) (hsz : l.length < 4611686018427387904) :
    DCalls Tryz.prog 131 [.c (.own id 0 l.length), .c (.clo 132 [])] h fun d h' => d = .tup [] ∧ h' = h.set id (.arr 5 (encT (sortI l)) false) := by
  have := dcalls_sortf (P := Tryz.prog) (f := 131) (g := 132) 5 (by decide) cfI swo_cfI
    (enters Tryz.func131 rfl rfl) (enters_of Tryz.func132 (by kernel_rfl) rfl)
    (fun enc hk h1 c hO blk off cap d w hcmp hH hblk hsz => Tryz.slices_SortFunc 5 Tryz.isAgg39 Tryz.sizeOf39 enc hk h1 c hO 132 #[] blk off cap d w (enters_of Tryz.func132 (by kernel_rfl) rfl) hcmp hH hblk hsz)
    (fun p cap fv w => Tryz.slices_SortFunc_none (α := Nat) p cap fv w)
    (h := h) (i0 := id) (es := encT l) (fun x hx y hy => by
      obtain ⟨a, _, rfl⟩ := List.mem_map.1 hx
      obtain ⟨b, _, rfl⟩ := List.mem_map.1 hy
      exact move1_c) (cfI_total hu) hid (by rw [encT_len]; exact hsz)
  rw [encT_sort, encT_len] at this
  exact this

theorem sortM_k {h : DHeap} {id : Nat} {l : List It} {K : DV → DHeap → Prop} (hu : ∀ x ∈ l, ∀ y ∈ l, x.p = y.p → x = y) (hsz : l.length < 4611686018427387904) (hid : h[id]? = some (.arr 5 (encT l) false)) (hk : K (.tup []) (h.set id (.arr 5 (encT (sortI l)) false))) :
    DCalls Tryz.prog 131 [.c (.own id 0 l.length), .c (.clo 132 [])] h K :=
  DCalls.mono (sortM_f hu hid hsz) (by rintro _ _ ⟨rfl, rfl⟩; exact hk)

end Go.Proofs.YtnbgaphhhjnjlaaGreatDoor

end
