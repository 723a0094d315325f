import Derived.Test.YtjpmajeekikdhaaGreatDoorN0
import Derived.Test.YtjpmajeekikdhaaGreatDoorD11
import Derived.Test.YtjpmajeekikdhaaGreatDoorF1
import Derived.Test.YtjpmajeekikdhaaGreatDoorC1
import Derived.Test.YtjpmajeekikdhaaGreatDoorLA
import Derived.Test.YtjpmajeekikdhaaGreatDoorVE
import Derived.Test.YtjpmajeekikdhaaGreatDoorShelf

section
/-
  Contracts: the layer that the program makes of two trees.
-/

set_option linter.unusedSimpArgs false
set_option linter.unusedVariables false
namespace Go.Proofs.YtjpmajeekikdhaaGreatDoor
open Go Go.Dm Go.Proofs
set_option maxRecDepth 100000
set_option maxHeartbeats 8000000

theorem kept1_c {t w : List It} {q p : List UInt8} {k m : Int} {tt : Nat} {d : List UInt8} (hw : OkT w) (hp : p.length ≤ 1000000) :
    DCalls Tryz.prog 144 [.agg [.p (.s q), .p (.i .i64 k), .p (.i .i64 m), .p (.f tt), .p (.sl 1 (encB d))], .c (.ptr 0 0), .c (.ptr 1 0)] [.box [.p (.sl 5 (encT t)), .p (.sl 5 (encT w))], .box [.p (.s p)]]
      fun r h => r = .c (.p (.b (belowR p q && (getR w q).isSome))) ∧ h = [.box [.p (.sl 5 (encT t)), .p (.sl 5 (encT w))], .box [.p (.s p)]] := by
  have hwl := hw.len
  have hg := treeGet_c (t := w) (p := q) (by omega) hw.srt hw.ne (fun x hx => Nat.le_trans (hw.dlen x hx) (by decide))
  generalize (getR w q).getD nd0 = n at hg
  generalize (getR w q).isSome = is at hg ⊢
  obtain ⟨nk, nm, nt, nd⟩ := n
  unfold Nd.cv at hg
  simp only at hg
  refine ent tabOK hmix Tryz.func144 rfl rfl fun X0 hX => ?_
  simp only [Tryz.f144, go_sem]
  cases is
  all_goals repeat' (first | simp only [*, go_sem, Nat.reduceLT, Nat.reduceLeDiff, Nat.reduceEqDiff, ↓reduceIte, Nat.reduceAdd, closedB, closedC] | ((with_reducible refine useN (hg) ?_ ?_ ?_); (focus exact rfl); (focus exact fun _ => rfl)) | ((with_reducible refine useF (nameBelow_c (p := p) (by omega)) ?_ ?_ ?_); (focus exact rfl); (focus exact rfl)) | with_reducible refine vg_split (fun _ => ?_) (fun _ => ?_))
  all_goals simp_all

theorem keptIx_c {t w : List It} {p : List UInt8} (hw : OkT w) (ht : t.length ≤ 1000000) (hp : p.length ≤ 1000000) :
    DCalls Tryz.prog 116 [.c (.p (.sl 5 (encT t))), .c (.clo 144 [.ptr 0 0, .ptr 1 0])] [.box [.p (.sl 5 (encT t)), .p (.sl 5 (encT w))], .box [.p (.s p)]]
      fun r h => (∃ i : Int, r = .c (.p (.i .i64 i)) ∧ decide (0 ≤ i) = keptM t w p) ∧ h = [.box [.p (.sl 5 (encT t)), .p (.sl 5 (encT w))], .box [.p (.s p)]] := by
  refine ent tabOK hmix Tryz.func116 rfl rfl fun X0 hX => ?_
  simp only [Tryz.f116, go_sem]
  repeat' (simp only [*, go_sem, Nat.reduceLT, Nat.reduceEqDiff, ↓reduceIte, Nat.reduceAdd, Int.reduceNeg, ])
  refine loop_ren tabOK hmix (α := Nat) (fun k => ⟨19, [(0, .c (.p (.sl 5 (encT t)))), (1, .c (.clo 144 [.ptr 0 0, .ptr 1 0])), (7, .c (.p (.i .i64 t.length))), (8, .c (.p (.i .i64 k)))], [.box [.p (.sl 5 (encT t)), .p (.sl 5 (encT w))], .box [.p (.s p)]]⟩)
    (fun k => k ≤ t.length ∧ (t.drop k).any (fun y => belowR p y.p && (getR w y.p).isSome) = keptM t w p) (fun k => t.length - k) 0 ⟨Nat.zero_le _, rfl⟩ (.inl (weak_mk (by rw [hX]; rfl) rfl rfl (by simp [wk_cons, wk_nil, look_cons, closedD, closedC, closedK]))) ?_
  rintro k ⟨hk, hs⟩
  by_cases hlt : k < t.length
  · have hx : t[k]? = some t[k] := List.getElem?_eq_getElem hlt
    have hg := encT_at hx
    have hd := drop_at hx
    have h1 : decide ((k : Int) < (t.length : Int)) = true := decide_eq_true (by omega)
    have hli : (k : Int) < (t.length : Int) := by omega
    have hk0 : (0 : Int) ≤ k := by omega
    have w1 : IntKind.i64.wrap ((k : Int) + 1) = k + 1 := wrap_i64 (by omega) (by omega)
    generalize t[k] = x at hx hg hd
    rw [hd, List.any_cons] at hs
    have hc := kept1_c (t := t) (w := w) (q := x.p) (p := p) (k := x.n.k) (m := x.n.m) (tt := x.n.t) (d := x.n.d) hw hp
    cases hb : (belowR p x.p && (getR w x.p).isSome)
    · rw [hb, Bool.false_or] at hs
      rw [hb] at hc
      have hP := PLift.up hs
      clear hs hx hd hb
      repeat' (simp only [*, go_sem, Nat.reduceLT, Nat.reduceLeDiff, Nat.reduceEqDiff, ↓reduceIte, Nat.reduceAdd, Int.reduceNeg, ])
      refine DCalls.mono hc ?_
      rintro _ _ ⟨rfl, rfl⟩
      repeat' (simp only [*, go_sem, Nat.reduceLT, Nat.reduceEqDiff, ↓reduceIte, Int.reduceNeg, ])
      exact qr_n (k + 1) ⟨by omega, hP.down⟩ (by omega) (weak_mk rfl rfl rfl (by simp [wk_cons, wk_nil, look_cons, closedD, closedC, closedK]))
    · rw [hb, Bool.true_or] at hs
      rw [hb] at hc
      have hP := PLift.up hs
      clear hs hx hd hb
      repeat' (simp only [*, go_sem, Nat.reduceLT, Nat.reduceLeDiff, Nat.reduceEqDiff, ↓reduceIte, Nat.reduceAdd, Int.reduceNeg, ])
      refine DCalls.mono hc ?_
      rintro _ _ ⟨rfl, rfl⟩
      repeat' (simp only [*, go_sem, Nat.reduceLT, Nat.reduceEqDiff, ↓reduceIte, Int.reduceNeg, closedB, closedC])
      exact ⟨k, rfl, by rw [← hP.down]; exact decide_eq_true (by omega)⟩
  · have h1 : decide ((k : Int) < (t.length : Int)) = false := decide_eq_false (by omega)
    rw [List.drop_of_length_le (by omega)] at hs
    have hP := PLift.up hs
    clear hs
    repeat' (simp only [*, go_sem, Nat.reduceLT, Nat.reduceEqDiff, ↓reduceIte, Nat.reduceAdd, Int.reduceNeg, closedB, closedC])
    exact ⟨-1, rfl, by rw [← hP.down]; rfl⟩

theorem keptC_c {t w : List It} {p : List UInt8} (hw : OkT w) (ht : t.length ≤ 1000000) (hp : p.length ≤ 1000000) :
    DCalls Tryz.prog 143 [.c (.p (.sl 5 (encT t))), .c (.clo 144 [.ptr 0 0, .ptr 1 0])] [.box [.p (.sl 5 (encT t)), .p (.sl 5 (encT w))], .box [.p (.s p)]]
      fun r h => r = .c (.p (.b (keptM t w p))) ∧ h = [.box [.p (.sl 5 (encT t)), .p (.sl 5 (encT w))], .box [.p (.s p)]] := by
  refine ent tabOK hmix Tryz.func143 rfl rfl fun X0 hX => ?_
  simp only [Tryz.f143, go_sem]
  repeat' (simp only [*, go_sem, Nat.reduceLT, Nat.reduceEqDiff, ↓reduceIte, Nat.reduceAdd, ])
  refine DCalls.mono (keptIx_c hw ht hp) ?_
  rintro _ _ ⟨⟨i, rfl, hi⟩, rfl⟩
  have hi2 : decide (i ≥ 0) = keptM t w p := hi
  repeat' (simp only [*, go_sem, Nat.reduceLT, ↓reduceIte, closedB, closedC])

theorem kept_c {t w : List It} {p : List UInt8} (hw : OkT w) (ht : t.length ≤ 1000000) (hp : p.length ≤ 1000000) :
    DCalls Tryz.prog 128 [.agg [.p (.sl 5 (encT t)), .p (.sl 5 (encT w))], .c (.p (.s p))] [] fun r h => r = .c (.p (.b (keptM t w p))) ∧ h = [] := by
  refine ent tabOK hmix Tryz.func128 rfl rfl fun X0 hX => ?_
  simp only [Tryz.f128, go_sem]
  repeat' (simp only [*, go_sem, Nat.reduceLT, Nat.reduceEqDiff, ↓reduceIte, ])
  refine DCalls.mono (keptC_c hw ht hp) ?_
  rintro _ _ ⟨rfl, rfl⟩
  repeat' (simp only [*, go_sem, Nat.reduceLT, ↓reduceIte, ])

theorem opaque_c {t w : List It} {p : List UInt8} (ht : OkT t) (hw : OkT w) (hp : p.length ≤ 1000000) :
    DCalls Tryz.prog 102 [.agg [.p (.sl 5 (encT t)), .p (.sl 5 (encT w))], .c (.p (.s p))] [] fun r h => r = .c (.p (.b (opaqueM t w p))) ∧ h = [] := by
  have htl := ht.len
  have hwl := hw.len
  have h1 := treeIsDir_c (t := t) (p := p) (by omega) ht.srt
  have h2 := treeIsDir_c (t := w) (p := p) (by omega) hw.srt
  have h3 := names_c (p := p) ht
  have h4 := kept_c (t := t) (w := w) (p := p) hw (by omega) hp
  unfold opaqueM
  generalize isDirR t p = a at *
  generalize isDirR w p = b at *
  generalize keptM t w p = c at *
  generalize hnn : namesF t p = nn at *
  have hge : decide ((nn.length : Int) ≥ 2) = !decide ((nn.length : Int) < 2) := by
    by_cases h : (nn.length : Int) < 2
    · rw [decide_eq_true h, decide_eq_false (by omega)]; rfl
    · rw [decide_eq_false h, decide_eq_true (by omega)]; rfl
  have hle : decide (2 ≤ (nn.length : Int)) = !decide ((nn.length : Int) < 2) := hge
  generalize decide ((nn.length : Int) < 2) = d at *
  refine ent tabOK hmix Tryz.func102 rfl rfl fun X0 hX => ?_
  simp only [Tryz.f102, go_sem]
  cases a <;> cases b <;> cases c <;> cases d
  all_goals repeat' (first | simp only [*, go_sem, Nat.reduceLT, Nat.reduceLeDiff, Nat.reduceEqDiff, ↓reduceIte, Nat.reduceAdd, Bool.not_true, Bool.not_false] | ((with_reducible refine useF (h1) ?_ ?_ ?_); (focus exact rfl); (focus exact rfl)) | ((with_reducible refine useF (h2) ?_ ?_ ?_); (focus exact rfl); (focus exact rfl)) | ((with_reducible refine useN (h3) ?_ ?_ ?_); (focus exact rfl); (focus exact fun _ => rfl)) | ((with_reducible refine useF (h4) ?_ ?_ ?_); (focus exact rfl); (focus exact rfl)))
  all_goals rfl

theorem hidden_c {t w : List It} {p : List UInt8} (ht : OkT t) (hw : OkT w) (hp : p.length ≤ 1000000) :
    DCalls Tryz.prog 105 [.agg [.p (.sl 5 (encT t)), .p (.sl 5 (encT w))], .c (.p (.s p))] [] fun r h => r = .c (.p (.b (covM w (opqM t w) p))) ∧ h = [] := by
  have hdl := dir_le p
  have hwl := hw.len
  refine ent tabOK hmix Tryz.func105 rfl rfl fun X0 hX => ?_
  simp only [Tryz.f105, go_sem]
  repeat' (first | simp only [*, go_sem, Nat.reduceLT, Nat.reduceEqDiff, ↓reduceIte, ] | ((with_reducible refine useF (nameDir_c (p := p) (by omega)) ?_ ?_ ?_); (focus exact rfl); (focus exact rfl)))
  refine loop_ren tabOK hmix (α := Nat × List UInt8) (fun x => ⟨35, [(2, .c (.ptr 0 0)), (5, .c (.p (.s x.2)))], [.box [.p (.sl 5 (encT t)), .p (.sl 5 (encT w))]]⟩)
    (fun x => x.2.length ≤ x.1 ∧ x.1 ≤ p.length ∧ covF w (opqM t w) x.1 x.2 = covM w (opqM t w) p) (fun x => x.1) (p.length, dirOfR p) ⟨hdl, Nat.le_refl _, rfl⟩ (.inl (weak_mk (by rw [hX]; rfl) rfl rfl (by simp [wk_cons, wk_nil, look_cons, closedD, closedC, ]))) ?_
  rintro ⟨n, q⟩ ⟨hq, hn, hc⟩
  simp only at hq hn hc
  cases hq0 : (q == [])
  · have hq1 : (q != []) = true := by rw [bne, hq0]; rfl
    have hqn : q ≠ [] := by simpa using hq0
    obtain ⟨n, rfl⟩ : ∃ m, n = m + 1 := ⟨n - 1, by have := List.length_pos_iff.2 hqn; omega⟩
    have hdq : (dirOfR q).length ≤ n := by
      by_cases h : dirOfR q = []
      · rw [h]; exact Nat.zero_le _
      · have := dir_lt h; omega
    rw [covF_more hqn, ← hid_eq hw hqn] at hc
    have hg := treeGet_c (t := w) (p := q) (by omega) hw.srt hw.ne (fun x hx => Nat.le_trans (hw.dlen x hx) (by decide))
    have hd := treeIsDir_c (t := w) (p := q) (by omega) hw.srt
    have ho := opaque_c (p := q) ht hw (by omega)
    unfold hidQ at hc
    generalize (getR w q).getD nd0 = x at hg
    generalize (getR w q).isSome = is at hg hc
    generalize isDirR w q = dir at hd hc
    generalize opaqueM t w q = op at ho hc
    obtain ⟨nk, nm, nt, nd⟩ := x
    unfold Nd.cv at hg
    simp only at hg
    cases is <;> cases dir <;> cases op
    all_goals simp only [Bool.not_true, Bool.not_false, Bool.or_true, Bool.or_false, if_true, Bool.false_eq_true, if_false] at hc
    case true.true.false =>
      have hC := PLift.up hc
      clear hc
      repeat' (first | simp only [*, go_sem, Nat.reduceLT, Nat.reduceLeDiff, Nat.reduceEqDiff, ↓reduceIte, Nat.reduceAdd, Bool.not_true, Bool.not_false] | ((with_reducible refine useN (hg) ?_ ?_ ?_); (focus exact rfl); (focus exact fun _ => rfl)) | ((with_reducible refine useF (hd) ?_ ?_ ?_); (focus exact rfl); (focus exact rfl)) | ((with_reducible refine useF (ho) ?_ ?_ ?_); (focus exact rfl); (focus exact rfl)) | ((with_reducible refine useF (nameDir_c (p := q) (by omega)) ?_ ?_ ?_); (focus exact rfl); (focus exact rfl)))
      exact qr_n (n, dirOfR q) ⟨hdq, by simp only; omega, hC.down⟩ (by simp only; omega) (weak_mk rfl rfl rfl (by simp [wk_cons, wk_nil, look_cons, closedD, closedC, ]))
    all_goals rw [← hc]
    all_goals clear hc
    all_goals repeat' (first | simp only [*, go_sem, Nat.reduceLT, Nat.reduceLeDiff, Nat.reduceEqDiff, ↓reduceIte, Nat.reduceAdd, Bool.not_true, Bool.not_false] | ((with_reducible refine useN (hg) ?_ ?_ ?_); (focus exact rfl); (focus exact fun _ => rfl)) | ((with_reducible refine useF (hd) ?_ ?_ ?_); (focus exact rfl); (focus exact rfl)) | ((with_reducible refine useF (ho) ?_ ?_ ?_); (focus exact rfl); (focus exact rfl)))
  · have hq1 : (q != []) = false := by rw [bne, hq0]; rfl
    have hqn : q = [] := eq_of_beq hq0
    subst hqn
    rw [covF_nil] at hc
    rw [← hc]
    clear hc
    repeat' (simp only [*, go_sem, Nat.reduceLT, Nat.reduceEqDiff, ↓reduceIte, beq_self_eq_true])
end Go.Proofs.YtjpmajeekikdhaaGreatDoor

end

section
/-
  Contracts: layer.Make makes what the document makes.
-/

set_option linter.unusedSimpArgs false
set_option linter.unusedVariables false
namespace Go.Proofs.YtjpmajeekikdhaaGreatDoor
open Go Go.Dm Go.Proofs
set_option maxRecDepth 100000
set_option maxHeartbeats 8000000

theorem make1_c {p q : List UInt8} {k k' nk nk' nm nm' : Int} {o o' : Bool} {t t' : Nat} {d d' : List UInt8} :
    DCalls Tryz.prog 107 [.agg [.p (.s p), .p (.i .i64 k), .p (.b o), .p (.i .i64 nk), .p (.i .i64 nm), .p (.f t), .p (.sl 1 (encB d))], .agg [.p (.s q), .p (.i .i64 k'), .p (.b o'), .p (.i .i64 nk'), .p (.i .i64 nm'), .p (.f t'), .p (.sl 1 (encB d'))]] [] fun r h => r = .c (.p (.i .i64 (cmpS p q))) ∧ h = [] := by
  refine ent tabOK hmix Tryz.func107 rfl rfl fun X0 hX => ?_
  simp only [Tryz.f107, go_sem]
  repeat' (first | simp only [*, go_sem, Nat.reduceLT, Nat.reduceEqDiff, ↓reduceIte, ] | ((with_reducible refine useF (strCmp_c) ?_ ?_ ?_); (focus exact rfl); (focus exact rfl)))

theorem sortE_f {h : DHeap} {id : Nat} {l : List En} (hu : ∀ x ∈ l, ∀ y ∈ l, x.p = y.p → x = y) (hid : h[id]? = some (.arr 7 (encE l) false)) (hsz : l.length < 4611686018427387904) :
    DCalls Tryz.prog 106 [.c (.own id 0 l.length), .c (.clo 107 [])] h fun d h' => d = .tup [] ∧ h' = h.set id (.arr 7 (encE (sortE l)) false) := by
  have := dcalls_sortf (P := Tryz.prog) (f := 106) (g := 107) 7 (by decide) cfI swo_cfI
    (enters Tryz.func106 rfl rfl) (enters_of Tryz.func107 (by kernel_rfl) rfl)
    (fun enc hk h1 c hO blk off cap d w hcmp hH hblk hsz => Tryz.slices_SortFunc 7 Tryz.isAgg51 Tryz.sizeOf51 enc hk h1 c hO 107 #[] blk off cap d w (enters_of Tryz.func107 (by kernel_rfl) rfl) hcmp hH hblk hsz)
    (fun p cap fv w => Tryz.slices_SortFunc_none (α := Nat) p cap fv w)
    (h := h) (i0 := id) (es := encE l) (fun x hx y hy => by
      obtain ⟨a, _, rfl⟩ := List.mem_map.1 hx
      obtain ⟨b, _, rfl⟩ := List.mem_map.1 hy
      exact make1_c) (cfE_total hu) hid (by rw [encE_len]; exact hsz)
  rw [encE_sort, encE_len] at this
  exact this
theorem sortE_k {h : DHeap} {id n : Nat} {l : List En} {K : DV → DHeap → Prop} (hu : ∀ x ∈ l, ∀ y ∈ l, x.p = y.p → x = y) (hsz : l.length < 4611686018427387904) (hn : n = l.length) (hid : h[id]? = some (.arr 7 (encE l) false)) (hk : K (.tup []) (h.set id (.arr 7 (encE (sortE l)) false))) :
    DCalls Tryz.prog 106 [.c (.own id 0 n), .c (.clo 107 [])] h K := by
  subst hn
  exact DCalls.mono (sortE_f hu hid hsz) (by rintro _ _ ⟨rfl, rfl⟩; exact hk)

def gonesK (t w : List It) (k : Nat) : List En := ((t.take k).filter fun y => !(getR w y.p).isSome && !covM w (opqM t w) y.p).map fun y => goneE y.p
theorem gonesK_next {t w : List It} {k : Nat} {x : It} (h : t[k]? = some x) : gonesK t w (k + 1) = gonesK t w k ++ (if !(getR w x.p).isSome && !covM w (opqM t w) x.p then [goneE x.p] else []) := by
  unfold gonesK
  rw [filter_next h, List.map_append]
  split <;> rfl
theorem gonesK_len (t w : List It) (k : Nat) : (gonesK t w k).length ≤ t.length := by
  unfold gonesK
  rw [List.length_map]
  have := List.length_filter_le (fun y : It => !(getR w y.p).isSome && !covM w (opqM t w) y.p) (t.take k)
  rw [List.length_take] at this
  omega
theorem makeL_K {t w : List It} {k : Nat} (hk : t.length ≤ k) : makeL t w = putsM t (opqM t w) w ++ gonesK t w k := by
  unfold gonesK
  rw [List.take_of_length_le hk]
  rfl
theorem gone_row (out : List En) (p : List UInt8) : wkRows (encE out ++ [[.s p, .i .i64 2, .b false, .i .i64 0, .i .i64 0, .f 0, .nil]]) (encE (out ++ [goneE p])) := by
  rw [← encE_app]
  exact wkRows_app (wkRows_refl _) ⟨⟨.inl rfl, .inl rfl, .inl rfl, .inl rfl, .inl rfl, .inl rfl, .inr ⟨rfl, 1, rfl⟩, True.intro⟩, True.intro⟩

theorem layerMake_c {t w : List It} (ht : OkT t) (hw : OkT w) :
    DCalls Tryz.prog 67 [.c (.p (.sl 5 (encT t))), .c (.p (.sl 5 (encT w)))] [] fun r h => r = .c (.p (.sl 7 (encE (makeF t w)))) ∧ h = [] := by
  have htl := ht.len
  have hwl := hw.len
  have hsrt := make_sort ht hw
  have hinj := makeL_inj ht hw
  have hop := fun (p : List UInt8) (hp : p.length ≤ 1000000) => opaque_c (p := p) ht hw hp
  have hhi := fun (p : List UInt8) (hp : p.length ≤ 1000000) => hidden_c (p := p) ht hw hp
  have hgt := fun (p : List UInt8) => treeGet_c (t := t) (p := p) (by omega) ht.srt ht.ne (fun x hx => Nat.le_trans (ht.dlen x hx) (by decide))
  have hgw := fun (p : List UInt8) => treeGet_c (t := w) (p := p) (by omega) hw.srt hw.ne (fun x hx => Nat.le_trans (hw.dlen x hx) (by decide))
  have hiB := fun (x : It) (hx : x ∈ w) => opaque_isB (t := t) hw hx
  refine entS tabOK Tryz.func67 rfl rfl fun X0 hX => ?_
  simp only [Tryz.f67, go_sem]
  refine swp_first tabOK hmix ?_
  repeat' (simp only [*, go_sem, Nat.reduceLT, ])
  refine swp_first tabOK hmix ?_
  repeat' (simp only [*, go_sem, Nat.reduceLT, Nat.reduceLeDiff, Nat.reduceEqDiff, ↓reduceIte, Nat.reduceAdd, ])
  refine swp_first tabOK hmix ?_
  repeat' (simp only [*, go_sem, Nat.reduceLT, ])
  refine vc_virt tabOK hmix 6 7 rfl ?_
  refine swp_join tabOK hmix (α := Unit) (fun _ => ⟨97, [(0, .c (.p (.sl 5 (encT t)))), (1, .c (.p (.sl 5 (encT w)))), (5, .c (.ptr 0 0)), (6, .c (.own 1 0 (putsM t (opqM t w) w).length))], [.box [.p (.sl 5 (encT t)), .p (.sl 5 (encT w))], .arr 7 (encE (putsM t (opqM t w) w)) false]⟩) (fun _ => True) ?_ ?_
  · repeat' (simp only [*, go_sem, Nat.reduceLT, Nat.reduceEqDiff, ↓reduceIte, ])
    refine loop_renS (α := Nat × List En) (fun x => ⟨97, [(0, .c (.p (.sl 5 (encT t)))), (1, .c (.p (.sl 5 (encT w)))), (5, .c (.ptr 0 0)), (19, .c (.p (.sl 5 (encT w)))), (20, .c (.p (.i .i64 w.length))), (21, .c (.p (.i .i64 x.1))), (6, .c (.own 1 0 x.2.length))], [.box [.p (.sl 5 (encT t)), .p (.sl 5 (encT w))], .arr 7 (encE x.2) false]⟩)
      (fun x => x.1 ≤ w.length ∧ putsM t (opqM t w) (w.take x.1) = x.2) (fun x => w.length - x.1) (0, []) ⟨Nat.zero_le _, rfl⟩ (.inl (weak_mk (by rw [hX]; rfl) rfl rfl (by simp [wk_cons, wk_nil, look_cons, closedD, closedC, ]))) ?_
    rintro ⟨k, out⟩ ⟨hk, hout⟩
    simp only at hk hout
    have hol : out.length ≤ 120 := by
      have := putsM_len t (opqM t w) (w.take k)
      rw [hout, List.length_take] at this
      omega
    by_cases hlt : k < w.length
    · have hx : w[k]? = some w[k] := List.getElem?_eq_getElem hlt
      have hg := encT_at hx
      have hib := hiB _ (List.getElem_mem hlt)
      have hxl := hw.plen _ (List.getElem_mem hlt)
      have hxd := hw.dlen _ (List.getElem_mem hlt)
      have hxt := hw.tlen _ (List.getElem_mem hlt)
      have hnx := putsM_next (t := t) (os := opqM t w) hx
      rw [hout] at hnx
      have h1 : decide ((k : Int) < (w.length : Int)) = true := decide_eq_true (by omega)
      have hli : (k : Int) < (w.length : Int) := by omega
      have hk0 : (0 : Int) ≤ k := by omega
      have w1 : IntKind.i64.wrap ((k : Int) + 1) = k + 1 := wrap_i64 (by omega) (by omega)
      have hgx := hgt w[k].p
      have hox := hop w[k].p (by omega)
      have hot := ht.gett w[k].p
      generalize w[k] = x at hx hg hib hxl hxd hxt hnx hgx hox hot
      clear hop hhi hgt hgw hiB hinj hsrt hout hx
      unfold putM at hnx
      generalize isB (opqM t w) x.p = b at hib hnx
      generalize opaqueM t w x.p = om at hib hox
      have hnd := ndSame_eq (x := (getR t x.p).getD nd0) (y := x.n) hot hxt
      generalize (getR t x.p).isSome = is at hgx hnx
      generalize (getR t x.p).getD nd0 = n at hgx hnx hnd
      obtain ⟨xp, ⟨xk, xm, xt, xd⟩⟩ := x
      obtain ⟨nk, nm, nt, nd⟩ := n
      unfold Nd.cv at hgx
      simp only at *
      have hns := ndSame_c (k := nk) (m := nm) (t := nt) (d := nd) (k' := xk) (m' := xm) (t' := xt) (d' := xd)
      rw [hnd] at hns
      generalize sameNd ⟨nk, nm, nt, nd⟩ ⟨xk, xm, xt, xd⟩ = sm at hns hnx
      have hcp := copy_c (k := xk) (m := xm) (t := xt) (d := xd) (by omega)
      have hb1 : (out.length + 1) * 80 ≤ 140737488355328 := by omega
      have hb2 : out.length + 1 ≤ 9223372036854775807 := by omega
      refine swp_first tabOK hmix ?_
      repeat' (simp only [*, go_sem, Nat.reduceLT, Nat.reduceEqDiff, ↓reduceIte, ])
      refine swp_first tabOK hmix ?_
      repeat' (simp only [*, go_sem, ↓reduceIte, ])
      refine swp_seq_block ?_
      refine swp_first tabOK hmix ?_
      repeat' (simp only [*, go_sem, Nat.reduceLT, Nat.reduceLeDiff, Nat.reduceEqDiff, ↓reduceIte, Nat.reduceAdd, ])
      refine swp_join tabOK hmix (α := Unit) (fun _ => ⟨97, [(0, .c (.p (.sl 5 (encT t)))), (1, .c (.p (.sl 5 (encT w)))), (5, .c (.ptr 0 0)), (19, .c (.p (.sl 5 (encT w)))), (20, .c (.p (.i .i64 w.length))), (21, .c (.p (.i .i64 k))), (6, .c (.own 1 0 out.length)), (8, .c (.ptr 2 0)), (9, .c (.p (.b b)))], [.box [.p (.sl 5 (encT t)), .p (.sl 5 (encT w))], .arr 7 (encE out) false, .box [.p (.s xp), .p (.i .i64 xk), .p (.i .i64 xm), .p (.f xt), .p (.sl 1 (encB xd))]]⟩) (fun _ => True) ?_ ?_
      · clear hnx hgx hns hcp
        cases hk2 : (xk == 2)
        · rw [hk2, Bool.false_and] at hib
          subst hib
          repeat' (simp only [*, go_sem, Nat.reduceLT, Nat.reduceEqDiff, ↓reduceIte, ])
          exact qj_n () trivial (weak_mk (by first | rfl | (rw [hX]; rfl)) rfl rfl (by simp [wk_cons, wk_nil, look_cons, closedD, closedC, ]))
        · rw [hk2, Bool.true_and] at hib
          subst hib
          repeat' (first | simp only [*, go_sem, Nat.reduceLT, Nat.reduceLeDiff, Nat.reduceEqDiff, ↓reduceIte, Nat.reduceAdd, ] | ((with_reducible refine useF (hox) ?_ ?_ ?_); (focus exact rfl); (focus exact rfl)))
          exact qj_n () trivial (weak_mk (by first | rfl | (rw [hX]; rfl)) rfl rfl (by simp [wk_cons, wk_nil, look_cons, closedD, closedC, ]))
      rintro - -
      clear hox hib
      by_cases hp : b = true ∨ is = false ∨ sm = false
      · have hnw : (if b = true then [(⟨xp, 1, true, ⟨xk, xm, xt, xd⟩⟩ : En)] else if (!is || !sm) = true then [⟨xp, 1, false, ⟨xk, xm, xt, xd⟩⟩] else []) = [⟨xp, 1, b, ⟨xk, xm, xt, xd⟩⟩] := by
          cases b
          · rcases hp with hp | rfl | rfl
            · cases hp
            · rfl
            · simp
          · rfl
        rw [hnw] at hnx
        have hJ : k + 1 ≤ w.length ∧ putsM t (opqM t w) (w.take (k + 1)) = out ++ [⟨xp, 1, b, ⟨xk, xm, xt, xd⟩⟩] := ⟨by omega, hnx⟩
        have hP := PLift.up hJ
        clear hJ hnx hnw
        refine swp_vc tabOK hmix ?_
        cases b <;> cases is <;> cases sm
        case false.true.true => exact absurd hp (by decide)
        all_goals clear hp
        all_goals repeat' (first | simp only [*, go_sem, Nat.reduceLT, Nat.reduceLeDiff, Nat.reduceEqDiff, ↓reduceIte, Nat.reduceAdd, Bool.not_true, Bool.not_false] | ((with_reducible refine useN (hgx) ?_ ?_ ?_); (focus exact rfl); (focus exact fun _ => rfl)) | ((with_reducible refine useF (hns) ?_ ?_ ?_); (focus exact rfl); (focus exact rfl)) | ((refine vc_drawn (id := 9) tabOK hmix [8,9] [1,2,3,4,5,6,7,8,0,9,10] (by decide +kernel) ?_); (repeat' (first | (refine ds_nil ?_) | ((refine ds_chg ?_ ?_ rfl rfl rfl ?_ ?_); (rotate_left 2); (focus ((repeat' (first | simp only [*, go_sem, Nat.reduceLT, Nat.reduceLeDiff, Nat.reduceEqDiff, ↓reduceIte, Nat.reduceAdd, Nat.reduceMul, Nat.reduceBEq, ] | ((with_reducible refine And.intro ?_ ?_); (focus (decide))))); ((refine And.intro ?_ ?_ <;> exact rfl)))); (simp only [putF_some])) | ((refine ds_all ?_ rfl rfl rfl ?_ ?_); (rotate_left 1); (focus ((repeat' (first | exact allH_nil | refine allH_cons ?_ ?_)); (all_goals ((repeat' (first | simp only [*, go_sem, Nat.reduceLT, Nat.reduceLeDiff, Nat.reduceEqDiff, ↓reduceIte, Nat.reduceAdd, ] | ((with_reducible refine useN (hcp) ?_ ?_ ?_); (focus exact rfl); (focus exact fun _ => rfl)))); (try (exact rfl)))))); (simp only [putF_some]))))))
        all_goals refine swp_vc tabOK hmix ?_
        all_goals repeat' (simp only [*, go_sem, Nat.reduceLT, Nat.reduceEqDiff, ↓reduceIte, ])
        all_goals exact qr_ren (k + 1, out ++ [⟨xp, 1, _, ⟨xk, xm, xt, xd⟩⟩]) 1 5 hP.down (by simp only; omega) (by first | rfl | (rw [hX]; rfl)) rfl (weak_mk (by first | rfl | (rw [hX]; rfl)) rfl rfl (by simp [wk_cons, wk_nil, look_cons, closedD, closedC, renT, renD, renC]))
      · have hb : b = false := by cases b; rfl; exact absurd (.inl rfl) hp
        have hi : is = true := by cases is; exact absurd (.inr (.inl rfl)) hp; rfl
        have hs : sm = true := by cases sm; exact absurd (.inr (.inr rfl)) hp; rfl
        subst hb; subst hi; subst hs
        have hJ : k + 1 ≤ w.length ∧ putsM t (opqM t w) (w.take (k + 1)) = out := ⟨by omega, by rw [hnx]; simp⟩
        have hP := PLift.up hJ
        clear hJ hnx hp
        refine swp_vc tabOK hmix ?_
        repeat' (first | simp only [*, go_sem, Nat.reduceLT, Nat.reduceLeDiff, Nat.reduceEqDiff, ↓reduceIte, Nat.reduceAdd, Bool.not_true] | ((with_reducible refine useN (hgx) ?_ ?_ ?_); (focus exact rfl); (focus exact fun _ => rfl)) | ((with_reducible refine useF (hns) ?_ ?_ ?_); (focus exact rfl); (focus exact rfl)))
        refine swp_vc tabOK hmix ?_
        repeat' (simp only [*, go_sem, Nat.reduceLT, Nat.reduceEqDiff, ↓reduceIte, ])
        exact qr_n (k + 1, out) hP.down (by simp only; omega) (weak_mk (by first | rfl | (rw [hX]; rfl)) rfl rfl (by simp [wk_cons, wk_nil, look_cons, closedD, closedC, ]))
    · have h1 : decide ((k : Int) < (w.length : Int)) = false := decide_eq_false (by omega)
      rw [List.take_of_length_le (by omega)] at hout
      clear hop hhi hgt hgw hiB hinj hsrt
      have hP := PLift.up hout
      clear hout
      refine swp_first tabOK hmix ?_
      repeat' (simp only [*, go_sem, Nat.reduceLT, Nat.reduceEqDiff, ↓reduceIte, ])
      refine swp_first tabOK hmix ?_
      repeat' (simp only [*, go_sem, ↓reduceIte, ])
      exact qj_n () trivial (weak_mk (by rw [hX]; rfl) (by rw [← hP.down]; rfl) rfl (by simp [wk_cons, wk_nil, look_cons, closedD, closedC, hP.down]))
  rintro - -
  generalize hpu : putsM t (opqM t w) w = pu
  have hpl : pu.length ≤ 120 := by
    have := putsM_len t (opqM t w) w
    rw [hpu] at this
    omega
  refine swp_join tabOK hmix (α := Unit) (fun _ => ⟨97, [(6, .c (.own 1 0 (makeL t w).length))], [.box [.p (.sl 5 (encT t)), .p (.sl 5 (encT w))], .arr 7 (encE (makeL t w)) false]⟩) (fun _ => True) ?_ ?_
  · have hpu2 := PLift.up hpu
    clear hpu
    repeat' (simp only [*, go_sem, Nat.reduceLT, ↓reduceIte, ])
    refine loop_renS (α := Nat × List En) (fun x => ⟨97, [(0, .c (.p (.sl 5 (encT t)))), (1, .c (.p (.sl 5 (encT w)))), (5, .c (.ptr 0 0)), (65, .c (.p (.sl 5 (encT t)))), (66, .c (.p (.i .i64 t.length))), (67, .c (.p (.i .i64 x.1))), (6, .c (.own 1 0 x.2.length))], [.box [.p (.sl 5 (encT t)), .p (.sl 5 (encT w))], .arr 7 (encE x.2) false]⟩)
      (fun x => x.1 ≤ t.length ∧ pu ++ gonesK t w x.1 = x.2) (fun x => t.length - x.1) (0, pu) ⟨Nat.zero_le _, by simp [gonesK]⟩ (.inl (weak_mk (by rw [hX]; rfl) rfl rfl (by simp [wk_cons, wk_nil, look_cons, closedD, closedC, ]))) ?_
    rintro ⟨k, out⟩ ⟨hk, hout⟩
    simp only at hk hout
    have hol : out.length ≤ 240 := by
      rw [← hout, List.length_append]
      have := gonesK_len t w k
      omega
    by_cases hlt : k < t.length
    · have hx : t[k]? = some t[k] := List.getElem?_eq_getElem hlt
      have hg := encT_at hx
      have hxl := ht.plen _ (List.getElem_mem hlt)
      have hnx := gonesK_next (w := w) hx
      have h1 : decide ((k : Int) < (t.length : Int)) = true := decide_eq_true (by omega)
      have hli : (k : Int) < (t.length : Int) := by omega
      have hk0 : (0 : Int) ≤ k := by omega
      have w1 : IntKind.i64.wrap ((k : Int) + 1) = k + 1 := wrap_i64 (by omega) (by omega)
      have hgx := hgw t[k].p
      have hhx := hhi t[k].p (by omega)
      generalize t[k] = x at hx hg hxl hnx hgx hhx
      have hnx2 : pu ++ gonesK t w (k + 1) = out ++ (if !(getR w x.p).isSome && !covM w (opqM t w) x.p then [goneE x.p] else []) := by
        rw [hnx, ← hout, List.append_assoc]
      clear hop hhi hgt hgw hiB hinj hsrt hout hx hnx
      generalize (getR w x.p).isSome = is at hgx hnx2
      generalize covM w (opqM t w) x.p = hid at hhx hnx2
      generalize (getR w x.p).getD nd0 = n at hgx
      obtain ⟨xp, ⟨xk, xm, xt, xd⟩⟩ := x
      obtain ⟨nk, nm, nt, nd⟩ := n
      unfold Nd.cv at hgx
      simp only at *
      have hb1 : (out.length + 1) * 80 ≤ 140737488355328 := by omega
      have hb2 : out.length + 1 ≤ 9223372036854775807 := by omega
      refine swp_first tabOK hmix ?_
      repeat' (simp only [*, go_sem, Nat.reduceLT, Nat.reduceEqDiff, ↓reduceIte, ])
      refine swp_first tabOK hmix ?_
      repeat' (simp only [*, go_sem, ↓reduceIte, ])
      refine swp_seq_block ?_
      refine swp_first tabOK hmix ?_
      repeat' (simp only [*, go_sem, Nat.reduceLT, Nat.reduceLeDiff, Nat.reduceEqDiff, ↓reduceIte, Nat.reduceAdd, ])
      cases is
      · cases hid
        · have hJ : k + 1 ≤ t.length ∧ pu ++ gonesK t w (k + 1) = out ++ [goneE xp] := ⟨by omega, by rw [hnx2]; rfl⟩
          have hP := PLift.up hJ
          clear hJ hnx2
          refine swp_vc tabOK hmix ?_
          repeat' (first | simp only [*, go_sem, Nat.reduceLT, Nat.reduceLeDiff, Nat.reduceEqDiff, ↓reduceIte, Nat.reduceAdd, Nat.reduceMul, Nat.reduceBEq, Bool.not_false] | ((with_reducible refine useN (hgx) ?_ ?_ ?_); (focus exact rfl); (focus exact fun _ => rfl)) | ((with_reducible refine useF (hhx) ?_ ?_ ?_); (focus exact rfl); (focus exact rfl)) | ((with_reducible refine And.intro ?_ ?_); (focus (decide))))
          refine swp_arr 5 (encE (out ++ [goneE xp])) rfl (gone_row out xp) ?_
          refine swp_vc tabOK hmix ?_
          repeat' (simp only [*, go_sem, Nat.reduceLT, Nat.reduceEqDiff, ↓reduceIte, List.set_cons_succ, List.set_cons_zero])
          exact qr_ren (k + 1, out ++ [goneE xp]) 1 5 hP.down (by simp only; omega) (by first | rfl | (rw [hX]; rfl)) rfl (weak_mk (by first | rfl | (rw [hX]; rfl)) rfl rfl (by simp [wk_cons, wk_nil, look_cons, closedD, closedC, renT, renD, renC]))
        · have hJ : k + 1 ≤ t.length ∧ pu ++ gonesK t w (k + 1) = out := ⟨by omega, by rw [hnx2]; simp⟩
          have hP := PLift.up hJ
          clear hJ hnx2
          refine swp_vc tabOK hmix ?_
          repeat' (first | simp only [*, go_sem, Nat.reduceLT, Nat.reduceLeDiff, Nat.reduceEqDiff, ↓reduceIte, Nat.reduceAdd, Bool.not_true, Bool.not_false] | ((with_reducible refine useN (hgx) ?_ ?_ ?_); (focus exact rfl); (focus exact fun _ => rfl)) | ((with_reducible refine useF (hhx) ?_ ?_ ?_); (focus exact rfl); (focus exact rfl)))
          refine swp_vc tabOK hmix ?_
          repeat' (simp only [*, go_sem, Nat.reduceLT, Nat.reduceEqDiff, ↓reduceIte, ])
          exact qr_n (k + 1, out) hP.down (by simp only; omega) (weak_mk (by first | rfl | (rw [hX]; rfl)) rfl rfl (by simp [wk_cons, wk_nil, look_cons, closedD, closedC, ]))
      · have hJ : k + 1 ≤ t.length ∧ pu ++ gonesK t w (k + 1) = out := ⟨by omega, by rw [hnx2]; simp⟩
        have hP := PLift.up hJ
        clear hJ hnx2
        refine swp_vc tabOK hmix ?_
        repeat' (first | simp only [*, go_sem, Nat.reduceLT, Nat.reduceLeDiff, Nat.reduceEqDiff, ↓reduceIte, Nat.reduceAdd, Bool.not_true] | ((with_reducible refine useN (hgx) ?_ ?_ ?_); (focus exact rfl); (focus exact fun _ => rfl)))
        refine swp_vc tabOK hmix ?_
        repeat' (simp only [*, go_sem, Nat.reduceLT, Nat.reduceEqDiff, ↓reduceIte, ])
        exact qr_n (k + 1, out) hP.down (by simp only; omega) (weak_mk (by first | rfl | (rw [hX]; rfl)) rfl rfl (by simp [wk_cons, wk_nil, look_cons, closedD, closedC, ]))
    · have h1 : decide ((k : Int) < (t.length : Int)) = false := decide_eq_false (by omega)
      have hE : out = makeL t w := by rw [makeL_K (k := k) (by omega), hpu2.down]; exact hout.symm
      clear hop hhi hgt hgw hiB hinj hsrt
      have hP := PLift.up hE
      clear hout hE
      refine swp_first tabOK hmix ?_
      repeat' (simp only [*, go_sem, Nat.reduceLT, Nat.reduceEqDiff, ↓reduceIte, ])
      refine swp_first tabOK hmix ?_
      repeat' (simp only [*, go_sem, ↓reduceIte, ])
      exact qj_n () trivial (weak_mk (by rw [hX]; rfl) (by rw [hP.down]; rfl) rfl (by simp [wk_cons, wk_nil, look_cons, closedD, closedC, hP.down]))
  rintro - -
  have hml : (makeL t w).length ≤ 1000 := by
    unfold makeL gonesM
    rw [List.length_append, List.length_map, hpu]
    have := List.length_filter_le (fun y : It => !(getR w y.p).isSome && !covM w (opqM t w) y.p) t
    omega
  have hsl := sortE_len (makeL t w)
  have hml2 : (makeF t w).length = (makeL t w).length := by rw [← hsrt]; exact hsl
  refine swp_vc tabOK hmix ?_
  repeat' (first | simp only [*, go_sem, Nat.reduceLT, Nat.reduceEqDiff, ↓reduceIte, List.set_cons_succ, List.set_cons_zero] | refine sortE_k (id := 1) (l := makeL t w) hinj (by omega) rfl (by rfl) ?_)
  all_goals rw [List.take_of_length_le (by omega)]
end Go.Proofs.YtjpmajeekikdhaaGreatDoor

end
