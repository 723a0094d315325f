/-
  Contract: a layer out of bytes, by the program. Printed by wip/tools/gen33.py.
-/
import Derived.Test.YtjpmajeekikdhaaGreatDoorN31
import Derived.Test.YtjpmajeekikdhaaGreatDoorG5
import Derived.Test.YtjpmajeekikdhaaGreatDoorVE
set_option linter.unusedSimpArgs false
set_option linter.unusedVariables false
namespace Go.Proofs.YtjpmajeekikdhaaGreatDoor
open Go Go.Dm Go.Proofs
set_option maxRecDepth 100000
set_option maxHeartbeats 8000000

theorem layerRead_c {z : List UInt8} (hz : z.length ≤ 140737488355328) :
    DCalls Tryz.prog 16 [.c (.p (.sl 1 (encB z)))] [] fun r h => r = .tup [.c (.p (.sl 7 (encE (readEs z).1))), .c (.p (.i .i64 (readEs z).2))] ∧ h = [] := by
  have hlen := readE_len z
  have hall := readE_all z
  have hnr := newReader_c hz
  have c0 := rdU16_c (r := ⟨z, false⟩) hz
  have b0 := (Rd.mk z false).len_num 2
  have n0 := (Rd.mk z false).num_lt2
  have hP : Rd.ensP ((Rd.mk z false).num 2).1 ((Rd.mk z false).num 2).2 = readE z := rfl
  simp only at b0 c0
  generalize (Rd.mk z false).num 2 = c at c0 b0 n0 hP
  obtain ⟨m, r0⟩ := c
  simp only at c0 b0 n0 hP
  unfold readEs readEOk
  generalize readE z = t at hP hlen hall ⊢
  have hr0 : r0.b.length ≤ 140737488355328 := Nat.le_trans b0 hz
  clear b0
  refine dcalls_wk ?_
  refine ent tabOK hmix Tryz.func16 rfl rfl fun X0 hX => ?_
  simp only [Tryz.f16, go_sem]
  repeat' (first | simp only [*, go_sem, Nat.reduceLT, Nat.reduceEqDiff, ↓reduceIte, List.map_cons, List.map_nil] | refine useNB (xs := [.sl 1 (encB z), .b false]) hnr rfl rfl ?_ | ((with_reducible refine useB (c0) ?_ ?_ ?_); (focus exact rfl); (focus exact rfl)))
  refine vc_virt tabOK hmix 5 7 rfl ?_
  refine loop_renS (α := Nat × Rd × List En) (fun x => ⟨59, [(0, .c (.p (.sl 1 (encB z)))), (4, .c (.ptr 0 0)), (6, .c (.p (.i .i64 x.1))), (5, .c (.own 1 0 x.2.2.length))], [.box [.p (.sl 1 (encB x.2.1.b)), .p (.b x.2.1.l)], .arr 7 (encE x.2.2) false]⟩)
    (fun x => x.1 ≤ 65535 ∧ x.2.1.b.length ≤ 140737488355328 ∧ x.2.2 ++ Rd.ensP x.1 x.2.1 = t) (fun x => x.1) (m, r0, []) ⟨by omega, hr0, hP⟩ (.inl (weak_mk (by rw [hX]; rfl) rfl rfl (by simp [wk_cons, wk_nil, look_cons, closedD, closedC, ]))) ?_
  clear hnr c0 hP n0 hr0
  rintro ⟨n, r, out⟩ ⟨hn, hb, hJ⟩
  simp only at hn hb hJ
  have hcl := rdLack_c (b := encB r.b) (l := r.l)
  by_cases hgo : n ≠ 0 ∧ r.l = false
  · obtain ⟨g1, g2⟩ := hgo
    obtain ⟨n, rfl⟩ := Nat.exists_eq_succ_of_ne_zero g1
    have h1 : decide ((0 : Int) < ((n + 1 : Nat) : Int)) = true := decide_eq_true (by omega)
    have w1 : IntKind.i64.wrap (((n + 1 : Nat) : Int) - 1) = n := by rw [wrap_i64 (by omega) (by omega)]; omega
    have ct := rdText_c (r := r) hb
    have bt := Nat.le_trans r.len_text hb
    have cu := rdU8_c (r := r.text.2) bt
    have bu := Nat.le_trans (r.text.2.len_num 1) bt
    have cv := rdU8_c (r := (r.text.2.num 1).2) bu
    have bv := Nat.le_trans ((r.text.2.num 1).2.len_num 1) bu
    have ck := take_c (r := ((r.text.2.num 1).2.num 1).2) bv
    have bk := Nat.le_trans ((r.text.2.num 1).2.num 1).2.len_node bv
    have hol : out.length ≤ 65535 := by rw [← hJ, List.length_append] at hlen; omega
    rw [Rd.ensP, if_neg (by rw [g2]; decide)] at hJ
    unfold Rd.enG Rd.opt opP at hJ
    rw [g2] at ct hcl
    generalize r.text = x1 at ct cu bt bu cv bv ck bk hJ
    obtain ⟨p, r1⟩ := x1
    simp only at ct cu bt bu cv bv ck bk hJ
    generalize r1.num 1 = x2 at cu bu cv bv ck bk hJ
    obtain ⟨kn, r2⟩ := x2
    simp only at cu bu cv bv ck bk hJ
    generalize r2.num 1 = x3 at cv bv ck bk hJ
    obtain ⟨on, r3⟩ := x3
    simp only at cv bv ck bk hJ
    clear g1 hall hlen
    obtain ⟨ob, hob⟩ : ∃ ob, decide ((0 : Int) < (on : Int)) = ob := ⟨_, rfl⟩
    rw [hob] at hJ
    obtain ⟨e0, he0⟩ : ∃ e : List UInt8, e = [] := ⟨[], rfl⟩
    have hz0 : nd0 = ⟨0, 0, 0, e0⟩ := by rw [he0]; rfl
    rw [hz0] at hJ
    clear hz0
    have hP : PLift _ := ⟨hJ⟩
    clear hJ
    refine swp_first tabOK hmix ?_
    repeat' (first | simp only [*, go_sem, Nat.reduceLT, Nat.reduceEqDiff, ↓reduceIte, ] | ((with_reducible refine useB (hcl) ?_ ?_ ?_); (focus exact rfl); (focus exact rfl)))
    refine swp_seq_block ?_
    refine swp_first tabOK hmix ?_
    obtain ⟨V, hV0, hV1, hV2, hV3, hV4, hV5, hV6, hV7, hV8, hV9, hV10⟩ : ∃ V : Nat → DV, V 0 = .c (.ptr 0 0) ∧ V 1 = .c (.p (.sl 1 (encB p))) ∧ V 2 = .c (.p (.s p)) ∧ V 3 = .c (.ptr 0 0) ∧ V 4 = .c (.p (.i .i64 kn)) ∧ V 5 = .c (.ptr 0 0) ∧ V 6 = .c (.p (.i .i64 on)) ∧ V 7 = .c (.p (.b ob)) ∧ V 8 = .agg [.p (.s p), .p (.i .i64 kn), .p (.b ob), .p (.i .i64 0), .p (.i .i64 0), .p (.f 0), .p .nil] ∧ V 9 = .c (.ptr 2 0) ∧ V 10 = .tup [] :=
      ⟨fun i => match i with
        | 0 => .c (.ptr 0 0)
        | 1 => .c (.p (.sl 1 (encB p)))
        | 2 => .c (.p (.s p))
        | 3 => .c (.ptr 0 0)
        | 4 => .c (.p (.i .i64 kn))
        | 5 => .c (.ptr 0 0)
        | 6 => .c (.p (.i .i64 on))
        | 7 => .c (.p (.b ob))
        | 8 => .agg [.p (.s p), .p (.i .i64 kn), .p (.b ob), .p (.i .i64 0), .p (.i .i64 0), .p (.f 0), .p .nil]
        | 9 => .c (.ptr 2 0)
        | 10 => .tup []
        | _ => .jk, rfl, rfl, rfl, rfl, rfl, rfl, rfl, rfl, rfl, rfl, rfl⟩
    obtain ⟨H, hH0, hH1, hH2, hH3, hH4, hH5, hH6, hH7, hH8⟩ : ∃ H : Nat → Bool → DHeap, H 0 false = [.box [.p (.sl 1 (encB r.b)), .p (.b false)], .arr 7 (encE out) false] ∧ H 0 true = [.box [.p (.sl 1 (encB r.b)), .p (.b false)], .arr 7 (encE out) false, .box [.p (.s []), .p (.i .i64 0), .p (.b false), .p (.i .i64 0), .p (.i .i64 0), .p (.f 0), .p .nil]] ∧ H 1 false = [.box [.p (.sl 1 (encB r1.b)), .p (.b r1.l)], .arr 7 (encE out) false] ∧ H 1 true = [.box [.p (.sl 1 (encB r1.b)), .p (.b r1.l)], .arr 7 (encE out) false, .box [.p (.s []), .p (.i .i64 0), .p (.b false), .p (.i .i64 0), .p (.i .i64 0), .p (.f 0), .p .nil]] ∧ H 2 false = [.box [.p (.sl 1 (encB r2.b)), .p (.b r2.l)], .arr 7 (encE out) false] ∧ H 2 true = [.box [.p (.sl 1 (encB r2.b)), .p (.b r2.l)], .arr 7 (encE out) false, .box [.p (.s []), .p (.i .i64 0), .p (.b false), .p (.i .i64 0), .p (.i .i64 0), .p (.f 0), .p .nil]] ∧ H 3 false = [.box [.p (.sl 1 (encB r3.b)), .p (.b r3.l)], .arr 7 (encE out) false] ∧ H 3 true = [.box [.p (.sl 1 (encB r3.b)), .p (.b r3.l)], .arr 7 (encE out) false, .box [.p (.s []), .p (.i .i64 0), .p (.b false), .p (.i .i64 0), .p (.i .i64 0), .p (.f 0), .p .nil]] ∧ H 4 true = [.box [.p (.sl 1 (encB r3.b)), .p (.b r3.l)], .arr 7 (encE out) false, .box [.p (.s p), .p (.i .i64 kn), .p (.b ob), .p (.i .i64 0), .p (.i .i64 0), .p (.f 0), .p .nil]] :=
      ⟨fun s b => match s, b with
        | 0, false => [.box [.p (.sl 1 (encB r.b)), .p (.b false)], .arr 7 (encE out) false]
        | 0, true => [.box [.p (.sl 1 (encB r.b)), .p (.b false)], .arr 7 (encE out) false, .box [.p (.s []), .p (.i .i64 0), .p (.b false), .p (.i .i64 0), .p (.i .i64 0), .p (.f 0), .p .nil]]
        | 1, false => [.box [.p (.sl 1 (encB r1.b)), .p (.b r1.l)], .arr 7 (encE out) false]
        | 1, true => [.box [.p (.sl 1 (encB r1.b)), .p (.b r1.l)], .arr 7 (encE out) false, .box [.p (.s []), .p (.i .i64 0), .p (.b false), .p (.i .i64 0), .p (.i .i64 0), .p (.f 0), .p .nil]]
        | 2, false => [.box [.p (.sl 1 (encB r2.b)), .p (.b r2.l)], .arr 7 (encE out) false]
        | 2, true => [.box [.p (.sl 1 (encB r2.b)), .p (.b r2.l)], .arr 7 (encE out) false, .box [.p (.s []), .p (.i .i64 0), .p (.b false), .p (.i .i64 0), .p (.i .i64 0), .p (.f 0), .p .nil]]
        | 3, false => [.box [.p (.sl 1 (encB r3.b)), .p (.b r3.l)], .arr 7 (encE out) false]
        | 3, true => [.box [.p (.sl 1 (encB r3.b)), .p (.b r3.l)], .arr 7 (encE out) false, .box [.p (.s []), .p (.i .i64 0), .p (.b false), .p (.i .i64 0), .p (.i .i64 0), .p (.f 0), .p .nil]]
        | 4, true => [.box [.p (.sl 1 (encB r3.b)), .p (.b r3.l)], .arr 7 (encE out) false, .box [.p (.s p), .p (.i .i64 kn), .p (.b ob), .p (.i .i64 0), .p (.i .i64 0), .p (.f 0), .p .nil]]
        | _, _ => [], rfl, rfl, rfl, rfl, rfl, rfl, rfl, rfl, rfl⟩
    have hcnt : cnt [1, 4, 6, 10] [0, 1, 3, 4, 5, 6, 9, 2, 7, 8, 10] = 4 := by decide
    refine swp_drawnF tabOK hmix [1, 4, 6, 10] [0, 1, 3, 4, 5, 6, 9, 2, 7, 8, 10] 9 V H (by decide +kernel) rfl hH0 ⟨?_, ?_, ?_, ?_, ?_, ?_, ?_, ?_, ?_, ?_, ?_, trivial⟩ ?_
    · refine goodF_see (c := 0) rfl rfl rfl rfl ?_
      intro s b hs1 hs2 hb1 hb2
      clear hb1 hb2
      have hs4 : 0 ≤ s := hs1
      have hs3 : s = 0 := by omega
      clear hs1 hs2 hs4
      rcases hs3 with rfl
      all_goals cases b
      all_goals repeat' (simp only [*, go_sem, Nat.reduceLT, Nat.reduceEqDiff, ↓reduceIte, ])
      all_goals first | exact ⟨rfl, rfl⟩ | rfl | trace_state
    · refine goodF_chain (c := 0) rfl rfl rfl ?_
      intro b hb1 hb2
      clear hb1 hb2
      cases b
      all_goals repeat' (first | simp only [*, go_sem, Nat.reduceLT, ↓reduceIte, dstOf, List.getElem?_toArray, List.getElem?_cons_zero, Option.bind_some, putF_some] | ((with_reducible refine useB (ct) ?_ ?_ ?_); (focus exact rfl); (focus exact rfl)))
      all_goals first | exact ⟨rfl, rfl⟩ | rfl | trace_state
    · refine goodF_see (c := 1) rfl rfl rfl rfl ?_
      intro s b hs1 hs2 hb1 hb2
      clear hb1 hb2
      have hs4 : 0 ≤ s := hs1
      have hs3 : s = 0 ∨ s = 1 := by omega
      clear hs1 hs2 hs4
      rcases hs3 with rfl | rfl
      all_goals cases b
      all_goals repeat' (simp only [*, go_sem, Nat.reduceLT, Nat.reduceEqDiff, ↓reduceIte, dstOf, List.getElem?_toArray, List.getElem?_cons_zero, List.getElem?_cons_succ, Option.bind_some, putF_some])
      all_goals first | exact ⟨rfl, rfl⟩ | rfl | trace_state
    · refine goodF_chain (c := 1) rfl rfl rfl ?_
      intro b hb1 hb2
      clear hb1 hb2
      cases b
      all_goals repeat' (first | simp only [*, go_sem, Nat.reduceLT, ↓reduceIte, Nat.reduceAdd, dstOf, List.getElem?_toArray, List.getElem?_cons_zero, List.getElem?_cons_succ, Option.bind_some, putF_some] | ((with_reducible refine useB (cu) ?_ ?_ ?_); (focus exact rfl); (focus exact rfl)))
      all_goals first | exact ⟨rfl, rfl⟩ | rfl | trace_state
    · refine goodF_see (c := 2) rfl rfl rfl rfl ?_
      intro s b hs1 hs2 hb1 hb2
      clear hb1 hb2
      have hs4 : 0 ≤ s := hs1
      have hs3 : s = 0 ∨ s = 1 ∨ s = 2 := by omega
      clear hs1 hs2 hs4
      rcases hs3 with rfl | rfl | rfl
      all_goals cases b
      all_goals repeat' (simp only [*, go_sem, Nat.reduceLT, Nat.reduceEqDiff, ↓reduceIte, dstOf, List.getElem?_toArray, List.getElem?_cons_zero, List.getElem?_cons_succ, Option.bind_some, putF_some])
      all_goals first | exact ⟨rfl, rfl⟩ | rfl | trace_state
    · refine goodF_chain (c := 2) rfl rfl rfl ?_
      intro b hb1 hb2
      clear hb1 hb2
      cases b
      all_goals repeat' (first | simp only [*, go_sem, Nat.reduceLT, ↓reduceIte, Nat.reduceAdd, dstOf, List.getElem?_toArray, List.getElem?_cons_zero, List.getElem?_cons_succ, Option.bind_some, putF_some] | ((with_reducible refine useB (cv) ?_ ?_ ?_); (focus exact rfl); (focus exact rfl)))
      all_goals first | exact ⟨rfl, rfl⟩ | rfl | trace_state
    · refine goodF_free (c := 3) rfl rfl rfl ?_
      intro s hs1 hs2
      have hs4 : 0 ≤ s := hs1
      have hs3 : s = 0 ∨ s = 1 ∨ s = 2 ∨ s = 3 := by omega
      clear hs1 hs2 hs4
      rcases hs3 with rfl | rfl | rfl | rfl
      all_goals repeat' (simp only [*, go_sem, Nat.reduceLT, ↓reduceIte, Nat.reduceAdd, dstOf, List.getElem?_toArray, List.getElem?_cons_zero, List.getElem?_cons_succ, Option.bind_some, putF_some])
      all_goals first | exact ⟨rfl, rfl⟩ | rfl | trace_state
    · refine goodF_see (c := 3) rfl rfl rfl rfl ?_
      intro s b hs1 hs2 hb1 hb2
      clear hb1 hb2
      have hs4 : 1 ≤ s := hs1
      have hs3 : s = 1 ∨ s = 2 ∨ s = 3 := by omega
      clear hs1 hs2 hs4
      rcases hs3 with rfl | rfl | rfl
      all_goals cases b
      all_goals repeat' (simp only [*, go_sem, Nat.reduceLT, Nat.reduceEqDiff, ↓reduceIte, dstOf, List.getElem?_toArray, List.getElem?_cons_zero, List.getElem?_cons_succ, Option.bind_some, putF_some])
      all_goals first | exact ⟨rfl, rfl⟩ | rfl | trace_state
    · refine goodF_see (c := 3) rfl rfl rfl rfl ?_
      intro s b hs1 hs2 hb1 hb2
      clear hb1 hb2
      have hs4 : 3 ≤ s := hs1
      have hs3 : s = 3 := by omega
      clear hs1 hs2 hs4
      rcases hs3 with rfl
      all_goals cases b
      all_goals repeat' (simp only [*, go_sem, Nat.reduceLT, Nat.reduceEqDiff, ↓reduceIte, dstOf, List.getElem?_toArray, List.getElem?_cons_zero, List.getElem?_cons_succ, Option.bind_some, putF_some])
      all_goals first | exact ⟨rfl, rfl⟩ | rfl | trace_state
    · refine goodF_see (c := 3) rfl rfl rfl rfl ?_
      intro s b hs1 hs2 hb1 hb2
      clear hb1 hb2
      have hs4 : 3 ≤ s := hs1
      have hs3 : s = 3 := by omega
      clear hs1 hs2 hs4
      rcases hs3 with rfl
      all_goals cases b
      all_goals repeat' (simp only [*, go_sem, Nat.reduceLT, Nat.reduceLeDiff, Nat.reduceEqDiff, ↓reduceIte, Nat.reduceAdd, dstOf, List.getElem?_toArray, List.getElem?_cons_zero, List.getElem?_cons_succ, Option.bind_some, putF_some])
      all_goals first | exact ⟨rfl, rfl⟩ | rfl | trace_state
    · refine goodF_chain (c := 3) rfl rfl rfl ?_
      intro b hb1 hb2
      cases b
      · exact absurd (hb1 rfl) (by decide)
      clear hb1 hb2
      all_goals repeat' (simp only [*, go_sem, Nat.reduceLeDiff, Nat.reduceEqDiff, ↓reduceIte, Nat.reduceAdd, dstOf, List.getElem?_toArray, List.getElem?_cons_zero, List.getElem?_cons_succ, Option.bind_some, putF_some])
      all_goals first | exact ⟨rfl, rfl⟩ | rfl | trace_state
    simp only [*, frameOf, go_sem, dstOf, List.getElem?_toArray, List.getElem?_cons_zero, List.getElem?_cons_succ, Option.bind_some, putF_some, putF_none]
    clear hV0 hV1 hV2 hV3 hV4 hV5 hV6 hV7 hV8 hV9 hV10 hH0 hH1 hH2 hH3 hH4 hH5 hH6 hH7 hH8 hcnt
    refine swp_box 2 [.p (.s p), .p (.i .i64 kn), .p (.b ob), .p (.i .i64 0), .p (.i .i64 0), .p (.f 0), .p .nil] [.p (.s p), .p (.i .i64 kn), .p (.b ob), .p (.i .i64 0), .p (.i .i64 0), .p (.f 0), .p (.sl 1 (encB e0))] rfl rfl ⟨.inl rfl, .inl rfl, .inl rfl, .inl rfl, .inl rfl, .inl rfl, .inr ⟨rfl, 1, by rw [he0]; rfl⟩, trivial⟩ ?_
    refine swp_vc tabOK hmix ?_
    clear he0 hob
    have hJ := hP.down
    clear hP
    cases k1 : ((kn : Int) == 1)
    · simp only [k1, Bool.not_false, if_true] at hJ
      clear ck bk
      have hJ2 : n ≤ 65535 ∧ r3.b.length ≤ 140737488355328 ∧ (out ++ [(⟨p, kn, ob, ⟨0, 0, 0, e0⟩⟩ : En)]) ++ Rd.ensP n r3 = t := ⟨by omega, bv, by rw [← hJ]; simp⟩
      clear hJ
      repeat' (first | simp only [*, go_sem, Nat.reduceLT, Nat.reduceLeDiff, Nat.reduceEqDiff, ↓reduceIte, Nat.reduceAdd, Nat.reduceMul, Nat.reduceBEq, ] | ((with_reducible refine And.intro ?_ ?_); (focus (first | omega | decide))))
      refine swp_vc tabOK hmix ?_
      repeat' (simp only [*, go_sem, Nat.reduceLT, Nat.reduceEqDiff, ↓reduceIte, ])
      first
        | exact qr_ren (n, r3, out ++ [⟨p, kn, ob, ⟨0, 0, 0, e0⟩⟩]) 1 4 hJ2 (by simp only; omega) rfl rfl (weak_mk rfl rfl rfl (by simp [wk_cons, wk_nil, look_cons, closedD, closedC, renT, renD, renC, ]))
        | trace_state
    · simp only [k1, Bool.not_true, Bool.false_eq_true, if_false] at hJ
      generalize r3.take = tk at ck hJ
      generalize r3.node.2 = r4 at ck bk hJ
      obtain ⟨⟨k, md, tt, d⟩, ok⟩ := tk
      simp only at ck hJ
      have hJ2 : n ≤ 65535 ∧ r4.b.length ≤ 140737488355328 ∧ (out ++ [(⟨p, kn, ob, ⟨k, md, tt, d⟩⟩ : En)]) ++ Rd.ensP n r4 = t := ⟨by omega, bk, by rw [← hJ]; simp⟩
      clear hJ
      repeat' (first | simp only [*, go_sem, Nat.reduceLT, Nat.reduceLeDiff, Nat.reduceEqDiff, ↓reduceIte, Nat.reduceAdd, Nat.reduceMul, Nat.reduceBEq, ] | ((with_reducible refine useB (ck) ?_ ?_ ?_); (focus exact rfl); (focus exact rfl)) | ((with_reducible refine And.intro ?_ ?_); (focus (first | omega | decide))))
      refine swp_vc tabOK hmix ?_
      repeat' (simp only [*, go_sem, Nat.reduceLT, Nat.reduceEqDiff, ↓reduceIte, ])
      first
        | exact qr_ren (n, r4, out ++ [⟨p, kn, ob, ⟨k, md, tt, d⟩⟩]) 1 4 hJ2 (by simp only; omega) rfl rfl (weak_mk rfl rfl rfl (by simp [wk_cons, wk_nil, look_cons, closedD, closedC, renT, renD, renC, ]))
        | trace_state
  · have hout : out = t := by
      rw [← hJ]
      cases n with
      | zero => simp [Rd.ensP]
      | succ n =>
        have : r.l = true := by simpa using hgo
        simp [Rd.ensP, this]
    clear hJ
    subst hout
    refine swp_vc tabOK hmix ?_
    have hpp : ∀ x ∈ out, x.p.length ≤ 1000000 := fun x hx => Nat.le_trans (hall x hx).1 (by decide)
    have htt : ∀ x ∈ out, x.n.t < 18446744073709551616 := fun x hx => (hall x hx).2.1.1
    have hll := layerLayN_c (l := out) (by omega) hpp htt
    have hly := layerLay_c (l := out) hlen hpp htt
    have hbd : (layEs out).length ≤ 140737488355328 := by
      have := layEs_len (t := out) fun x hx => ⟨(hall x hx).1, (hall x hx).2.1.2⟩
      omega
    have he := sliceEq_c (a := layEs out) (b := z) hbd
    have hsp : n = 0 ∨ (decide ((0 : Int) < (n : Int)) = true ∧ r.l = true) := by
      by_cases h0 : n = 0
      · exact .inl h0
      · exact .inr ⟨decide_eq_true (by omega), by simpa [h0] using hgo⟩
    clear hpp htt hbd hall hgo
    cases hrt : rightE out
    · have hl := hll hrt
      clear hll hly
      simp only [Bool.false_and, Bool.false_eq_true, if_false]
      rcases hsp with rfl | ⟨h0, h1⟩
      · skip
        repeat' (first | simp only [*, go_sem, Nat.reduceLT, Nat.reduceEqDiff, ↓reduceIte, Int.reduceLT, Int.reduceBNe, ] | ((with_reducible refine useN (hl) ?_ ?_ ?_); (focus exact rfl); (focus exact fun _ => rfl)) | ((with_reducible apply DCalls.frz); (focus exact rfl); (focus exact rfl)))
        all_goals first | exact .inr ⟨_, rfl⟩ | trace_state
      · rw [h1] at hcl
        repeat' (first | simp only [*, go_sem, Nat.reduceLT, Nat.reduceEqDiff, ↓reduceIte, Int.reduceBNe, ] | ((with_reducible refine useB (hcl) ?_ ?_ ?_); (focus exact rfl); (focus exact rfl)) | ((with_reducible refine useN (hl) ?_ ?_ ?_); (focus exact rfl); (focus exact fun _ => rfl)) | ((with_reducible apply DCalls.frz); (focus exact rfl); (focus exact rfl)))
        all_goals first | exact .inr ⟨_, rfl⟩ | trace_state
    · have hl := hly hrt
      clear hll hly
      simp only [Bool.true_and]
      cases hq : (layEs out == z)
      · rw [hq] at he
        rcases hsp with rfl | ⟨h0, h1⟩
        · skip
          repeat' (first | simp only [*, go_sem, Nat.reduceLT, Nat.reduceEqDiff, ↓reduceIte, Int.reduceLT, bne_self_eq_false] | ((with_reducible refine useN (hl) ?_ ?_ ?_); (focus exact rfl); (focus exact fun _ => rfl)) | ((with_reducible refine useF (he) ?_ ?_ ?_); (focus exact rfl); (focus exact rfl)) | ((with_reducible apply DCalls.frz); (focus exact rfl); (focus exact rfl)))
          all_goals first | exact .inr ⟨_, rfl⟩ | trace_state
        · rw [h1] at hcl
          repeat' (first | simp only [*, go_sem, Nat.reduceLT, Nat.reduceEqDiff, ↓reduceIte, bne_self_eq_false] | ((with_reducible refine useB (hcl) ?_ ?_ ?_); (focus exact rfl); (focus exact rfl)) | ((with_reducible refine useN (hl) ?_ ?_ ?_); (focus exact rfl); (focus exact fun _ => rfl)) | ((with_reducible refine useF (he) ?_ ?_ ?_); (focus exact rfl); (focus exact rfl)) | ((with_reducible apply DCalls.frz); (focus exact rfl); (focus exact rfl)))
          all_goals first | exact .inr ⟨_, rfl⟩ | trace_state
      · rw [hq] at he
        rcases hsp with rfl | ⟨h0, h1⟩
        · skip
          repeat' (first | simp only [*, go_sem, Nat.reduceLT, Nat.reduceEqDiff, ↓reduceIte, Int.reduceLT, bne_self_eq_false] | ((with_reducible refine useN (hl) ?_ ?_ ?_); (focus exact rfl); (focus exact fun _ => rfl)) | ((with_reducible refine useF (he) ?_ ?_ ?_); (focus exact rfl); (focus exact rfl)) | ((with_reducible apply DCalls.frz); (focus exact rfl); (focus exact rfl)))
          all_goals first | exact .inr ⟨_, rfl⟩ | trace_state
        · rw [h1] at hcl
          repeat' (first | simp only [*, go_sem, Nat.reduceLT, Nat.reduceEqDiff, ↓reduceIte, bne_self_eq_false] | ((with_reducible refine useB (hcl) ?_ ?_ ?_); (focus exact rfl); (focus exact rfl)) | ((with_reducible refine useN (hl) ?_ ?_ ?_); (focus exact rfl); (focus exact fun _ => rfl)) | ((with_reducible refine useF (he) ?_ ?_ ?_); (focus exact rfl); (focus exact rfl)) | ((with_reducible apply DCalls.frz); (focus exact rfl); (focus exact rfl)))
          all_goals first | exact .inr ⟨_, rfl⟩ | trace_state
end Go.Proofs.YtjpmajeekikdhaaGreatDoor
