/-
  Contracts of the document's paths with links: a path split, a path walked.
-/
import Derived.Test.YtnbgaphhhjnjlaaGreatDoorW7
import Derived.Test.YtnbgaphhhjnjlaaGreatDoorD1
import Derived.Test.YtnbgaphhhjnjlaaGreatDoorVN
set_option linter.unusedSimpArgs false
set_option linter.unusedVariables false
namespace Go.Proofs.YtnbgaphhhjnjlaaGreatDoor
open Go Go.Dm Go.Proofs
set_option maxRecDepth 100000
set_option maxHeartbeats 8000000

theorem refJoin_c {d n : List UInt8} (hd : d.length ≤ 1000) (hn : n.length ≤ 1000) : DCalls Tryz.prog 52 [.c (.p (.s d)), .c (.p (.s n))] [] fun r h => r = .c (.p (.s (joinF d n))) ∧ h = [] := by
  unfold joinF
  refine ent tabOK hmix Tryz.func52 rfl rfl fun X0 hX => ?_
  simp only [Tryz.f52, go_sem]
  repeat' (first | simp only [*, go_sem, Nat.reduceLT, Nat.reduceLeDiff, Nat.reduceEqDiff, ↓reduceIte, ] | with_reducible refine vcond_split (fun _ => ?_) (fun _ => ?_) | ((with_reducible refine And.intro ?_ ?_); (focus (omega))))
  all_goals simp_all

theorem refSplit_c {s : List UInt8} (hs : s.length ≤ 9223372036854775807) : DCalls Tryz.prog 50 [.c (.p (.s s))] [] fun r h => r = .tup [.c (.p (.sl 1 (Go.Dm.encS (splitF s).1))), .c (.p (.i .i64 (splitF s).2))] ∧ h = [] := by
  refine dcalls_wk ?_
  unfold splitF
  cases q0 : decide ((120 : Int) < s.length)
  · rw [if_neg (by decide)]
    have q0' : ¬ (120 : Int) < s.length := of_decide_eq_false q0
    have hcl : (cutR s).length ≤ s.length + 1 := cutL_len s []
    have hct := cutR_c (s := s) (by omega)
    generalize cutR s = P at hcl hct ⊢
    refine ent tabOK hmix Tryz.func50 rfl rfl fun X0 hX => ?_
    simp only [Tryz.f50, go_sem]
    repeat' (simp only [*, go_sem, Nat.reduceLT, Nat.reduceEqDiff, ↓reduceIte, ])
    refine loop_ren tabOK hmix (α := Nat) (fun k => ⟨48, [(0, .c (.p (.s s))), (4, .c (.p (.i .i64 k)))], []⟩)
      (fun k => k ≤ s.length ∧ (s.take k).all (fun b => !((b.toNat : Int) == 0)) = true) (fun k => s.length - k) 0 ⟨Nat.zero_le _, rfl⟩ (.inl (weak_mk (by rw [hX]; rfl) rfl rfl (by simp [wk_cons, wk_nil, look_cons, closedD, closedC, ]))) ?_
    rintro k ⟨hk, hz⟩
    by_cases hlt : k < s.length
    · have hx : s[k]? = some s[k] := List.getElem?_eq_getElem hlt
      have hg := getD_at hx
      have h1 : decide ((k : Int) < (s.length : Int)) = true := decide_eq_true (by omega)
      have h2 : (k : Int) < (s.length : Int) := by omega
      have w1 : IntKind.i64.wrap ((k : Int) + 1) = k + 1 := wrap_i64 (by omega) (by omega)
      have htk := List.take_add_one (l := s) (i := k)
      have hmem : s[k] ∈ s := List.getElem_mem hlt
      rw [hx] at htk
      generalize s[k] = x at hx hg htk hmem
      cases hb : ((x.toNat : Int) == 0)
      ·
        repeat' (first | simp only [*, go_sem, Nat.reduceLT, Nat.reduceEqDiff, ↓reduceIte, ] | ((with_reducible refine And.intro ?_ ?_); (focus (omega))))
        exact qr_n (k + 1) ⟨by omega, by rw [htk, List.all_append, hz]; simp only [Option.toList, List.all_cons, List.all_nil, hb]; rfl⟩ (by omega) (weak_mk rfl rfl rfl (by simp [wk_cons, wk_nil, look_cons, closedD, closedC, ]))
      · have hall : (s.all fun b => !((b.toNat : Int) == 0)) = false := by
          rw [List.all_eq_false]
          exact ⟨x, hmem, by rw [hb]; decide⟩
        rw [hall, if_pos (by rfl)]
        repeat' (first | simp only [*, go_sem, Nat.reduceLT, Nat.reduceEqDiff, ↓reduceIte, ] | ((with_reducible refine And.intro ?_ ?_); (focus (omega))))
        all_goals exact .inr ⟨_, rfl⟩
    · have h1 : decide ((k : Int) < (s.length : Int)) = false := decide_eq_false (by omega)
      rw [List.take_of_length_le (by omega)] at hz
      rw [hz, if_neg (by decide)]
      repeat' (first | simp only [*, go_sem, Nat.reduceLT, Nat.reduceEqDiff, ↓reduceIte, ] | ((with_reducible refine useN (hct) ?_ ?_ ?_); (focus exact rfl); (focus exact fun _ => rfl)))
      clear hct hz
      refine vc_virt tabOK hmix 5 1 rfl ?_
      refine loop_ren tabOK hmix (α := Nat × List (List UInt8)) (fun x => ⟨48, [(6, .c (.p (.sl 1 (Go.Dm.encS P)))), (7, .c (.p (.i .i64 x.1))), (5, .c (.own 0 0 x.2.length))], [.arr 1 (Go.Dm.encS x.2) false]⟩)
        (fun x => x.1 ≤ P.length ∧ ((P.take x.1).all fun y => !decide ((24 : Int) < y.length)) = true ∧ ((P.take x.1).filter fun y => !(y == [])) = x.2) (fun x => P.length - x.1) (0, []) ⟨Nat.zero_le _, rfl, rfl⟩ (.inl (weak_mk (by rw [hX]; rfl) rfl rfl (by simp [wk_cons, wk_nil, look_cons, closedD, closedC, encS_nil]))) ?_
      rintro ⟨k, out⟩ ⟨hk, hal, hfo⟩
      simp only at hk hal hfo
      have hol : out.length ≤ k := by rw [← hfo]; exact Nat.le_trans (List.length_filter_le ..) (List.length_take_le ..)
      by_cases hlt : k < P.length
      · have hx : P[k]? = some P[k] := List.getElem?_eq_getElem hlt
        have hg := encS_at hx
        have h1 : decide ((k : Int) < (P.length : Int)) = true := decide_eq_true (by omega)
        have h2 : (k : Int) < (P.length : Int) := by omega
        have h0 : (0 : Int) ≤ (k : Int) := by omega
        have w1 : IntKind.i64.wrap ((k : Int) + 1) = k + 1 := wrap_i64 (by omega) (by omega)
        have htk := List.take_add_one (l := P) (i := k)
        have hmem : P[k] ∈ P := List.getElem_mem hlt
        rw [hx] at htk
        generalize P[k] = x at hx hg htk hmem
        repeat' (first | simp only [*, go_sem, Nat.reduceLT, Nat.reduceLeDiff, Nat.reduceEqDiff, ↓reduceIte, Nat.reduceAdd, Nat.reduceBEq, ] | with_reducible refine vcond_split (fun _ => ?_) (fun _ => ?_) | ((with_reducible refine And.intro ?_ ?_); (focus (first | omega | decide))))
        · rename_i hb
          have : (P.all fun y => !decide ((24 : Int) < y.length)) = false := by
            rw [List.all_eq_false]
            exact ⟨x, hmem, by rw [hb]; decide⟩
          rw [this]
          exact ⟨.inr ⟨_, rfl⟩, rfl⟩
        · rename_i hb hn
          have hn' : x ≠ [] := by simpa using hn
          exact qr_ren (k + 1, out ++ [x]) 0 2 ⟨by omega, by rw [htk]; simp [hal, hb], by rw [htk, List.filter_append, hfo]; simp [hn']⟩ (by simp only; omega) rfl rfl (weak_mk rfl rfl rfl (by simp [wk_cons, wk_nil, look_cons, closedD, closedC, renT, renD, renC, ]))
        · rename_i hb hn
          have hn' : x = [] := by simpa using hn
          exact qr_n (k + 1, out) ⟨by omega, by rw [htk]; simp [hal, hb], by rw [htk, List.filter_append, hfo]; simp [hn']⟩ (by simp only; omega) (weak_mk rfl rfl rfl (by simp [wk_cons, wk_nil, look_cons, closedD, closedC, ]))
      · have h1 : decide ((k : Int) < (P.length : Int)) = false := decide_eq_false (by omega)
        rw [List.take_of_length_le (by omega)] at hal hfo
        rw [hal, if_pos rfl, hfo]
        repeat' (simp only [*, go_sem, Nat.reduceLT, Nat.reduceEqDiff, ↓reduceIte, ])
        all_goals first | exact .inl rfl | rw [List.take_of_length_le (by omega)]
  · rw [if_pos (by rfl)]
    refine ent tabOK hmix Tryz.func50 rfl rfl fun X0 hX => ?_
    simp only [Tryz.f50, go_sem]
    repeat' (simp only [*, go_sem, Nat.reduceLT, Nat.reduceEqDiff, ↓reduceIte, ])
    all_goals exact .inr ⟨_, rfl⟩

theorem refWalk_c {t : List It} {s : List UInt8} {fo : Bool} (h : OkT t) (hs : s.length ≤ 9223372036854775807) :
    DCalls Tryz.prog 26 [.c (.p (.sl 5 (encT t))), .c (.p (.s s)), .c (.p (.b fo))] [] fun r h => r = .tup [.c (.p (.s (walkF t s fo).1)), .c (.p (.b (walkF t s fo).2.1)), .c (.p (.i .i64 (walkF t s fo).2.2))] ∧ h = [] := by
  have htl := h.len
  have hsp := refSplit_c (s := s) hs
  have hle := splitF_len (s := s)
  have hme := splitF_mem (s := s)
  unfold walkF
  generalize splitF s = S at hsp hle hme ⊢
  obtain ⟨P, e⟩ := S
  simp only at hsp hle hme ⊢
  cases q0 : (e == 0)
  · have q1 : (e != 0) = true := by rw [bne, q0]; rfl
    refine ent tabOK hmix Tryz.func26 rfl rfl fun X0 hX => ?_
    simp only [Tryz.f26, go_sem]
    repeat' (first | simp only [*, go_sem, Nat.reduceLT, Nat.reduceEqDiff, ↓reduceIte, Nat.reduceAdd, ] | ((with_reducible refine useN (hsp) ?_ ?_ ?_); (focus exact rfl); (focus exact fun _ => rfl)))
  · have he := eq_of_beq q0
    subst he
    rw [if_pos (by rfl)]
    generalize hW : walkW t fo 1400 [] P 0 = W
    refine ent tabOK hmix Tryz.func26 rfl rfl fun X0 hX => ?_
    simp only [Tryz.f26, go_sem]
    repeat' (first | simp only [*, go_sem, Nat.reduceLT, Nat.reduceEqDiff, ↓reduceIte, Nat.reduceAdd, bne_self_eq_false] | ((with_reducible refine useN (hsp) ?_ ?_ ?_); (focus exact rfl); (focus exact fun _ => rfl)))
    clear hsp
    refine loop_renD tabOK hmix (α := Nat × List UInt8 × List (List UInt8) × Nat) (fun x => ⟨107, [(0, .c (.p (.sl 5 (encT t)))), (2, .c (.p (.b fo))), (9, .c (.p (.sl 1 (Go.Dm.encS x.2.2.1)))), (11, .c (.p (.s x.2.1))), (12, .c (.p (.i .i64 x.2.2.2)))], []⟩)
      (fun x => x.2.1.length ≤ 120 ∧ (∀ p ∈ x.2.2.1, p.length ≤ 120) ∧ x.2.2.2 ≤ 8 ∧ (9 - x.2.2.2) * 130 + x.2.2.1.length < x.1 ∧ x.1 ≤ 1400 ∧ walkW t fo x.1 x.2.1 x.2.2.1 x.2.2.2 = W) (fun x => x.1) (1400, [], P, 0) ⟨by simp, hme, by simp, by simp only; omega, by simp, hW⟩ (.inl (.inl (weak_mk (by rw [hX]; rfl) rfl rfl (by simp [wk_cons, wk_nil, look_cons, closedD, closedC, ])))) ?_
    rintro ⟨f, c, ps, hops⟩ ⟨hcl, hpl, hh8, hb, hfl, hw⟩
    simp only at hcl hpl hh8 hb hfl hw
    clear hW hle hme
    cases ps with
    | nil =>
      obtain ⟨k, rfl⟩ : ∃ k, f = k + 1 := ⟨f - 1, by omega⟩
      simp only [walkW] at hw
      subst hw
      repeat' (simp only [*, go_sem, Nat.reduceLT, Nat.reduceEqDiff, ↓reduceIte, Int.reduceLT, ])
    | cons p ps =>
      obtain ⟨k, rfl⟩ : ∃ k, f = k + 1 := ⟨f - 1, by omega⟩
      simp only [List.length_cons] at hb
      have h1 : decide ((0 : Int) < ((ps.length + 1 : Nat) : Int)) = true := decide_eq_true (by omega)
      have h2 : (0 : Int) < ((ps.length + 1 : Nat) : Int) := by omega
      have h3 : (1 : Int) ≤ ((ps.length + 1 : Nat) : Int) := by omega
      have hg : (Go.Dm.encS (p :: ps)).getD 0 [] = [.s p] := rfl
      have hdr : (Go.Dm.encS (p :: ps)).drop 1 = Go.Dm.encS ps := rfl
      have hpp := hpl p List.mem_cons_self
      have hps : ∀ q ∈ ps, q.length ≤ 120 := fun q hq => hpl q (List.mem_cons_of_mem _ hq)
      simp only [walkW] at hw
      cases q1 : (p == [46])
      · rw [q1, if_neg (by decide)] at hw
        cases q2 : (p == [46, 46])
        · rw [q2, if_neg (by decide)] at hw
          have hdir := isDirR_c (t := t) (p := c) (by omega)
          cases q3 : isDirR t c
          · rw [q3] at hdir hw
            have hw : ([], false, 9) = W := hw
            subst hw
            repeat' (first | simp only [*, go_sem, Nat.reduceLT, Nat.reduceEqDiff, ↓reduceIte, Int.reduceLE, Int.reduceToNat, ] | ((with_reducible refine useF (hdir) ?_ ?_ ?_); (focus exact rfl); (focus exact rfl)) | ((with_reducible refine And.intro ?_ ?_); (focus (omega))))
          · rw [q3] at hdir hw
            rw [if_neg (by decide)] at hw
            have hjn := refJoin_c (d := c) (n := p) (by omega) (by omega)
            have hget := getR_c (t := t) (p := joinF c p) (by omega)
            have hgd := h.getd (joinF c p)
            have hgo := h.getok (p := joinF c p)
            generalize joinF c p = q at hjn hget hw hgd hgo
            cases q4 : decide ((120 : Int) < (q.length : Int))
            · rw [q4, if_neg (by decide)] at hw
              have hql : q.length ≤ 120 := by have := of_decide_eq_false q4; omega
              have hpd : decide ((0 : Int) < (ps.length : Int)) = !(ps == []) := by
                cases ps with
                | nil => rfl
                | cons p l => exact decide_eq_true (by simp only [List.length_cons]; omega)
              cases hgt : getR t q with
              | none =>
                rw [hgt] at hget hw
                simp only [Option.getD_none, Option.isSome_none, nd0] at hget
                simp only at hw
                cases hpz : (ps == [])
                · rw [hpz] at hpd
                  rw [hpz] at hw
                  have hw : ([], false, 6) = W := hw
                  subst hw
                  repeat' (first | simp only [*, go_sem, Nat.reduceLT, Nat.reduceLeDiff, Nat.reduceEqDiff, ↓reduceIte, Nat.reduceAdd, Int.reduceLE, Int.reduceToNat, Bool.not_true, Bool.not_false] | ((with_reducible refine useF (hdir) ?_ ?_ ?_); (focus exact rfl); (focus exact rfl)) | ((with_reducible refine useF (hjn) ?_ ?_ ?_); (focus exact rfl); (focus exact rfl)) | ((with_reducible refine useN (hget) ?_ ?_ ?_); (focus exact rfl); (focus exact fun _ => rfl)) | ((with_reducible refine And.intro ?_ ?_); (focus (omega))))
                · rw [hpz] at hpd
                  rw [hpz] at hw
                  have hw : (q, false, 0) = W := hw
                  subst hw
                  repeat' (first | simp only [*, go_sem, Nat.reduceLT, Nat.reduceLeDiff, Nat.reduceEqDiff, ↓reduceIte, Nat.reduceAdd, Int.reduceLE, Int.reduceToNat, Bool.not_true, Bool.not_false] | ((with_reducible refine useF (hdir) ?_ ?_ ?_); (focus exact rfl); (focus exact rfl)) | ((with_reducible refine useF (hjn) ?_ ?_ ?_); (focus exact rfl); (focus exact rfl)) | ((with_reducible refine useN (hget) ?_ ?_ ?_); (focus exact rfl); (focus exact fun _ => rfl)) | ((with_reducible refine And.intro ?_ ?_); (focus (omega))))
              | some n =>
                rw [hgt] at hget hw hgd hgo
                simp only [Option.getD_some, Option.isSome_some] at hget hgd hgo
                simp only at hw
                obtain ⟨nk, nm, nt, nd⟩ := n
                simp only at hgd hgo
                have hsn := refSplit_c (s := nd) (by omega)
                have hsl := splitF_len (s := nd)
                have hsm := splitF_mem (s := nd)
                have w1 : IntKind.i64.wrap ((hops : Int) + 1) = ((hops + 1 : Nat) : Int) := by rw [wrap_i64 (by omega) (by omega)]; omega
                cases hk3 : (nk == 3)
                · rw [hk3] at hw
                  have hw : walkW t fo k q ps hops = W := hw
                  clear hsn hsl hsm hgo
                  repeat' (first | simp only [*, go_sem, Nat.reduceLT, Nat.reduceLeDiff, Nat.reduceEqDiff, ↓reduceIte, Nat.reduceAdd, Int.reduceLE, Int.reduceToNat, Bool.not_true] | ((with_reducible refine useF (hdir) ?_ ?_ ?_); (focus exact rfl); (focus exact rfl)) | ((with_reducible refine useF (hjn) ?_ ?_ ?_); (focus exact rfl); (focus exact rfl)) | ((with_reducible refine useN (hget) ?_ ?_ ?_); (focus exact rfl); (focus exact fun _ => rfl)) | ((with_reducible refine And.intro ?_ ?_); (focus (omega))))
                  exact qd_n (k, q, ps, hops) ⟨hql, hps, hh8, by simp only; omega, by simp only; omega, hw⟩ (by simp only; omega) (weak_mk rfl rfl rfl (by simp [wk_cons, wk_nil, look_cons, closedD, closedC, ]))
                · have hk3' := eq_of_beq hk3
                  subst hk3'
                  obtain ⟨b, d, rfl⟩ : ∃ b d, nd = b :: d := by
                    have hr := (hgo trivial).2.2
                    cases nd with
                    | nil => exact absurd hr (by simp [rightNodeR, targetR])
                    | cons b d => exact ⟨b, d, rfl⟩
                  have hgb : (encB (b :: d)).getD 0 [] = [.i .u8 b.toNat] := rfl
                  have hgl : (0 : Int) < ((d.length + 1 : Nat) : Int) := by omega
                  clear hgo hgd
                  generalize hpz : (ps == []) = pz at hpd hw
                  cases hlk : (!pz || fo)
                  · rw [hlk] at hw
                    have hw : walkW t fo k q ps hops = W := hw
                    have e1 : pz = true ∧ fo = false := by cases pz <;> cases fo <;> first | exact ⟨rfl, rfl⟩ | cases hlk
                    obtain ⟨rfl, rfl⟩ := e1
                    clear hsn hsl hsm
                    repeat' (first | simp only [*, go_sem, Nat.reduceLT, Nat.reduceLeDiff, Nat.reduceEqDiff, ↓reduceIte, Nat.reduceAdd, Int.reduceLE, Int.reduceToNat, beq_self_eq_true, Bool.not_true] | ((with_reducible refine useF (hdir) ?_ ?_ ?_); (focus exact rfl); (focus exact rfl)) | ((with_reducible refine useF (hjn) ?_ ?_ ?_); (focus exact rfl); (focus exact rfl)) | ((with_reducible refine useN (hget) ?_ ?_ ?_); (focus exact rfl); (focus exact fun _ => rfl)) | ((with_reducible refine And.intro ?_ ?_); (focus (omega))))
                    exact qd_n (k, q, ps, hops) ⟨hql, hps, hh8, by simp only; omega, by simp only; omega, hw⟩ (by simp only; omega) (weak_mk rfl rfl rfl (by simp [wk_cons, wk_nil, look_cons, closedD, closedC, ]))
                  · rw [hlk] at hw
                    rw [if_pos (by rfl)] at hw
                    cases q8 : decide (8 ≤ hops)
                    · have h8 : decide ((8 : Int) < ((hops + 1 : Nat) : Int)) = false := decide_eq_false (by simp at q8; omega)
                      have h8' : hops + 1 ≤ 8 := by simp at q8; omega
                      rw [q8, if_neg (by decide)] at hw
                      generalize splitF (b :: d) = S at hsn hsl hsm hw
                      obtain ⟨more, e2⟩ := S
                      simp only at hsn hsl hsm hw
                      cases qe : (e2 == 0)
                      · rw [qe, if_neg (by decide)] at hw
                        have qe' : (e2 != 0) = true := by rw [bne, qe]; rfl
                        subst hw
                        cases pz
                        ·
                          repeat' (first | simp only [*, go_sem, Nat.reduceLT, Nat.reduceLeDiff, Nat.reduceEqDiff, ↓reduceIte, Nat.reduceAdd, Int.reduceLE, Int.reduceToNat, beq_self_eq_true, Bool.not_true, Bool.not_false] | ((with_reducible refine useF (hdir) ?_ ?_ ?_); (focus exact rfl); (focus exact rfl)) | ((with_reducible refine useF (hjn) ?_ ?_ ?_); (focus exact rfl); (focus exact rfl)) | ((with_reducible refine useN (hget) ?_ ?_ ?_); (focus exact rfl); (focus exact fun _ => rfl)) | ((with_reducible refine useN (hsn) ?_ ?_ ?_); (focus exact rfl); (focus exact fun _ => rfl)) | ((with_reducible refine And.intro ?_ ?_); (focus (omega))))
                        · simp only [Bool.not_true, Bool.false_or] at hlk
                          subst hlk
                          repeat' (first | simp only [*, go_sem, Nat.reduceLT, Nat.reduceLeDiff, Nat.reduceEqDiff, ↓reduceIte, Nat.reduceAdd, Int.reduceLE, Int.reduceToNat, beq_self_eq_true, Bool.not_true] | ((with_reducible refine useF (hdir) ?_ ?_ ?_); (focus exact rfl); (focus exact rfl)) | ((with_reducible refine useF (hjn) ?_ ?_ ?_); (focus exact rfl); (focus exact rfl)) | ((with_reducible refine useN (hget) ?_ ?_ ?_); (focus exact rfl); (focus exact fun _ => rfl)) | ((with_reducible refine useN (hsn) ?_ ?_ ?_); (focus exact rfl); (focus exact fun _ => rfl)) | ((with_reducible refine And.intro ?_ ?_); (focus (omega))))
                      · have qe0 := eq_of_beq qe
                        subst qe0
                        rw [if_pos (by rfl)] at hw
                        have hmp : ∀ x ∈ more ++ ps, x.length ≤ 120 := fun x hx => by
                          rcases List.mem_append.1 hx with hx | hx
                          · exact hsm x hx
                          · exact hps x hx
                        cases hsl8 : ((b.toNat : Int) == 47)
                        · have hw : walkW t fo k c (more ++ ps) (hops + 1) = W := by simpa only [slashed, hsl8, Bool.false_eq_true, if_false] using hw
                          cases pz
                          ·
                            repeat' (first | simp only [*, go_sem, Nat.reduceLT, Nat.reduceLeDiff, Nat.reduceEqDiff, ↓reduceIte, Nat.reduceAdd, Int.reduceLE, Int.reduceToNat, beq_self_eq_true, bne_self_eq_false, Bool.not_true, Bool.not_false] | ((with_reducible refine useF (hdir) ?_ ?_ ?_); (focus exact rfl); (focus exact rfl)) | ((with_reducible refine useF (hjn) ?_ ?_ ?_); (focus exact rfl); (focus exact rfl)) | ((with_reducible refine useN (hget) ?_ ?_ ?_); (focus exact rfl); (focus exact fun _ => rfl)) | ((with_reducible refine useN (hsn) ?_ ?_ ?_); (focus exact rfl); (focus exact fun _ => rfl)) | ((with_reducible refine And.intro ?_ ?_); (focus (first | omega | decide))))
                            exact qd_data (k, c, more ++ ps, hops + 1) 9 3 0 (more.length + ps.length) ⟨hcl, hmp, h8', by simp only [List.length_append]; omega, by simp only; omega, hw⟩ (by simp only; omega) rfl (pvOf_row rfl (by rw [Go.Dm.encS_len, List.length_append])) (weak_mk rfl rfl rfl (by simp [wk_cons, wk_nil, look_cons, closedD, closedC, ]))
                          · simp only [Bool.not_true, Bool.false_or] at hlk
                            subst hlk
                            repeat' (first | simp only [*, go_sem, Nat.reduceLT, Nat.reduceLeDiff, Nat.reduceEqDiff, ↓reduceIte, Nat.reduceAdd, Int.reduceLE, Int.reduceToNat, beq_self_eq_true, bne_self_eq_false, Bool.not_true] | ((with_reducible refine useF (hdir) ?_ ?_ ?_); (focus exact rfl); (focus exact rfl)) | ((with_reducible refine useF (hjn) ?_ ?_ ?_); (focus exact rfl); (focus exact rfl)) | ((with_reducible refine useN (hget) ?_ ?_ ?_); (focus exact rfl); (focus exact fun _ => rfl)) | ((with_reducible refine useN (hsn) ?_ ?_ ?_); (focus exact rfl); (focus exact fun _ => rfl)) | ((with_reducible refine And.intro ?_ ?_); (focus (first | omega | decide))))
                            exact qd_data (k, c, more ++ ps, hops + 1) 9 3 0 (more.length + ps.length) ⟨hcl, hmp, h8', by simp only [List.length_append]; omega, by simp only; omega, hw⟩ (by simp only; omega) rfl (pvOf_row rfl (by rw [Go.Dm.encS_len, List.length_append])) (weak_mk rfl rfl rfl (by simp [wk_cons, wk_nil, look_cons, closedD, closedC, ]))
                        · have hw : walkW t fo k [] (more ++ ps) (hops + 1) = W := by simpa only [slashed, hsl8, if_true] using hw
                          cases pz
                          ·
                            repeat' (first | simp only [*, go_sem, Nat.reduceLT, Nat.reduceLeDiff, Nat.reduceEqDiff, ↓reduceIte, Nat.reduceAdd, Int.reduceLE, Int.reduceToNat, beq_self_eq_true, bne_self_eq_false, Bool.not_true, Bool.not_false] | ((with_reducible refine useF (hdir) ?_ ?_ ?_); (focus exact rfl); (focus exact rfl)) | ((with_reducible refine useF (hjn) ?_ ?_ ?_); (focus exact rfl); (focus exact rfl)) | ((with_reducible refine useN (hget) ?_ ?_ ?_); (focus exact rfl); (focus exact fun _ => rfl)) | ((with_reducible refine useN (hsn) ?_ ?_ ?_); (focus exact rfl); (focus exact fun _ => rfl)) | ((with_reducible refine And.intro ?_ ?_); (focus (first | omega | decide))))
                            exact qd_data (k, [], more ++ ps, hops + 1) 9 3 0 (more.length + ps.length) ⟨by simp, hmp, h8', by simp only [List.length_append]; omega, by simp only; omega, hw⟩ (by simp only; omega) rfl (pvOf_row rfl (by rw [Go.Dm.encS_len, List.length_append])) (weak_mk rfl rfl rfl (by simp [wk_cons, wk_nil, look_cons, closedD, closedC, ]))
                          · simp only [Bool.not_true, Bool.false_or] at hlk
                            subst hlk
                            repeat' (first | simp only [*, go_sem, Nat.reduceLT, Nat.reduceLeDiff, Nat.reduceEqDiff, ↓reduceIte, Nat.reduceAdd, Int.reduceLE, Int.reduceToNat, beq_self_eq_true, bne_self_eq_false, Bool.not_true] | ((with_reducible refine useF (hdir) ?_ ?_ ?_); (focus exact rfl); (focus exact rfl)) | ((with_reducible refine useF (hjn) ?_ ?_ ?_); (focus exact rfl); (focus exact rfl)) | ((with_reducible refine useN (hget) ?_ ?_ ?_); (focus exact rfl); (focus exact fun _ => rfl)) | ((with_reducible refine useN (hsn) ?_ ?_ ?_); (focus exact rfl); (focus exact fun _ => rfl)) | ((with_reducible refine And.intro ?_ ?_); (focus (first | omega | decide))))
                            exact qd_data (k, [], more ++ ps, hops + 1) 9 3 0 (more.length + ps.length) ⟨by simp, hmp, h8', by simp only [List.length_append]; omega, by simp only; omega, hw⟩ (by simp only; omega) rfl (pvOf_row rfl (by rw [Go.Dm.encS_len, List.length_append])) (weak_mk rfl rfl rfl (by simp [wk_cons, wk_nil, look_cons, closedD, closedC, ]))
                    · have h8 : decide ((8 : Int) < ((hops + 1 : Nat) : Int)) = true := decide_eq_true (by simp at q8; omega)
                      rw [q8] at hw
                      have hw : ([], false, 11) = W := hw
                      subst hw
                      cases pz
                      ·
                        repeat' (first | simp only [*, go_sem, Nat.reduceLT, Nat.reduceLeDiff, Nat.reduceEqDiff, ↓reduceIte, Nat.reduceAdd, Int.reduceLE, Int.reduceToNat, beq_self_eq_true, Bool.not_true, Bool.not_false] | ((with_reducible refine useF (hdir) ?_ ?_ ?_); (focus exact rfl); (focus exact rfl)) | ((with_reducible refine useF (hjn) ?_ ?_ ?_); (focus exact rfl); (focus exact rfl)) | ((with_reducible refine useN (hget) ?_ ?_ ?_); (focus exact rfl); (focus exact fun _ => rfl)) | ((with_reducible refine And.intro ?_ ?_); (focus (omega))))
                      · simp only [Bool.not_true, Bool.false_or] at hlk
                        subst hlk
                        repeat' (first | simp only [*, go_sem, Nat.reduceLT, Nat.reduceLeDiff, Nat.reduceEqDiff, ↓reduceIte, Nat.reduceAdd, Int.reduceLE, Int.reduceToNat, beq_self_eq_true, Bool.not_true] | ((with_reducible refine useF (hdir) ?_ ?_ ?_); (focus exact rfl); (focus exact rfl)) | ((with_reducible refine useF (hjn) ?_ ?_ ?_); (focus exact rfl); (focus exact rfl)) | ((with_reducible refine useN (hget) ?_ ?_ ?_); (focus exact rfl); (focus exact fun _ => rfl)) | ((with_reducible refine And.intro ?_ ?_); (focus (omega))))
            · rw [q4] at hw
              have hw : ([], false, 12) = W := hw
              subst hw
              repeat' (first | simp only [*, go_sem, Nat.reduceLT, Nat.reduceEqDiff, ↓reduceIte, Int.reduceLE, Int.reduceToNat, ] | ((with_reducible refine useF (hdir) ?_ ?_ ?_); (focus exact rfl); (focus exact rfl)) | ((with_reducible refine useF (hjn) ?_ ?_ ?_); (focus exact rfl); (focus exact rfl)) | ((with_reducible refine And.intro ?_ ?_); (focus (omega))))
        · rw [q2, if_pos (by rfl)] at hw
          repeat' (first | simp only [*, go_sem, Nat.reduceLT, Nat.reduceEqDiff, ↓reduceIte, Int.reduceLE, Int.reduceToNat, ] | ((with_reducible refine useF (dirOfR_c (p := c) (by omega)) ?_ ?_ ?_); (focus exact rfl); (focus exact rfl)) | ((with_reducible refine And.intro ?_ ?_); (focus (omega))))
          exact qd_n (k, dirOfR c, ps, hops) ⟨Nat.le_trans (dirOf_len c) hcl, hps, hh8, by simp only; omega, by simp only; omega, hw⟩ (by simp only; omega) (weak_mk rfl rfl rfl (by simp [wk_cons, wk_nil, look_cons, closedD, closedC, ]))
      · rw [q1, if_pos (by rfl)] at hw
        repeat' (first | simp only [*, go_sem, Nat.reduceLT, Nat.reduceEqDiff, ↓reduceIte, Int.reduceLE, Int.reduceToNat, ] | ((with_reducible refine And.intro ?_ ?_); (focus (omega))))
        exact qd_n (k, c, ps, hops) ⟨hcl, hps, hh8, by simp only; omega, by simp only; omega, hw⟩ (by simp only; omega) (weak_mk rfl rfl rfl (by simp [wk_cons, wk_nil, look_cons, closedD, closedC, ]))
end Go.Proofs.YtnbgaphhhjnjlaaGreatDoor
