/-
  The engine, sixth part: a nil slice within a box taken as an empty row; a loop's round taken as a whole. No condition.
-/
import Derived.Test.YtfpeelbddefhhaaGreatDoorVB
set_option linter.unusedSimpArgs false
set_option linter.unusedVariables false
namespace Go.Dm
open Go
section
variable {P : Program} {T : Tab} {X0 : Ctx} {Q : Exit → DS → Prop}
theorem swp_box {c : Code} {s : DS} (id : Nat) (cs cs' : List CV) (hb : s.h[id]? = some (.box cs)) (hd : cs.all datC = true) (hw : wkCs cs cs')
    (h : SWP P X0 c ⟨s.n, s.t, s.h.set id (.box cs')⟩ Q) : SWP P X0 c s Q := by
  intro gd X a hh hi hs ht
  have h0 : X.h[id]? = some (.box cs) := by rw [hh]; exact hb
  obtain ⟨g, arr, el, fz, hg, hb1, hb2, hb3, hb4⟩ := hi.blk id _ h0
  have rf := Step.refl hi
  have st : Step X ⟨X.w, X.S, X.G, X.h.set id (.box cs')⟩ := by
    refine ⟨rf.size, rf.os, rf.tape, rf.output, rf.kept, by simp, fun i db' hl hdb hlv => ?_, rf.frame, fun i db g' hdb hl hf hg' => ?_, rf.upper⟩
    · rcases put_some hdb with ⟨rfl, rfl, _⟩ | ⟨hne, h'⟩
      · exact ⟨_, h0, True.intro, rfl, fun g' hg' => (hi.blk _ _ h0).same rfl g' hg'⟩
      · exact ⟨db', h', SameB.refl hlv, rfl, fun g' hg' => (hi.blk i db' h').same hlv g' hg'⟩
    · rcases put_some hdb with ⟨rfl, rfl, _⟩ | ⟨hne, h'⟩
      · exact .inr ⟨_, _, g', h0, rfl, rfl, hg', rfl⟩
      · exact .inr ⟨i, db, g', h', hl, hf, hg', rfl⟩
  have hi' : HInv ⟨X.w, X.S, X.G, X.h.set id (.box cs')⟩ := by
    refine ⟨hi.slt, fun i db hdb => ?_, fun i db g' hdb hl hg' => ?_, fun i db i' db' g1 g2 hdb hl hf hdb' hl' hg1 hg2 he => ?_⟩
    · rcases put_some hdb with ⟨rfl, rfl, _⟩ | ⟨hne, h'⟩
      · exact ⟨g, arr, el, fz, hg, hb1, by rw [wkCs_len hw]; exact hb2, hb3, wkBoxD (X := X) (Y := ⟨X.w, X.S, X.G, X.h.set i (.box cs')⟩) rfl rfl hd hw hb4⟩
      · exact (hi.blk i db h').move st rfl fun _ _ => rfl
    · rcases put_some hdb with ⟨rfl, rfl, _⟩ | ⟨hne, h'⟩
      · have := hi.own _ (.box cs) g' h0 rfl hg'
        exact this
      · exact hi.own i db g' h' hl hg'
    · rcases put_some hdb with ⟨rfl, rfl, _⟩ | ⟨hne, h1'⟩ <;> rcases put_some hdb' with ⟨rfl, rfl, _⟩ | ⟨hne', h2'⟩
      · rfl
      · exact hi.inj i _ i' db' g1 g2 h0 rfl rfl h2' hl' hg1 hg2 he
      · exact hi.inj i db i' _ g1 g2 h1' hl hf h0 rfl hg1 hg2 he
      · exact hi.inj i db i' db' g1 g2 h1' hl hf h2' hl' hg1 hg2 he
  exact h gd ⟨X.w, X.S, X.G, X.h.set id (.box cs')⟩ a (by simp only [hh]) hi' (hs.trans hi st) ⟨ht.size, fun j => (ht.rel j).step st, ht.defs⟩
theorem swp_blockq {id : Nat} {c : Code} {s : DS} (h : SWP P X0 c s (qblock id Q)) : SWP P X0 (.block id c) s Q :=
  swp_block (swp_mono h fun e s' hq => by cases e <;> simp only [qblock] at hq ⊢ <;> exact hq)
theorem swp_vc (hT : TabOK P T) (hm : P.follows .mixedOrders = true) {c : Code} {s : DS} (h : vc P T X0 c s Q) : SWP P X0 c s Q := vc_sound hT hm c h
theorem swp_seq_block {id : Nat} {c y : Code} {s : DS} (h : SWP P X0 c s (qblock id (qrest P X0 y Q))) : SWP P X0 (.seq (.block id c) y) s Q :=
  swp_seq (swp_mono (swp_blockq h) fun e s' hq => by cases e <;> simp only [qrest] at hq ⊢ <;> exact hq)
/-- A loop by an invariant, its round taken as a whole. -/
theorem loop_renS {α : Type} {c : Code} (I : α → DS) (J : α → Prop) (μ : α → Nat) (x0 : α) {s : DS} (hJ : J x0) (hw : WeakR X0.h.length s (I x0))
    (h : ∀ x, J x → SWP P X0 c (I x) (qloopR X0.h.length I J μ x Q)) : SWP P X0 (.loop c) s Q := by
  intro gd X a hh hi hs ht
  obtain ⟨X', h1, h2, h3, h4, h5⟩ := hw.use rfl hh hi hs ht
  rw [← h1]
  refine wp_loop_ghost (fun n a w => ∃ x X, μ x = n ∧ J x ∧ X.w = w ∧ X.h = (I x).h ∧ HInv X ∧ Step X0 X ∧ TInv X (I x) a) (μ x0) ⟨x0, X', rfl, hJ, rfl, h2, h3, h4, h5⟩ ?_
  rintro n a' w' ⟨x, Y, rfl, k1, rfl, k2, k3, k4, k5⟩
  refine wp_mono (h x k1 gd Y a' k2 k3 k4 k5) fun e a w hp => ?_
  obtain ⟨s', Z, p1, rfl, p3, p4, p5, p6⟩ := hp
  cases e <;> simp only [Exit.then, qloopR] at p1 ⊢
  case normal =>
    obtain ⟨y, q1, q2, q3⟩ := p1
    obtain ⟨Z', r1, r2, r3, r4, r5⟩ := q3.use rfl p3 p4 p5 p6
    exact ⟨μ y, q2, y, Z', rfl, q1, r1, r2, r3, r4, r5⟩
  all_goals exact ⟨s', Z, p1, rfl, p3, p4, p5, p6⟩
end
theorem bytesOf_nil : bytesOf [] = some [] := rfl
attribute [go_sem] bytesOf_nil
end Go.Dm
