/-
  The engine, part 23: the rewriting rules gathered; regions whose order is drawn. No condition: consequences of the parts before.
-/
import Derived.Test.YtomaddpcacoodaaV2
set_option linter.unusedSimpArgs false
set_option linter.unusedVariables false
namespace Go.Dm
open Go

/-! Integers that fit. -/
theorem wrap_u64 {n : Int} (h1 : 0 ≤ n) (h2 : n ≤ 18446744073709551615) : IntKind.u64.wrap n = n := by
  simp only [IntKind.wrap, IntKind.bits, IntKind.signed, Bool.false_and, Bool.false_eq_true, if_false]
  omega
theorem wrap_u8 {n : Int} (h1 : 0 ≤ n) (h2 : n ≤ 255) : IntKind.u8.wrap n = n := by
  simp only [IntKind.wrap, IntKind.bits, IntKind.signed, Bool.false_and, Bool.false_eq_true, if_false]
  omega
theorem wrap_u8b (b : UInt8) : IntKind.u8.wrap (b.toNat : Int) = b.toNat := wrap_u8 (by omega) (by have := b.toNat_lt; omega)
theorem wrap_i64b (b : UInt8) : IntKind.i64.wrap (b.toNat : Int) = b.toNat := wrap_i64 (by omega) (by have := b.toNat_lt; omega)
theorem wrap_u64b (b : UInt8) : IntKind.u64.wrap (b.toNat : Int) = b.toNat := wrap_u64 (by omega) (by have := b.toNat_lt; omega)

/-! Regions whose order is drawn. -/
def kOne (h' : DHeap) (dst : Option Tmp) (v : DV) : DS → Prop := fun s' => s'.h = h' ∧ res s' dst = v
section
variable {P : Program} {T : Tab} {X0 : Ctx}
theorem kOne_some {h h' : DHeap} {i : Nat} {v : DV} {n : Nat} {t : Fr} : kOne h' (some i) v ⟨n, t, h⟩ = (h = h' ∧ look t i = v) := nr rfl
theorem kOne_none {h h' : DHeap} {v : DV} {n : Nat} {t : Fr} : kOne h' none v ⟨n, t, h⟩ = (h = h' ∧ .tup [] = v) := nr rfl
theorem look_kept {S : List Nat} {j : Nat} {t : Fr} (h : S.contains j = true) : look (keep S t) j = look t j := by rw [look_keep, if_pos h]

theorem ds_pure {l : List Oper} {n i : Nat} {rest : List Nat} {t : Fr} {h : DHeap} {K : DS → Prop} {o : Oper} (v : DV) (ho : l[i]? = some o)
    (h1 : ∀ S : List Nat, S = o.looksAt l.toArray → dops P T l.toArray [o] ⟨n, keep S t, h⟩ (kOne h o.dst v)) (h3 : dseq P T l.toArray n [] K rest (putF t o.dst v) [h]) : dseq P T l.toArray n [] K (i :: rest) t [h] :=
  dseq_read v (by simpa using ho) rfl (h1 _ rfl) (by simp) h3
theorem ds_read {l : List Oper} {n i : Nat} {chain rest : List Nat} {t : Fr} {h : DHeap} {old : List DHeap} {K : DS → Prop} {o : Oper} (v : DV) (ho : l[i]? = some o) (hc : chain.contains i = false)
    (h1 : ∀ S : List Nat, S = o.looksAt l.toArray → ∀ h0 ∈ h :: old.take (old.length - loOf l.toArray chain i), dops P T l.toArray [o] ⟨n, keep S t, h0⟩ (kOne h0 o.dst v)) (h3 : dseq P T l.toArray n chain K rest (putF t o.dst v) (h :: old)) :
    dseq P T l.toArray n chain K (i :: rest) t (h :: old) :=
  dseq_read v (by simpa using ho) hc (h1 _ rfl h (by simp)) (fun h0 hh => h1 _ rfl h0 (by simp [hh])) h3
theorem ds_do {l : List Oper} {n i : Nat} {chain rest : List Nat} {t : Fr} {h : DHeap} {old : List DHeap} {K : DS → Prop} {o : Oper} (v : DV) (h' : DHeap) (ho : l[i]? = some o) (hc : chain.contains i = true)
    (h1 : ∀ S : List Nat, S = o.looksAt l.toArray → dops P T l.toArray [o] ⟨n, keep S t, h⟩ (kOne h' o.dst v)) (h3 : dseq P T l.toArray n chain K rest (putF t o.dst v) (h' :: h :: old)) :
    dseq P T l.toArray n chain K (i :: rest) t (h :: old) :=
  dseq_do v h' (by simpa using ho) hc (h1 _ rfl) h3
theorem ds_nil {l : List Oper} {n : Nat} {chain : List Nat} {t : Fr} {h : DHeap} {old : List DHeap} {K : DS → Prop} (hk : K ⟨n, t, h⟩) : dseq P T l.toArray n chain K [] t (h :: old) := dseq_nil hk
theorem vc_rtrue {id : Nat} {ops : Array Oper} {s : DS} {Q : Exit → DS → Prop} : vc P T X0 (.region id ops true) s Q = SWP P X0 (.region id ops true) s Q := nr rfl
theorem vc_drawn (hT : TabOK P T) (hm : P.follows .mixedOrders = true) {id : Nat} {l : List Oper} {n : Nat} {t : Fr} {h : DHeap} {Q : Exit → DS → Prop} (chain order : List Nat) (hp : planOK l.toArray n chain order = true) (hd : dseq P T l.toArray n chain (Q .normal) order t [h]) :
    SWP P X0 (.region id l.toArray true) ⟨n, t, h⟩ Q := swp_drawn hT hm chain order hp hd
theorem putF_some {t : Fr} {i : Nat} {v : DV} : putF t (some i) v = (i, v) :: t := nr rfl
theorem putF_none {t : Fr} {v : DV} : putF t none v = t := nr rfl
end

/-! Contracts in use: at pure arguments. -/
section use
variable {P : Program} {f : FuncId} {args args' : List DV} {h : DHeap} {r : DV} {K : DV → DHeap → Prop}
theorem useF (hc : DCalls P f args [] fun d h' => d = r ∧ h' = []) (hp : dpures h args = some args) (hfl : flatD r = true) (hk : K r h) : DCalls P f args h K := DCalls.useFlat hc hp hfl hk
theorem useN (hc : DCalls P f args [] fun d h' => d = r ∧ h' = []) (hp : dpures h args = some args) (hsh : ∀ n, r.sh n = r) (hk : K r (frzs h (didss args))) : DCalls P f args h K := DCalls.use hc hp hsh hk
theorem useFE {α : Type} {C : α → Prop} {e : α → DV} (hc : DCalls P f args [] fun d h' => ∃ x, C x ∧ d = e x ∧ h' = []) (hp : dpures h args = some args) (hfl : ∀ x, C x → flatD (e x) = true) (hk : ∀ x, C x → K (e x) h) : DCalls P f args h K :=
  (DCalls.flat h hp (fun d h0 ⟨x, hx, hd, _⟩ => by rw [hd]; exact hfl x hx) hc).mono fun d h' ⟨⟨h0, x, hx, h1, h2⟩, h3⟩ => by
    rw [h1, h3]; exact hk x hx
theorem useNE {α : Type} {C : α → Prop} {e : α → DV} (hc : DCalls P f args [] fun d h' => ∃ x, C x ∧ d = e x ∧ h' = []) (hp : dpures h args = some args) (hsh : ∀ x, C x → ∀ n, (e x).sh n = e x) (hk : ∀ x, C x → K (e x) (frzs h (didss args))) : DCalls P f args h K :=
  (DCalls.frame h hp hc).mono fun d h' ⟨d0, h0, ⟨x, hx, h1, h2⟩, h3, h4⟩ => by
    subst h1; subst h2
    rw [hsh x hx] at h3
    simp only [List.map_nil, List.append_nil] at h4
    rw [h3, h4]; exact hk x hx
/-- Rows among the arguments are made immutable first. -/
theorem DCalls.frz (hne : (didss args).isEmpty = false) (hp : dpures h args = some args') (hd : DCalls P f args' (frzs h (didss args)) K) : DCalls P f args h K := by
  intro X vals hh hi hr
  obtain ⟨X', h1, h2, h3, h4, h5, h6⟩ := freezes (didss args) hi
  rw [← hh] at hp hd
  have hr' : RelDs X' args' vals := dpures_rel (Y := X') hi h4 h1 rfl rfl hr hp h6
  have key : ∀ v w', Ret X' K v w' → Ret X K v w' := fun v w' ⟨d, Y, k1, k2, k3, k4, k5⟩ => ⟨d, Y, k1, k2, h4.trans h5 k3, k4, k5⟩
  rw [← h1]
  rcases hd X' vals h2 h5 hr' with ⟨h7, h8⟩ | ⟨v, w', h7, h8⟩
  · exact .inl ⟨h7, h8.mono fun e w' ⟨v, he, hv⟩ => ⟨v, he, key _ _ hv⟩⟩
  · exact .inr ⟨v, w', h7, key _ _ h8⟩
end use

attribute [go_sem] Nat.zero_add Nat.add_zero Nat.mul_one encB_len List.take_length List.drop_zero List.length_map
attribute [go_sem] cond_true cond_false
attribute [go_sem] wrap_i64 wrap_u64 wrap_u8 wrap_u8b wrap_i64b wrap_u64b vc_skip vc_ret vc_exit vc_seq vc_block vc_cond vc_region vc_rtrue vc_loop vsq_n vsq_r vsq_e qb_n qb_r qb_e ql_e ql_r vpost_n vpost_r vcond_t vcond_f vo_nil vo_one vo_guard gv_zero gv_succ
  kont_some kont_none kP_ap kD_ap kB_ap kN_ap kU_ap vg_tt vg_ff vg_tf vg_ft vg_tup vp_t vp_f vp_b do_move do_assign do_pick vkAlloc do_alloc vbox do_box evPs evL do_build vfillS vfillA vopt_some vb_struct vb_array do_buildS
  do_load do_store vnilc do_nilc do_bin do_un do_conv bndV vslice do_slice do_fieldA vfield do_field do_indexA do_index vextract do_extract vclo do_func do_make vcall do_call do_len do_append do_min do_max
  db_i db_shl db_shr db_s db_f vbb db_b vnl db_n kOne_some kOne_none putF_some putF_none
attribute [go_sem] vres FinP dresD evD_tmp evD_const evD_func constD look_cons dint dflt dstr dun dload dstore dfield dpart dindexA dindex dconv dbuildS dlen dappend elemsOf dmm dmake cellsD EV.toDV KV.toDV capsD at_zero at_succ TK.agg splice cellss pvss pvs pvOf idss idsOf idOf
  rpure dpure dpures cpure epure epures rids dids didss eids eidss frzs frzH closedB closedC closedK closedE frameAt nilq_nil nilq_sl_cons nilq_sl_nil nilq_cons nilq_none bytesOf_encB encB_nil DV.sh CV.sh EV.sh KV.sh flatP flatC flatE flatD
attribute [go_sem] List.getElem?_cons_zero List.getElem?_cons_succ List.map_cons List.map_nil List.take_succ_cons List.take_zero List.take_nil List.drop_succ_cons List.drop_zero List.drop_nil List.nil_append List.cons_append List.append_nil List.set_cons_zero List.set_cons_succ
  List.length_cons List.length_nil List.length_append List.length_singleton List.all_cons List.all_nil List.reverse_cons List.reverse_nil Option.map_some Option.map_none Option.bind_some List.getD_cons_zero List.getD_cons_succ List.isEmpty_nil
  ne_eq not_false_eq_true not_true_eq_false true_and and_true false_and and_false reduceCtorEq decide_true decide_false Bool.false_eq_true Int.toNat_natCast Bool.not_true Bool.not_false eq_self true_implies false_implies List.forall_mem_cons forall_const implies_true List.not_mem_nil List.mem_cons or_false forall_eq_or_imp forall_eq Int.cast_ofNat_Int
  List.toList_toArray Bool.and_true Bool.true_and Bool.and_false Bool.false_and Bool.or_false Bool.or_true Bool.true_or Bool.false_or

end Go.Dm
