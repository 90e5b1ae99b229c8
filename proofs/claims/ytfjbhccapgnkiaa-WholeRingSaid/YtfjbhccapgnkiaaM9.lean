/- lapidarylaw02.WholeRing answers true for every input: sums and products of any three numbers of at most 40 bytes are the same either way round and in any grouping, and a product of a sum is the sum of the products. Conditions: none beyond the row's own. -/
import Derived.Test.YtfjbhccapgnkiaaF9
import Derived.Test.YtfjbhccapgnkiaaU9
import Derived.Test.YtfjbhccapgnkiaaR0
import Derived.Test.YtfjbhccapgnkiaaRows
namespace Go.Proofs.Ytfjbhccapgnkiaa.P
open Go.RowKit Go.Proofs.YtfjbhccapgnkiaaW.PrintWords Go.Proofs.YtfjbhccapgnkiaaW.PrintLast Go.Proofs.YtfjbhccapgnkiaaW.PrintMore
attribute [local go_sem] max2_int min2_int max_two min_two max_three min_three max_four min_four
set_option linter.unusedVariables false
set_option linter.unusedSimpArgs false

open Go.ChangeShapes Go.WideShapes Go.ChangeAt
open Go.Proofs.YtfjbhccapgnkiaaW

theorem sum_of {k : Nat} {a b c : Bool} {x y z : List Int} (h : whole_Add.f k a x b y = some (c, z, 0)) : lapidarylaw02_sum.f k a x b y = some (c, z, true) := by unfold lapidarylaw02_sum.f; rw [h]; rfl

theorem prod_of {k : Nat} {a b c : Bool} {x y z : List Int} (h : whole_Mul.f k a x b y = some (c, z, 0)) : lapidarylaw02_product.f k a x b y = some (c, z, true) := by unfold lapidarylaw02_product.f; rw [h]; rfl

/-! ### WholeRing: the row -/
set_option maxRecDepth 100000 in
theorem wholeRing_lifted (os : Os) (started : os.Started) (H : Type) (enc : TypeId × Value → H) :
    ReturnsInHanded {} Try.checked os 9 .any (Rows.wholeRingSpec.pre6 enc Try.prog Try.f9 Rows.wholeRingRow.domain false) (Rows.wholeRingSpec.post enc Try.prog Try.f9 false true false false) := by
  refine returnsInHanded_of_change_sized (C := Try.checked) Try.own started (by kernel_rfl) Try.func9
    (ChangeSpec.witness6 (enc := enc) (C := Try.checked) false ⟨#[], #[.agg #[.bool false, .slice none 0 0], .agg #[.bool false, .slice none 0 0], .agg #[.bool false, .slice none 0 0]], []⟩ 8 (by kernel_rfl) (by kernel_rfl) (by kernel_rfl) (by kernel_rfl)) ?_
  intro W base args ds gs before hval0 hW hcnd hsz0 _
  have hsz : (DataW.weightsEach Try.prog (Try.f9.params.toList ++ Rows.wholeRingSpec.plain.varTypes Try.prog) (ds ++ gs)).all (· ≤ reachBytes) = true := hsz0
  have hval : ∀ (j : Nat) t v, Try.f9.params[j]? = some t → args[j]? = some v → Value.okWide Try.prog W .any base t v := hval0
  have hW' := hW
  obtain ⟨p, q, hA0, hV, rfl, hfz, hnd⟩ := hW
  have hA : DataW.TrodAll enc Try.prog W 0 (fun _ => true) true Try.f9.params.toList args.toList ds p := hA0
  rw [Try.params9] at hA hval hsz
  obtain ⟨v0, vs0, d0, ds0, p0, q0, hargs, rfl, rfl, h0, r0⟩ := trodAll_cons hA
  obtain ⟨v1, vs1, d1, ds1, p1, q1, rfl, rfl, rfl, h1, r1⟩ := trodAll_cons r0
  obtain ⟨v2, vs2, d2, ds2, p2, q2, rfl, rfl, rfl, h2, r2⟩ := trodAll_cons r1
  obtain ⟨rfl, rfl, rfl⟩ := trodAll_nil r2
  obtain rfl : args = #[v0, v1, v2] := by cases args; simp_all
  obtain ⟨rfl, rfl⟩ := trodVars_none hV
  have lt0 : ∀ x ∈ p0, x.block < W.heap.size := by obtain ⟨m, hm⟩ := h0; exact DataW.trod_lt m _ _ _ hm
  obtain ⟨n0, A0, c0, l0, rfl, hr0, hc0, hA0_, hl0, hb0⟩ := open_num hsz (j := 0) rfl rfl (hval 0 24 v0 rfl rfl) h0
  have lt1 : ∀ x ∈ p1, x.block < W.heap.size := by obtain ⟨m, hm⟩ := h1; exact DataW.trod_lt m _ _ _ hm
  obtain ⟨n1, A1, c1, l1, rfl, hr1, hc1, hA1, hl1, hb1⟩ := open_num hsz (j := 1) rfl rfl (hval 1 24 v1 rfl rfl) h1
  have lt2 : ∀ x ∈ p2, x.block < W.heap.size := by obtain ⟨m, hm⟩ := h2; exact DataW.trod_lt m _ _ _ hm
  obtain ⟨n2, A2, c2, l2, rfl, hr2, hc2, hA2, hl2, hb2⟩ := open_num hsz (j := 2) rfl rfl (hval 2 24 v2 rfl rfl) h2
  clear hA0 hval0 hsz0 hsz
  by_cases s0 : smallB n0 l0 = true
  · by_cases s1 : smallB n1 l1 = true
    · by_cases s2 : smallB n2 l2 = true
      · obtain ⟨k1, k2, k3, k4, k5, k6, k7, k8, k9, k10, k11, ja, la, jb, lb, jc, lc, jp, lp, jm, lm, jn, ln, e1, e2, -, e3, -, e4, e5, -, e6, e7, -, e8, -, e9, -, e10, e11⟩ := ring_plain n0 n1 n2 l0 l1 l2 hb0 hb1 hb2 s0 s1 s2
        refine (ring_walk n0 A0 c0 l0 n1 A1 c1 l1 n2 A2 c2 l2 k1 k2 k3 k4 k5 k6 k7 k8 k9 k10 k11 ja la jb lb jc lc jp lp jm lm jn ln W hr0 hc0 hA0_ hl0 hr1 hc1 hA1 hl1 hr2 hc2 hA2 hl2 (smallB_f s0) (smallB_f s1) (smallB_f s2) (sum_of e1) (sum_of e2) (sum_of e3) (sum_of e4) (sum_of e5) (prod_of e6) (prod_of e7) (prod_of e8) (prod_of e9) (sum_of e10) e11).mono fun e W' ⟨he, bel⟩ => ?_
        subst he
        exact ⟨_, rfl, _, _, _, [], _, [], hW', trodAll_mk1 (shut_bool Try.underlying4 _), (trodAll_cons_mk (Below.trod Try.laidOut (by kernel_rfl) (of_decide_eq_true (by kernel_rfl)) h0 bel lt0) (trodAll_cons_mk (Below.trod Try.laidOut (by kernel_rfl) (of_decide_eq_true (by kernel_rfl)) h1 bel lt1) (trodAll_cons_mk (Below.trod Try.laidOut (by kernel_rfl) (of_decide_eq_true (by kernel_rfl)) h2 bel lt2) trodAll_mk0))), rfl, bel.frame _, fun h => by cases h⟩
      · refine (ring_not2 n0 A0 c0 l0 n1 A1 c1 l1 n2 A2 c2 l2 W hr0 hc0 hA0_ hl0 hr1 hc1 hA1 hl1 hr2 hc2 hA2 hl2 (smallB_f s0) (smallB_f s1) (smallB_n s2)).mono fun e W' ⟨he, bel⟩ => ?_
        subst he
        exact ⟨_, rfl, _, _, _, [], _, [], hW', trodAll_mk1 (shut_bool Try.underlying4 _), (trodAll_cons_mk (Below.trod Try.laidOut (by kernel_rfl) (of_decide_eq_true (by kernel_rfl)) h0 bel lt0) (trodAll_cons_mk (Below.trod Try.laidOut (by kernel_rfl) (of_decide_eq_true (by kernel_rfl)) h1 bel lt1) (trodAll_cons_mk (Below.trod Try.laidOut (by kernel_rfl) (of_decide_eq_true (by kernel_rfl)) h2 bel lt2) trodAll_mk0))), rfl, bel.frame _, fun h => by cases h⟩
    · refine (ring_not1 n0 A0 c0 l0 n1 A1 c1 l1 n2 A2 c2 l2 W hr0 hc0 hA0_ hl0 hr1 hc1 hA1 hl1 hr2 hc2 hA2 hl2 (smallB_f s0) (smallB_n s1)).mono fun e W' ⟨he, bel⟩ => ?_
      subst he
      exact ⟨_, rfl, _, _, _, [], _, [], hW', trodAll_mk1 (shut_bool Try.underlying4 _), (trodAll_cons_mk (Below.trod Try.laidOut (by kernel_rfl) (of_decide_eq_true (by kernel_rfl)) h0 bel lt0) (trodAll_cons_mk (Below.trod Try.laidOut (by kernel_rfl) (of_decide_eq_true (by kernel_rfl)) h1 bel lt1) (trodAll_cons_mk (Below.trod Try.laidOut (by kernel_rfl) (of_decide_eq_true (by kernel_rfl)) h2 bel lt2) trodAll_mk0))), rfl, bel.frame _, fun h => by cases h⟩
  · refine (ring_not0 n0 A0 c0 l0 n1 A1 c1 l1 n2 A2 c2 l2 W hr0 hc0 hA0_ hl0 hr1 hc1 hA1 hl1 hr2 hc2 hA2 hl2 (smallB_n s0)).mono fun e W' ⟨he, bel⟩ => ?_
    subst he
    exact ⟨_, rfl, _, _, _, [], _, [], hW', trodAll_mk1 (shut_bool Try.underlying4 _), (trodAll_cons_mk (Below.trod Try.laidOut (by kernel_rfl) (of_decide_eq_true (by kernel_rfl)) h0 bel lt0) (trodAll_cons_mk (Below.trod Try.laidOut (by kernel_rfl) (of_decide_eq_true (by kernel_rfl)) h1 bel lt1) (trodAll_cons_mk (Below.trod Try.laidOut (by kernel_rfl) (of_decide_eq_true (by kernel_rfl)) h2 bel lt2) trodAll_mk0))), rfl, bel.frame _, fun h => by cases h⟩
theorem and_regroup {b l m k p v f : Bool} (h1 : (b && (p && v && f)) = true) (h2 : (l && m && k) = true) : (b && l && m && k && p && v && f) = true := by
  cases b <;> cases l <;> cases m <;> cases k <;> cases p <;> cases v <;> cases f <;> first | rfl | exact h1 | exact h2
set_option maxHeartbeats 40000000 in
set_option maxRecDepth 100000 in
theorem wholeRing_facts : joinedFacts Try.pinned.checked.prog 9 Try.f9 Rows.wholeRingSpec Rows.wholeRingRow = true := by
  unfold joinedFacts
  refine and_regroup ?_ (by as_aux_lemma => kernel_rfl)
  repeat' (with_reducible refine Bool.and_eq_true_iff.2 ⟨?_, ?_⟩)
  all_goals as_aux_lemma => kernel_rfl
theorem wholeRing_holds : Rows.WholeRingSaid :=
  OpenClaim.holds_of_wide 9 Try.f9 rfl rfl rfl rfl rfl rfl rfl ⟨rfl, rfl, rfl, rfl, rfl⟩ rfl rfl rfl rfl rfl (by kernel_rfl) Try.func9 wholeRing_facts
    (of_decide_eq_true (by kernel_rfl)) (by unfold Func.isWrapper; first | (rw [if_pos (by decide +kernel)]; kernel_rfl) | (rw [if_neg (by decide +kernel)]; exact ⟨rfl, rfl⟩))
    (fun os started H enc _ => wholeRing_lifted os started H enc)

end Go.Proofs.Ytfjbhccapgnkiaa.P
