/- lapidarylaw02.WholeSmall answers true for every input: any small number, any number as a small one, and which of two is the lesser one, is what the document says, and what was handed in reads as it did. Conditions: none beyond the row's own. -/
import Derived.Test.YtfjbhccapgnkiaaF6
import Derived.Test.YtfjbhccapgnkiaaU6
import Derived.Test.YtfjbhccapgnkiaaR0
import Derived.Test.YtfjbhccapgnkiaaRows
namespace Go.Proofs.Ytfjbhccapgnkiaa.P
open Go.RowKit Go.Proofs.YtfjbhccapgnkiaaW.PrintWords Go.Proofs.YtfjbhccapgnkiaaW.PrintLast Go.Proofs.YtfjbhccapgnkiaaW.PrintMore
attribute [local go_sem] max2_int min2_int max_two min_two max_three min_three max_four min_four
set_option linter.unusedVariables false
set_option linter.unusedSimpArgs false

open Go.ChangeShapes Go.WideShapes Go.ChangeAt
open Go.Proofs.YtfjbhccapgnkiaaW

theorem i64_low {n : Int} (h : (Lit.int .i64 n).wf = true) : -9223372036854775808 ≤ n := by
  have h' : (decide (IntKind.i64.min ≤ n) && decide (n ≤ IntKind.i64.max)) = true := h
  simp only [Bool.and_eq_true, decide_eq_true_eq] at h'
  have e : IntKind.i64.min = -9223372036854775808 := by decide
  omega
theorem i64_high {n : Int} (h : (Lit.int .i64 n).wf = true) : n < 9223372036854775808 := by
  have h' : (decide (IntKind.i64.min ≤ n) && decide (n ≤ IntKind.i64.max)) = true := h
  simp only [Bool.and_eq_true, decide_eq_true_eq] at h'
  have e : IntKind.i64.max = 9223372036854775807 := by decide
  omega
/-! ### WholeSmall: the row -/
set_option maxRecDepth 100000 in
theorem wholeSmall_lifted (os : Os) (started : os.Started) (H : Type) (enc : TypeId × Value → H) :
    ReturnsInHanded {} Try.checked os 6 .any (Rows.wholeSmallSpec.pre6 enc Try.prog Try.f6 Rows.wholeSmallRow.domain false) (Rows.wholeSmallSpec.post enc Try.prog Try.f6 false true false false) := by
  refine returnsInHanded_of_change_sized (C := Try.checked) Try.own started (by kernel_rfl) Try.func6
    (ChangeSpec.witness6 (enc := enc) (C := Try.checked) false ⟨#[], #[.int .i64 0, .agg #[.bool false, .slice none 0 0], .agg #[.bool false, .slice none 0 0]], []⟩ 8 (by kernel_rfl) (by kernel_rfl) (by kernel_rfl) (by kernel_rfl)) ?_
  intro W base args ds gs before hval0 hW hcnd hsz0 _
  have hsz : (DataW.weightsEach Try.prog (Try.f6.params.toList ++ Rows.wholeSmallSpec.plain.varTypes Try.prog) (ds ++ gs)).all (· ≤ reachBytes) = true := hsz0
  have hval : ∀ (j : Nat) t v, Try.f6.params[j]? = some t → args[j]? = some v → Value.okWide Try.prog W .any base t v := hval0
  have hW' := hW
  obtain ⟨p, q, hA0, hV, rfl, hfz, hnd⟩ := hW
  have hA : DataW.TrodAll enc Try.prog W 0 (fun _ => true) true Try.f6.params.toList args.toList ds p := hA0
  rw [Try.params6] at hA hval hsz
  obtain ⟨v0, vs0, d0, ds0, p0, q0, hargs, rfl, rfl, h0, r0⟩ := trodAll_cons hA
  obtain ⟨v1, vs1, d1, ds1, p1, q1, rfl, rfl, rfl, h1, r1⟩ := trodAll_cons r0
  obtain ⟨v2, vs2, d2, ds2, p2, q2, rfl, rfl, rfl, h2, r2⟩ := trodAll_cons r1
  obtain ⟨rfl, rfl, rfl⟩ := trodAll_nil r2
  obtain rfl : args = #[v0, v1, v2] := by cases args; simp_all
  obtain ⟨rfl, rfl⟩ := trodVars_none hV
  obtain ⟨a0, rfl, rfl, rfl, w0⟩ := open_int Try.underlying2 (hval 0 2 v0 rfl rfl) h0
  have lt1 : ∀ x ∈ p1, x.block < W.heap.size := by obtain ⟨m, hm⟩ := h1; exact DataW.trod_lt m _ _ _ hm
  obtain ⟨n1, A1, c1, l1, rfl, hr1, hc1, hA1, hl1, hb1⟩ := open_num hsz (j := 1) rfl rfl (hval 1 24 v1 rfl rfl) h1
  have lt2 : ∀ x ∈ p2, x.block < W.heap.size := by obtain ⟨m, hm⟩ := h2; exact DataW.trod_lt m _ _ _ hm
  obtain ⟨n2, A2, c2, l2, rfl, hr2, hc2, hA2, hl2, hb2⟩ := open_num hsz (j := 2) rfl rfl (hval 2 24 v2 rfl rfl) h2
  clear hA0 hval0 hsz0 hsz
  obtain ⟨k1, k2, k3, k4, k5, k6, k7, jz, lz, sv, sb, rb, cv, e1, e2, e3, e4, -, e5, e6, e7, e8, e9⟩ := small_plain a0 (i64_low w0) (i64_high w0) n1 n2 l1 l2 hb1 hb2
  refine (small_walk n1 A1 c1 l1 n2 A2 c2 l2 a0 k1 k2 k3 k4 k5 k6 k7 jz lz sv sb rb cv W hr1 hc1 hA1 hl1 hr2 hc2 hA2 hl2 e1 e2 e3 e4 e5 e6 e7 e8 e9).mono fun e W' ⟨he, bel⟩ => ?_
  subst he
  exact ⟨_, rfl, _, _, _, [], _, [], hW', trodAll_mk1 (shut_bool Try.underlying4 _), (trodAll_cons_mk (shut_int Try.underlying2 w0) (trodAll_cons_mk (Below.trod Try.laidOut (by kernel_rfl) (of_decide_eq_true (by kernel_rfl)) h1 bel lt1) (trodAll_cons_mk (Below.trod Try.laidOut (by kernel_rfl) (of_decide_eq_true (by kernel_rfl)) h2 bel lt2) trodAll_mk0))), rfl, bel.frame _, fun h => by cases h⟩
theorem and_regroup {b l m k p v f : Bool} (h1 : (b && (p && v && f)) = true) (h2 : (l && m && k) = true) : (b && l && m && k && p && v && f) = true := by
  cases b <;> cases l <;> cases m <;> cases k <;> cases p <;> cases v <;> cases f <;> first | rfl | exact h1 | exact h2
set_option maxHeartbeats 40000000 in
set_option maxRecDepth 100000 in
theorem wholeSmall_facts : joinedFacts Try.pinned.checked.prog 6 Try.f6 Rows.wholeSmallSpec Rows.wholeSmallRow = true := by
  unfold joinedFacts
  refine and_regroup ?_ (by as_aux_lemma => kernel_rfl)
  repeat' (with_reducible refine Bool.and_eq_true_iff.2 ⟨?_, ?_⟩)
  all_goals as_aux_lemma => kernel_rfl
theorem wholeSmall_holds : Rows.WholeSmallSaid :=
  OpenClaim.holds_of_wide 6 Try.f6 rfl rfl rfl rfl rfl rfl rfl ⟨rfl, rfl, rfl, rfl, rfl⟩ rfl rfl rfl rfl rfl (by kernel_rfl) Try.func6 wholeSmall_facts
    (of_decide_eq_true (by kernel_rfl)) (by unfold Func.isWrapper; first | (rw [if_pos (by decide +kernel)]; kernel_rfl) | (rw [if_neg (by decide +kernel)]; exact ⟨rfl, rfl⟩))
    (fun os started H enc _ => wholeSmall_lifted os started H enc)

end Go.Proofs.Ytfjbhccapgnkiaa.P
