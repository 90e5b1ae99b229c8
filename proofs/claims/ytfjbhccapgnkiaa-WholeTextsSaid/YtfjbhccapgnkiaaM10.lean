/- lapidarylaw02.WholeTexts answers true for every input: any number's digits, and any text as a number, are what the document says, there and back, and what was handed in reads as it did. Conditions: none beyond the row's own. -/
import Derived.Test.YtfjbhccapgnkiaaF10
import Derived.Test.YtfjbhccapgnkiaaU10
import Derived.Test.YtfjbhccapgnkiaaR0
import Derived.Test.YtfjbhccapgnkiaaRows
import Derived.SizedLaws
namespace Go.Proofs.Ytfjbhccapgnkiaa.P
open Go.RowKit Go.Proofs.YtfjbhccapgnkiaaW.PrintWords Go.Proofs.YtfjbhccapgnkiaaW.PrintLast Go.Proofs.YtfjbhccapgnkiaaW.PrintMore
attribute [local go_sem] max2_int min2_int max_two min_two max_three min_three max_four min_four
set_option linter.unusedVariables false
set_option linter.unusedSimpArgs false

open Go.ChangeShapes Go.WideShapes Go.ChangeAt
open Go.Proofs.YtfjbhccapgnkiaaW

theorem cut_fact (s : ByteArray) (t : ByteArray) (b : Bool) (h : strings_CutPrefix.f s (⟨#[45]⟩ : ByteArray) = some (t, b)) : bytesL (cutD s) = bytesL t := by
  rw [cut_eq] at h
  injection h with h
  injection h with h1 h2
  rw [h1]
theorem cut_len (s : ByteArray) (h : s.size ≤ 140737488351232) : (bytesL (cutD s)).length ≤ 140737488351232 := by
  have := cut_size s
  rw [bytesL_len]; omega
/-! ### WholeTexts: the row -/
set_option maxRecDepth 100000 in
theorem wholeTexts_lifted (os : Os) (started : os.Started) (H : Type) (enc : TypeId × Value → H) :
    ReturnsInHanded {} Try.checked os 10 .any (Rows.wholeTextsSpec.pre6 enc Try.prog Try.f10 Rows.wholeTextsRow.domain false) (Rows.wholeTextsSpec.post enc Try.prog Try.f10 false true false false) := by
  refine returnsInHanded_of_change_sized (C := Try.checked) Try.own started (by kernel_rfl) Try.func10
    (ChangeSpec.witness6 (enc := enc) (C := Try.checked) false ⟨#[], #[.agg #[.bool false, .slice none 0 0], .string ⟨#[]⟩], []⟩ 8 (by kernel_rfl) (by kernel_rfl) (by kernel_rfl) (by kernel_rfl)) ?_
  intro W base args ds gs before hval0 hW hcnd hsz0 _
  have hsz : (DataW.weightsEach Try.prog (Try.f10.params.toList ++ Rows.wholeTextsSpec.plain.varTypes Try.prog) (ds ++ gs)).all (· ≤ reachBytes) = true := hsz0
  have hval : ∀ (j : Nat) t v, Try.f10.params[j]? = some t → args[j]? = some v → Value.okWide Try.prog W .any base t v := hval0
  have hW' := hW
  obtain ⟨p, q, hA0, hV, rfl, hfz, hnd⟩ := hW
  have hA : DataW.TrodAll enc Try.prog W 0 (fun _ => true) true Try.f10.params.toList args.toList ds p := hA0
  rw [Try.params10] at hA hval hsz
  obtain ⟨v0, vs0, d0, ds0, p0, q0, hargs, rfl, rfl, h0, r0⟩ := trodAll_cons hA
  obtain ⟨v1, vs1, d1, ds1, p1, q1, rfl, rfl, rfl, h1, r1⟩ := trodAll_cons r0
  obtain ⟨rfl, rfl, rfl⟩ := trodAll_nil r1
  obtain rfl : args = #[v0, v1] := by cases args; simp_all
  obtain ⟨rfl, rfl⟩ := trodVars_none hV
  have lt0 : ∀ x ∈ p0, x.block < W.heap.size := by obtain ⟨m, hm⟩ := h0; exact DataW.trod_lt m _ _ _ hm
  obtain ⟨n0, A0, c0, l0, rfl, hr0, hc0, hA0_, hl0, hb0⟩ := open_num hsz (j := 0) rfl rfl (hval 0 24 v0 rfl rfl) h0
  obtain ⟨s1, rfl, rfl, rfl, hs1⟩ := Go.ChangeMaps.open_string Try.underlying9 (hval 1 9 v1 rfl rfl) h1
  clear hA0 hval0 hsz0
  have hss : s1.size ≤ 140737488351232 := by
    have h2 := sized_string hsz (j := 1) rfl rfl
    have e : reachBytes = 140737488351232 := by decide
    rw [e] at h2
    simpa using h2
  obtain ⟨tt, k1, k2, k3, k4, ja, la, er, e1, e2, e3, e4, e5, e6, e7, e8, e9⟩ := texts_plain n0 l0 hb0 s1 (by omega)
  have h7' : ∃ k7, okN n0 l0 = true → whole_Read.f k7 tt (bytesL (cutD tt)) = some (n0, l0, 0) := by
    by_cases h : okN n0 l0 = true
    · obtain ⟨k, hk⟩ := e9 h
      exact ⟨k, fun _ => hk⟩
    · exact ⟨0, fun h2 => absurd h2 h⟩
  obtain ⟨k7, e10⟩ := h7'
  by_cases her : er = 0
  · obtain ⟨k5, h5⟩ := e6 her
    subst her
    refine (texts_ok n0 A0 c0 l0 s1 tt k1 k2 k3 k4 k5 k7 (bytesL (cutD s1)) (bytesL (cutD tt)) ja la (okN n0 l0) W hr0 hc0 hA0_ hl0 e1 (cut_fact s1) (cut_len s1 (by omega)) e2 e3 e4 e5 h5 e7 (cut_fact tt) (cut_len tt (by omega)) e10).mono fun e W' ⟨he, bel⟩ => ?_
    subst he
    exact ⟨_, rfl, _, _, _, [], _, [], hW', trodAll_mk1 (shut_bool Try.underlying4 _), (trodAll_cons_mk (Below.trod Try.laidOut (by kernel_rfl) (of_decide_eq_true (by kernel_rfl)) h0 bel lt0) (trodAll_cons_mk (Go.ChangeMaps.shut_string Try.underlying9 hs1) trodAll_mk0)), rfl, bel.frame _, fun h => by cases h⟩
  · refine (texts_bad n0 A0 c0 l0 s1 tt k1 k2 k3 k4 0 k7 (bytesL (cutD s1)) (bytesL (cutD tt)) ja la er (okN n0 l0) W hr0 hc0 hA0_ hl0 e1 (cut_fact s1) (cut_len s1 (by omega)) e2 e3 e4 e5 her e7 (cut_fact tt) (cut_len tt (by omega)) e10).mono fun e W' ⟨he, bel⟩ => ?_
    subst he
    exact ⟨_, rfl, _, _, _, [], _, [], hW', trodAll_mk1 (shut_bool Try.underlying4 _), (trodAll_cons_mk (Below.trod Try.laidOut (by kernel_rfl) (of_decide_eq_true (by kernel_rfl)) h0 bel lt0) (trodAll_cons_mk (Go.ChangeMaps.shut_string Try.underlying9 hs1) trodAll_mk0)), rfl, bel.frame _, fun h => by cases h⟩
theorem and_regroup {b l m k p v f : Bool} (h1 : (b && (p && v && f)) = true) (h2 : (l && m && k) = true) : (b && l && m && k && p && v && f) = true := by
  cases b <;> cases l <;> cases m <;> cases k <;> cases p <;> cases v <;> cases f <;> first | rfl | exact h1 | exact h2
set_option maxHeartbeats 40000000 in
set_option maxRecDepth 100000 in
theorem wholeTexts_facts : joinedFacts Try.pinned.checked.prog 10 Try.f10 Rows.wholeTextsSpec Rows.wholeTextsRow = true := by
  unfold joinedFacts
  refine and_regroup ?_ (by as_aux_lemma => kernel_rfl)
  repeat' (with_reducible refine Bool.and_eq_true_iff.2 ⟨?_, ?_⟩)
  all_goals as_aux_lemma => kernel_rfl
theorem wholeTexts_holds : Rows.WholeTextsSaid :=
  OpenClaim.holds_of_wide 10 Try.f10 rfl rfl rfl rfl rfl rfl rfl ⟨rfl, rfl, rfl, rfl, rfl⟩ rfl rfl rfl rfl rfl (by kernel_rfl) Try.func10 wholeTexts_facts
    (of_decide_eq_true (by kernel_rfl)) (by unfold Func.isWrapper; first | (rw [if_pos (by decide +kernel)]; kernel_rfl) | (rw [if_neg (by decide +kernel)]; exact ⟨rfl, rfl⟩))
    (fun os started H enc _ => wholeTexts_lifted os started H enc)

end Go.Proofs.Ytfjbhccapgnkiaa.P
