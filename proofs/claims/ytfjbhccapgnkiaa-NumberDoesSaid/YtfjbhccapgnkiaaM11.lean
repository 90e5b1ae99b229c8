/- lapidarylaw06.NumberDoes answers true for every input: any operation on any two numbers, whole or complex, is what the document says. Conditions: none beyond the row's own. -/
import Derived.Test.YtfjbhccapgnkiaaR11
import Derived.Test.YtfjbhccapgnkiaaR0
import Derived.Test.YtfjbhccapgnkiaaRows
namespace Go.Proofs.Ytfjbhccapgnkiaa.P
open Go.RowKit Go.Proofs.YtfjbhccapgnkiaaW.PrintWords Go.Proofs.YtfjbhccapgnkiaaW.PrintLast Go.Proofs.YtfjbhccapgnkiaaW.PrintMore
set_option linter.unusedVariables false
open Go.ChangeShapes Go.WideShapes Go.ChangeAt
open Go.Proofs.YtfjbhccapgnkiaaW
/-! ### A number of layer 6 that came in, opened -/
theorem Try.cells58 : Try.prog.cellsOf 58 = 5 := by kernel_rfl
theorem array5 {α : Type} {cs : Array α} (h : cs.size = 5) : ∃ c0 c1 c2 c3 c4, cs = #[c0, c1, c2, c3, c4] := by
  obtain ⟨l⟩ := cs
  match l, h with
  | [a, b, c, d, e], _ => exact ⟨a, b, c, d, e, rfl⟩
theorem trod_f64 {H : Type} {enc : TypeId × Value → H} {W : World} {m : Nat} {v : Value} {y : DataW H × List MemPlace} (h : DataW.trod enc Try.prog W 0 (fun _ => true) true m 56 [v] = some y) : ∃ b, v = .float .f64 b ∧ b < 18446744073709551616 := by
  cases m with
  | zero => simp [DataW.trod] at h
  | succ n =>
    simp only [DataW.trod, Try.underlying56] at h
    cases v <;> simp at h
    next k b =>
      by_cases hk : k = .f64
      · subst hk
        refine ⟨b, rfl, ?_⟩
        have := h.1
        simp [Lit.wf] at this
        omega
      · simp [hk] at h
set_option maxRecDepth 100000 in
theorem open_lap {H : Type} {enc : TypeId × Value → H} {W : World} {base : Nat} {v : Value} {d : DataW H} {p : List MemPlace} {ts : List TypeId} {ds : List (DataW H)} {j : Nat}
    (hsz : (DataW.weightsEach Try.prog ts ds).all (· ≤ reachBytes) = true) (ht : ts[j]? = some 58) (hd : ds[j]? = some d) (hv : Value.okWide Try.prog W .any base 58 v) (h : DataW.Trod enc Try.prog W 0 (fun _ => true) true 58 v d p) :
    ∃ (q n : Bool) (A : Option Addr) (c : Nat) (l : List Int) (a b : Nat), v = .agg #[.bool q, .bool n, .slice A l.length c, .float .f64 a, .float .f64 b] ∧ Kd.C (Kd.int .u8) W A l.length l ∧ l.length ≤ c ∧ (A = none → c = 0) ∧ l.length ≤ 140737488351232 ∧ (∀ x ∈ l, 0 ≤ x ∧ x < 256) ∧ a < 18446744073709551616 ∧ b < 18446744073709551616 := by
  obtain ⟨cs, rfl, hcsz⟩ := okWide_struct Try.underlying58 hv
  obtain ⟨c0, c1, c2, c3, c4, rfl⟩ := array5 (hcsz.trans Try.cells58)
  obtain ⟨fuel, hf⟩ := h
  obtain ⟨y0, y1, y2, y3, n0, hx, _, h0, h1, h2, h3⟩ := Go.Joins.trod_struct4 Try.underlying58 hf
  simp only [Prod.mk.injEq] at hx
  obtain ⟨rfl, rfl⟩ := hx
  have z4 : Try.prog.cellsOf 4 = 1 := by kernel_rfl
  have z56 : Try.prog.cellsOf 56 = 1 := by kernel_rfl
  have h0' : DataW.trod enc Try.prog W 0 (fun _ => true) true n0 4 [c0] = some y0 := by simpa [Value.cells, z4] using h0
  have h1' : DataW.trod enc Try.prog W 0 (fun _ => true) true n0 24 [c1, c2] = some y1 := by simpa [Value.cells, Try.cells24] using h1
  have h2' : DataW.trod enc Try.prog W 0 (fun _ => true) true n0 56 [c3] = some y2 := by simpa [Value.cells, z56] using h2
  have h3' : DataW.trod enc Try.prog W 0 (fun _ => true) true n0 56 [c4] = some y3 := by simpa [Value.cells, z56] using h3
  obtain ⟨q, e0, _⟩ := DataW.trod_bool Try.underlying4 h0'
  simp only [List.cons.injEq, and_true] at e0
  subst e0
  obtain ⟨a, rfl, ha⟩ := trod_f64 h2'
  obtain ⟨b, rfl, hb⟩ := trod_f64 h3'
  have hsz2 : (DataW.weightsEach Try.prog [4, 24, 56, 56] [y0.1, y1.1, y2.1, y3.1]).all (· ≤ reachBytes) = true := by
    rw [List.all_eq_true]
    intro x hx
    exact List.all_eq_true.1 hsz x (DataW.weights_mem_each ht hd x (by simpa [DataW.weights, Try.underlying58] using hx))
  obtain ⟨u0, u1, m, hx2, _, hy0, hy1⟩ := trod_struct2 Try.underlying24 h1'
  have z22 : Try.prog.cellsOf 22 = 1 := by kernel_rfl
  have hy0' : DataW.trod enc Try.prog W 0 (fun _ => true) true m 4 [c1] = some u0 := by simpa [Value.cells, z4] using hy0
  have hy1' : DataW.trod enc Try.prog W 0 (fun _ => true) true m 22 [c2] = some u1 := by simpa [Value.cells, z22] using hy1
  obtain ⟨n, e0, _⟩ := DataW.trod_bool Try.underlying4 hy0'
  simp only [List.cons.injEq, and_true] at e0
  subst e0
  have hsz3 : (DataW.weightsEach Try.prog [4, 22] [u0.1, u1.1]).all (· ≤ reachBytes) = true := by
    rw [List.all_eq_true]
    intro x hx
    exact List.all_eq_true.1 hsz2 x (DataW.weights_mem_each (j := 1) (t := 24) (d := y1.1) rfl rfl x (by rw [hx2]; simpa [DataW.weights, Try.underlying24] using hx))
  obtain ⟨A, len, c, e1⟩ := Go.Joins.slice_form Try.underlying22 hy1'
  simp only [List.cons.injEq, and_true] at e1
  subst e1
  have hlen : len * 1 ≤ 140737488351232 := by
    refine PrintWords.sized_ints (P := Try.prog) (enc := enc) (W := W) (base := 0) (spare := fun _ => true) (held := true) (a := A) (cap := c) (d := u1.1) (ps := u1.2) hsz3 (j := 1) (t := 22) rfl rfl Try.underlying22 Try.underlying5 (by kernel_rfl) (by kernel_rfl) ⟨m, ?_⟩
    simpa [Value.cells] using hy1'
  rcases open_ints Try.underlying22 Try.underlying5 (by kernel_rfl) hy1' with ⟨hcs, _⟩ | ⟨x, l, c', zs, hcs, _, hl, hm, hz, _, hcell, hwz⟩
  · simp only [List.cons.injEq, and_true, Value.slice.injEq] at hcs
    obtain ⟨rfl, rfl, rfl⟩ := hcs
    exact ⟨q, n, none, 0, [], a, b, rfl, Kd.C_nil _ _, Nat.le_refl _, fun _ => rfl, by simp, fun x hx => by (cases hx), ha, hb⟩
  · simp only [List.cons.injEq, and_true, Value.slice.injEq] at hcs
    obtain ⟨rfl, rfl, rfl⟩ := hcs
    obtain ⟨l0, rfl, hr, hm2, hw, hc⟩ := ReadsInt.ofRowC (w := W) (k := .u8) (a := some x) (len := len) (cap := c) (zs := zs) (.inr ⟨x, rfl, hl, hm, by simpa using hz, hcell, hwz⟩)
    exact ⟨q, n, some x, c, l0, a, b, rfl, Kd.C_of_reads (d := (0 : Int)) (h1 := fun _ => rfl) hr, hc, fun e => (by cases e), by omega, fun y hy => u8_wf (hw y hy), ha, hb⟩
/-! ### NumberDoes: the row -/
set_option maxRecDepth 100000 in
theorem numberDoes_lifted (os : Os) (started : os.Started) (H : Type) (enc : TypeId × Value → H) :
    ReturnsInHanded {} Try.checked os 11 .any (Rows.numberDoesSpec.pre6 enc Try.prog Try.f11 Rows.numberDoesRow.domain false) (Rows.numberDoesSpec.post enc Try.prog Try.f11 false true false false) := by
  refine returnsInHanded_of_change_sized (C := Try.checked) Try.own started (by kernel_rfl) Try.func11
    (ChangeSpec.witness6 (enc := enc) (C := Try.checked) false ⟨#[], #[.int .i64 0, .agg #[.bool false, .bool false, .slice none 0 0, .float .f64 0, .float .f64 0], .agg #[.bool false, .bool false, .slice none 0 0, .float .f64 0, .float .f64 0]], []⟩ 8 (by kernel_rfl) (by kernel_rfl) (by kernel_rfl) (by kernel_rfl)) ?_
  intro W base args ds gs before hval0 hW hcnd hsz0 _
  have hsz : (DataW.weightsEach Try.prog (Try.f11.params.toList ++ Rows.numberDoesSpec.plain.varTypes Try.prog) (ds ++ gs)).all (· ≤ reachBytes) = true := hsz0
  have hval : ∀ (j : Nat) t v, Try.f11.params[j]? = some t → args[j]? = some v → Value.okWide Try.prog W .any base t v := hval0
  have hW' := hW
  obtain ⟨p, q, hAA, hV, rfl, hfz, hnd⟩ := hW
  have hA : DataW.TrodAll enc Try.prog W 0 (fun _ => true) true Try.f11.params.toList args.toList ds p   := hAA
  rw [Try.params11] at hA hval hsz
  obtain ⟨v0, vs0, d0, ds0, p0, q0, hargs, rfl, rfl, h0, r0⟩ := trodAll_cons hA
  obtain ⟨v1, vs1, d1, ds1, p1, q1, rfl, rfl, rfl, h1, r1⟩ := trodAll_cons r0
  obtain ⟨v2, vs2, d2, ds2, p2, q2, rfl, rfl, rfl, h2, r2⟩ := trodAll_cons r1
  obtain ⟨rfl, rfl, rfl⟩ := trodAll_nil r2
  obtain rfl : args = #[v0, v1, v2] := by cases args; simp_all
  obtain ⟨rfl, rfl⟩ := trodVars_none hV
  obtain ⟨a0, rfl, rfl, rfl, w0⟩ := open_int Try.underlying3 (hval 0 3 v0 rfl rfl) h0
  have lt1 : ∀ x ∈ p1, x.block < W.heap.size := by obtain ⟨m, hm⟩ := h1; exact DataW.trod_lt m _ _ _ hm
  obtain ⟨p1', n1, A1, c1, l1, x1, y1, rfl, hr1, hc1, hA1, hl1, hb1, hx1, hy1⟩ := open_lap hsz (j := 1) rfl rfl (hval 1 58 v1 rfl rfl) h1
  have lt2 : ∀ x ∈ p2, x.block < W.heap.size := by obtain ⟨m, hm⟩ := h2; exact DataW.trod_lt m _ _ _ hm
  obtain ⟨p2', n2, A2, c2, l2, x2, y2, rfl, hr2, hc2, hA2, hl2, hb2, hx2, hy2⟩ := open_lap hsz (j := 2) rfl rfl (hval 2 58 v2 rfl rfl) h2
  clear hval0 hsz0 hsz
  refine (does_law a0 p1' n1 A1 c1 l1 x1 y1 p2' n2 A2 c2 l2 x2 y2 hb1 hb2 hy1 hy2 W hr1 hc1 hA1 hl1 hr2 hc2 hA2 hl2).mono fun e W' ⟨he, bel⟩ => ?_
  subst he
  exact ⟨_, rfl, _, _, _, [], _, [], hW', trodAll_mk1 (shut_bool Try.underlying4 _), (trodAll_cons_mk (shut_int Try.underlying3 w0) (trodAll_cons_mk (Below.trod Try.laidOut (by kernel_rfl) (of_decide_eq_true (by kernel_rfl)) h1 bel lt1) (trodAll_cons_mk (Below.trod Try.laidOut (by kernel_rfl) (of_decide_eq_true (by kernel_rfl)) h2 bel lt2) trodAll_mk0))), rfl, bel.frame _, fun h => by cases h⟩
theorem and_regroup {b l m k p v f : Bool} (h1 : (b && (p && v && f)) = true) (h2 : (l && m && k) = true) : (b && l && m && k && p && v && f) = true := by
  cases b <;> cases l <;> cases m <;> cases k <;> cases p <;> cases v <;> cases f <;> first | rfl | exact h1 | exact h2
set_option maxHeartbeats 40000000 in
set_option maxRecDepth 100000 in
theorem numberDoes_facts : joinedFacts Try.pinned.checked.prog 11 Try.f11 Rows.numberDoesSpec Rows.numberDoesRow = true := by
  unfold joinedFacts
  refine and_regroup ?_ (by as_aux_lemma => kernel_rfl)
  repeat' (with_reducible refine Bool.and_eq_true_iff.2 ⟨?_, ?_⟩)
  all_goals as_aux_lemma => kernel_rfl
theorem numberDoes_holds : Rows.NumberDoesSaid :=
  OpenClaim.holds_of_wide 11 Try.f11 rfl rfl rfl rfl rfl rfl rfl ⟨rfl, rfl, rfl, rfl, rfl⟩ rfl rfl rfl rfl rfl (by kernel_rfl) Try.func11 numberDoes_facts
    (of_decide_eq_true (by kernel_rfl)) (by unfold Func.isWrapper; first | (rw [if_pos (by decide +kernel)]; kernel_rfl) | (rw [if_neg (by decide +kernel)]; exact ⟨rfl, rfl⟩))
    (fun os started H enc _ => numberDoes_lifted os started H enc)

end Go.Proofs.Ytfjbhccapgnkiaa.P
