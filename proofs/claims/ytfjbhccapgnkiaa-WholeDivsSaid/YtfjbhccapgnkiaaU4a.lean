import Derived.Test.YtfjbhccapgnkiaaU1w
import Derived.Test.YtfjbhccapgnkiaaUc
import Derived.Test.YtfjbhccapgnkiaaC3
namespace Go.Proofs.Ytfjbhccapgnkiaa.P
open Go.RowKit Go.Proofs.YtfjbhccapgnkiaaW.PrintWords Go.Proofs.YtfjbhccapgnkiaaW.PrintLast Go.Proofs.YtfjbhccapgnkiaaW.PrintMore
attribute [local go_sem] max2_int min2_int max_two min_two max_three min_three max_four min_four
set_option linter.unusedVariables false
set_option linter.unusedSimpArgs false

open Lap

theorem rdiv_inner (x0 x1 : List Int) (hb : CanB x1) (hl : x1.length ≤ 1000) (hB : 0 < bval x1) (q : List Int) (hq : q.length ≤ 1000) (i : Nat) (hi : i < 1000000) (res : List Int × List Int) :
    ∀ (m R n : Nat), R / bval x1 = m → n + m ≤ 255 → (bytesN R).length ≤ 1001 →
      Ev (fun k => lapidaryref02_divide.l0 k x0 x1 (q ++ [((n + m : Nat) : Int)]) (bytesN (R % bval x1)) ((i + 1 : Nat) : Int)) res →
      Ev (fun k => lapidaryref02_divide.l1 k x0 x1 q (bytesN R) (i : Int) (n : Int)) res := by
  intro m
  induction m with
  | zero =>
    intro R n hm hn hlR h
    have hlt : R < bval x1 := by
      rcases Nat.lt_or_ge R (bval x1) with h1 | h1
      · exact h1
      · have := Nat.div_pos h1 hB; omega
    obtain ⟨c, ⟨q1, q2, q3, q4⟩, q5⟩ := cmp_ev (bytesN R) x1 (canB_bytesN R) hb (by omega) (by omega)
    rw [bval_bytesN] at q1 q2
    rw [Nat.mod_eq_of_lt hlt, Nat.add_zero] at h
    refine Ev.step (f := fun k => (lapidaryref02_cmp.f k (bytesN R) x1).bind fun t295 => if t295 ≥ 0 then (lapidaryref02_less.f k (bytesN R) x1).bind fun t296 => (lapidaryref02_made.f false t296).bind fun bt299 => lapidaryref02_divide.l1 k x0 x1 q bt299.2 (i : Int) (((n : Int) + 1) % 256) else lapidaryref02_divide.l0 k x0 x1 (q ++ [(n : Int)]) (bytesN R) ((i + 1 : Nat) : Int)) (fun k => ?_) (Ev.bind q5 (Ev.congr (fun k => if_neg (by omega)) h))
    simp only [lapidaryref02_divide.l1, Option.bind_some]
    rw [w64s i (by omega)]
    simp only [List.length_cons, List.length_nil]
    rw [if_pos (by omega : q.length + (0 + 1) < 140737488355328)]
  | succ m ih =>
    intro R n hm hn hlR h
    have hge : bval x1 ≤ R := by
      rcases Nat.lt_or_ge R (bval x1) with h1 | h1
      · have := Nat.div_eq_of_lt h1; omega
      · exact h1
    obtain ⟨c, ⟨q1, q2, q3, q4⟩, q5⟩ := cmp_ev (bytesN R) x1 (canB_bytesN R) hb (by omega) (by omega)
    rw [bval_bytesN] at q1 q2
    have hll : x1.length ≤ (bytesN R).length := by
      rcases Nat.lt_or_ge (bytesN R).length x1.length with h1 | h1
      · have := bval_len_lt (isB_bytesN R) hb h1; rw [bval_bytesN] at this; omega
      · exact h1
    obtain ⟨s, s1, s2, s3, s4⟩ := less_ev (bytesN R) x1 (isB_bytesN R) hb.1 (by omega) hll (by rw [bval_bytesN]; exact hge)
    rw [bval_bytesN] at s2
    have hd : (R - bval x1) / bval x1 = m := by have := Nat.div_eq_sub_div hB hge; omega
    have h' := ih (R - bval x1) (n + 1) hd (by omega) (by
      rw [← s2, ← strip_bytes s s1]
      have : (strip s).length ≤ s.length := by unfold strip; exact (List.dropWhile_sublist _).length_le
      omega) (by
      rw [show n + 1 + m = n + (m + 1) by omega, Nat.mod_eq_sub_mod hge |>.symm]; exact h)
    refine Ev.step (f := fun k => (lapidaryref02_cmp.f k (bytesN R) x1).bind fun t295 => if t295 ≥ 0 then (lapidaryref02_less.f k (bytesN R) x1).bind fun t296 => (lapidaryref02_made.f false t296).bind fun bt299 => lapidaryref02_divide.l1 k x0 x1 q bt299.2 (i : Int) (((n : Int) + 1) % 256) else lapidaryref02_divide.l0 k x0 x1 (q ++ [(n : Int)]) (bytesN R) ((i + 1 : Nat) : Int)) (fun k => ?_) (Ev.bind q5 (Ev.congr (fun k => if_pos (by omega)) (Ev.bind s4 (Ev.congr (fun k => ?_) h'))))
    · simp only [lapidaryref02_divide.l1, Option.bind_some]
      rw [w64s i (by omega)]
      simp only [List.length_cons, List.length_nil]
      rw [if_pos (by omega : q.length + (0 + 1) < 140737488355328)]
    · rw [rmade_eq false s s1 (by omega), Option.bind_some, s2, Int.emod_eq_of_lt (by omega) (by omega)]
      rfl
theorem longdiv {H B x : Nat} (hB : 0 < B) : (H * 256 + x) / B = H / B * 256 + (H % B * 256 + x) / B ∧ (H * 256 + x) % B = (H % B * 256 + x) % B := by
  have e : H * 256 + x = B * (H / B * 256) + (H % B * 256 + x) := by
    have := Nat.div_add_mod H B
    generalize H / B = Q at *
    generalize H % B = R at *
    subst this
    grind
  constructor
  · rw [e, Nat.mul_add_div hB]
  · rw [e, Nat.mul_add_mod]
theorem digit_le {R B x : Nat} (hB : 0 < B) (hR : R < B) (hx : x < 256) : (R * 256 + x) / B ≤ 255 := by
  have : (R * 256 + x) / B < 256 := by
    rw [Nat.div_lt_iff_lt_mul hB]
    omega
  omega
theorem rdiv_loop (x0 x1 : List Int) (hx : IsB x0) (hb : CanB x1) (hl0 : x0.length ≤ 900) (hl : x1.length ≤ 900) (hB : 0 < bval x1) :
    ∀ (d i : Nat) (q : List Int), d + i = x0.length → q.length = i → IsB q → bval q = bval (x0.take i) / bval x1 →
      ∃ q' : List Int, IsB q' ∧ bval q' = bval x0 / bval x1 ∧ q'.length = x0.length ∧ Ev (fun k => lapidaryref02_divide.l0 k x0 x1 q (bytesN (bval (x0.take i) % bval x1)) (i : Int)) (q', bytesN (bval x0 % bval x1)) := by
  intro d
  induction d with
  | zero =>
    intro i q hd hq hw hv
    obtain rfl : i = x0.length := by omega
    rw [List.take_length] at hv ⊢
    refine ⟨q, hw, hv, hq, Ev.step (f := fun _ => some (q, bytesN (bval x0 % bval x1))) (fun k => ?_) (Ev.now _)⟩
    simp only [lapidaryref02_divide.l0]
    rw [if_neg (by omega)]
  | succ d ih =>
    intro i q hd hq hw hv
    have hi : i < x0.length := by omega
    have hA := hx.get i hi
    have ht : bval (x0.take (i + 1)) = bval (x0.take i) * 256 + (x0[i]).toNat := by rw [take_succ_get x0 i hi, bval_snoc]
    obtain ⟨e1, e2⟩ := longdiv (H := bval (x0.take i)) (x := (x0[i]).toNat) hB
    generalize hR : bval (x0.take i) % bval x1 = R at *
    have hRlt : R < bval x1 := by rw [← hR]; exact Nat.mod_lt _ hB
    have hx8 : (x0[i]).toNat < 256 := by omega
    have hn : (R * 256 + (x0[i]).toNat) / bval x1 ≤ 255 := digit_le hB hRlt hx8
    obtain ⟨m, hm⟩ : ∃ m, (R * 256 + (x0[i]).toNat) / bval x1 = m := ⟨_, rfl⟩
    rw [hm] at e1 hn
    have hBl : bval x1 < 256 ^ x1.length := bval_lt hb.1
    have hlR : (bytesN (R * 256 + (x0[i]).toNat)).length ≤ 1001 := by
      refine Nat.le_trans (bytes_len (k := x1.length + 1) ?_) (by omega)
      rw [Nat.pow_succ]
      generalize (256 : Nat) ^ x1.length = P at *
      omega
    have hsR : (bytesN R).length ≤ 900 := Nat.le_trans (bytes_len (k := x1.length) (by omega)) hl
    obtain ⟨q', h1, h2, h3, h4⟩ := ih (i + 1) (q ++ [((0 + m : Nat) : Int)]) (by omega) (by simp [hq]) (hw.append (IsB.cons (by omega) (by omega) IsB.nil)) (by
      rw [ht, e1, bval_snoc, hv, Int.toNat_natCast, Nat.zero_add])
    refine ⟨q', h1, h2, h3, ?_⟩
    rw [ht, e2] at h4
    have hin := rdiv_inner x0 x1 hb (by omega) hB q (by omega) i (by omega) _ m (R * 256 + (x0[i]).toNat) 0 hm (by omega) hlR h4
    refine Ev.step (fun k => ?_) hin
    simp only [lapidaryref02_divide.l0]
    have hcat : bytesN (bval (bytesN R ++ [x0[i]])) = bytesN (R * 256 + (x0[i]).toNat) := by rw [bval_snoc, bval_bytesN]
    rw [if_pos (by omega), rmade_eq false (bytesN R) (isB_bytesN R) (by omega), Option.bind_some, if_pos (by omega), rd_lt _ _ hi, Option.bind_some]
    simp only [mk, bval_bytesN, List.length_cons, List.length_nil]
    rw [if_pos (by omega), rmade_eq false _ ((isB_bytesN R).append (IsB.cons hA.1 hA.2 IsB.nil)) (by simp; omega), Option.bind_some]
    simp only [mk, hcat]
    rfl
theorem rdivide_ev (x y : List Int) (hx : IsB x) (hb : CanB y) (hlx : x.length ≤ 900) (hly : y.length ≤ 900) (hB : 0 < bval y) :
    ∃ q : List Int, IsB q ∧ bval q = bval x / bval y ∧ q.length = x.length ∧ Ev (fun k => lapidaryref02_divide.f k x y) (q, bytesN (bval x % bval y)) := by
  obtain ⟨q, h1, h2, h3, h4⟩ := rdiv_loop x y hx hb hlx hly hB x.length 0 [] (by omega) rfl IsB.nil (by simp [bval_nil])
  refine ⟨q, h1, h2, h3, ?_⟩
  have e : bytesN (bval (x.take 0) % bval y) = [] := by rw [List.take_zero, bval_nil, Nat.zero_mod, bytesN_zero]
  rw [e] at h4
  exact h4
theorem len_pos_iff (n : Nat) : decide (((bytesN n).length : Int) > 0) = decide (n ≠ 0) := by
  have := bytesN_len_zero n
  simp only [decide_eq_decide]; omega
theorem rboth_good (xn yn : Bool) (x y : List Int) (hx : IsB x) (hy : IsB y) (h1 : okN xn x = true) (h2 : okN yn y = true) (hne : y ≠ []) :
    Ev (fun k => lapidaryref02_both.j0 k false xn x yn y) (divV xn (bval x) yn (bval y)) := by
  have c1 := okN_can hx h1
  have c2 := okN_can hy h2
  have hB := CanB.pos c2.1 hne
  obtain ⟨q, q1, q2, q3, q4⟩ := rdivide_ev x y hx c2.1 (by omega) (by omega) hB
  have hmod : bval x % bval y < bval y := Nat.mod_lt _ hB
  have hyl : y.length ≠ 0 := fun e => hne (List.eq_nil_of_length_eq_zero e)
  have hrl : (bytesN (bval x % bval y)).length ≤ y.length := bytes_len (Nat.lt_trans hmod (bval_lt hy))
  have hstep : ∀ k, lapidaryref02_both.j0 (k + 1) false xn x yn y = (lapidaryref02_divide.f k x y).bind fun bt => if (xn != yn) = true then lapidaryref02_both.j1 k bt.1 bt.2 (decide ((bt.2.length : Int) > 0)) xn x yn y else lapidaryref02_both.j1 k bt.1 bt.2 false xn x yn y := by
    intro k
    simp only [lapidaryref02_both.j0]
    rw [if_neg (by simp), if_neg (by omega)]
  unfold divV
  by_cases hap : (xn != yn && decide (bval x % bval y ≠ 0)) = true
  · rw [if_pos hap]
    have ha : (xn != yn) = true := by simp only [Bool.and_eq_true] at hap; exact hap.1
    have hr : decide (bval x % bval y ≠ 0) = true := by simp only [Bool.and_eq_true] at hap; exact hap.2
    obtain ⟨s, s1, s2, s3, s4⟩ := sum_ev q [1] q1 one_isB (by omega) (by simp)
    obtain ⟨t, t1, t2, t3, t4⟩ := less_ev y (bytesN (bval x % bval y)) hy (isB_bytesN _) (by omega) hrl (by rw [bval_bytesN]; omega)
    rw [bval_bytesN] at t2
    have hs : bval s = bval x / bval y + 1 := bI_bval (by rw [s2, bI_eq, bI_eq, q2]; simp [bval])
    have hsl : s.length ≤ 1000000 := by have : ([1] : List Int).length = 1 := rfl; omega
    refine Ev.step hstep (Ev.bind q4 (Ev.congr (f := fun k => lapidaryref02_both.j1 k q (bytesN (bval x % bval y)) true xn x yn y) (fun k => ?_) (Ev.step (f := fun k => (lapidaryref02_sum.f k q [1]).bind fun t324 => (lapidaryref02_less.f k y (bytesN (bval x % bval y))).bind fun t327 => (lapidaryref02_made.f (xn != yn) t324).bind fun bt330 => (lapidaryref02_made.f yn t327).bind fun bt334 => some (bt330.1, bt330.2, bt334.1, bt334.2, 0)) (fun k => ?_) (Ev.bind s4 (Ev.bind t4 (Ev.congr (f := fun _ => some ((mk (xn != yn) (bval x / bval y + 1)).1, (mk (xn != yn) (bval x / bval y + 1)).2, (mk yn (bval y - bval x % bval y)).1, (mk yn (bval y - bval x % bval y)).2, 0)) (fun k => ?_) (Ev.now _)))))))
    · rw [if_pos ha, len_pos_iff, hr]
    · simp only [lapidaryref02_both.j1]; rw [if_pos trivial]
    · rw [rmade_eq _ s s1 hsl, Option.bind_some, rmade_eq _ t t1 (by omega), Option.bind_some, hs, t2]
  · rw [if_neg hap]
    refine Ev.step hstep (Ev.bind q4 (Ev.congr (f := fun k => lapidaryref02_both.j1 k q (bytesN (bval x % bval y)) false xn x yn y) (fun k => ?_) (Ev.step (f := fun _ => some ((mk (xn != yn) (bval x / bval y)).1, (mk (xn != yn) (bval x / bval y)).2, (mk yn (bval x % bval y)).1, (mk yn (bval x % bval y)).2, 0)) (fun k => ?_) (Ev.now _))))
    · by_cases ha : (xn != yn) = true
      · have hr : decide (bval x % bval y ≠ 0) = false := by
          rw [ha, Bool.true_and] at hap; simpa using hap
        rw [if_pos ha, len_pos_iff, hr]
      · rw [if_neg ha]
    · simp only [lapidaryref02_both.j1]
      rw [if_neg (by simp), rmade_eq _ q q1 (by omega), Option.bind_some, rmade_eq _ _ (isB_bytesN _) (by omega), Option.bind_some, q2, bval_bytesN]
theorem rboth_ev (xn yn : Bool) (x y : List Int) (hx : IsB x) (hy : IsB y) : Ev (fun k => lapidaryref02_both.f k xn x yn y) (divS xn x yn y) := by
  unfold divS
  by_cases h1 : okN xn x = true
  · by_cases h2 : okN yn y = true
    · rw [if_pos (by rw [h1, h2]; rfl)]
      have hf : ∀ k, lapidaryref02_both.f k xn x yn y = lapidaryref02_both.j0 k false xn x yn y := by
        intro k
        unfold lapidaryref02_both.f
        rw [rright_eq, h1, Option.bind_some, if_pos rfl, rright_eq, h2]; rfl
      refine Ev.congr hf ?_
      by_cases hne : y = []
      · rw [if_pos hne]
        refine Ev.step (f := fun _ => some (false, [], false, [], 23)) (fun k => ?_) (Ev.now _)
        simp only [lapidaryref02_both.j0]
        rw [if_neg (by simp), if_pos (by rw [hne]; rfl)]
      · rw [if_neg hne]
        exact rboth_good xn yn x y hx hy h1 h2 hne
    · have h2 : okN yn y = false := by simpa using h2
      rw [if_neg (by rw [h1, h2]; simp)]
      refine Ev.congr (f := fun k => lapidaryref02_both.j0 k true xn x yn y) (fun k => ?_) (Ev.step (f := fun _ => some (false, [], false, [], 1)) (fun k => ?_) (Ev.now _))
      · unfold lapidaryref02_both.f
        rw [rright_eq, h1, Option.bind_some, if_pos rfl, rright_eq, h2]; rfl
      · simp only [lapidaryref02_both.j0]; rfl
  · have h1 : okN xn x = false := by simpa using h1
    rw [if_neg (by rw [h1]; simp)]
    refine Ev.congr (f := fun k => lapidaryref02_both.j0 k true xn x yn y) (fun k => ?_) (Ev.step (f := fun _ => some (false, [], false, [], 1)) (fun k => ?_) (Ev.now _))
    · unfold lapidaryref02_both.f
      rw [rright_eq, h1, Option.bind_some, if_neg (by simp)]
    · simp only [lapidaryref02_both.j0]; rfl

end Go.Proofs.Ytfjbhccapgnkiaa.P
