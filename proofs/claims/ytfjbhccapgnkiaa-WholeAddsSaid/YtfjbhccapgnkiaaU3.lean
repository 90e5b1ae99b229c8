import Derived.Test.YtfjbhccapgnkiaaU1r
import Derived.Test.YtfjbhccapgnkiaaB6
import Derived.Test.YtfjbhccapgnkiaaC5
namespace Go.Proofs.Ytfjbhccapgnkiaa.P
open Go.RowKit Go.Proofs.YtfjbhccapgnkiaaW.PrintWords Go.Proofs.YtfjbhccapgnkiaaW.PrintLast Go.Proofs.YtfjbhccapgnkiaaW.PrintMore
attribute [local go_sem] max2_int min2_int max_two min_two max_three min_three max_four min_four
set_option linter.unusedVariables false
set_option linter.unusedSimpArgs false

open Lap


theorem less_step {O P A B c a b v q : Int} (h : v - 256 * q = a - b - c) (he : O - P * c = A - B) : (O + P * v) - (P * 256) * q = (A + P * a) - (B + P * b) := by grind
theorem less_loop (a b : List Int) (ha : IsB a) (hb : IsB b) (hla : a.length ≤ 900000) (hlb : b.length ≤ a.length) (hle : bval b ≤ bval a) :
    ∀ (d i : Nat) (out : List Int) (c : Int), d + i = a.length → out.length = i → IsB out → 0 ≤ c → c ≤ 1 → bI out.reverse - W8 i * c = low a i - low b i →
      ∃ r : List Int, IsB r ∧ bI r = bI a - bI b ∧ r.length ≤ a.length ∧ Ev (fun k => lapidaryref02_less.l0 k a b out c (i : Int)) r := by
  intro d
  induction d with
  | zero =>
    intro i out c hd ho hw h0 h1 he
    obtain rfl : i = a.length := by omega
    refine ⟨out.reverse, hw.reverse, ?_, by rw [List.length_reverse]; omega, ?_⟩
    · rw [low_all a _ (Nat.le_refl _), low_all b _ hlb] at he
      have hr := bI_lt hw.reverse
      rw [List.length_reverse, ho] at hr
      have hc : c = 0 := by
        rcases (by omega : c = 0 ∨ c = 1) with e | e
        · exact e
        · subst e
          rw [bI_eq a, bI_eq b] at he
          omega
      subst hc
      simpa using he
    · refine Ev.step (f := fun k => (lapidaryref02_turned.f k out).bind fun t => some t) (fun k => ?_) (Ev.bind (turned_ev out (by omega)) (Ev.now _))
      simp only [lapidaryref02_less.l0]
      rw [if_neg (by omega)]
  | succ d ih =>
    intro i out c hd ho hw h0 h1 he
    have hA := atv_range ha i
    have hB := atv_range hb i
    have hl1 := low_succ a ha i
    have hl2 := low_succ b hb i
    have hw1 : wrap64 (wrap64 (atv a i - atv b i) - c) = atv a i - atv b i - c := by rw [w64 (x := atv a i - atv b i) (by omega) (by omega), w64 (by omega) (by omega)]
    by_cases hn : atv a i - atv b i - c < 0
    · obtain ⟨r, h2, h3, h4, h5⟩ := ih (i + 1) (out ++ [atv a i - atv b i - c + 256]) 1 (by omega) (by simp [ho]) (hw.append (IsB.cons (by omega) (by omega) IsB.nil)) (by omega) (by omega)
        (by rw [bI_rev_snoc _ _ (by omega), ho, W8_succ, hl1, hl2]; exact less_step (by omega) he)
      refine ⟨r, h2, h3, h4, Ev.step (fun k => ?_) h5⟩
      simp only [lapidaryref02_less.l0]
      rw [if_pos (by omega), at_eq a ha (by omega) i (by omega), Option.bind_some, at_eq b hb (by omega) i (by omega), Option.bind_some, hw1, if_pos hn, if_pos (by omega), w64s i (by omega), w64 (x := atv a i - atv b i - c + 256) (by omega) (by omega), Int.emod_eq_of_lt (by omega) (by omega)]
    · obtain ⟨r, h2, h3, h4, h5⟩ := ih (i + 1) (out ++ [atv a i - atv b i - c]) 0 (by omega) (by simp [ho]) (hw.append (IsB.cons (by omega) (by omega) IsB.nil)) (by omega) (by omega)
        (by rw [bI_rev_snoc _ _ (by omega), ho, W8_succ, hl1, hl2]; exact less_step (by omega) he)
      refine ⟨r, h2, h3, h4, Ev.step (fun k => ?_) h5⟩
      simp only [lapidaryref02_less.l0]
      rw [if_pos (by omega), at_eq a ha (by omega) i (by omega), Option.bind_some, at_eq b hb (by omega) i (by omega), Option.bind_some, hw1, if_neg hn, if_pos (by omega), w64s i (by omega), Int.emod_eq_of_lt (by omega) (by omega)]
theorem less_ev (a b : List Int) (ha : IsB a) (hb : IsB b) (hla : a.length ≤ 900000) (hlb : b.length ≤ a.length) (hle : bval b ≤ bval a) :
    ∃ r : List Int, IsB r ∧ bval r = bval a - bval b ∧ r.length ≤ a.length ∧ Ev (fun k => lapidaryref02_less.f k a b) r := by
  obtain ⟨r, h1, h2, h3, h4⟩ := less_loop a b ha hb hla hlb hle a.length 0 [] 0 (by omega) rfl IsB.nil (by omega) (by omega) (by rw [low_zero, low_zero]; simp [bI_nil])
  refine ⟨r, h1, ?_, h3, h4⟩
  rw [bI_eq, bI_eq, bI_eq] at h2
  omega
theorem bval_len_lt {a b : List Int} (ha : IsB a) (hb : CanB b) (hl : a.length < b.length) : bval a < bval b := by
  cases b with
  | nil => simp at hl
  | cons x r =>
    have hx : x ≠ 0 := fun e => hb.2 (by simp [e])
    have h1 := bval_ge hb.1 hx
    have h2 := bval_small ha (n := r.length) (by simp at hl; omega)
    omega
theorem lex_lt {a b : List Int} (ha : IsB a) (hb : IsB b) (hl : a.length = b.length) (i : Nat) (hi : i < a.length) (ht : a.take i = b.take i) (hlt : a[i] < b[i]'(by omega)) : bval a < bval b := by
  have ea : a = a.take i ++ a[i] :: a.drop (i + 1) := by rw [← List.drop_eq_getElem_cons hi, List.take_append_drop]
  have eb : b = b.take i ++ b[i]'(by omega) :: b.drop (i + 1) := by rw [← List.drop_eq_getElem_cons (by omega : i < b.length), List.take_append_drop]
  have va : bI a = bI (a.take i ++ a[i] :: a.drop (i + 1)) := by rw [← ea]
  have vb : bI b = bI (b.take i ++ b[i]'(by omega) :: b.drop (i + 1)) := by rw [← eb]
  rw [bI_append, bI_cons _ _ (ha.get i hi).1] at va
  rw [bI_append, bI_cons _ _ (hb.get i (by omega)).1, ← ht] at vb
  have la : (a[i] :: a.drop (i + 1)).length = (b[i]'(by omega) :: b.drop (i + 1)).length := by simp; omega
  have lb : (a.drop (i + 1)).length = (b.drop (i + 1)).length := by simp; omega
  rw [la, lb] at va
  have ra := bI_lt (ha.drop (i + 1))
  rw [lb] at ra
  have rb := bI_nonneg (b.drop (i + 1))
  have hm : (a[i] + 1) * W8 (b.drop (i + 1)).length ≤ (b[i]'(by omega)) * W8 (b.drop (i + 1)).length := Int.mul_le_mul_of_nonneg_right (by omega) (Int.le_of_lt (W8_pos _))
  rw [Int.add_mul, Int.one_mul] at hm
  have : bI a < bI b := by rw [va, vb]; omega
  rw [bI_eq, bI_eq] at this
  omega
theorem cmp_loop (a b : List Int) (ha : IsB a) (hb : IsB b) (hl : a.length = b.length) (hla : a.length ≤ 900000) :
    ∀ (d i : Nat), d + i = a.length → a.take i = b.take i → ∃ c : Int, ((c < 0 ↔ bval a < bval b) ∧ (0 < c ↔ bval b < bval a) ∧ -256 < c ∧ c < 256) ∧ Ev (fun k => lapidaryref02_cmp.l0 k a b (i : Int)) c := by
  intro d
  induction d with
  | zero =>
    intro i hd ht
    obtain rfl : i = a.length := by omega
    have hab : a = b := by rw [List.take_length] at ht; rw [ht, hl, List.take_length]
    refine ⟨0, by rw [hab]; omega, Ev.step (f := fun _ => some 0) (fun k => ?_) (Ev.now _)⟩
    simp only [lapidaryref02_cmp.l0]
    rw [if_neg (by omega)]
  | succ d ih =>
    intro i hd ht
    have hi : i < a.length := by omega
    have hib : i < b.length := by omega
    have hA := ha.get i hi
    have hB := hb.get i hib
    by_cases he : a[i] = b[i]
    · obtain ⟨c, h1, h2⟩ := ih (i + 1) (by omega) (by rw [take_succ_get a i hi, take_succ_get b i hib, ht, he])
      refine ⟨c, h1, Ev.step (fun k => ?_) h2⟩
      simp only [lapidaryref02_cmp.l0]
      rw [if_pos (by omega), if_pos (by omega), if_pos (by omega), rd_lt _ _ hi, rd_lt _ _ hib, if_pos he, w64s i (by omega)]
    · refine ⟨a[i] - b[i], ?_, Ev.step (f := fun _ => some (a[i] - b[i])) (fun k => ?_) (Ev.now _)⟩
      · rcases Int.lt_or_gt_of_ne he with hlt | hgt
        · have := lex_lt ha hb hl i hi ht hlt
          omega
        · have := lex_lt hb ha hl.symm i hib ht.symm hgt
          omega
      · simp only [lapidaryref02_cmp.l0]
        rw [if_pos (by omega), if_pos (by omega), if_pos (by omega), rd_lt _ _ hi, rd_lt _ _ hib, if_neg he, w64 (x := a[i]) (by omega) (by omega), w64 (x := b[i]) (by omega) (by omega), w64 (by omega) (by omega)]
theorem cmp_ev (a b : List Int) (ha : CanB a) (hb : CanB b) (hla : a.length ≤ 900000) (hlb : b.length ≤ 900000) :
    ∃ c : Int, ((c < 0 ↔ bval a < bval b) ∧ (0 < c ↔ bval b < bval a) ∧ -1000000 < c ∧ c < 1000000) ∧ Ev (fun k => lapidaryref02_cmp.f k a b) c := by
  by_cases hl : a.length = b.length
  · obtain ⟨c, h1, h2⟩ := cmp_loop a b ha.1 hb.1 hl hla a.length 0 (by omega) rfl
    refine ⟨c, by omega, Ev.congr (fun k => ?_) h2⟩
    unfold lapidaryref02_cmp.f
    rw [if_pos (by omega)]; rfl
  · refine ⟨(a.length : Int) - b.length, ?_, Ev.congr (f := fun _ => some ((a.length : Int) - b.length)) (fun k => ?_) (Ev.now _)⟩
    · rcases Nat.lt_or_gt_of_ne hl with hlt | hgt
      · have := bval_len_lt ha.1 hb hlt; omega
      · have := bval_len_lt hb.1 ha hgt; omega
    · unfold lapidaryref02_cmp.f
      rw [if_neg (by omega), w64 (by omega) (by omega)]

/-- The sum of two numbers that can be. -/
def addV (xn : Bool) (a : Nat) (yn : Bool) (b : Nat) : Bool × List Int × Int := if (xn == yn) = true then fit xn (a + b) else if a < b then fit yn (b - a) else fit xn (a - b)
def addS (xn : Bool) (x : List Int) (yn : Bool) (y : List Int) : Bool × List Int × Int := if (okN xn x && okN yn y) = true then addV xn (bval x) yn (bval y) else bad
theorem addV_len (xn : Bool) (a : Nat) (yn : Bool) (b : Nat) : (addV xn a yn b).2.1.length ≤ 140737488355328 := by
  unfold addV
  split
  · exact fit_len _ _
  · split <;> exact fit_len _ _
theorem addS_len (xn yn : Bool) (x y : List Int) : (addS xn x yn y).2.1.length ≤ 140737488355328 := by
  unfold addS
  split
  · exact addV_len _ _ _ _
  · simp [bad]
theorem P132 : (256 : Nat) ^ (4 * 33) = 256 ^ 128 * 4294967296 := by
  rw [show 4 * 33 = 128 + 4 by decide, Nat.pow_add, show (256 : Nat) ^ 4 = 4294967296 by decide]
theorem words_len33 {n m : Nat} (h1 : n < 256 ^ 128) (h2 : m < 256 ^ 128) : (wordsN (n + m)).length ≤ 33 := by
  refine wordsN_len _ 33 ?_
  rw [P132]
  generalize (256 : Nat) ^ 128 = P at *
  omega
theorem words_mono {n m : Nat} (h : n ≤ m) : (wordsN n).length ≤ (wordsN m).length := by
  rw [wordsN_length_le]
  exact Nat.lt_of_le_of_lt h (wordsN_length_le.1 (Nat.le_refl _))
theorem add_good (xn yn : Bool) (x y : List Int) (hx : IsB x) (hy : IsB y) (h1 : okN xn x = true) (h2 : okN yn y = true) : Ev (fun k => whole_Add.j0 k false xn x yn y) (addV xn (bval x) yn (bval y)) := by
  obtain ⟨l1, w1⟩ := words_of hx h1
  obtain ⟨l2, w2⟩ := words_of hy h2
  have b1 := bval_small hx (okN_can hx h1).2
  have b2 := bval_small hy (okN_can hy h2).2
  unfold addV
  by_cases he : (xn == yn) = true
  · rw [if_pos he]
    have hp := plus_ev (wordsN (bval x)) (wordsN (bval y)) (isW_wordsN _) (isW_wordsN _) (by omega) (by omega)
    rw [wval_wordsN, wval_wordsN] at hp
    have hf := fits_ev xn (wordsN (bval x + bval y)) (isW_wordsN _) (by have := words_len33 b1 b2; omega)
    rw [wval_wordsN] at hf
    refine Ev.step (f := fun k => (whole_wordsOf.f k x).bind fun t1 => (whole_wordsOf.f k y).bind fun t2 => (whole_plus.f k t1 t2).bind fun t3 => (whole_fits.f k xn t3).bind fun bt => some (bt.1, bt.2.1, bt.2.2)) (fun k => ?_) (Ev.bind w1 (Ev.bind w2 (Ev.bind hp (Ev.bind hf (Ev.now _)))))
    simp only [whole_Add.j0, he, if_true]; rfl
  · rw [if_neg he]
    have ho := order_ev (wordsN (bval x)) (wordsN (bval y)) (canW_wordsN _) (canW_wordsN _) (by omega) (by omega)
    rw [wval_wordsN, wval_wordsN] at ho
    by_cases hlt : bval x < bval y
    · rw [if_pos hlt]
      have hm := minus_ev (wordsN (bval y)) (wordsN (bval x)) (isW_wordsN _) (isW_wordsN _) (by omega) (words_mono (by omega)) (by rw [wval_wordsN, wval_wordsN]; omega)
      rw [wval_wordsN, wval_wordsN] at hm
      have hf := fits_ev yn (wordsN (bval y - bval x)) (isW_wordsN _) (by have := words_mono (Nat.sub_le (bval y) (bval x)); omega)
      rw [wval_wordsN] at hf
      have hc : cmpN (bval x) (bval y) < 0 := by unfold cmpN; rw [if_pos hlt]; omega
      refine Ev.step (f := fun k => (whole_wordsOf.f k x).bind fun t1 => (whole_wordsOf.f k y).bind fun t2 => (whole_order.f k t1 t2).bind fun t => if t < 0 then (whole_minus.f k t2 t1).bind fun t3 => (whole_fits.f k yn t3).bind fun bt => some (bt.1, bt.2.1, bt.2.2) else (whole_minus.f k t1 t2).bind fun t3 => (whole_fits.f k xn t3).bind fun bt => some (bt.1, bt.2.1, bt.2.2)) (fun k => ?_)
        (Ev.bind w1 (Ev.bind w2 (Ev.bind ho (Ev.congr (fun k => if_pos hc) (Ev.bind hm (Ev.bind hf (Ev.now _)))))))
      simp only [whole_Add.j0, he, if_false]; rfl
    · rw [if_neg hlt]
      have hm := minus_ev (wordsN (bval x)) (wordsN (bval y)) (isW_wordsN _) (isW_wordsN _) (by omega) (words_mono (by omega)) (by rw [wval_wordsN, wval_wordsN]; omega)
      rw [wval_wordsN, wval_wordsN] at hm
      have hf := fits_ev xn (wordsN (bval x - bval y)) (isW_wordsN _) (by have := words_mono (Nat.sub_le (bval x) (bval y)); omega)
      rw [wval_wordsN] at hf
      have hc : ¬ cmpN (bval x) (bval y) < 0 := by unfold cmpN; rw [if_neg hlt]; split <;> omega
      refine Ev.step (f := fun k => (whole_wordsOf.f k x).bind fun t1 => (whole_wordsOf.f k y).bind fun t2 => (whole_order.f k t1 t2).bind fun t => if t < 0 then (whole_minus.f k t2 t1).bind fun t3 => (whole_fits.f k yn t3).bind fun bt => some (bt.1, bt.2.1, bt.2.2) else (whole_minus.f k t1 t2).bind fun t3 => (whole_fits.f k xn t3).bind fun bt => some (bt.1, bt.2.1, bt.2.2)) (fun k => ?_)
        (Ev.bind w1 (Ev.bind w2 (Ev.bind ho (Ev.congr (fun k => if_neg hc) (Ev.bind hm (Ev.bind hf (Ev.now _)))))))
      simp only [whole_Add.j0, he, if_false]; rfl
theorem add_ev (xn yn : Bool) (x y : List Int) (hx : IsB x) (hy : IsB y) : Ev (fun k => whole_Add.f k xn x yn y) (addS xn x yn y) := by
  unfold addS
  by_cases h1 : okN xn x = true
  · by_cases h2 : okN yn y = true
    · rw [if_pos (by rw [h1, h2]; rfl)]
      refine Ev.congr (f := fun k => whole_Add.j0 k false xn x yn y) (fun k => ?_) (add_good xn yn x y hx hy h1 h2)
      unfold whole_Add.f
      rw [right_eq, h1, Option.bind_some, if_pos rfl, right_eq, h2]; rfl
    · have h2 : okN yn y = false := by simpa using h2
      rw [if_neg (by rw [h1, h2]; simp)]
      refine Ev.congr (f := fun k => whole_Add.j0 k true xn x yn y) (fun k => ?_) (Ev.step (f := fun _ => some bad) (fun k => ?_) (Ev.now _))
      · unfold whole_Add.f
        rw [right_eq, h1, Option.bind_some, if_pos rfl, right_eq, h2]; rfl
      · simp only [whole_Add.j0]; rfl
  · have h1 : okN xn x = false := by simpa using h1
    rw [if_neg (by rw [h1]; simp)]
    refine Ev.congr (f := fun k => whole_Add.j0 k true xn x yn y) (fun k => ?_) (Ev.step (f := fun _ => some bad) (fun k => ?_) (Ev.now _))
    · unfold whole_Add.f
      rw [right_eq, h1, Option.bind_some, if_neg (by simp)]
    · simp only [whole_Add.j0]; rfl
theorem radd_good (xn yn : Bool) (x y : List Int) (hx : IsB x) (hy : IsB y) (h1 : okN xn x = true) (h2 : okN yn y = true) : Ev (fun k => lapidaryref02_Add.j0 k false xn x yn y) (addV xn (bval x) yn (bval y)) := by
  have c1 := okN_can hx h1
  have c2 := okN_can hy h2
  unfold addV
  by_cases he : (xn == yn) = true
  · rw [if_pos he]
    obtain ⟨s, s1, s2, s3, s4⟩ := sum_ev x y hx hy (by omega) (by omega)
    have hv : bval s = bval x + bval y := bI_bval (by rw [s2, bI_eq, bI_eq]; omega)
    refine Ev.step (f := fun k => (lapidaryref02_sum.f k x y).bind fun t => (lapidaryref02_fits.f xn t).bind fun bt => some (bt.1, bt.2.1, bt.2.2)) (fun k => ?_) (Ev.bind s4 (Ev.congr (f := fun _ => some (fit xn (bval x + bval y))) (fun k => ?_) (Ev.now _)))
    · simp only [lapidaryref02_Add.j0, he, if_true]; rfl
    · rw [rfits_eq _ _ s1 (by omega), hv]; rfl
  · rw [if_neg he]
    obtain ⟨c, ⟨q1, q2, q3, q4⟩, q5⟩ := cmp_ev x y c1.1 c2.1 (by omega) (by omega)
    by_cases hlt : bval x < bval y
    · rw [if_pos hlt]
      have hll : x.length ≤ y.length := by
        rcases Nat.lt_or_ge y.length x.length with h | h
        · have := bval_len_lt hy c1.1 h; omega
        · exact h
      obtain ⟨s, s1, s2, s3, s4⟩ := less_ev y x hy hx (by omega) hll (by omega)
      refine Ev.step (f := fun k => (lapidaryref02_cmp.f k x y).bind fun t => if t ≥ 0 then (lapidaryref02_less.f k x y).bind fun t3 => (lapidaryref02_fits.f xn t3).bind fun bt => some (bt.1, bt.2.1, bt.2.2) else (lapidaryref02_less.f k y x).bind fun t3 => (lapidaryref02_fits.f yn t3).bind fun bt => some (bt.1, bt.2.1, bt.2.2)) (fun k => ?_)
        (Ev.bind q5 (Ev.congr (fun k => if_neg (by omega)) (Ev.bind s4 (Ev.congr (f := fun _ => some (fit yn (bval y - bval x))) (fun k => ?_) (Ev.now _)))))
      · simp only [lapidaryref02_Add.j0, he, if_false]; rfl
      · rw [rfits_eq _ _ s1 (by omega), s2]; rfl
    · rw [if_neg hlt]
      have hll : y.length ≤ x.length := by
        rcases Nat.lt_or_ge x.length y.length with h | h
        · have := bval_len_lt hx c2.1 h; omega
        · exact h
      obtain ⟨s, s1, s2, s3, s4⟩ := less_ev x y hx hy (by omega) hll (by omega)
      refine Ev.step (f := fun k => (lapidaryref02_cmp.f k x y).bind fun t => if t ≥ 0 then (lapidaryref02_less.f k x y).bind fun t3 => (lapidaryref02_fits.f xn t3).bind fun bt => some (bt.1, bt.2.1, bt.2.2) else (lapidaryref02_less.f k y x).bind fun t3 => (lapidaryref02_fits.f yn t3).bind fun bt => some (bt.1, bt.2.1, bt.2.2)) (fun k => ?_)
        (Ev.bind q5 (Ev.congr (fun k => if_pos (by omega)) (Ev.bind s4 (Ev.congr (f := fun _ => some (fit xn (bval x - bval y))) (fun k => ?_) (Ev.now _)))))
      · simp only [lapidaryref02_Add.j0, he, if_false]; rfl
      · rw [rfits_eq _ _ s1 (by omega), s2]; rfl
theorem radd_ev (xn yn : Bool) (x y : List Int) (hx : IsB x) (hy : IsB y) : Ev (fun k => lapidaryref02_Add.f k xn x yn y) (addS xn x yn y) := by
  unfold addS
  by_cases h1 : okN xn x = true
  · by_cases h2 : okN yn y = true
    · rw [if_pos (by rw [h1, h2]; rfl)]
      refine Ev.congr (f := fun k => lapidaryref02_Add.j0 k false xn x yn y) (fun k => ?_) (radd_good xn yn x y hx hy h1 h2)
      unfold lapidaryref02_Add.f
      rw [rright_eq, h1, Option.bind_some, if_pos rfl, rright_eq, h2]; rfl
    · have h2 : okN yn y = false := by simpa using h2
      rw [if_neg (by rw [h1, h2]; simp)]
      refine Ev.congr (f := fun k => lapidaryref02_Add.j0 k true xn x yn y) (fun k => ?_) (Ev.step (f := fun _ => some bad) (fun k => ?_) (Ev.now _))
      · unfold lapidaryref02_Add.f
        rw [rright_eq, h1, Option.bind_some, if_pos rfl, rright_eq, h2]; rfl
      · simp only [lapidaryref02_Add.j0]; rfl
  · have h1 : okN xn x = false := by simpa using h1
    rw [if_neg (by rw [h1]; simp)]
    refine Ev.congr (f := fun k => lapidaryref02_Add.j0 k true xn x yn y) (fun k => ?_) (Ev.step (f := fun _ => some bad) (fun k => ?_) (Ev.now _))
    · unfold lapidaryref02_Add.f
      rw [rright_eq, h1, Option.bind_some, if_neg (by simp)]
    · simp only [lapidaryref02_Add.j0]; rfl
/-- A number's sign turned. -/
def negS (yn : Bool) (y : List Int) : Bool := !yn && decide (0 < y.length)
theorem okN_neg (yn : Bool) (y : List Int) (h : okN yn y = true) : okN (negS yn y) y = true := by
  unfold okN negS at *
  split at h
  case isTrue e => subst e; simp
  case isFalse e => rw [if_neg e]; exact h
def subS (xn : Bool) (x : List Int) (yn : Bool) (y : List Int) : Bool × List Int × Int := if (okN xn x && okN yn y) = true then addV xn (bval x) (negS yn y) (bval y) else bad
theorem subS_len (xn yn : Bool) (x y : List Int) : (subS xn x yn y).2.1.length ≤ 140737488355328 := by
  unfold subS
  split
  · exact addV_len _ _ _ _
  · simp [bad]
theorem sub_ev (xn yn : Bool) (x y : List Int) (hx : IsB x) (hy : IsB y) : Ev (fun k => whole_Sub.f k xn x yn y) (subS xn x yn y) := by
  by_cases h2 : okN yn y = true
  · have e : subS xn x yn y = addS xn x (negS yn y) y := by
      unfold subS addS; rw [h2, okN_neg yn y h2]
    rw [e]
    refine Ev.congr (f := fun k => (whole_Add.f k xn x (negS yn y) y).bind fun bt => some (bt.1, bt.2.1, bt.2.2)) (fun k => ?_) (Ev.bind (add_ev xn (negS yn y) x y hx hy) (Ev.now _))
    unfold whole_Sub.f
    rw [right_eq, h2, Option.bind_some, if_pos rfl]
    cases yn
    · rw [if_neg (by simp)]; simp [negS]
    · rw [if_pos rfl]; simp [negS]
  · have h2 : okN yn y = false := by simpa using h2
    have e : subS xn x yn y = bad := by unfold subS; rw [h2]; simp
    rw [e]
    refine Ev.congr (f := fun _ => some bad) (fun k => ?_) (Ev.now _)
    unfold whole_Sub.f
    rw [right_eq, h2, Option.bind_some, if_neg (by simp)]; rfl
theorem rsub_ev (xn yn : Bool) (x y : List Int) (hx : IsB x) (hy : IsB y) : Ev (fun k => lapidaryref02_Sub.f k xn x yn y) (subS xn x yn y) := by
  by_cases h1 : okN xn x = true
  · by_cases h2 : okN yn y = true
    · have e : subS xn x yn y = addS xn x (negS yn y) y := by
        unfold subS addS; rw [h2, okN_neg yn y h2]
      rw [e]
      refine Ev.congr (f := fun k => (lapidaryref02_Add.f k xn x (negS yn y) y).bind fun bt => some (bt.1, bt.2.1, bt.2.2)) (fun k => ?_) (Ev.bind (radd_ev xn (negS yn y) x y hx hy) (Ev.now _))
      unfold lapidaryref02_Sub.f
      rw [rright_eq, h1, Option.bind_some, if_pos rfl, rright_eq, h2, Option.bind_some, if_pos rfl]
      cases yn
      · rw [if_neg (by simp)]; simp [negS]
      · rw [if_pos rfl]; simp [negS]
    · have h2 : okN yn y = false := by simpa using h2
      have e : subS xn x yn y = bad := by unfold subS; rw [h2]; simp
      rw [e]
      refine Ev.congr (f := fun _ => some bad) (fun k => ?_) (Ev.now _)
      unfold lapidaryref02_Sub.f
      rw [rright_eq, h1, Option.bind_some, if_pos rfl, rright_eq, h2, Option.bind_some, if_neg (by simp)]; rfl
  · have h1 : okN xn x = false := by simpa using h1
    have e : subS xn x yn y = bad := by unfold subS; rw [h1]; simp
    rw [e]
    refine Ev.congr (f := fun _ => some bad) (fun k => ?_) (Ev.now _)
    unfold lapidaryref02_Sub.f
    rw [rright_eq, h1, Option.bind_some, if_neg (by simp)]; rfl
/-- The plain law of WholeAdds. -/
theorem adds_plain (xn yn : Bool) (x y : List Int) (hx : IsB x) (hy : IsB y) : ∃ (k1 k2 k3 k4 : Nat) (zn : Bool) (lz : List Int) (er : Int) (vn : Bool) (lv : List Int) (es : Int),
    whole_Add.f k1 xn x yn y = some (zn, lz, er) ∧ lapidaryref02_Add.f k2 xn x yn y = some (zn, lz, er) ∧ lz.length ≤ 140737488355328 ∧ whole_Sub.f k3 xn x yn y = some (vn, lv, es) ∧ lapidaryref02_Sub.f k4 xn x yn y = some (vn, lv, es) ∧ lv.length ≤ 140737488355328 := by
  obtain ⟨k1, h1⟩ := (add_ev xn yn x y hx hy).rounds
  obtain ⟨k2, h2⟩ := (radd_ev xn yn x y hx hy).rounds
  obtain ⟨k3, h3⟩ := (sub_ev xn yn x y hx hy).rounds
  obtain ⟨k4, h4⟩ := (rsub_ev xn yn x y hx hy).rounds
  exact ⟨k1, k2, k3, k4, _, _, _, _, _, _, h1, h2, addS_len xn yn x y, h3, h4, subS_len xn yn x y⟩

end Go.Proofs.Ytfjbhccapgnkiaa.P
