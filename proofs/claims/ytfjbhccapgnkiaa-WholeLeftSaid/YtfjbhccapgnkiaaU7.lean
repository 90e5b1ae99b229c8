import Derived.Test.YtfjbhccapgnkiaaU1r
import Derived.Test.YtfjbhccapgnkiaaB4
import Derived.Test.YtfjbhccapgnkiaaC6c
import Derived.Test.YtfjbhccapgnkiaaG9
namespace Go.Proofs.Ytfjbhccapgnkiaa.P
open Go.RowKit Go.Proofs.YtfjbhccapgnkiaaW.PrintWords Go.Proofs.YtfjbhccapgnkiaaW.PrintLast Go.Proofs.YtfjbhccapgnkiaaW.PrintMore
attribute [local go_sem] max2_int min2_int max_two min_two max_three min_three max_four min_four
set_option linter.unusedVariables false
set_option linter.unusedSimpArgs false

open Lap

theorem words_mono {n m : Nat} (h : n ≤ m) : (wordsN n).length ≤ (wordsN m).length := by
  rw [wordsN_length_le]
  exact Nat.lt_of_le_of_lt h (wordsN_length_le.1 (Nat.le_refl _))
theorem bytes_len {n k : Nat} (h : n < 256 ^ k) : (bytesN n).length ≤ k := bytesN_length_lt.2 h
/-- How often, and what is left. -/
def divV (xn : Bool) (a : Nat) (yn : Bool) (b : Nat) : Bool × List Int × Bool × List Int × Int :=
  if (xn != yn && decide (a % b ≠ 0)) = true then ((mk (xn != yn) (a / b + 1)).1, (mk (xn != yn) (a / b + 1)).2, (mk yn (b - a % b)).1, (mk yn (b - a % b)).2, 0)
  else ((mk (xn != yn) (a / b)).1, (mk (xn != yn) (a / b)).2, (mk yn (a % b)).1, (mk yn (a % b)).2, 0)
def divS (xn : Bool) (x : List Int) (yn : Bool) (y : List Int) : Bool × List Int × Bool × List Int × Int :=
  if (okN xn x && okN yn y) = true then (if y = [] then (false, [], false, [], 23) else divV xn (bval x) yn (bval y)) else (false, [], false, [], 1)
theorem one_isB : IsB [1] := IsB.cons (by omega) (by omega) IsB.nil

theorem bval_len_lt {a b : List Int} (ha : IsB a) (hb : CanB b) (hl : a.length < b.length) : bval a < bval b := by
  cases b with
  | nil => simp at hl
  | cons x r =>
    have hx : x ≠ 0 := fun e => hb.2 (by simp [e])
    have h1 := bval_ge hb.1 hx
    have h2 := bval_small ha (n := r.length) (by simp at hl; omega)
    omega
theorem lex_lt {a b : List Int} (ha : IsB a) (hb : IsB b) (hl : a.length = b.length) (i : Nat) (hi : i < a.length) (ht : a.take i = b.take i) (hlt : a[i] < b[i]'(by omega)) : bval a < bval b := by
  have ea : a = a.take i ++ a[i] :: a.drop (i + 1) := by rw [← List.drop_eq_getElem_cons hi, List.take_append_drop]
  have eb : b = b.take i ++ b[i]'(by omega) :: b.drop (i + 1) := by rw [← List.drop_eq_getElem_cons (by omega : i < b.length), List.take_append_drop]
  have va : bI a = bI (a.take i ++ a[i] :: a.drop (i + 1)) := by rw [← ea]
  have vb : bI b = bI (b.take i ++ b[i]'(by omega) :: b.drop (i + 1)) := by rw [← eb]
  rw [bI_append, bI_cons _ _ (ha.get i hi).1] at va
  rw [bI_append, bI_cons _ _ (hb.get i (by omega)).1, ← ht] at vb
  have la : (a[i] :: a.drop (i + 1)).length = (b[i]'(by omega) :: b.drop (i + 1)).length := by simp; omega
  have lb : (a.drop (i + 1)).length = (b.drop (i + 1)).length := by simp; omega
  rw [la, lb] at va
  have ra := bI_lt (ha.drop (i + 1))
  rw [lb] at ra
  have rb := bI_nonneg (b.drop (i + 1))
  have hm : (a[i] + 1) * W8 (b.drop (i + 1)).length ≤ (b[i]'(by omega)) * W8 (b.drop (i + 1)).length := Int.mul_le_mul_of_nonneg_right (by omega) (Int.le_of_lt (W8_pos _))
  rw [Int.add_mul, Int.one_mul] at hm
  have : bI a < bI b := by rw [va, vb]; omega
  rw [bI_eq, bI_eq] at this
  omega
theorem cmp_loop (a b : List Int) (ha : IsB a) (hb : IsB b) (hl : a.length = b.length) (hla : a.length ≤ 900000) :
    ∀ (d i : Nat), d + i = a.length → a.take i = b.take i → ∃ c : Int, ((c < 0 ↔ bval a < bval b) ∧ (0 < c ↔ bval b < bval a) ∧ -256 < c ∧ c < 256) ∧ Ev (fun k => lapidaryref02_cmp.l0 k a b (i : Int)) c := by
  intro d
  induction d with
  | zero =>
    intro i hd ht
    obtain rfl : i = a.length := by omega
    have hab : a = b := by rw [List.take_length] at ht; rw [ht, hl, List.take_length]
    refine ⟨0, by rw [hab]; omega, Ev.step (f := fun _ => some 0) (fun k => ?_) (Ev.now _)⟩
    simp only [lapidaryref02_cmp.l0]
    rw [if_neg (by omega)]
  | succ d ih =>
    intro i hd ht
    have hi : i < a.length := by omega
    have hib : i < b.length := by omega
    have hA := ha.get i hi
    have hB := hb.get i hib
    by_cases he : a[i] = b[i]
    · obtain ⟨c, h1, h2⟩ := ih (i + 1) (by omega) (by rw [take_succ_get a i hi, take_succ_get b i hib, ht, he])
      refine ⟨c, h1, Ev.step (fun k => ?_) h2⟩
      simp only [lapidaryref02_cmp.l0]
      rw [if_pos (by omega), if_pos (by omega), if_pos (by omega), rd_lt _ _ hi, rd_lt _ _ hib, if_pos he, w64s i (by omega)]
    · refine ⟨a[i] - b[i], ?_, Ev.step (f := fun _ => some (a[i] - b[i])) (fun k => ?_) (Ev.now _)⟩
      · rcases Int.lt_or_gt_of_ne he with hlt | hgt
        · have := lex_lt ha hb hl i hi ht hlt
          omega
        · have := lex_lt hb ha hl.symm i hib ht.symm hgt
          omega
      · simp only [lapidaryref02_cmp.l0]
        rw [if_pos (by omega), if_pos (by omega), if_pos (by omega), rd_lt _ _ hi, rd_lt _ _ hib, if_neg he, w64 (x := a[i]) (by omega) (by omega), w64 (x := b[i]) (by omega) (by omega), w64 (by omega) (by omega)]
theorem cmp_ev (a b : List Int) (ha : CanB a) (hb : CanB b) (hla : a.length ≤ 900000) (hlb : b.length ≤ 900000) :
    ∃ c : Int, ((c < 0 ↔ bval a < bval b) ∧ (0 < c ↔ bval b < bval a) ∧ -1000000 < c ∧ c < 1000000) ∧ Ev (fun k => lapidaryref02_cmp.f k a b) c := by
  by_cases hl : a.length = b.length
  · obtain ⟨c, h1, h2⟩ := cmp_loop a b ha.1 hb.1 hl hla a.length 0 (by omega) rfl
    refine ⟨c, by omega, Ev.congr (fun k => ?_) h2⟩
    unfold lapidaryref02_cmp.f
    rw [if_pos (by omega)]; rfl
  · refine ⟨(a.length : Int) - b.length, ?_, Ev.congr (f := fun _ => some ((a.length : Int) - b.length)) (fun k => ?_) (Ev.now _)⟩
    · rcases Nat.lt_or_gt_of_ne hl with hlt | hgt
      · have := bval_len_lt ha.1 hb hlt; omega
      · have := bval_len_lt hb.1 ha hgt; omega
    · unfold lapidaryref02_cmp.f
      rw [if_neg (by omega), w64 (by omega) (by omega)]

/-- Which is the lesser one. -/
def cmpV (xn : Bool) (a : Nat) (yn : Bool) (b : Nat) : Int := if (xn == yn) = true then (if xn = true then -cmpN a b else cmpN a b) else if xn = true then -1 else 1
def cmpS (xn : Bool) (x : List Int) (yn : Bool) (y : List Int) : Int := if (okN xn x && okN yn y) = true then cmpV xn (bval x) yn (bval y) else 0

/-- The sum of two numbers that can be. -/
def addV (xn : Bool) (a : Nat) (yn : Bool) (b : Nat) : Bool × List Int × Int := if (xn == yn) = true then fit xn (a + b) else if a < b then fit yn (b - a) else fit xn (a - b)
def addS (xn : Bool) (x : List Int) (yn : Bool) (y : List Int) : Bool × List Int × Int := if (okN xn x && okN yn y) = true then addV xn (bval x) yn (bval y) else bad
theorem P132 : (256 : Nat) ^ (4 * 33) = 256 ^ 128 * 4294967296 := by
  rw [show 4 * 33 = 128 + 4 by decide, Nat.pow_add, show (256 : Nat) ^ 4 = 4294967296 by decide]
theorem words_len33 {n m : Nat} (h1 : n < 256 ^ 128) (h2 : m < 256 ^ 128) : (wordsN (n + m)).length ≤ 33 := by
  refine wordsN_len _ 33 ?_
  rw [P132]
  generalize (256 : Nat) ^ 128 = P at *
  omega
theorem add_good (xn yn : Bool) (x y : List Int) (hx : IsB x) (hy : IsB y) (h1 : okN xn x = true) (h2 : okN yn y = true) : Ev (fun k => whole_Add.j0 k false xn x yn y) (addV xn (bval x) yn (bval y)) := by
  obtain ⟨l1, w1⟩ := words_of hx h1
  obtain ⟨l2, w2⟩ := words_of hy h2
  have b1 := bval_small hx (okN_can hx h1).2
  have b2 := bval_small hy (okN_can hy h2).2
  unfold addV
  by_cases he : (xn == yn) = true
  · rw [if_pos he]
    have hp := plus_ev (wordsN (bval x)) (wordsN (bval y)) (isW_wordsN _) (isW_wordsN _) (by omega) (by omega)
    rw [wval_wordsN, wval_wordsN] at hp
    have hf := fits_ev xn (wordsN (bval x + bval y)) (isW_wordsN _) (by have := words_len33 b1 b2; omega)
    rw [wval_wordsN] at hf
    refine Ev.step (f := fun k => (whole_wordsOf.f k x).bind fun t1 => (whole_wordsOf.f k y).bind fun t2 => (whole_plus.f k t1 t2).bind fun t3 => (whole_fits.f k xn t3).bind fun bt => some (bt.1, bt.2.1, bt.2.2)) (fun k => ?_) (Ev.bind w1 (Ev.bind w2 (Ev.bind hp (Ev.bind hf (Ev.now _)))))
    simp only [whole_Add.j0, he, if_true]; rfl
  · rw [if_neg he]
    have ho := order_ev (wordsN (bval x)) (wordsN (bval y)) (canW_wordsN _) (canW_wordsN _) (by omega) (by omega)
    rw [wval_wordsN, wval_wordsN] at ho
    by_cases hlt : bval x < bval y
    · rw [if_pos hlt]
      have hm := minus_ev (wordsN (bval y)) (wordsN (bval x)) (isW_wordsN _) (isW_wordsN _) (by omega) (words_mono (by omega)) (by rw [wval_wordsN, wval_wordsN]; omega)
      rw [wval_wordsN, wval_wordsN] at hm
      have hf := fits_ev yn (wordsN (bval y - bval x)) (isW_wordsN _) (by have := words_mono (Nat.sub_le (bval y) (bval x)); omega)
      rw [wval_wordsN] at hf
      have hc : cmpN (bval x) (bval y) < 0 := by unfold cmpN; rw [if_pos hlt]; omega
      refine Ev.step (f := fun k => (whole_wordsOf.f k x).bind fun t1 => (whole_wordsOf.f k y).bind fun t2 => (whole_order.f k t1 t2).bind fun t => if t < 0 then (whole_minus.f k t2 t1).bind fun t3 => (whole_fits.f k yn t3).bind fun bt => some (bt.1, bt.2.1, bt.2.2) else (whole_minus.f k t1 t2).bind fun t3 => (whole_fits.f k xn t3).bind fun bt => some (bt.1, bt.2.1, bt.2.2)) (fun k => ?_)
        (Ev.bind w1 (Ev.bind w2 (Ev.bind ho (Ev.congr (fun k => if_pos hc) (Ev.bind hm (Ev.bind hf (Ev.now _)))))))
      simp only [whole_Add.j0, he, if_false]; rfl
    · rw [if_neg hlt]
      have hm := minus_ev (wordsN (bval x)) (wordsN (bval y)) (isW_wordsN _) (isW_wordsN _) (by omega) (words_mono (by omega)) (by rw [wval_wordsN, wval_wordsN]; omega)
      rw [wval_wordsN, wval_wordsN] at hm
      have hf := fits_ev xn (wordsN (bval x - bval y)) (isW_wordsN _) (by have := words_mono (Nat.sub_le (bval x) (bval y)); omega)
      rw [wval_wordsN] at hf
      have hc : ¬ cmpN (bval x) (bval y) < 0 := by unfold cmpN; rw [if_neg hlt]; split <;> omega
      refine Ev.step (f := fun k => (whole_wordsOf.f k x).bind fun t1 => (whole_wordsOf.f k y).bind fun t2 => (whole_order.f k t1 t2).bind fun t => if t < 0 then (whole_minus.f k t2 t1).bind fun t3 => (whole_fits.f k yn t3).bind fun bt => some (bt.1, bt.2.1, bt.2.2) else (whole_minus.f k t1 t2).bind fun t3 => (whole_fits.f k xn t3).bind fun bt => some (bt.1, bt.2.1, bt.2.2)) (fun k => ?_)
        (Ev.bind w1 (Ev.bind w2 (Ev.bind ho (Ev.congr (fun k => if_neg hc) (Ev.bind hm (Ev.bind hf (Ev.now _)))))))
      simp only [whole_Add.j0, he, if_false]; rfl
theorem add_ev (xn yn : Bool) (x y : List Int) (hx : IsB x) (hy : IsB y) : Ev (fun k => whole_Add.f k xn x yn y) (addS xn x yn y) := by
  unfold addS
  by_cases h1 : okN xn x = true
  · by_cases h2 : okN yn y = true
    · rw [if_pos (by rw [h1, h2]; rfl)]
      refine Ev.congr (f := fun k => whole_Add.j0 k false xn x yn y) (fun k => ?_) (add_good xn yn x y hx hy h1 h2)
      unfold whole_Add.f
      rw [right_eq, h1, Option.bind_some, if_pos rfl, right_eq, h2]; rfl
    · have h2 : okN yn y = false := by simpa using h2
      rw [if_neg (by rw [h1, h2]; simp)]
      refine Ev.congr (f := fun k => whole_Add.j0 k true xn x yn y) (fun k => ?_) (Ev.step (f := fun _ => some bad) (fun k => ?_) (Ev.now _))
      · unfold whole_Add.f
        rw [right_eq, h1, Option.bind_some, if_pos rfl, right_eq, h2]; rfl
      · simp only [whole_Add.j0]; rfl
  · have h1 : okN xn x = false := by simpa using h1
    rw [if_neg (by rw [h1]; simp)]
    refine Ev.congr (f := fun k => whole_Add.j0 k true xn x yn y) (fun k => ?_) (Ev.step (f := fun _ => some bad) (fun k => ?_) (Ev.now _))
    · unfold whole_Add.f
      rw [right_eq, h1, Option.bind_some, if_neg (by simp)]
    · simp only [whole_Add.j0]; rfl

theorem times_step {S0 wo P Q c ai bj o v q T : Int} (h : v + 4294967296 * q = c + (ai * bj + o)) (he : wo + P * Q * c = S0 + ai * P * T) :
    (wo + P * Q * (v - o)) + P * (Q * 4294967296) * q = S0 + ai * P * (T + Q * bj) := by grind

theorem times_inner (a b : List Int) (hb : IsW b) (ai : Int) (h0 : 0 ≤ ai) (h1 : ai < 4294967296) (i n m : Nat) (S0 : Int) (hm : b.length = m) (hi : i < n) (hn : n ≤ 100000) (hm2 : m ≤ 100000) (r : List Int)
    (hr : ∀ (out : List Int) (c : Int), out.length = n + m → IsW out → 0 ≤ c → c < 4294967296 → (∀ p (hp : p < out.length), i + m ≤ p → out[p] = 0) → wI out + W32 i * W32 m * c = S0 + ai * W32 i * wI b →
      Ev (fun k => whole_times.l0 k b (out.set (i + m) c) a n ((i + 1 : Nat) : Int)) r) :
    ∀ (d j : Nat) (out : List Int) (c : Int), d = m - j → j ≤ m → out.length = n + m → IsW out → 0 ≤ c → c < 4294967296 → (∀ p (hp : p < out.length), i + m ≤ p → out[p] = 0) →
      wI out + W32 i * W32 j * c = S0 + ai * W32 i * wI (b.take j) →
      Ev (fun k => whole_times.l1 k b out i ai c a n i b m j) r := by
  intro d
  induction d with
  | zero =>
    intro j out c hd hj ho hw c0 c1 hz he
    obtain rfl : j = m := by omega
    rw [List.take_of_length_le (by omega)] at he
    refine Ev.step (fun k => ?_) (hr out c ho hw c0 c1 hz he)
    simp only [whole_times.l1]
    rw [if_neg (by omega), hm, w64 (x := (i : Int) + j) (by omega) (by omega), if_pos (by omega), if_pos (by omega), w64s i (by omega), Int.emod_eq_of_lt c0 (by omega)]
    rw [show ((i : Int) + (j : Int)).toNat = i + j by omega]
  | succ d ih =>
    intro j out c hd hj ho hw c0 c1 hz he
    have hlt : j < b.length := by omega
    have hpos : i + j < out.length := by omega
    have hB := hb.get j hlt
    have hO := hw.get (i + j) hpos
    have hM := mul_bound h0 h1 hB.1 hB.2
    have hT : 0 ≤ c + (ai * b[j] + out[i + j]) ∧ c + (ai * b[j] + out[i + j]) < 18446744073709551616 := by omega
    have e1 : IntKind.u64.wrap (c + IntKind.u64.wrap (IntKind.u64.wrap (IntKind.u64.wrap ai * IntKind.u64.wrap b[j]) + IntKind.u64.wrap out[i + j])) = c + (ai * b[j] + out[i + j]) := by
      rw [u64 (x := ai) (by omega) (by omega), u64 (x := b[j]) (by omega) (by omega), u64 (x := out[i + j]) (by omega) (by omega), u64 (x := ai * b[j]) (by omega) (by omega),
        u64 (x := ai * b[j] + out[i + j]) (by omega) (by omega), u64 hT.1 hT.2]
    refine Ev.step (fun k => ?_) (ih (j + 1) (out.set (i + j) ((c + (ai * b[j] + out[i + j])) % 4294967296)) ((c + (ai * b[j] + out[i + j])) / 4294967296) (by omega) (by omega) (by simpa using ho) (hw.set _ _ (by omega) (by omega)) (by omega) (by omega)
      (fun p hp hge => by
        rw [List.getElem_set_ne (by omega)]
        exact hz p (by simpa using hp) hge) ?_)
    · simp only [whole_times.l1]
      rw [if_pos (by omega), if_pos (by omega), if_pos (by omega), w64 (x := (i : Int) + j) (by omega) (by omega), if_pos (by omega), if_pos (by omega), w64s j (by omega)]
      rw [show ((i : Int) + (j : Int)) = ((i + j : Nat) : Int) by omega, rd_lt _ _ hlt, rd_lt _ _ hpos, e1]
      rfl
    · rw [wI_set _ _ _ hpos (by omega) hO.1, wI_take_succ _ _ hlt hB.1, W32_add, W32_succ]
      exact times_step (by omega) he

theorem times_outer (a b : List Int) (ha : IsW a) (hb : IsW b) (hla : a.length ≤ 100000) (hlb : b.length ≤ 100000) :
    ∀ (d i : Nat) (out : List Int), d = a.length - i → i ≤ a.length → out.length = a.length + b.length → IsW out → (∀ p (hp : p < out.length), i + b.length ≤ p → out[p] = 0) →
      wI out = wI (a.take i) * wI b → Ev (fun k => whole_times.l0 k b out a a.length i) (wordsN (wval a * wval b)) := by
  intro d
  induction d with
  | zero =>
    intro i out hd hi ho hw hz he
    obtain rfl : i = a.length := by omega
    rw [List.take_length] at he
    have hv : wval out = wval a * wval b := by
      rw [wI_eq, wI_eq, wI_eq] at he
      exact_mod_cast he
    refine Ev.step (f := fun k => (whole_words_trim.f k out).bind fun t => some t) (fun k => ?_) ?_
    · simp only [whole_times.l0]; rw [if_neg (by omega)]
    · rw [← hv]; exact Ev.bind (trim_ev out hw (by omega)) (Ev.now _)
  | succ d ih =>
    intro i out hd hi ho hw hz he
    have hlt : i < a.length := by omega
    have hA := ha.get i hlt
    refine Ev.step (f := fun k => whole_times.l1 k b out i a[i] 0 a a.length i b b.length 0) (fun k => ?_) ?_
    · simp only [whole_times.l0]
      rw [if_pos (by omega), if_pos (by omega), if_pos (by omega), rd_lt _ _ hlt]
    · refine times_inner a b hb a[i] hA.1 hA.2 i a.length b.length (wI out) rfl hlt hla hlb _ ?_ b.length 0 out 0 (by omega) (by omega) ho hw (by omega) (by omega) hz (by simp [wI_nil])
      intro out2 c h2 hw2 c0 c1 hz2 he2
      refine ih (i + 1) (out2.set (i + b.length) c) (by omega) (by omega) (by simpa using h2) (hw2.set _ _ c0 c1) (fun p hp hge => ?_) ?_
      · rw [List.getElem_set_ne (by omega)]
        exact hz2 p (by simpa using hp) (by omega)
      · have hpos : i + b.length < out2.length := by omega
        have hz3 := hz2 (i + b.length) hpos (Nat.le_refl _)
        rw [wI_set _ _ _ hpos c0 (by omega), hz3, W32_add, wI_take_succ _ _ hlt hA.1]
        have e0 : W32 i * W32 b.length * (c - 0) = W32 i * W32 b.length * c := by simp
        rw [e0, he2, he]
        grind

theorem times_ev (a b : List Int) (ha : IsW a) (hb : IsW b) (hla : a.length ≤ 100000) (hlb : b.length ≤ 100000) :
    Ev (fun k => whole_times.f k a b) (wordsN (wval a * wval b)) := by
  refine Ev.congr (fun k => ?_) (times_outer a b ha hb hla hlb a.length 0 (List.replicate (a.length + b.length) 0) (by omega) (by omega) (by simp) (IsW.replicate _) (fun p hp _ => by simp) (by simp [wI_nil, wI_replicate_zero]))
  unfold whole_times.f
  rw [w64 (x := (a.length : Int) + b.length) (by omega) (by omega), if_pos (by omega), if_pos (by omega)]
  rw [show ((a.length : Int) + (b.length : Int)).toNat = a.length + b.length by omega]
  rfl
def mulS (xn : Bool) (x : List Int) (yn : Bool) (y : List Int) : Bool × List Int × Int := if okN xn x && okN yn y then fit (xn != yn) (bval x * bval y) else bad
theorem mul_ev (xn yn : Bool) (x y : List Int) (hx : IsB x) (hy : IsB y) : Ev (fun k => whole_Mul.f k xn x yn y) (mulS xn x yn y) := by
  unfold mulS
  by_cases h1 : okN xn x = true
  · by_cases h2 : okN yn y = true
    · rw [h1, h2]
      obtain ⟨l1, w1⟩ := words_of hx h1
      obtain ⟨l2, w2⟩ := words_of hy h2
      have ht := times_ev (wordsN (bval x)) (wordsN (bval y)) (isW_wordsN _) (isW_wordsN _) (by omega) (by omega)
      rw [wval_wordsN, wval_wordsN] at ht
      have hlt : (wordsN (bval x * bval y)).length ≤ 64 := by
        refine wordsN_len _ 64 ?_
        have a1 := bval_small hx (n := 128) (okN_can hx h1).2
        have a2 := bval_small hy (n := 128) (okN_can hy h2).2
        have : (256 : Nat) ^ (4 * 64) = 256 ^ 128 * 256 ^ 128 := by rw [← Nat.pow_add]
        rw [this]
        exact Nat.mul_lt_mul'' a1 a2
      have hf := fits_ev (xn != yn) (wordsN (bval x * bval y)) (isW_wordsN _) (by omega)
      rw [wval_wordsN] at hf
      rw [Bool.and_self, if_pos rfl]
      refine Ev.congr (f := fun k => whole_Mul.j0 k false xn x yn y) (fun k => ?_) (Ev.step (f := fun k => (whole_wordsOf.f k x).bind fun t509 => (whole_wordsOf.f k y).bind fun t512 => (whole_times.f k t509 t512).bind fun t515 => (whole_fits.f k (xn != yn) t515).bind fun bt => some (bt.1, bt.2.1, bt.2.2)) (fun k => ?_) (Ev.bind w1 (Ev.bind w2 (Ev.bind ht (Ev.bind hf (Ev.now _))))))
      · unfold whole_Mul.f
        rw [right_eq, h1, Option.bind_some, if_pos rfl, right_eq, h2]; rfl
      · simp only [whole_Mul.j0]; rfl
    · have h2 : okN yn y = false := by simpa using h2
      rw [h1, h2]
      refine Ev.congr (f := fun k => whole_Mul.j0 k true xn x yn y) (fun k => ?_) (Ev.step (f := fun _ => some bad) (fun k => ?_) (Ev.now _))
      · unfold whole_Mul.f
        rw [right_eq, h1, Option.bind_some, if_pos rfl, right_eq, h2]; rfl
      · simp only [whole_Mul.j0]; rfl
  · have h1 : okN xn x = false := by simpa using h1
    rw [h1]
    refine Ev.congr (f := fun k => whole_Mul.j0 k true xn x yn y) (fun k => ?_) (Ev.step (f := fun _ => some bad) (fun k => ?_) (Ev.now _))
    · unfold whole_Mul.f
      rw [right_eq, h1, Option.bind_some, if_neg (by simp)]
    · simp only [whole_Mul.j0]; rfl

/-- 2 to a small power. -/
@[irreducible] def P2 (m : Nat) : Int := ((2 ^ m : Nat) : Int)
theorem P2_eq (m : Nat) : P2 m = ((2 ^ m : Nat) : Int) := by unfold P2; rfl
theorem P2_succ (m : Nat) : P2 (m + 1) = P2 m * 2 := by rw [P2_eq, P2_eq, Nat.pow_succ, Int.natCast_mul]; rfl
theorem P2_pos (m : Nat) : 0 < P2 m := by rw [P2_eq]; have : 0 < 2 ^ m := Nat.pow_pos (by decide); omega
theorem shr32 (x : Int) (m : Nat) (hm : m < 32) : shr .u32 x (m : Int) = x / P2 m := by
  unfold shr
  rw [Int.toNat_natCast, show IntKind.u32.bits = 32 from rfl, Nat.min_eq_left (by omega), P2_eq]
  norm_cast
theorem P2_lt (m : Nat) (hm : m < 32) : P2 m < 4294967296 := by
  rw [P2_eq]
  have h1 : 2 ^ m < 2 ^ 32 := Nat.pow_lt_pow_right (by decide) hm
  have h2 : (2 : Nat) ^ 32 = 4294967296 := by decide
  omega
theorem shl32 (m : Nat) (hm : m < 32) : shl .u32 1 (m : Int) = P2 m := by
  have h1 := P2_lt m hm
  have h2 := P2_pos m
  unfold shl
  rw [Int.toNat_natCast, show IntKind.u32.bits = 32 from rfl, Nat.min_eq_left (by omega)]
  have e : (1 : Int) * 2 ^ m = P2 m := by rw [P2_eq, Int.one_mul]; norm_cast
  rw [e, IntKind.wrap_u32]
  omega
theorem and1 (x : Int) (h0 : 0 ≤ x) (h1 : x < 4294967296) : Go.bits .and .u32 x 1 = x % 2 := by
  have := bits_mask .u32 32 (by decide) (fun n a b => by rw [IntKind.wrap_u32]; omega) 1 (by decide) x h0 (by omega)
  simpa using this
theorem or_bit (x : Int) (m : Nat) (hm : m < 32) (h0 : 0 ≤ x) (h1 : x < 4294967296) (hd : x % P2 (m + 1) = 0) : Go.bits .or .u32 x (P2 m) = x + P2 m := by
  have hp := P2_pos m
  have hs := P2_succ m
  have hl := P2_lt m hm
  refine bits_join .u32 32 (by decide) (fun n a b => by rw [IntKind.wrap_u32]; omega) (m + 1) x (P2 m) h0 ?_ (by omega) (by omega) ?_ (by omega)
  · rw [P2_eq] at hd; exact_mod_cast hd
  · rw [P2_eq] at hs; have : ((2 ^ (m + 1) : Nat) : Int) = (2 : Int) ^ (m + 1) := by norm_cast
    rw [← this, hs]; omega
theorem pow32 (j : Nat) : 4294967296 ^ j = 2 ^ (32 * j) := by
  rw [Nat.pow_mul]
theorem wval_parts (a : List Int) (j : Nat) (hj : j < a.length) : wval a = wval (a.take j) + 2 ^ (32 * j) * ((a[j]).toNat + 4294967296 * wval (a.drop (j + 1))) := by
  have e : a = a.take j ++ a[j] :: a.drop (j + 1) := by rw [← List.drop_eq_getElem_cons hj, List.take_append_drop]
  have h : wval a = wval (a.take j ++ a[j] :: a.drop (j + 1)) := by rw [← e]
  rw [wval_append, List.length_take, Nat.min_eq_left (by omega), pow32] at h
  exact h
theorem bit_at (a : List Int) (ha : IsW a) (j m : Nat) (hj : j < a.length) (hm : m < 32) : wval a / 2 ^ (32 * j + m) % 2 = (a[j]).toNat / 2 ^ m % 2 := by
  have hl : wval (a.take j) < 2 ^ (32 * j) := by
    have := wval_lt (ha.take j)
    rw [List.length_take, Nat.min_eq_left (by omega), pow32] at this
    exact this
  rw [wval_parts a j hj, Nat.pow_add, ← Nat.div_div_eq_div_mul, Nat.add_mul_div_left _ _ (Nat.pow_pos (by decide)), Nat.div_eq_of_lt hl, Nat.zero_add]
  have e : (4294967296 : Nat) = 2 ^ m * (2 * 2 ^ (31 - m)) := by
    rw [← Nat.pow_succ', ← Nat.pow_add, show m + (31 - m + 1) = 32 by omega]
  rw [e, Nat.mul_assoc, Nat.add_mul_div_left _ _ (Nat.pow_pos (by decide)), Nat.mul_assoc, Nat.add_mul_mod_self_left]
theorem wval_set (l : List Int) (p : Nat) (v : Int) (h : p < l.length) (h0 : 0 ≤ v) (hl : 0 ≤ l[p]) (hv : l[p] ≤ v) : wval (l.set p v) = wval l + 2 ^ (32 * p) * (v - l[p]).toNat := by
  have := wI_set l p v h h0 hl
  rw [wI_eq, wI_eq] at this
  have e : W32 p = ((2 ^ (32 * p) : Nat) : Int) := by unfold W32; rw [pow32]
  have ev : v - l[p] = (((v - l[p]).toNat : Nat) : Int) := by omega
  rw [e, ev, ← Int.natCast_mul] at this
  omega
/-- The place of a bit: the words below it are 0, its word is a multiple of twice its weight. -/
def Clean (q : List Int) (d : Nat) : Prop := (∀ p, (h : p < q.length) → p < d / 32 → q[p] = 0) ∧ (∀ h : d / 32 < q.length, q[d / 32] % P2 (d % 32 + 1) = 0)
theorem P2_32 : P2 32 = 4294967296 := by rw [P2_eq]; decide
theorem clean_down (q : List Int) (d : Nat) (hw : IsW q) (h : Clean q (d + 1)) : Clean q d := by
  obtain ⟨h1, h2⟩ := h
  by_cases hm : (d + 1) % 32 = 0
  · have e1 : (d + 1) / 32 = d / 32 + 1 := by omega
    have e2 : d % 32 = 31 := by omega
    refine ⟨fun p hp hlt => h1 p hp (by omega), fun hl => ?_⟩
    rw [h1 (d / 32) hl (by omega)]; simp
  · have e1 : (d + 1) / 32 = d / 32 := by omega
    have e2 : (d + 1) % 32 = d % 32 + 1 := by omega
    refine ⟨fun p hp hlt => h1 p hp (by omega), fun hl => ?_⟩
    have := h2 (by omega)
    simp only [e1, e2] at this
    rw [P2_succ] at this
    have hd : P2 (d % 32 + 1) ∣ P2 (d % 32 + 1) * 2 := ⟨2, rfl⟩
    exact Int.emod_eq_zero_of_dvd (Int.dvd_trans hd (Int.dvd_of_emod_eq_zero this))
theorem clean_set (q : List Int) (d : Nat) (hw : IsW q) (hl : d / 32 < q.length) (h : Clean q d) (hd : 0 < d) : Clean (q.set (d / 32) (q[d / 32] + P2 (d % 32))) (d - 1) := by
  obtain ⟨h1, h2⟩ := h
  have h3 := h2 hl
  by_cases hm : d % 32 = 0
  · have e1 : d / 32 = (d - 1) / 32 + 1 := by omega
    refine ⟨fun p hp hlt => ?_, fun hl2 => ?_⟩
    · rw [List.getElem_set_ne (by omega)]; exact h1 p (by simpa using hp) (by omega)
    · rw [List.getElem_set_ne (by omega), h1 ((d - 1) / 32) (by simpa using hl2) (by omega)]; simp
  · have e1 : (d - 1) / 32 = d / 32 := by omega
    have e2 : (d - 1) % 32 + 1 = d % 32 := by omega
    refine ⟨fun p hp hlt => ?_, fun hl2 => ?_⟩
    · rw [List.getElem_set_ne (by omega)]; exact h1 p (by simpa using hp) (by omega)
    · simp only [e1, e2, List.getElem_set_self]
      rw [P2_succ] at h3
      have hdv : P2 (d % 32) ∣ P2 (d % 32) * 2 := ⟨2, rfl⟩
      have := Int.dvd_trans hdv (Int.dvd_of_emod_eq_zero h3)
      exact Int.emod_eq_zero_of_dvd (Int.dvd_add this ⟨1, by omega⟩)
theorem P2_add (m n : Nat) : P2 (m + n) = P2 m * P2 n := by rw [P2_eq, P2_eq, P2_eq, Nat.pow_add, Int.natCast_mul]
theorem word_room (x : Int) (m : Nat) (hm : m < 32) (h0 : 0 ≤ x) (h1 : x < 4294967296) (hd : x % P2 (m + 1) = 0) : x + P2 m < 4294967296 := by
  obtain ⟨t, ht⟩ := Int.dvd_of_emod_eq_zero hd
  have e : P2 (m + 1) * P2 (31 - m) = 4294967296 := by rw [← P2_add, show m + 1 + (31 - m) = 32 by omega, P2_32]
  have hp := P2_pos m
  have hs := P2_succ m
  have hlt : t < P2 (31 - m) := by
    rw [ht, ← e] at h1
    exact Int.lt_of_mul_lt_mul_left h1 (by omega)
  have hle : P2 (m + 1) * (t + 1) ≤ P2 (m + 1) * P2 (31 - m) := Int.mul_le_mul_of_nonneg_left (by omega) (by omega)
  rw [e, Int.mul_add, ← ht] at hle
  omega
theorem wordsN_len_of {R k : Nat} {b : List Int} (hb : IsW b) (h : R < 2 * wval b) : (wordsN R).length ≤ b.length + 1 := by
  rw [wordsN_length_le, Nat.pow_succ]
  have := wval_lt hb
  omega
theorem split_next (a b : List Int) (ha : IsW a) (hb : CanW b) (hlb : b.length ≤ 1000) (q : List Int) (hq : q.length = a.length) (hw : IsW q) (hla : a.length ≤ 1000)
    (d r Q : Nat) (hd : d < 32 * a.length) (hc : Clean q d) (hr : r < 2 * wval b) (hv : wval q = Q * 2 ^ (d + 1)) (res : List Int × List Int)
    (h1 : wval b ≤ r → ∀ q' : List Int, q'.length = a.length → IsW q' → (0 < d → Clean q' (d - 1)) → wval q' = (2 * Q + 1) * 2 ^ d → Ev (fun k => whole_split.l0 k a b q' (wordsN (r - wval b)) ((d : Int) - 1)) res)
    (h2 : r < wval b → (0 < d → Clean q (d - 1)) → wval q = (2 * Q) * 2 ^ d → Ev (fun k => whole_split.l0 k a b q (wordsN r) ((d : Int) - 1)) res) :
    Ev (fun k => whole_split.j1 k a b q (wordsN r) (d : Int)) res := by
  have hlr : (wordsN r).length ≤ b.length + 1 := wordsN_len_of (k := 0) hb.1 hr
  have ho := order_ev (wordsN r) b (canW_wordsN r) hb (by omega) (by omega)
  rw [wval_wordsN] at ho
  have hdiv : wrap64 (Int.tdiv (d : Int) 32) = ((d / 32 : Nat) : Int) := by
    rw [Int.tdiv_eq_ediv_of_nonneg (by omega), w64 (by omega) (by omega)]; omega
  have hmod : Int.tmod (d : Int) 32 = ((d % 32 : Nat) : Int) := by
    rw [Int.tmod_eq_emod_of_nonneg (by omega)]; omega
  have hjq : d / 32 < q.length := by omega
  have hA := hw.get _ hjq
  have hm : d % 32 < 32 := Nat.mod_lt _ (by omega)
  by_cases hge : wval b ≤ r
  · have hcl := hc.2 hjq
    have hroom := word_room _ _ hm hA.1 hA.2 hcl
    have hpp := P2_pos (d % 32)
    have hll : b.length ≤ (wordsN r).length := by
      rcases Nat.lt_or_ge (wordsN r).length b.length with h | h
      · have := wval_len_lt (isW_wordsN r) hb h; rw [wval_wordsN] at this; omega
      · exact h
    have hmi := minus_ev (wordsN r) b (isW_wordsN r) hb.1 (by omega) hll (by rw [wval_wordsN]; exact hge)
    rw [wval_wordsN] at hmi
    have h3 := h1 hge (q.set (d / 32) (q[d / 32] + P2 (d % 32))) (by simpa using hq) (hw.set _ _ (by omega) hroom) (fun h => clean_set q d hw hjq hc h) (by
      rw [wval_set q _ _ hjq (by omega) hA.1 (by omega), hv]
      have e : (q[d / 32] + P2 (d % 32) - q[d / 32]).toNat = 2 ^ (d % 32) := by rw [show q[d / 32] + P2 (d % 32) - q[d / 32] = P2 (d % 32) by omega, P2_eq, Int.toNat_natCast]
      rw [e, ← Nat.pow_add, Nat.div_add_mod, Nat.pow_succ]
      generalize 2 ^ d = T
      grind)
    refine Ev.step (f := fun k => (whole_order.f k (wordsN r) b).bind fun t182 => if t182 ≥ 0 then (whole_minus.f k (wordsN r) b).bind fun t183 => whole_split.l0 k a b (q.set (d / 32) (q[d / 32] + P2 (d % 32))) t183 ((d : Int) - 1) else whole_split.l0 k a b q (wordsN r) ((d : Int) - 1)) (fun k => ?_) (Ev.bind ho (Ev.congr (fun k => if_pos (by unfold cmpN; split <;> omega)) (Ev.bind hmi h3)))
    simp only [whole_split.j1]
    rw [hdiv, hmod, w64 (x := (d : Int) - 1) (by omega) (by omega)]
    simp only [if_pos (show (0 : Int) ≤ ((d / 32 : Nat) : Int) by omega), if_pos (show ((d / 32 : Nat) : Int) < (q.length : Int) by omega), if_pos (show (0 : Int) ≤ ((d % 32 : Nat) : Int) by omega), rd_lt _ _ hjq, shl32 _ hm, or_bit _ _ hm hA.1 hA.2 hcl, Int.toNat_natCast]
  · have h3 := h2 (by omega) (fun h => by
      have := clean_down q (d - 1) hw (by rw [show d - 1 + 1 = d by omega]; exact hc)
      exact this) (by rw [hv, Nat.pow_succ]; generalize 2 ^ d = T; grind)
    refine Ev.step (f := fun k => (whole_order.f k (wordsN r) b).bind fun t182 => if t182 ≥ 0 then (whole_minus.f k (wordsN r) b).bind fun t183 => (if 0 ≤ (wrap64 (Int.tdiv (d : Int) 32)) then (if (wrap64 (Int.tdiv (d : Int) 32)) < (q.length : Int) then (if 0 ≤ (Int.tmod (d : Int) 32) then (whole_split.l0 k a b (q.set ((wrap64 (Int.tdiv (d : Int) 32)) : Int).toNat (Go.bits .or .u32 (rd q (wrap64 (Int.tdiv (d : Int) 32))) (shl .u32 1 (Int.tmod (d : Int) 32)))) t183 (wrap64 ((d : Int) - 1))) else (none)) else (none)) else (none)) else whole_split.l0 k a b q (wordsN r) ((d : Int) - 1)) (fun k => ?_) (Ev.bind ho (Ev.congr (fun k => if_neg (by unfold cmpN; rw [if_pos (by omega)]; omega)) h3))
    simp only [whole_split.j1]
    rw [w64 (x := (d : Int) - 1) (by omega) (by omega)]
theorem one_isW : IsW [1] := IsW.cons (by omega) (by omega) IsW.nil
theorem and1n (n : Nat) (h : n < 4294967296) : Go.bits .and .u32 (n : Int) 1 = ((n % 2 : Nat) : Int) := by rw [and1 _ (by omega) (by omega)]; omega
theorem split_unfold (a b q r : List Int) (d t k : Nat) (hj : d / 32 < a.length) (hla : a.length ≤ 1000) (hand : Go.bits .and .u32 (shr .u32 (rd a ((d / 32 : Nat) : Int)) ((d % 32 : Nat) : Int)) 1 = ((t % 2 : Nat) : Int)) :
    whole_split.l0 (k + 1) a b q r (d : Int) = (whole_plus.f k r r).bind fun t172 => if ((t % 2 : Nat) : Int) = 1 then (whole_plus.f k t172 [1]).bind fun t179 => whole_split.j1 k a b q t179 (d : Int) else whole_split.j1 k a b q t172 (d : Int) := by
  have hdiv : wrap64 (Int.tdiv (d : Int) 32) = ((d / 32 : Nat) : Int) := by
    rw [Int.tdiv_eq_ediv_of_nonneg (by omega), w64 (by omega) (by omega)]; omega
  have hmod : Int.tmod (d : Int) 32 = ((d % 32 : Nat) : Int) := by
    rw [Int.tmod_eq_emod_of_nonneg (by omega)]; omega
  have p1 : (0 : Int) ≤ ((d / 32 : Nat) : Int) := by omega
  have p2 : ((d / 32 : Nat) : Int) < (a.length : Int) := by omega
  have p3 : (0 : Int) ≤ ((d % 32 : Nat) : Int) := by omega
  have p4 : (d : Int) ≥ 0 := by omega
  simp only [whole_split.l0]
  rw [if_pos p4, hdiv, hmod, hand]
  simp only [if_pos p1, if_pos p2, if_pos p3]
theorem split_loop (a b : List Int) (ha : IsW a) (hb : CanW b) (hB : 0 < wval b) (hla : a.length ≤ 1000) (hlb : b.length ≤ 1000) :
    ∀ (d : Nat) (q : List Int) (R Q : Nat), d ≤ 32 * a.length → q.length = a.length → IsW q → (0 < d → Clean q (d - 1)) → R < wval b → wval q = Q * 2 ^ d → wval a / 2 ^ d = Q * wval b + R →
      Ev (fun k => whole_split.l0 k a b q (wordsN R) ((d : Int) - 1)) (wordsN (wval a / wval b), wordsN (wval a % wval b)) := by
  intro d
  induction d with
  | zero =>
    intro q R Q hd hq hw hc hR hv he
    rw [Nat.pow_zero, Nat.div_one] at he
    rw [Nat.pow_zero, Nat.mul_one] at hv
    have e1 : wval a / wval b = Q := by rw [he, Nat.mul_comm, Nat.mul_add_div hB, Nat.div_eq_of_lt hR, Nat.add_zero]
    have e2 : wval a % wval b = R := by rw [he, Nat.mul_comm, Nat.mul_add_mod, Nat.mod_eq_of_lt hR]
    rw [e1, e2, ← hv]
    refine Ev.step (f := fun k => (whole_words_trim.f k q).bind fun t169 => some (t169, wordsN R)) (fun k => ?_) (Ev.bind (trim_ev q hw (by omega)) (Ev.now _))
    simp only [whole_split.l0]
    rw [if_neg (by omega)]
  | succ d ih =>
    intro q R Q hd hq hw hc hR hv he
    have hc := hc (by omega)
    rw [Nat.add_sub_cancel] at hc
    have hj : d / 32 < a.length := by omega
    have hm : d % 32 < 32 := Nat.mod_lt _ (by omega)
    have hA := ha.get _ hj
    have hbit := bit_at a ha (d / 32) (d % 32) hj hm
    rw [Nat.div_add_mod] at hbit
    have hhalf : wval a / 2 ^ d / 2 = Q * wval b + R := by rw [Nat.div_div_eq_div_mul, ← Nat.pow_succ]; exact he
    have hlR : (wordsN R).length ≤ b.length + 1 := wordsN_len_of (k := 0) hb.1 (by omega)
    have hp := plus_ev (wordsN R) (wordsN R) (isW_wordsN R) (isW_wordsN R) (by omega) (by omega)
    rw [wval_wordsN] at hp
    have hsh : shr .u32 (rd a ((d / 32 : Nat) : Int)) ((d % 32 : Nat) : Int) = (((a[d / 32]).toNat / 2 ^ (d % 32) : Nat) : Int) := by
      rw [rd_lt _ _ hj, shr32 _ _ hm, P2_eq, Int.natCast_ediv, Int.toNat_of_nonneg hA.1]
    have hsmall : (a[d / 32]).toNat / 2 ^ (d % 32) < 4294967296 := by
      have := Nat.div_le_self (a[d / 32]).toNat (2 ^ (d % 32)); omega
    have hand : Go.bits .and .u32 (((a[d / 32]).toNat / 2 ^ (d % 32) : Nat) : Int) 1 = ((wval a / 2 ^ d % 2 : Nat) : Int) := by
      rw [and1n _ hsmall, hbit]
    obtain ⟨t, ht⟩ : ∃ t, wval a / 2 ^ d = t := ⟨_, rfl⟩
    rw [ht] at hhalf hand
    have hx8 : ((d + 1 : Nat) : Int) - 1 = (d : Int) := by omega
    have htest : ∀ k, whole_split.l0 (k + 1) a b q (wordsN R) (((d + 1 : Nat) : Int) - 1) = (whole_plus.f k (wordsN R) (wordsN R)).bind fun t172 => if ((t % 2 : Nat) : Int) = 1 then (whole_plus.f k t172 [1]).bind fun t179 => whole_split.j1 k a b q t179 (d : Int) else whole_split.j1 k a b q t172 (d : Int) := by
      intro k
      rw [hx8]
      exact split_unfold a b q (wordsN R) d t k hj hla (by rw [hsh]; exact hand)
    have hnext := split_next a b ha hb hlb q hq hw hla d (R + R + t % 2) Q (by omega) hc (by omega) hv (wordsN (wval a / wval b), wordsN (wval a % wval b))
      (fun hge q' g1 g2 g3 g4 => ih q' (R + R + t % 2 - wval b) (2 * Q + 1) (by omega) g1 g2 g3 (by omega) g4 (by
        have : (2 * Q + 1) * wval b = Q * wval b + Q * wval b + wval b := by grind
        omega))
      (fun hlt g3 g4 => ih q (R + R + t % 2) (2 * Q) (by omega) hq hw g3 hlt g4 (by
        have : (2 * Q) * wval b = Q * wval b + Q * wval b := by grind
        omega))
    by_cases hb1 : t % 2 = 1
    · have hl2 : (wordsN (R + R)).length ≤ b.length + 1 := wordsN_len_of (k := 0) hb.1 (by omega)
      have hp1 := plus_ev (wordsN (R + R)) [1] (isW_wordsN _) one_isW (by omega) (by simp)
      rw [wval_wordsN, show wval [1] = 1 from rfl] at hp1
      rw [hb1] at hnext
      exact Ev.step htest (Ev.bind hp (Ev.congr (fun k => if_pos (by omega)) (Ev.bind hp1 hnext)))
    · have hb0 : t % 2 = 0 := by omega
      rw [hb0, Nat.add_zero] at hnext
      exact Ev.step htest (Ev.bind hp (Ev.congr (fun k => if_neg (by omega)) hnext))
theorem split_ev (a b : List Int) (ha : IsW a) (hb : CanW b) (hB : 0 < wval b) (hla : a.length ≤ 1000) (hlb : b.length ≤ 1000) :
    Ev (fun k => whole_split.f k a b) (wordsN (wval a / wval b), wordsN (wval a % wval b)) := by
  have h := split_loop a b ha hb hB hla hlb (32 * a.length) (List.replicate a.length 0) 0 0 (Nat.le_refl _) (by simp) (IsW.replicate _)
    (fun _ => ⟨fun p hp _ => by simp, fun hp => by simp⟩) hB (by rw [wval_replicate_zero]; simp) (by
      rw [Nat.div_eq_of_lt (by rw [← pow32]; exact wval_lt ha)]; simp)
  refine Ev.congr (fun k => ?_) h
  unfold whole_split.f
  rw [if_pos (by omega), if_pos (by omega), Int.toNat_natCast, wordsN_zero, w64 (x := (a.length : Int) * 32) (by omega) (by omega), w64 (by omega) (by omega)]
  rw [show (a.length : Int) * 32 = ((32 * a.length : Nat) : Int) by omega]
theorem wlen_pos_iff (n : Nat) : decide (((wordsN n).length : Int) > 0) = decide (n ≠ 0) := by
  have : (wordsN n).length = 0 ↔ n = 0 := by rw [List.length_eq_zero_iff]; exact wordsN_nil_iff n
  simp only [decide_eq_decide]; omega
theorem divide_good (xn yn : Bool) (x y : List Int) (hx : IsB x) (hy : IsB y) (h1 : okN xn x = true) (h2 : okN yn y = true) (hne : y ≠ []) :
    Ev (fun k => whole_divide.j0 k false xn x yn y) (divV xn (bval x) yn (bval y)) := by
  have c2 := okN_can hy h2
  have hB := CanB.pos c2.1 hne
  obtain ⟨l1, w1⟩ := words_of hx h1
  obtain ⟨l2, w2⟩ := words_of hy h2
  have hs := split_ev (wordsN (bval x)) (wordsN (bval y)) (isW_wordsN _) (canW_wordsN _) (by rw [wval_wordsN]; exact hB) (by omega) (by omega)
  rw [wval_wordsN, wval_wordsN] at hs
  generalize bval x = A at *
  generalize bval y = B at *
  have hmod : A % B < B := Nat.mod_lt _ hB
  have hyl : y.length ≠ 0 := fun e => hne (List.eq_nil_of_length_eq_zero e)
  have hql : (wordsN (A / B)).length ≤ 32 := Nat.le_trans (words_mono (Nat.div_le_self _ _)) l1
  have hrl : (wordsN (A % B)).length ≤ (wordsN B).length := words_mono (Nat.le_of_lt hmod)
  have hstep : ∀ k, whole_divide.j0 (k + 1) false xn x yn y = (whole_wordsOf.f k y).bind fun t194 => (whole_wordsOf.f k x).bind fun t197 => (whole_split.f k t197 t194).bind fun bt => if (xn != yn) = true then whole_divide.j1 k t194 bt.1 bt.2 (xn != yn) (decide ((bt.2.length : Int) > 0)) yn y else whole_divide.j1 k t194 bt.1 bt.2 (xn != yn) false yn y := by
    intro k
    simp only [whole_divide.j0]
    rw [if_neg (by simp), if_neg (by omega)]
  unfold divV
  by_cases hap : (xn != yn && decide (A % B ≠ 0)) = true
  · rw [if_pos hap]
    have ha : (xn != yn) = true := by simp only [Bool.and_eq_true] at hap; exact hap.1
    have hr : decide (A % B ≠ 0) = true := by simp only [Bool.and_eq_true] at hap; exact hap.2
    have hp := plus_ev (wordsN (A / B)) [1] (isW_wordsN _) one_isW (by omega) (by simp)
    rw [wval_wordsN, show wval [1] = 1 from rfl] at hp
    have hmi := minus_ev (wordsN B) (wordsN (A % B)) (isW_wordsN _) (isW_wordsN _) (by omega) hrl (by rw [wval_wordsN, wval_wordsN]; omega)
    rw [wval_wordsN, wval_wordsN] at hmi
    have hlq : (wordsN (A / B + 1)).length ≤ 33 := by
      rw [wordsN_length_le] at hql ⊢
      have : (4294967296 : Nat) ^ 33 = 4294967296 ^ 32 * 4294967296 := Nat.pow_succ ..
      have hp : 0 < (4294967296 : Nat) ^ 32 := Nat.pow_pos (by omega)
      rw [this]; omega
    have hlm : (wordsN (B - A % B)).length ≤ 32 := Nat.le_trans (words_mono (Nat.sub_le _ _)) l2
    have m1 := made_ev (xn != yn) (wordsN (A / B + 1)) (isW_wordsN _) (by omega)
    have m2 := made_ev yn (wordsN (B - A % B)) (isW_wordsN _) (by omega)
    rw [wval_wordsN] at m1 m2
    refine Ev.step hstep (Ev.bind w2 (Ev.bind w1 (Ev.bind hs (Ev.congr (f := fun k => whole_divide.j1 k (wordsN B) (wordsN (A / B)) (wordsN (A % B)) (xn != yn) true yn y) (fun k => ?_) (Ev.step (f := fun k => (whole_plus.f k (wordsN (A / B)) [1]).bind fun t209 => (whole_minus.f k (wordsN B) (wordsN (A % B))).bind fun t212 => (whole_made.f k (xn != yn) t209).bind fun bt215 => (whole_made.f k yn t212).bind fun bt219 => some (bt215.1, bt215.2, bt219.1, bt219.2, 0)) (fun k => ?_) (Ev.bind hp (Ev.bind hmi (Ev.bind m1 (Ev.bind m2 (Ev.now _))))))))))
    · rw [if_pos ha, wlen_pos_iff, hr]
    · simp only [whole_divide.j1]; rw [if_pos trivial]
  · rw [if_neg hap]
    have m1 := made_ev (xn != yn) (wordsN (A / B)) (isW_wordsN _) (by omega)
    have m2 := made_ev yn (wordsN (A % B)) (isW_wordsN _) (by omega)
    rw [wval_wordsN] at m1 m2
    refine Ev.step hstep (Ev.bind w2 (Ev.bind w1 (Ev.bind hs (Ev.congr (f := fun k => whole_divide.j1 k (wordsN B) (wordsN (A / B)) (wordsN (A % B)) (xn != yn) false yn y) (fun k => ?_) (Ev.step (f := fun k => (whole_made.f k (xn != yn) (wordsN (A / B))).bind fun bt223 => (whole_made.f k yn (wordsN (A % B))).bind fun bt227 => some (bt223.1, bt223.2, bt227.1, bt227.2, 0)) (fun k => ?_) (Ev.bind m1 (Ev.bind m2 (Ev.now _))))))))
    · by_cases ha : (xn != yn) = true
      · have hr : decide (A % B ≠ 0) = false := by
          rw [ha, Bool.true_and] at hap; simpa using hap
        rw [if_pos ha, wlen_pos_iff, hr]
      · rw [if_neg ha]
    · simp only [whole_divide.j1]
      rw [if_neg (by simp)]
theorem divide_ev (xn yn : Bool) (x y : List Int) (hx : IsB x) (hy : IsB y) : Ev (fun k => whole_divide.f k xn x yn y) (divS xn x yn y) := by
  unfold divS
  by_cases h1 : okN xn x = true
  · by_cases h2 : okN yn y = true
    · rw [if_pos (by rw [h1, h2]; rfl)]
      have hf : ∀ k, whole_divide.f k xn x yn y = whole_divide.j0 k false xn x yn y := by
        intro k
        unfold whole_divide.f
        rw [right_eq, h1, Option.bind_some, if_pos rfl, right_eq, h2]; rfl
      refine Ev.congr hf ?_
      by_cases hne : y = []
      · rw [if_pos hne]
        refine Ev.step (f := fun _ => some (false, [], false, [], 23)) (fun k => ?_) (Ev.now _)
        simp only [whole_divide.j0]
        rw [if_neg (by simp), if_pos (by rw [hne]; rfl)]
      · rw [if_neg hne]
        exact divide_good xn yn x y hx hy h1 h2 hne
    · have h2 : okN yn y = false := by simpa using h2
      rw [if_neg (by rw [h1, h2]; simp)]
      refine Ev.congr (f := fun k => whole_divide.j0 k true xn x yn y) (fun k => ?_) (Ev.step (f := fun _ => some (false, [], false, [], 1)) (fun k => ?_) (Ev.now _))
      · unfold whole_divide.f
        rw [right_eq, h1, Option.bind_some, if_pos rfl, right_eq, h2]; rfl
      · simp only [whole_divide.j0]; rfl
  · have h1 : okN xn x = false := by simpa using h1
    rw [if_neg (by rw [h1]; simp)]
    refine Ev.congr (f := fun k => whole_divide.j0 k true xn x yn y) (fun k => ?_) (Ev.step (f := fun _ => some (false, [], false, [], 1)) (fun k => ?_) (Ev.now _))
    · unfold whole_divide.f
      rw [right_eq, h1, Option.bind_some, if_neg (by simp)]
    · simp only [whole_divide.j0]; rfl
theorem mk_len {neg : Bool} {n k : Nat} (h : n < 256 ^ k) (hk : k ≤ 100000) : (mk neg n).2.length ≤ 140737488355328 := by
  have := bytes_len h
  show (bytesN n).length ≤ _
  omega
theorem divS_len (xn yn : Bool) (x y : List Int) (hx : IsB x) (hy : IsB y) : (divS xn x yn y).2.1.length ≤ 140737488355328 ∧ (divS xn x yn y).2.2.2.1.length ≤ 140737488355328 := by
  unfold divS
  split
  · rename_i h
    simp only [Bool.and_eq_true] at h
    have a1 := bval_small hx (n := 128) (okN_can hx h.1).2
    have a2 := bval_small hy (n := 128) (okN_can hy h.2).2
    have e : (256 : Nat) ^ 129 = 256 ^ 128 * 256 := Nat.pow_succ ..
    have hdv := Nat.div_le_self (bval x) (bval y)
    have hmd := Nat.mod_le (bval x) (bval y)
    split
    · exact ⟨by simp, by simp⟩
    · generalize (256 : Nat) ^ 128 = T at *
      have hp : bval x / bval y + 1 < 256 ^ 129 := by omega
      have hq : bval x / bval y < 256 ^ 129 := by omega
      have hr : bval x % bval y < 256 ^ 129 := by omega
      have hs : bval y - bval x % bval y < 256 ^ 129 := by omega
      unfold divV
      split
      · exact ⟨mk_len (neg := false) hp (by omega), mk_len (neg := false) hs (by omega)⟩
      · exact ⟨mk_len (neg := false) hq (by omega), mk_len (neg := false) hr (by omega)⟩
  · exact ⟨by simp, by simp⟩

theorem okN_mk (neg : Bool) (n : Nat) (h : (bytesN n).length ≤ 128) : okN (mk neg n).1 (mk neg n).2 = true := by
  unfold mk okN
  by_cases hz : n = 0
  · subst hz; simp [bytesN_zero]
  · have hne : bytesN n ≠ [] := fun e => hz ((bytesN_nil_iff n).1 e)
    have hc := (canB_bytesN n).2
    simp only [if_neg hne]
    simp [hc, h]
/-- A whole number as a sign and a size, and back. -/
def nz (z : Int) : Bool × List Int := mk (decide (z < 0)) z.natAbs
def ival (neg : Bool) (l : List Int) : Int := if neg = true then -(bval l : Int) else (bval l : Int)
def Fits (z : Int) (k : Nat) : Prop := z.natAbs < 256 ^ k
theorem mk_nz {neg : Bool} {n : Nat} {z : Int} (h : n = z.natAbs) (hs : n ≠ 0 → neg = decide (z < 0)) : mk neg n = nz z := by
  unfold nz mk
  rw [← h]
  by_cases hz : n = 0
  · simp [hz]
  · rw [hs hz]
theorem nz_ival {neg : Bool} {l : List Int} (hb : IsB l) (h : okN neg l = true) : nz (ival neg l) = (neg, l) := by
  have hc := (okN_can hb h).1
  have e : mk neg (bval l) = nz (ival neg l) := by
    refine mk_nz ?_ ?_
    · unfold ival; cases neg <;> simp
    · intro hn; unfold ival; cases neg <;> simp <;> omega
  rw [← e]
  unfold mk
  rw [bytesN_bval hc]
  cases neg
  · rfl
  · have hne : l ≠ [] := by intro e; rw [e] at h; simp [okN] at h
    have := CanB.pos hc hne
    simp; omega
theorem nz_fst (z : Int) : (nz z).1 = decide (z < 0) := by
  unfold nz mk
  by_cases h : z < 0
  · have : z.natAbs ≠ 0 := by omega
    simp [h]; omega
  · simp [h]
theorem bval_nz (z : Int) : bval (nz z).2 = z.natAbs := by unfold nz mk; exact bval_bytesN _
theorem isB_nz (z : Int) : IsB (nz z).2 := isB_bytesN _
theorem nz_len {z : Int} {k : Nat} (h : Fits z k) : (nz z).2.length ≤ k := bytesN_length_lt.2 h
theorem okN_nz {z : Int} (h : Fits z 128) : okN (nz z).1 (nz z).2 = true := okN_mk _ _ (nz_len h)
theorem fit_fits {neg : Bool} {n : Nat} (h : n < 256 ^ 128) : fit neg n = ((mk neg n).1, (mk neg n).2, 0) := by
  unfold fit
  have := bytesN_length_lt.2 h
  rw [if_neg (by omega)]
theorem fit_nz {neg : Bool} {n : Nat} {z : Int} (h : n = z.natAbs) (hs : n ≠ 0 → neg = decide (z < 0)) (hf : Fits z 128) : fit neg n = ((nz z).1, (nz z).2, 0) := by
  rw [fit_fits (by rw [h]; exact hf), mk_nz h hs]
theorem Fits.neg {z : Int} {k : Nat} (h : Fits z k) : Fits (-z) k := by unfold Fits; rw [Int.natAbs_neg]; exact h
theorem Fits.mono {z : Int} {k m : Nat} (h : Fits z k) (hk : k ≤ m) : Fits z m := Nat.lt_of_lt_of_le h (Nat.pow_le_pow_right (by decide) hk)
theorem Fits.add {x y : Int} {k : Nat} (h : Fits x k) (g : Fits y k) : Fits (x + y) (k + 1) := by
  unfold Fits at *
  rw [Nat.pow_succ]
  generalize (256 : Nat) ^ k = P at *
  omega
theorem Fits.mul {x y : Int} {j k : Nat} (h : Fits x j) (g : Fits y k) : Fits (x * y) (j + k) := by
  unfold Fits at *
  rw [Int.natAbs_mul, Nat.pow_add]
  exact Nat.mul_lt_mul'' h g
theorem Fits.of_le {x y : Int} {k : Nat} (h : Fits x k) (g : y.natAbs ≤ x.natAbs) : Fits y k := Nat.lt_of_le_of_lt g h
theorem ival_fits {neg : Bool} {l : List Int} {k : Nat} (hb : IsB l) (h : l.length ≤ k) : Fits (ival neg l) k := by
  have := bval_small hb h
  unfold Fits ival
  cases neg <;> simpa using this
/-- A number that may be, of few bytes. -/
def smallB (neg : Bool) (l : List Int) : Bool := okN neg l && decide (l.length ≤ 40)
theorem small_parts {neg : Bool} {l : List Int} (hb : IsB l) (h : smallB neg l = true) : nz (ival neg l) = (neg, l) ∧ Fits (ival neg l) 40 := by
  unfold smallB at h
  simp only [Bool.and_eq_true, decide_eq_true_eq] at h
  exact ⟨nz_ival hb h.1, ival_fits hb h.2⟩
theorem len_go {Z : Int} {m : Nat} (hZ : Fits Z m) (hm : m ≤ 128) : (nz Z).2.length ≤ 140737488355328 := by
  have := nz_len hZ; omega

theorem add_nz {X Y : Int} (hX : Fits X 128) (hY : Fits Y 128) (hs : Fits (X + Y) 128) : addS (nz X).1 (nz X).2 (nz Y).1 (nz Y).2 = ((nz (X + Y)).1, (nz (X + Y)).2, 0) := by
  unfold addS
  rw [okN_nz hX, okN_nz hY, Bool.and_self, if_pos rfl, bval_nz, bval_nz, nz_fst, nz_fst]
  unfold addV
  by_cases hx : X < 0
  · by_cases hy : Y < 0
    · rw [if_pos (by simp [hx, hy])]
      exact fit_nz (by omega) (fun _ => by simp [hx]; omega) hs
    · rw [if_neg (by simp [hx, hy])]
      split
      · exact fit_nz (by omega) (fun _ => by simp [hy]; omega) hs
      · exact fit_nz (by omega) (fun _ => by simp [hx]; omega) hs
  · by_cases hy : Y < 0
    · rw [if_neg (by simp [hx, hy])]
      split
      · exact fit_nz (by omega) (fun _ => by simp [hy]; omega) hs
      · exact fit_nz (by omega) (fun _ => by simp [hx]; omega) hs
    · rw [if_pos (by simp [hx, hy])]
      exact fit_nz (by omega) (fun _ => by simp [hx]; omega) hs
theorem add_go {X Y Z : Int} {j k m : Nat} (hX : Fits X j) (hY : Fits Y k) (hZ : Fits Z m) (hj : j ≤ 128) (hk : k ≤ 128) (hm : m ≤ 128) (e : X + Y = Z) : ∃ n, whole_Add.f n (nz X).1 (nz X).2 (nz Y).1 (nz Y).2 = some ((nz Z).1, (nz Z).2, 0) := by
  have h := add_ev (nz X).1 (nz Y).1 _ _ (isB_nz X) (isB_nz Y)
  subst e
  rw [add_nz (hX.mono hj) (hY.mono hk) (hZ.mono hm)] at h
  exact h.rounds

theorem mul_nz {X Y : Int} (hX : Fits X 128) (hY : Fits Y 128) (hs : Fits (X * Y) 128) : mulS (nz X).1 (nz X).2 (nz Y).1 (nz Y).2 = ((nz (X * Y)).1, (nz (X * Y)).2, 0) := by
  unfold mulS
  rw [okN_nz hX, okN_nz hY, Bool.and_self, if_pos rfl, bval_nz, bval_nz, nz_fst, nz_fst]
  refine fit_nz (Int.natAbs_mul X Y).symm (fun hn => ?_) hs
  have h1 : X ≠ 0 := by intro e; subst e; simp at hn
  have h2 : Y ≠ 0 := by intro e; subst e; simp at hn
  by_cases hx : X < 0
  · by_cases hy : Y < 0
    · have := Int.mul_pos_of_neg_of_neg hx hy
      simp [hx, hy]; omega
    · have := Int.mul_neg_of_neg_of_pos hx (by omega : 0 < Y)
      simp [hx, hy]; omega
  · by_cases hy : Y < 0
    · have := Int.mul_neg_of_pos_of_neg (by omega : 0 < X) hy
      simp [hx, hy]; omega
    · have := Int.mul_pos (by omega : 0 < X) (by omega : 0 < Y)
      simp [hx, hy]; omega
theorem mul_go {X Y Z : Int} {j k m : Nat} (hX : Fits X j) (hY : Fits Y k) (hZ : Fits Z m) (hj : j ≤ 128) (hk : k ≤ 128) (hm : m ≤ 128) (e : X * Y = Z) : ∃ n, whole_Mul.f n (nz X).1 (nz X).2 (nz Y).1 (nz Y).2 = some ((nz Z).1, (nz Z).2, 0) := by
  have h := mul_ev (nz X).1 (nz Y).1 _ _ (isB_nz X) (isB_nz Y)
  subst e
  rw [mul_nz (hX.mono hj) (hY.mono hk) (hZ.mono hm)] at h
  exact h.rounds

def sgn (c : Int) : Int := if c < 0 then -1 else if c > 0 then 1 else 0
theorem j2_ev (c : Int) : Ev (fun k => lapidaryref02_Cmp.j2 k c) (sgn c) := by
  refine Ev.step (f := fun _ => some (sgn c)) (fun k => ?_) (Ev.now _)
  simp only [lapidaryref02_Cmp.j2]
  unfold sgn; split; rfl; split <;> rfl
theorem j1_ev (c : Int) (h0 : -1000000 < c) (h1 : c < 1000000) (xn : Bool) (x : List Int) : Ev (fun k => lapidaryref02_Cmp.j1 k c xn x) (sgn (if xn = true then -c else c)) := by
  cases xn
  · rw [if_neg (by simp)]
    refine Ev.step (fun k => ?_) (j2_ev c)
    simp only [lapidaryref02_Cmp.j1]; rw [if_neg (by simp)]
  · rw [if_pos rfl]
    refine Ev.step (fun k => ?_) (j2_ev (-c))
    simp only [lapidaryref02_Cmp.j1]; rw [if_pos trivial, w64 (by omega) (by omega)]
theorem rcmp2_ev (xn yn : Bool) (x y : List Int) (hx : IsB x) (hy : IsB y) : Ev (fun k => lapidaryref02_Cmp.f k xn x yn y) (cmpS xn x yn y) := by
  unfold cmpS
  by_cases h1 : okN xn x = true
  · by_cases h2 : okN yn y = true
    · rw [if_pos (by rw [h1, h2]; rfl)]
      have c1 := okN_can hx h1
      have c2 := okN_can hy h2
      obtain ⟨c, ⟨q1, q2, q3, q4⟩, q5⟩ := cmp_ev x y c1.1 c2.1 (by omega) (by omega)
      refine Ev.congr (f := fun k => lapidaryref02_Cmp.j0 k false xn x yn y) (fun k => ?_) (Ev.step (f := fun k => (lapidaryref02_cmp.f k x y).bind fun t688 => (if (xn != yn) = true then (lapidaryref02_Cmp.j1 k 1 xn x) else (lapidaryref02_Cmp.j1 k t688 xn x))) (fun k => ?_) (Ev.bind q5 ?_))
      · unfold lapidaryref02_Cmp.f
        rw [rright_eq, h1, Option.bind_some, if_pos rfl, rright_eq, h2]; rfl
      · simp only [lapidaryref02_Cmp.j0]; rfl
      · unfold cmpV
        by_cases he : (xn == yn) = true
        · have hne : ¬ (xn != yn) = true := by simpa [bne] using he
          rw [if_pos he]
          have h := j1_ev c q3 q4 xn x
          have e : sgn (if xn = true then -c else c) = (if xn = true then -cmpN (bval x) (bval y) else cmpN (bval x) (bval y)) := by
            unfold sgn cmpN
            cases xn
            · simp only [Bool.false_eq_true, if_false]
              by_cases a1 : bval x < bval y
              · rw [if_pos (by omega), if_pos a1]
              · by_cases a2 : bval y < bval x
                · rw [if_neg (by omega), if_pos (by omega), if_neg a1, if_pos a2]
                · rw [if_neg (by omega), if_neg (by omega), if_neg a1, if_neg a2]
            · simp only [if_true]
              by_cases a1 : bval x < bval y
              · rw [if_neg (by omega), if_pos (by omega), if_pos a1]; rfl
              · by_cases a2 : bval y < bval x
                · rw [if_pos (by omega), if_neg a1, if_pos a2]
                · rw [if_neg (by omega), if_neg (by omega), if_neg a1, if_neg a2]; rfl
          rw [e] at h
          exact Ev.congr (fun k => if_neg hne) h
        · have hne : (xn != yn) = true := by simpa [bne] using he
          rw [if_neg he]
          have h := j1_ev 1 (by omega) (by omega) xn x
          have e : sgn (if xn = true then -1 else 1) = (if xn = true then -1 else 1) := by unfold sgn; cases xn <;> rfl
          rw [e] at h
          exact Ev.congr (fun k => if_pos hne) h
    · have h2 : okN yn y = false := by simpa using h2
      rw [if_neg (by rw [h1, h2]; simp)]
      refine Ev.congr (f := fun k => lapidaryref02_Cmp.j0 k true xn x yn y) (fun k => ?_) (Ev.step (f := fun _ => some 0) (fun k => ?_) (Ev.now _))
      · unfold lapidaryref02_Cmp.f
        rw [rright_eq, h1, Option.bind_some, if_pos rfl, rright_eq, h2]; rfl
      · simp only [lapidaryref02_Cmp.j0]; rfl
  · have h1 : okN xn x = false := by simpa using h1
    rw [if_neg (by rw [h1]; simp)]
    refine Ev.congr (f := fun k => lapidaryref02_Cmp.j0 k true xn x yn y) (fun k => ?_) (Ev.step (f := fun _ => some 0) (fun k => ?_) (Ev.now _))
    · unfold lapidaryref02_Cmp.f
      rw [rright_eq, h1, Option.bind_some, if_neg (by simp)]
    · simp only [lapidaryref02_Cmp.j0]; rfl
/-- Which of two is the lesser one. -/
def cmpZ (X Y : Int) : Int := if X < Y then -1 else if Y < X then 1 else 0
theorem cmp_nz {X Y : Int} (hX : Fits X 128) (hY : Fits Y 128) : cmpS (nz X).1 (nz X).2 (nz Y).1 (nz Y).2 = cmpZ X Y := by
  unfold cmpS
  rw [okN_nz hX, okN_nz hY, Bool.and_self, if_pos rfl, bval_nz, bval_nz, nz_fst, nz_fst]
  unfold cmpV cmpN cmpZ
  by_cases hx : X < 0
  · by_cases hy : Y < 0
    · rw [if_pos (by simp [hx, hy]), if_pos (by simpa using hx)]
      repeat' split
      all_goals omega
    · rw [if_neg (by simp [hx, hy]), if_pos (by simpa using hx), if_pos (by omega)]
  · by_cases hy : Y < 0
    · rw [if_neg (by simp [hx, hy]), if_neg (by simpa using hx), if_neg (by omega), if_pos (by omega)]
    · rw [if_pos (by simp [hx, hy]), if_neg (by simpa using hx)]
      repeat' split
      all_goals omega

theorem small_eq (n : Bool) (l : List Int) : lapidarylaw02_small.f n l = some (smallB n l) := by
  unfold lapidarylaw02_small.f smallB
  rw [rright_eq, Option.bind_some]
  by_cases h : okN n l = true
  · rw [if_pos h, h]; simp; omega
  · rw [if_neg h]; simp [h]
theorem smallB_f {n : Bool} {l : List Int} (h : smallB n l = true) : lapidarylaw02_small.f n l = some true := by rw [small_eq, h]
theorem smallB_n {n : Bool} {l : List Int} (h : ¬ smallB n l = true) : lapidarylaw02_small.f n l = some false := by rw [small_eq]; simpa using h

theorem div_parts (xn yn : Bool) (a b : Nat) (hb : 0 < b) (X Y : Int) (hX : X = if xn = true then -(a : Int) else a) (hY : Y = if yn = true then -(b : Int) else b) :
    ∃ Q R : Int, X = Q * Y + R ∧ (R = 0 ∨ decide (R < 0) = yn) ∧ R.natAbs < b ∧ Q.natAbs ≤ a + 1 ∧ (Q * Y).natAbs ≤ a + b ∧ divV xn a yn b = ((nz Q).1, (nz Q).2, (nz R).1, (nz R).2, 0) := by
  have hdm := Nat.div_add_mod a b
  have hr := Nat.mod_lt a hb
  have hq := Nat.div_le_self a b
  unfold divV
  generalize a / b = q at *
  generalize a % b = r at *
  have ha : (a : Int) = (b : Int) * q + r := by rw [← hdm]; norm_cast
  have hm : (q : Int) * b = (b : Int) * q := Int.mul_comm _ _
  have hm1 : ((q : Int) + 1) * b = (b : Int) * q + b := by rw [Int.add_mul, hm]; omega
  by_cases hap : (xn != yn && decide (r ≠ 0)) = true
  · rw [if_pos hap]
    simp only [Bool.and_eq_true, decide_eq_true_eq] at hap
    obtain ⟨hne, hr0⟩ := hap
    refine ⟨-((q : Int) + 1), if yn = true then -((b : Int) - r) else (b : Int) - r, ?_, ?_, ?_, by omega, ?_, ?_⟩
    · rw [hX, hY]; cases xn <;> cases yn <;> simp at hne ⊢
      · rw [Int.neg_mul_neg, hm1]; omega
      · rw [Int.neg_mul, hm1]; omega
    · right; cases yn <;> simp <;> omega
    · cases yn <;> simp <;> omega
    · rw [hY]; cases yn
      · simp only [Bool.false_eq_true, if_false]; rw [Int.neg_mul, hm1]; omega
      · simp only [if_true]; rw [Int.neg_mul_neg, hm1]; omega
    · have e1 : mk (xn != yn) (q + 1) = nz (-((q : Int) + 1)) := mk_nz (by omega) (fun _ => by rw [hne]; simp <;> omega)
      have e2 : mk yn (b - r) = nz (if yn = true then -((b : Int) - r) else (b : Int) - r) := mk_nz (by cases yn <;> simp <;> omega) (fun _ => by cases yn <;> simp <;> omega)
      rw [e1, e2]
  · rw [if_neg hap]
    by_cases hs : (xn != yn) = true
    · have hr0 : r = 0 := by rw [hs, Bool.true_and] at hap; simpa using hap
      subst hr0
      refine ⟨-(q : Int), 0, ?_, .inl rfl, by simpa using hb, by omega, ?_, ?_⟩
      · rw [hX, hY]; cases xn <;> cases yn <;> simp at hs ⊢
        · rw [Int.neg_mul_neg, hm]; omega
        · rw [Int.neg_mul, hm]; omega
      · rw [hY]; cases yn
        · simp only [Bool.false_eq_true, if_false]; rw [Int.neg_mul, hm]; omega
        · simp only [if_true]; rw [Int.neg_mul_neg, hm]; omega
      · have e1 : mk (xn != yn) q = nz (-(q : Int)) := mk_nz (by omega) (fun _ => by rw [hs]; simp <;> omega)
        have e2 : mk yn 0 = nz 0 := mk_nz (by omega) (fun h => absurd rfl h)
        rw [e1, e2]
    · have hs0 : (xn != yn) = false := by simpa using hs
      refine ⟨(q : Int), if yn = true then -(r : Int) else (r : Int), ?_, ?_, ?_, by omega, ?_, ?_⟩
      · rw [hX, hY]; cases xn <;> cases yn <;> simp at hs0 ⊢
        · rw [hm]; omega
        · rw [Int.mul_neg, hm]; omega
      · by_cases h0 : r = 0
        · left; subst h0; cases yn <;> rfl
        · right; cases yn <;> simp <;> omega
      · cases yn <;> simp <;> omega
      · rw [hY]; cases yn
        · simp only [Bool.false_eq_true, if_false]; rw [hm]; omega
        · simp only [if_true]; rw [Int.mul_neg, hm]; omega
      · have e1 : mk (xn != yn) q = nz (q : Int) := mk_nz (by omega) (fun _ => by rw [hs0]; simp)
        have e2 : mk yn r = nz (if yn = true then -(r : Int) else (r : Int)) := mk_nz (by cases yn <;> simp) (fun _ => by cases yn <;> simp <;> omega)
        rw [e1, e2]
theorem div_nz {X Y : Int} (hX : Fits X 128) (hY : Fits Y 128) (h0 : Y ≠ 0) :
    ∃ Q R : Int, X = Q * Y + R ∧ (R = 0 ∨ decide (R < 0) = decide (Y < 0)) ∧ R.natAbs < Y.natAbs ∧ Q.natAbs ≤ X.natAbs + 1 ∧ (Q * Y).natAbs ≤ X.natAbs + Y.natAbs ∧ divS (nz X).1 (nz X).2 (nz Y).1 (nz Y).2 = ((nz Q).1, (nz Q).2, (nz R).1, (nz R).2, 0) := by
  have hne : (nz Y).2 ≠ [] := fun e => h0 (by
    have := (bytesN_nil_iff Y.natAbs).1 e; omega)
  unfold divS
  rw [okN_nz hX, okN_nz hY, Bool.and_self, if_pos rfl, if_neg hne, bval_nz, bval_nz, nz_fst, nz_fst]
  exact div_parts (decide (X < 0)) (decide (Y < 0)) X.natAbs Y.natAbs (by omega) X Y (by by_cases h : X < 0 <;> simp [h] <;> omega) (by by_cases h : Y < 0 <;> simp [h] <;> omega)
/-- The plain law of WholeLeft. -/
theorem left_plain (xn yn : Bool) (x y : List Int) (hx : IsB x) (hy : IsB y) (sx : smallB xn x = true) (sy : smallB yn y = true) (hne : y ≠ []) :
    ∃ (k1 k2 k3 k4 k5 : Nat) (qn : Bool) (lq : List Int) (rn : Bool) (lr : List Int) (pn : Bool) (lp : List Int),
    whole_Div.f k1 xn x yn y = some (qn, lq, 0) ∧ lq.length ≤ 140737488355328 ∧ whole_Mod.f k2 xn x yn y = some (rn, lr, 0) ∧ lr.length ≤ 140737488355328 ∧
    whole_Mul.f k3 qn lq yn y = some (pn, lp, 0) ∧ lp.length ≤ 140737488355328 ∧ whole_Add.f k4 pn lp rn lr = some (xn, x, 0) ∧
    lapidaryref02_Cmp.f k5 false lr false y = some (-1) ∧ (lr.length = 0 ∨ rn = yn) := by
  obtain ⟨ex, fx⟩ := small_parts hx sx
  obtain ⟨ey, fy⟩ := small_parts hy sy
  generalize ival xn x = X at *
  generalize ival yn y = Y at *
  have hY : Y ≠ 0 := by
    intro e; subst e
    exact hne (by have := congrArg Prod.snd ey; simpa [nz, mk, bytesN_zero] using this.symm)
  obtain ⟨Q, R, e1, e2, e3, e4, e5, e6⟩ := div_nz (fx.mono (m := 128) (by omega)) (fy.mono (m := 128) (by omega)) hY
  have fR : Fits R 40 := fy.of_le (by omega)
  have fQ : Fits Q 41 := by
    unfold Fits at fx ⊢
    rw [show (256 : Nat) ^ 41 = 256 ^ 40 * 256 from Nat.pow_succ ..]
    generalize (256 : Nat) ^ 40 = P at *
    omega
  have fP : Fits (Q * Y) 41 := by
    unfold Fits at fx fy ⊢
    rw [show (256 : Nat) ^ 41 = 256 ^ 40 * 256 from Nat.pow_succ ..]
    generalize (256 : Nat) ^ 40 = P at *
    omega
  have hd := divide_ev (nz X).1 (nz Y).1 _ _ (isB_nz X) (isB_nz Y)
  rw [e6] at hd
  obtain ⟨k1, h1⟩ := hd.rounds
  obtain ⟨k3, h3⟩ := mul_go fQ fy fP (by omega) (by omega) (by omega) rfl
  obtain ⟨k4, h4⟩ := add_go fP fR fx (by omega) (by omega) (by omega) e1.symm
  have fa : Fits (R.natAbs : Int) 128 := by have := fR.mono (m := 128) (by omega); unfold Fits at *; simpa using this
  have fb : Fits (Y.natAbs : Int) 128 := by have := fy.mono (m := 128) (by omega); unfold Fits at *; simpa using this
  have hc := rcmp2_ev (nz (R.natAbs : Int)).1 (nz (Y.natAbs : Int)).1 _ _ (isB_nz (R.natAbs : Int)) (isB_nz (Y.natAbs : Int))
  rw [cmp_nz fa fb, show cmpZ (R.natAbs : Int) (Y.natAbs : Int) = -1 by unfold cmpZ; rw [if_pos (by omega)]] at hc
  have n1 : nz (R.natAbs : Int) = (false, (nz R).2) := by
    refine Prod.ext ?_ ?_
    · rw [nz_fst]; simp
    · show bytesN _ = bytesN _
      rw [Int.natAbs_natCast]
  have n2 : nz (Y.natAbs : Int) = (false, (nz Y).2) := by
    refine Prod.ext ?_ ?_
    · rw [nz_fst]; simp
    · show bytesN _ = bytesN _
      rw [Int.natAbs_natCast]
  rw [n1, n2, ey] at hc
  obtain ⟨k5, h5⟩ := hc.rounds
  have hy1 : yn = decide (Y < 0) := by rw [← nz_fst, ey]
  rw [ex, ey] at h1
  rw [ey] at h3
  rw [ex] at h4
  refine ⟨k1, k1, k3, k4, k5, (nz Q).1, (nz Q).2, (nz R).1, (nz R).2, _, _, ?_, len_go fQ (by omega), ?_, len_go fR (by omega), h3, len_go fP (by omega), h4, h5, ?_⟩
  · unfold whole_Div.f
    have : whole_divide.f k1 xn x yn y = _ := h1
    rw [this]; rfl
  · unfold whole_Mod.f
    have : whole_divide.f k1 xn x yn y = _ := h1
    rw [this]; rfl
  · rcases e2 with e | e
    · left; subst e; simp [nz, mk, bytesN_zero]
    · right; rw [nz_fst, e, hy1]

end Go.Proofs.Ytfjbhccapgnkiaa.P
