import Derived.Test.YtfjbhccapgnkiaaU1r
import Derived.Test.YtfjbhccapgnkiaaB6
import Derived.Test.YtfjbhccapgnkiaaG9
namespace Go.Proofs.Ytfjbhccapgnkiaa.P
open Go.RowKit Go.Proofs.YtfjbhccapgnkiaaW.PrintWords Go.Proofs.YtfjbhccapgnkiaaW.PrintLast Go.Proofs.YtfjbhccapgnkiaaW.PrintMore
attribute [local go_sem] max2_int min2_int max_two min_two max_three min_three max_four min_four
set_option linter.unusedVariables false
set_option linter.unusedSimpArgs false

open Lap

theorem words_mono {n m : Nat} (h : n ≤ m) : (wordsN n).length ≤ (wordsN m).length := by
  rw [wordsN_length_le]
  exact Nat.lt_of_le_of_lt h (wordsN_length_le.1 (Nat.le_refl _))
theorem bytes_len {n k : Nat} (h : n < 256 ^ k) : (bytesN n).length ≤ k := bytesN_length_lt.2 h
/-- How often, and what is left. -/
def divV (xn : Bool) (a : Nat) (yn : Bool) (b : Nat) : Bool × List Int × Bool × List Int × Int :=
  if (xn != yn && decide (a % b ≠ 0)) = true then ((mk (xn != yn) (a / b + 1)).1, (mk (xn != yn) (a / b + 1)).2, (mk yn (b - a % b)).1, (mk yn (b - a % b)).2, 0)
  else ((mk (xn != yn) (a / b)).1, (mk (xn != yn) (a / b)).2, (mk yn (a % b)).1, (mk yn (a % b)).2, 0)
def divS (xn : Bool) (x : List Int) (yn : Bool) (y : List Int) : Bool × List Int × Bool × List Int × Int :=
  if (okN xn x && okN yn y) = true then (if y = [] then (false, [], false, [], 23) else divV xn (bval x) yn (bval y)) else (false, [], false, [], 1)
theorem one_isB : IsB [1] := IsB.cons (by omega) (by omega) IsB.nil

/-- The sum of two numbers that can be. -/
def addV (xn : Bool) (a : Nat) (yn : Bool) (b : Nat) : Bool × List Int × Int := if (xn == yn) = true then fit xn (a + b) else if a < b then fit yn (b - a) else fit xn (a - b)
def addS (xn : Bool) (x : List Int) (yn : Bool) (y : List Int) : Bool × List Int × Int := if (okN xn x && okN yn y) = true then addV xn (bval x) yn (bval y) else bad
theorem P132 : (256 : Nat) ^ (4 * 33) = 256 ^ 128 * 4294967296 := by
  rw [show 4 * 33 = 128 + 4 by decide, Nat.pow_add, show (256 : Nat) ^ 4 = 4294967296 by decide]
theorem words_len33 {n m : Nat} (h1 : n < 256 ^ 128) (h2 : m < 256 ^ 128) : (wordsN (n + m)).length ≤ 33 := by
  refine wordsN_len _ 33 ?_
  rw [P132]
  generalize (256 : Nat) ^ 128 = P at *
  omega
theorem add_good (xn yn : Bool) (x y : List Int) (hx : IsB x) (hy : IsB y) (h1 : okN xn x = true) (h2 : okN yn y = true) : Ev (fun k => whole_Add.j0 k false xn x yn y) (addV xn (bval x) yn (bval y)) := by
  obtain ⟨l1, w1⟩ := words_of hx h1
  obtain ⟨l2, w2⟩ := words_of hy h2
  have b1 := bval_small hx (okN_can hx h1).2
  have b2 := bval_small hy (okN_can hy h2).2
  unfold addV
  by_cases he : (xn == yn) = true
  · rw [if_pos he]
    have hp := plus_ev (wordsN (bval x)) (wordsN (bval y)) (isW_wordsN _) (isW_wordsN _) (by omega) (by omega)
    rw [wval_wordsN, wval_wordsN] at hp
    have hf := fits_ev xn (wordsN (bval x + bval y)) (isW_wordsN _) (by have := words_len33 b1 b2; omega)
    rw [wval_wordsN] at hf
    refine Ev.step (f := fun k => (whole_wordsOf.f k x).bind fun t1 => (whole_wordsOf.f k y).bind fun t2 => (whole_plus.f k t1 t2).bind fun t3 => (whole_fits.f k xn t3).bind fun bt => some (bt.1, bt.2.1, bt.2.2)) (fun k => ?_) (Ev.bind w1 (Ev.bind w2 (Ev.bind hp (Ev.bind hf (Ev.now _)))))
    simp only [whole_Add.j0, he, if_true]; rfl
  · rw [if_neg he]
    have ho := order_ev (wordsN (bval x)) (wordsN (bval y)) (canW_wordsN _) (canW_wordsN _) (by omega) (by omega)
    rw [wval_wordsN, wval_wordsN] at ho
    by_cases hlt : bval x < bval y
    · rw [if_pos hlt]
      have hm := minus_ev (wordsN (bval y)) (wordsN (bval x)) (isW_wordsN _) (isW_wordsN _) (by omega) (words_mono (by omega)) (by rw [wval_wordsN, wval_wordsN]; omega)
      rw [wval_wordsN, wval_wordsN] at hm
      have hf := fits_ev yn (wordsN (bval y - bval x)) (isW_wordsN _) (by have := words_mono (Nat.sub_le (bval y) (bval x)); omega)
      rw [wval_wordsN] at hf
      have hc : cmpN (bval x) (bval y) < 0 := by unfold cmpN; rw [if_pos hlt]; omega
      refine Ev.step (f := fun k => (whole_wordsOf.f k x).bind fun t1 => (whole_wordsOf.f k y).bind fun t2 => (whole_order.f k t1 t2).bind fun t => if t < 0 then (whole_minus.f k t2 t1).bind fun t3 => (whole_fits.f k yn t3).bind fun bt => some (bt.1, bt.2.1, bt.2.2) else (whole_minus.f k t1 t2).bind fun t3 => (whole_fits.f k xn t3).bind fun bt => some (bt.1, bt.2.1, bt.2.2)) (fun k => ?_)
        (Ev.bind w1 (Ev.bind w2 (Ev.bind ho (Ev.congr (fun k => if_pos hc) (Ev.bind hm (Ev.bind hf (Ev.now _)))))))
      simp only [whole_Add.j0, he, if_false]; rfl
    · rw [if_neg hlt]
      have hm := minus_ev (wordsN (bval x)) (wordsN (bval y)) (isW_wordsN _) (isW_wordsN _) (by omega) (words_mono (by omega)) (by rw [wval_wordsN, wval_wordsN]; omega)
      rw [wval_wordsN, wval_wordsN] at hm
      have hf := fits_ev xn (wordsN (bval x - bval y)) (isW_wordsN _) (by have := words_mono (Nat.sub_le (bval x) (bval y)); omega)
      rw [wval_wordsN] at hf
      have hc : ¬ cmpN (bval x) (bval y) < 0 := by unfold cmpN; rw [if_neg hlt]; split <;> omega
      refine Ev.step (f := fun k => (whole_wordsOf.f k x).bind fun t1 => (whole_wordsOf.f k y).bind fun t2 => (whole_order.f k t1 t2).bind fun t => if t < 0 then (whole_minus.f k t2 t1).bind fun t3 => (whole_fits.f k yn t3).bind fun bt => some (bt.1, bt.2.1, bt.2.2) else (whole_minus.f k t1 t2).bind fun t3 => (whole_fits.f k xn t3).bind fun bt => some (bt.1, bt.2.1, bt.2.2)) (fun k => ?_)
        (Ev.bind w1 (Ev.bind w2 (Ev.bind ho (Ev.congr (fun k => if_neg hc) (Ev.bind hm (Ev.bind hf (Ev.now _)))))))
      simp only [whole_Add.j0, he, if_false]; rfl
theorem add_ev (xn yn : Bool) (x y : List Int) (hx : IsB x) (hy : IsB y) : Ev (fun k => whole_Add.f k xn x yn y) (addS xn x yn y) := by
  unfold addS
  by_cases h1 : okN xn x = true
  · by_cases h2 : okN yn y = true
    · rw [if_pos (by rw [h1, h2]; rfl)]
      refine Ev.congr (f := fun k => whole_Add.j0 k false xn x yn y) (fun k => ?_) (add_good xn yn x y hx hy h1 h2)
      unfold whole_Add.f
      rw [right_eq, h1, Option.bind_some, if_pos rfl, right_eq, h2]; rfl
    · have h2 : okN yn y = false := by simpa using h2
      rw [if_neg (by rw [h1, h2]; simp)]
      refine Ev.congr (f := fun k => whole_Add.j0 k true xn x yn y) (fun k => ?_) (Ev.step (f := fun _ => some bad) (fun k => ?_) (Ev.now _))
      · unfold whole_Add.f
        rw [right_eq, h1, Option.bind_some, if_pos rfl, right_eq, h2]; rfl
      · simp only [whole_Add.j0]; rfl
  · have h1 : okN xn x = false := by simpa using h1
    rw [if_neg (by rw [h1]; simp)]
    refine Ev.congr (f := fun k => whole_Add.j0 k true xn x yn y) (fun k => ?_) (Ev.step (f := fun _ => some bad) (fun k => ?_) (Ev.now _))
    · unfold whole_Add.f
      rw [right_eq, h1, Option.bind_some, if_neg (by simp)]
    · simp only [whole_Add.j0]; rfl

/-- A number's sign turned. -/
def negS (yn : Bool) (y : List Int) : Bool := !yn && decide (0 < y.length)
theorem okN_neg (yn : Bool) (y : List Int) (h : okN yn y = true) : okN (negS yn y) y = true := by
  unfold okN negS at *
  split at h
  case isTrue e => subst e; simp
  case isFalse e => rw [if_neg e]; exact h
def subS (xn : Bool) (x : List Int) (yn : Bool) (y : List Int) : Bool × List Int × Int := if (okN xn x && okN yn y) = true then addV xn (bval x) (negS yn y) (bval y) else bad
theorem sub_ev (xn yn : Bool) (x y : List Int) (hx : IsB x) (hy : IsB y) : Ev (fun k => whole_Sub.f k xn x yn y) (subS xn x yn y) := by
  by_cases h2 : okN yn y = true
  · have e : subS xn x yn y = addS xn x (negS yn y) y := by
      unfold subS addS; rw [h2, okN_neg yn y h2]
    rw [e]
    refine Ev.congr (f := fun k => (whole_Add.f k xn x (negS yn y) y).bind fun bt => some (bt.1, bt.2.1, bt.2.2)) (fun k => ?_) (Ev.bind (add_ev xn (negS yn y) x y hx hy) (Ev.now _))
    unfold whole_Sub.f
    rw [right_eq, h2, Option.bind_some, if_pos rfl]
    cases yn
    · rw [if_neg (by simp)]; simp [negS]
    · rw [if_pos rfl]; simp [negS]
  · have h2 : okN yn y = false := by simpa using h2
    have e : subS xn x yn y = bad := by unfold subS; rw [h2]; simp
    rw [e]
    refine Ev.congr (f := fun _ => some bad) (fun k => ?_) (Ev.now _)
    unfold whole_Sub.f
    rw [right_eq, h2, Option.bind_some, if_neg (by simp)]; rfl

theorem times_step {S0 wo P Q c ai bj o v q T : Int} (h : v + 4294967296 * q = c + (ai * bj + o)) (he : wo + P * Q * c = S0 + ai * P * T) :
    (wo + P * Q * (v - o)) + P * (Q * 4294967296) * q = S0 + ai * P * (T + Q * bj) := by grind

theorem times_inner (a b : List Int) (hb : IsW b) (ai : Int) (h0 : 0 ≤ ai) (h1 : ai < 4294967296) (i n m : Nat) (S0 : Int) (hm : b.length = m) (hi : i < n) (hn : n ≤ 100000) (hm2 : m ≤ 100000) (r : List Int)
    (hr : ∀ (out : List Int) (c : Int), out.length = n + m → IsW out → 0 ≤ c → c < 4294967296 → (∀ p (hp : p < out.length), i + m ≤ p → out[p] = 0) → wI out + W32 i * W32 m * c = S0 + ai * W32 i * wI b →
      Ev (fun k => whole_times.l0 k b (out.set (i + m) c) a n ((i + 1 : Nat) : Int)) r) :
    ∀ (d j : Nat) (out : List Int) (c : Int), d = m - j → j ≤ m → out.length = n + m → IsW out → 0 ≤ c → c < 4294967296 → (∀ p (hp : p < out.length), i + m ≤ p → out[p] = 0) →
      wI out + W32 i * W32 j * c = S0 + ai * W32 i * wI (b.take j) →
      Ev (fun k => whole_times.l1 k b out i ai c a n i b m j) r := by
  intro d
  induction d with
  | zero =>
    intro j out c hd hj ho hw c0 c1 hz he
    obtain rfl : j = m := by omega
    rw [List.take_of_length_le (by omega)] at he
    refine Ev.step (fun k => ?_) (hr out c ho hw c0 c1 hz he)
    simp only [whole_times.l1]
    rw [if_neg (by omega), hm, w64 (x := (i : Int) + j) (by omega) (by omega), if_pos (by omega), if_pos (by omega), w64s i (by omega), Int.emod_eq_of_lt c0 (by omega)]
    rw [show ((i : Int) + (j : Int)).toNat = i + j by omega]
  | succ d ih =>
    intro j out c hd hj ho hw c0 c1 hz he
    have hlt : j < b.length := by omega
    have hpos : i + j < out.length := by omega
    have hB := hb.get j hlt
    have hO := hw.get (i + j) hpos
    have hM := mul_bound h0 h1 hB.1 hB.2
    have hT : 0 ≤ c + (ai * b[j] + out[i + j]) ∧ c + (ai * b[j] + out[i + j]) < 18446744073709551616 := by omega
    have e1 : IntKind.u64.wrap (c + IntKind.u64.wrap (IntKind.u64.wrap (IntKind.u64.wrap ai * IntKind.u64.wrap b[j]) + IntKind.u64.wrap out[i + j])) = c + (ai * b[j] + out[i + j]) := by
      rw [u64 (x := ai) (by omega) (by omega), u64 (x := b[j]) (by omega) (by omega), u64 (x := out[i + j]) (by omega) (by omega), u64 (x := ai * b[j]) (by omega) (by omega),
        u64 (x := ai * b[j] + out[i + j]) (by omega) (by omega), u64 hT.1 hT.2]
    refine Ev.step (fun k => ?_) (ih (j + 1) (out.set (i + j) ((c + (ai * b[j] + out[i + j])) % 4294967296)) ((c + (ai * b[j] + out[i + j])) / 4294967296) (by omega) (by omega) (by simpa using ho) (hw.set _ _ (by omega) (by omega)) (by omega) (by omega)
      (fun p hp hge => by
        rw [List.getElem_set_ne (by omega)]
        exact hz p (by simpa using hp) hge) ?_)
    · simp only [whole_times.l1]
      rw [if_pos (by omega), if_pos (by omega), if_pos (by omega), w64 (x := (i : Int) + j) (by omega) (by omega), if_pos (by omega), if_pos (by omega), w64s j (by omega)]
      rw [show ((i : Int) + (j : Int)) = ((i + j : Nat) : Int) by omega, rd_lt _ _ hlt, rd_lt _ _ hpos, e1]
      rfl
    · rw [wI_set _ _ _ hpos (by omega) hO.1, wI_take_succ _ _ hlt hB.1, W32_add, W32_succ]
      exact times_step (by omega) he

theorem times_outer (a b : List Int) (ha : IsW a) (hb : IsW b) (hla : a.length ≤ 100000) (hlb : b.length ≤ 100000) :
    ∀ (d i : Nat) (out : List Int), d = a.length - i → i ≤ a.length → out.length = a.length + b.length → IsW out → (∀ p (hp : p < out.length), i + b.length ≤ p → out[p] = 0) →
      wI out = wI (a.take i) * wI b → Ev (fun k => whole_times.l0 k b out a a.length i) (wordsN (wval a * wval b)) := by
  intro d
  induction d with
  | zero =>
    intro i out hd hi ho hw hz he
    obtain rfl : i = a.length := by omega
    rw [List.take_length] at he
    have hv : wval out = wval a * wval b := by
      rw [wI_eq, wI_eq, wI_eq] at he
      exact_mod_cast he
    refine Ev.step (f := fun k => (whole_words_trim.f k out).bind fun t => some t) (fun k => ?_) ?_
    · simp only [whole_times.l0]; rw [if_neg (by omega)]
    · rw [← hv]; exact Ev.bind (trim_ev out hw (by omega)) (Ev.now _)
  | succ d ih =>
    intro i out hd hi ho hw hz he
    have hlt : i < a.length := by omega
    have hA := ha.get i hlt
    refine Ev.step (f := fun k => whole_times.l1 k b out i a[i] 0 a a.length i b b.length 0) (fun k => ?_) ?_
    · simp only [whole_times.l0]
      rw [if_pos (by omega), if_pos (by omega), if_pos (by omega), rd_lt _ _ hlt]
    · refine times_inner a b hb a[i] hA.1 hA.2 i a.length b.length (wI out) rfl hlt hla hlb _ ?_ b.length 0 out 0 (by omega) (by omega) ho hw (by omega) (by omega) hz (by simp [wI_nil])
      intro out2 c h2 hw2 c0 c1 hz2 he2
      refine ih (i + 1) (out2.set (i + b.length) c) (by omega) (by omega) (by simpa using h2) (hw2.set _ _ c0 c1) (fun p hp hge => ?_) ?_
      · rw [List.getElem_set_ne (by omega)]
        exact hz2 p (by simpa using hp) (by omega)
      · have hpos : i + b.length < out2.length := by omega
        have hz3 := hz2 (i + b.length) hpos (Nat.le_refl _)
        rw [wI_set _ _ _ hpos c0 (by omega), hz3, W32_add, wI_take_succ _ _ hlt hA.1]
        have e0 : W32 i * W32 b.length * (c - 0) = W32 i * W32 b.length * c := by simp
        rw [e0, he2, he]
        grind

theorem times_ev (a b : List Int) (ha : IsW a) (hb : IsW b) (hla : a.length ≤ 100000) (hlb : b.length ≤ 100000) :
    Ev (fun k => whole_times.f k a b) (wordsN (wval a * wval b)) := by
  refine Ev.congr (fun k => ?_) (times_outer a b ha hb hla hlb a.length 0 (List.replicate (a.length + b.length) 0) (by omega) (by omega) (by simp) (IsW.replicate _) (fun p hp _ => by simp) (by simp [wI_nil, wI_replicate_zero]))
  unfold whole_times.f
  rw [w64 (x := (a.length : Int) + b.length) (by omega) (by omega), if_pos (by omega), if_pos (by omega)]
  rw [show ((a.length : Int) + (b.length : Int)).toNat = a.length + b.length by omega]
  rfl
def mulS (xn : Bool) (x : List Int) (yn : Bool) (y : List Int) : Bool × List Int × Int := if okN xn x && okN yn y then fit (xn != yn) (bval x * bval y) else bad
theorem mul_ev (xn yn : Bool) (x y : List Int) (hx : IsB x) (hy : IsB y) : Ev (fun k => whole_Mul.f k xn x yn y) (mulS xn x yn y) := by
  unfold mulS
  by_cases h1 : okN xn x = true
  · by_cases h2 : okN yn y = true
    · rw [h1, h2]
      obtain ⟨l1, w1⟩ := words_of hx h1
      obtain ⟨l2, w2⟩ := words_of hy h2
      have ht := times_ev (wordsN (bval x)) (wordsN (bval y)) (isW_wordsN _) (isW_wordsN _) (by omega) (by omega)
      rw [wval_wordsN, wval_wordsN] at ht
      have hlt : (wordsN (bval x * bval y)).length ≤ 64 := by
        refine wordsN_len _ 64 ?_
        have a1 := bval_small hx (n := 128) (okN_can hx h1).2
        have a2 := bval_small hy (n := 128) (okN_can hy h2).2
        have : (256 : Nat) ^ (4 * 64) = 256 ^ 128 * 256 ^ 128 := by rw [← Nat.pow_add]
        rw [this]
        exact Nat.mul_lt_mul'' a1 a2
      have hf := fits_ev (xn != yn) (wordsN (bval x * bval y)) (isW_wordsN _) (by omega)
      rw [wval_wordsN] at hf
      rw [Bool.and_self, if_pos rfl]
      refine Ev.congr (f := fun k => whole_Mul.j0 k false xn x yn y) (fun k => ?_) (Ev.step (f := fun k => (whole_wordsOf.f k x).bind fun t509 => (whole_wordsOf.f k y).bind fun t512 => (whole_times.f k t509 t512).bind fun t515 => (whole_fits.f k (xn != yn) t515).bind fun bt => some (bt.1, bt.2.1, bt.2.2)) (fun k => ?_) (Ev.bind w1 (Ev.bind w2 (Ev.bind ht (Ev.bind hf (Ev.now _))))))
      · unfold whole_Mul.f
        rw [right_eq, h1, Option.bind_some, if_pos rfl, right_eq, h2]; rfl
      · simp only [whole_Mul.j0]; rfl
    · have h2 : okN yn y = false := by simpa using h2
      rw [h1, h2]
      refine Ev.congr (f := fun k => whole_Mul.j0 k true xn x yn y) (fun k => ?_) (Ev.step (f := fun _ => some bad) (fun k => ?_) (Ev.now _))
      · unfold whole_Mul.f
        rw [right_eq, h1, Option.bind_some, if_pos rfl, right_eq, h2]; rfl
      · simp only [whole_Mul.j0]; rfl
  · have h1 : okN xn x = false := by simpa using h1
    rw [h1]
    refine Ev.congr (f := fun k => whole_Mul.j0 k true xn x yn y) (fun k => ?_) (Ev.step (f := fun _ => some bad) (fun k => ?_) (Ev.now _))
    · unfold whole_Mul.f
      rw [right_eq, h1, Option.bind_some, if_neg (by simp)]
    · simp only [whole_Mul.j0]; rfl

theorem okN_mk (neg : Bool) (n : Nat) (h : (bytesN n).length ≤ 128) : okN (mk neg n).1 (mk neg n).2 = true := by
  unfold mk okN
  by_cases hz : n = 0
  · subst hz; simp [bytesN_zero]
  · have hne : bytesN n ≠ [] := fun e => hz ((bytesN_nil_iff n).1 e)
    have hc := (canB_bytesN n).2
    simp only [if_neg hne]
    simp [hc, h]
/-- A whole number as a sign and a size, and back. -/
def nz (z : Int) : Bool × List Int := mk (decide (z < 0)) z.natAbs
def ival (neg : Bool) (l : List Int) : Int := if neg = true then -(bval l : Int) else (bval l : Int)
def Fits (z : Int) (k : Nat) : Prop := z.natAbs < 256 ^ k
theorem mk_nz {neg : Bool} {n : Nat} {z : Int} (h : n = z.natAbs) (hs : n ≠ 0 → neg = decide (z < 0)) : mk neg n = nz z := by
  unfold nz mk
  rw [← h]
  by_cases hz : n = 0
  · simp [hz]
  · rw [hs hz]
theorem nz_ival {neg : Bool} {l : List Int} (hb : IsB l) (h : okN neg l = true) : nz (ival neg l) = (neg, l) := by
  have hc := (okN_can hb h).1
  have e : mk neg (bval l) = nz (ival neg l) := by
    refine mk_nz ?_ ?_
    · unfold ival; cases neg <;> simp
    · intro hn; unfold ival; cases neg <;> simp <;> omega
  rw [← e]
  unfold mk
  rw [bytesN_bval hc]
  cases neg
  · rfl
  · have hne : l ≠ [] := by intro e; rw [e] at h; simp [okN] at h
    have := CanB.pos hc hne
    simp; omega
theorem nz_fst (z : Int) : (nz z).1 = decide (z < 0) := by
  unfold nz mk
  by_cases h : z < 0
  · have : z.natAbs ≠ 0 := by omega
    simp [h]; omega
  · simp [h]
theorem bval_nz (z : Int) : bval (nz z).2 = z.natAbs := by unfold nz mk; exact bval_bytesN _
theorem isB_nz (z : Int) : IsB (nz z).2 := isB_bytesN _
theorem nz_len {z : Int} {k : Nat} (h : Fits z k) : (nz z).2.length ≤ k := bytesN_length_lt.2 h
theorem okN_nz {z : Int} (h : Fits z 128) : okN (nz z).1 (nz z).2 = true := okN_mk _ _ (nz_len h)
theorem fit_fits {neg : Bool} {n : Nat} (h : n < 256 ^ 128) : fit neg n = ((mk neg n).1, (mk neg n).2, 0) := by
  unfold fit
  have := bytesN_length_lt.2 h
  rw [if_neg (by omega)]
theorem fit_nz {neg : Bool} {n : Nat} {z : Int} (h : n = z.natAbs) (hs : n ≠ 0 → neg = decide (z < 0)) (hf : Fits z 128) : fit neg n = ((nz z).1, (nz z).2, 0) := by
  rw [fit_fits (by rw [h]; exact hf), mk_nz h hs]
theorem Fits.neg {z : Int} {k : Nat} (h : Fits z k) : Fits (-z) k := by unfold Fits; rw [Int.natAbs_neg]; exact h
theorem Fits.mono {z : Int} {k m : Nat} (h : Fits z k) (hk : k ≤ m) : Fits z m := Nat.lt_of_lt_of_le h (Nat.pow_le_pow_right (by decide) hk)
theorem Fits.add {x y : Int} {k : Nat} (h : Fits x k) (g : Fits y k) : Fits (x + y) (k + 1) := by
  unfold Fits at *
  rw [Nat.pow_succ]
  generalize (256 : Nat) ^ k = P at *
  omega
theorem Fits.mul {x y : Int} {j k : Nat} (h : Fits x j) (g : Fits y k) : Fits (x * y) (j + k) := by
  unfold Fits at *
  rw [Int.natAbs_mul, Nat.pow_add]
  exact Nat.mul_lt_mul'' h g
theorem Fits.of_le {x y : Int} {k : Nat} (h : Fits x k) (g : y.natAbs ≤ x.natAbs) : Fits y k := Nat.lt_of_le_of_lt g h
theorem ival_fits {neg : Bool} {l : List Int} {k : Nat} (hb : IsB l) (h : l.length ≤ k) : Fits (ival neg l) k := by
  have := bval_small hb h
  unfold Fits ival
  cases neg <;> simpa using this
/-- A number that may be, of few bytes. -/
def smallB (neg : Bool) (l : List Int) : Bool := okN neg l && decide (l.length ≤ 40)
theorem small_parts {neg : Bool} {l : List Int} (hb : IsB l) (h : smallB neg l = true) : nz (ival neg l) = (neg, l) ∧ Fits (ival neg l) 40 := by
  unfold smallB at h
  simp only [Bool.and_eq_true, decide_eq_true_eq] at h
  exact ⟨nz_ival hb h.1, ival_fits hb h.2⟩
theorem len_go {Z : Int} {m : Nat} (hZ : Fits Z m) (hm : m ≤ 128) : (nz Z).2.length ≤ 140737488355328 := by
  have := nz_len hZ; omega

theorem add_nz {X Y : Int} (hX : Fits X 128) (hY : Fits Y 128) (hs : Fits (X + Y) 128) : addS (nz X).1 (nz X).2 (nz Y).1 (nz Y).2 = ((nz (X + Y)).1, (nz (X + Y)).2, 0) := by
  unfold addS
  rw [okN_nz hX, okN_nz hY, Bool.and_self, if_pos rfl, bval_nz, bval_nz, nz_fst, nz_fst]
  unfold addV
  by_cases hx : X < 0
  · by_cases hy : Y < 0
    · rw [if_pos (by simp [hx, hy])]
      exact fit_nz (by omega) (fun _ => by simp [hx]; omega) hs
    · rw [if_neg (by simp [hx, hy])]
      split
      · exact fit_nz (by omega) (fun _ => by simp [hy]; omega) hs
      · exact fit_nz (by omega) (fun _ => by simp [hx]; omega) hs
  · by_cases hy : Y < 0
    · rw [if_neg (by simp [hx, hy])]
      split
      · exact fit_nz (by omega) (fun _ => by simp [hy]; omega) hs
      · exact fit_nz (by omega) (fun _ => by simp [hx]; omega) hs
    · rw [if_pos (by simp [hx, hy])]
      exact fit_nz (by omega) (fun _ => by simp [hx]; omega) hs
theorem add_go {X Y Z : Int} {j k m : Nat} (hX : Fits X j) (hY : Fits Y k) (hZ : Fits Z m) (hj : j ≤ 128) (hk : k ≤ 128) (hm : m ≤ 128) (e : X + Y = Z) : ∃ n, whole_Add.f n (nz X).1 (nz X).2 (nz Y).1 (nz Y).2 = some ((nz Z).1, (nz Z).2, 0) := by
  have h := add_ev (nz X).1 (nz Y).1 _ _ (isB_nz X) (isB_nz Y)
  subst e
  rw [add_nz (hX.mono hj) (hY.mono hk) (hZ.mono hm)] at h
  exact h.rounds

theorem neg_nz (Y : Int) : negS (nz Y).1 (nz Y).2 = (nz (-Y)).1 ∧ (nz Y).2 = (nz (-Y)).2 := by
  constructor
  · unfold negS
    rw [nz_fst, nz_fst]
    have : (nz Y).2.length = 0 ↔ Y = 0 := by
      rw [show (nz Y).2 = bytesN Y.natAbs from rfl, bytesN_len_zero]; omega
    by_cases h1 : Y < 0
    · simp [h1]; omega
    · by_cases h2 : Y = 0
      · subst h2; simp [nz, mk, bytesN_zero]
      · have h3 : (nz Y).2.length ≠ 0 := fun e => h2 (this.1 e)
        have h4 : -Y < 0 := by omega
        simp [h1, h4]
        first | omega | (intro e; exact h3 (by rw [e]; rfl))
  · show bytesN Y.natAbs = bytesN (-Y).natAbs
    rw [Int.natAbs_neg]
theorem sub_nz {X Y : Int} (hX : Fits X 128) (hY : Fits Y 128) (hs : Fits (X - Y) 128) : subS (nz X).1 (nz X).2 (nz Y).1 (nz Y).2 = ((nz (X - Y)).1, (nz (X - Y)).2, 0) := by
  obtain ⟨h1, h2⟩ := neg_nz Y
  have hn := add_nz (X := X) (Y := -Y) hX hY.neg (by rw [← Int.sub_eq_add_neg]; exact hs)
  rw [← h1, ← h2, ← Int.sub_eq_add_neg] at hn
  have e : subS (nz X).1 (nz X).2 (nz Y).1 (nz Y).2 = addS (nz X).1 (nz X).2 (negS (nz Y).1 (nz Y).2) (nz Y).2 := by
    unfold subS addS; rw [okN_nz hY, okN_neg _ _ (okN_nz hY)]
  rw [e, hn]
theorem sub_go {X Y Z : Int} {j k m : Nat} (hX : Fits X j) (hY : Fits Y k) (hZ : Fits Z m) (hj : j ≤ 128) (hk : k ≤ 128) (hm : m ≤ 128) (e : X - Y = Z) : ∃ n, whole_Sub.f n (nz X).1 (nz X).2 (nz Y).1 (nz Y).2 = some ((nz Z).1, (nz Z).2, 0) := by
  have h := sub_ev (nz X).1 (nz Y).1 _ _ (isB_nz X) (isB_nz Y)
  subst e
  rw [sub_nz (hX.mono hj) (hY.mono hk) (hZ.mono hm)] at h
  exact h.rounds

theorem mul_nz {X Y : Int} (hX : Fits X 128) (hY : Fits Y 128) (hs : Fits (X * Y) 128) : mulS (nz X).1 (nz X).2 (nz Y).1 (nz Y).2 = ((nz (X * Y)).1, (nz (X * Y)).2, 0) := by
  unfold mulS
  rw [okN_nz hX, okN_nz hY, Bool.and_self, if_pos rfl, bval_nz, bval_nz, nz_fst, nz_fst]
  refine fit_nz (Int.natAbs_mul X Y).symm (fun hn => ?_) hs
  have h1 : X ≠ 0 := by intro e; subst e; simp at hn
  have h2 : Y ≠ 0 := by intro e; subst e; simp at hn
  by_cases hx : X < 0
  · by_cases hy : Y < 0
    · have := Int.mul_pos_of_neg_of_neg hx hy
      simp [hx, hy]; omega
    · have := Int.mul_neg_of_neg_of_pos hx (by omega : 0 < Y)
      simp [hx, hy]; omega
  · by_cases hy : Y < 0
    · have := Int.mul_neg_of_pos_of_neg (by omega : 0 < X) hy
      simp [hx, hy]; omega
    · have := Int.mul_pos (by omega : 0 < X) (by omega : 0 < Y)
      simp [hx, hy]; omega
theorem mul_go {X Y Z : Int} {j k m : Nat} (hX : Fits X j) (hY : Fits Y k) (hZ : Fits Z m) (hj : j ≤ 128) (hk : k ≤ 128) (hm : m ≤ 128) (e : X * Y = Z) : ∃ n, whole_Mul.f n (nz X).1 (nz X).2 (nz Y).1 (nz Y).2 = some ((nz Z).1, (nz Z).2, 0) := by
  have h := mul_ev (nz X).1 (nz Y).1 _ _ (isB_nz X) (isB_nz Y)
  subst e
  rw [mul_nz (hX.mono hj) (hY.mono hk) (hZ.mono hm)] at h
  exact h.rounds

theorem small_eq (n : Bool) (l : List Int) : lapidarylaw02_small.f n l = some (smallB n l) := by
  unfold lapidarylaw02_small.f smallB
  rw [rright_eq, Option.bind_some]
  by_cases h : okN n l = true
  · rw [if_pos h, h]; simp; omega
  · rw [if_neg h]; simp [h]
theorem smallB_f {n : Bool} {l : List Int} (h : smallB n l = true) : lapidarylaw02_small.f n l = some true := by rw [small_eq, h]
theorem smallB_n {n : Bool} {l : List Int} (h : ¬ smallB n l = true) : lapidarylaw02_small.f n l = some false := by rw [small_eq]; simpa using h

/-- The plain law of WholeRing. -/
theorem ring_plain (xn yn zn : Bool) (x y z : List Int) (hx : IsB x) (hy : IsB y) (hz : IsB z) (sx : smallB xn x = true) (sy : smallB yn y = true) (sz : smallB zn z = true) :
    ∃ (k1 k2 k3 k4 k5 k6 k7 k8 k9 k10 k11 : Nat) (an : Bool) (la : List Int) (bn : Bool) (lb : List Int) (cn : Bool) (lc : List Int) (pn : Bool) (lp : List Int) (mn : Bool) (lm : List Int) (nn : Bool) (ln : List Int),
    whole_Add.f k1 xn x yn y = some (an, la, 0) ∧ whole_Add.f k2 yn y xn x = some (an, la, 0) ∧ la.length ≤ 140737488355328 ∧
    whole_Add.f k3 yn y zn z = some (bn, lb, 0) ∧ lb.length ≤ 140737488355328 ∧
    whole_Add.f k4 an la zn z = some (cn, lc, 0) ∧ whole_Add.f k5 xn x bn lb = some (cn, lc, 0) ∧ lc.length ≤ 140737488355328 ∧
    whole_Mul.f k6 xn x yn y = some (pn, lp, 0) ∧ whole_Mul.f k7 yn y xn x = some (pn, lp, 0) ∧ lp.length ≤ 140737488355328 ∧
    whole_Mul.f k8 xn x bn lb = some (mn, lm, 0) ∧ lm.length ≤ 140737488355328 ∧ whole_Mul.f k9 xn x zn z = some (nn, ln, 0) ∧ ln.length ≤ 140737488355328 ∧
    whole_Add.f k10 pn lp nn ln = some (mn, lm, 0) ∧ whole_Sub.f k11 an la yn y = some (xn, x, 0) := by
  obtain ⟨ex, fx⟩ := small_parts hx sx
  obtain ⟨ey, fy⟩ := small_parts hy sy
  obtain ⟨ez, fz⟩ := small_parts hz sz
  generalize ival xn x = X at *
  generalize ival yn y = Y at *
  generalize ival zn z = Z at *
  have fab := fx.add fy
  have fbc := fy.add fz
  have fl := fab.add (fz.mono (m := 41) (by omega))
  have fp := fx.mul fy
  have fm := fx.mul fbc
  have fn := fx.mul fz
  obtain ⟨k1, h1⟩ := add_go fx fy fab (by omega) (by omega) (by omega) rfl
  obtain ⟨k2, h2⟩ := add_go fy fx fab (by omega) (by omega) (by omega) (Int.add_comm Y X)
  obtain ⟨k3, h3⟩ := add_go fy fz fbc (by omega) (by omega) (by omega) rfl
  obtain ⟨k4, h4⟩ := add_go fab fz fl (by omega) (by omega) (by omega) rfl
  obtain ⟨k5, h5⟩ := add_go fx fbc fl (by omega) (by omega) (by omega) (Int.add_assoc X Y Z).symm
  obtain ⟨k6, h6⟩ := mul_go fx fy fp (by omega) (by omega) (by omega) rfl
  obtain ⟨k7, h7⟩ := mul_go fy fx fp (by omega) (by omega) (by omega) (Int.mul_comm Y X)
  obtain ⟨k8, h8⟩ := mul_go fx fbc fm (by omega) (by omega) (by omega) rfl
  obtain ⟨k9, h9⟩ := mul_go fx fz fn (by omega) (by omega) (by omega) rfl
  obtain ⟨k10, h10⟩ := add_go fp fn fm (by omega) (by omega) (by omega) (Int.mul_add X Y Z).symm
  obtain ⟨k11, h11⟩ := sub_go fab fy fx (by omega) (by omega) (by omega) (by omega : X + Y - Y = X)
  rw [ex, ey] at h1
  rw [ex, ey] at h2
  rw [ey, ez] at h3
  rw [ez] at h4
  rw [ex] at h5
  rw [ex, ey] at h6
  rw [ex, ey] at h7
  rw [ex] at h8
  rw [ex, ez] at h9
  rw [ey, ex] at h11
  exact ⟨k1, k2, k3, k4, k5, k6, k7, k8, k9, k10, k11, _, _, _, _, _, _, _, _, _, _, _, _, h1, h2, len_go fab (by omega), h3, len_go fbc (by omega), h4, h5, len_go fl (by omega), h6, h7, len_go fp (by omega), h8, len_go fm (by omega), h9, len_go fn (by omega), h10, h11⟩

end Go.Proofs.Ytfjbhccapgnkiaa.P
