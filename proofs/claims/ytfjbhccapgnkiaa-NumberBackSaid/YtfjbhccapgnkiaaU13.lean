import Derived.Test.YtfjbhccapgnkiaaU1r
import Derived.Test.YtfjbhccapgnkiaaB6
import Derived.Test.YtfjbhccapgnkiaaB7
namespace Go.Proofs.Ytfjbhccapgnkiaa.P
open Go.RowKit Go.Proofs.YtfjbhccapgnkiaaW.PrintWords Go.Proofs.YtfjbhccapgnkiaaW.PrintLast Go.Proofs.YtfjbhccapgnkiaaW.PrintMore
attribute [local go_sem] max2_int min2_int max_two min_two max_three min_three max_four min_four
set_option linter.unusedVariables false
set_option linter.unusedSimpArgs false

open Lap

theorem words_mono {n m : Nat} (h : n ≤ m) : (wordsN n).length ≤ (wordsN m).length := by
  rw [wordsN_length_le]
  exact Nat.lt_of_le_of_lt h (wordsN_length_le.1 (Nat.le_refl _))
theorem bytes_len {n k : Nat} (h : n < 256 ^ k) : (bytesN n).length ≤ k := bytesN_length_lt.2 h
/-- How often, and what is left. -/
def divV (xn : Bool) (a : Nat) (yn : Bool) (b : Nat) : Bool × List Int × Bool × List Int × Int :=
  if (xn != yn && decide (a % b ≠ 0)) = true then ((mk (xn != yn) (a / b + 1)).1, (mk (xn != yn) (a / b + 1)).2, (mk yn (b - a % b)).1, (mk yn (b - a % b)).2, 0)
  else ((mk (xn != yn) (a / b)).1, (mk (xn != yn) (a / b)).2, (mk yn (a % b)).1, (mk yn (a % b)).2, 0)
def divS (xn : Bool) (x : List Int) (yn : Bool) (y : List Int) : Bool × List Int × Bool × List Int × Int :=
  if (okN xn x && okN yn y) = true then (if y = [] then (false, [], false, [], 23) else divV xn (bval x) yn (bval y)) else (false, [], false, [], 1)
theorem one_isB : IsB [1] := IsB.cons (by omega) (by omega) IsB.nil

/-- The sum of two numbers that can be. -/
def addV (xn : Bool) (a : Nat) (yn : Bool) (b : Nat) : Bool × List Int × Int := if (xn == yn) = true then fit xn (a + b) else if a < b then fit yn (b - a) else fit xn (a - b)
def addS (xn : Bool) (x : List Int) (yn : Bool) (y : List Int) : Bool × List Int × Int := if (okN xn x && okN yn y) = true then addV xn (bval x) yn (bval y) else bad
theorem P132 : (256 : Nat) ^ (4 * 33) = 256 ^ 128 * 4294967296 := by
  rw [show 4 * 33 = 128 + 4 by decide, Nat.pow_add, show (256 : Nat) ^ 4 = 4294967296 by decide]
theorem words_len33 {n m : Nat} (h1 : n < 256 ^ 128) (h2 : m < 256 ^ 128) : (wordsN (n + m)).length ≤ 33 := by
  refine wordsN_len _ 33 ?_
  rw [P132]
  generalize (256 : Nat) ^ 128 = P at *
  omega
theorem add_good (xn yn : Bool) (x y : List Int) (hx : IsB x) (hy : IsB y) (h1 : okN xn x = true) (h2 : okN yn y = true) : Ev (fun k => whole_Add.j0 k false xn x yn y) (addV xn (bval x) yn (bval y)) := by
  obtain ⟨l1, w1⟩ := words_of hx h1
  obtain ⟨l2, w2⟩ := words_of hy h2
  have b1 := bval_small hx (okN_can hx h1).2
  have b2 := bval_small hy (okN_can hy h2).2
  unfold addV
  by_cases he : (xn == yn) = true
  · rw [if_pos he]
    have hp := plus_ev (wordsN (bval x)) (wordsN (bval y)) (isW_wordsN _) (isW_wordsN _) (by omega) (by omega)
    rw [wval_wordsN, wval_wordsN] at hp
    have hf := fits_ev xn (wordsN (bval x + bval y)) (isW_wordsN _) (by have := words_len33 b1 b2; omega)
    rw [wval_wordsN] at hf
    refine Ev.step (f := fun k => (whole_wordsOf.f k x).bind fun t1 => (whole_wordsOf.f k y).bind fun t2 => (whole_plus.f k t1 t2).bind fun t3 => (whole_fits.f k xn t3).bind fun bt => some (bt.1, bt.2.1, bt.2.2)) (fun k => ?_) (Ev.bind w1 (Ev.bind w2 (Ev.bind hp (Ev.bind hf (Ev.now _)))))
    simp only [whole_Add.j0, he, if_true]; rfl
  · rw [if_neg he]
    have ho := order_ev (wordsN (bval x)) (wordsN (bval y)) (canW_wordsN _) (canW_wordsN _) (by omega) (by omega)
    rw [wval_wordsN, wval_wordsN] at ho
    by_cases hlt : bval x < bval y
    · rw [if_pos hlt]
      have hm := minus_ev (wordsN (bval y)) (wordsN (bval x)) (isW_wordsN _) (isW_wordsN _) (by omega) (words_mono (by omega)) (by rw [wval_wordsN, wval_wordsN]; omega)
      rw [wval_wordsN, wval_wordsN] at hm
      have hf := fits_ev yn (wordsN (bval y - bval x)) (isW_wordsN _) (by have := words_mono (Nat.sub_le (bval y) (bval x)); omega)
      rw [wval_wordsN] at hf
      have hc : cmpN (bval x) (bval y) < 0 := by unfold cmpN; rw [if_pos hlt]; omega
      refine Ev.step (f := fun k => (whole_wordsOf.f k x).bind fun t1 => (whole_wordsOf.f k y).bind fun t2 => (whole_order.f k t1 t2).bind fun t => if t < 0 then (whole_minus.f k t2 t1).bind fun t3 => (whole_fits.f k yn t3).bind fun bt => some (bt.1, bt.2.1, bt.2.2) else (whole_minus.f k t1 t2).bind fun t3 => (whole_fits.f k xn t3).bind fun bt => some (bt.1, bt.2.1, bt.2.2)) (fun k => ?_)
        (Ev.bind w1 (Ev.bind w2 (Ev.bind ho (Ev.congr (fun k => if_pos hc) (Ev.bind hm (Ev.bind hf (Ev.now _)))))))
      simp only [whole_Add.j0, he, if_false]; rfl
    · rw [if_neg hlt]
      have hm := minus_ev (wordsN (bval x)) (wordsN (bval y)) (isW_wordsN _) (isW_wordsN _) (by omega) (words_mono (by omega)) (by rw [wval_wordsN, wval_wordsN]; omega)
      rw [wval_wordsN, wval_wordsN] at hm
      have hf := fits_ev xn (wordsN (bval x - bval y)) (isW_wordsN _) (by have := words_mono (Nat.sub_le (bval x) (bval y)); omega)
      rw [wval_wordsN] at hf
      have hc : ¬ cmpN (bval x) (bval y) < 0 := by unfold cmpN; rw [if_neg hlt]; split <;> omega
      refine Ev.step (f := fun k => (whole_wordsOf.f k x).bind fun t1 => (whole_wordsOf.f k y).bind fun t2 => (whole_order.f k t1 t2).bind fun t => if t < 0 then (whole_minus.f k t2 t1).bind fun t3 => (whole_fits.f k yn t3).bind fun bt => some (bt.1, bt.2.1, bt.2.2) else (whole_minus.f k t1 t2).bind fun t3 => (whole_fits.f k xn t3).bind fun bt => some (bt.1, bt.2.1, bt.2.2)) (fun k => ?_)
        (Ev.bind w1 (Ev.bind w2 (Ev.bind ho (Ev.congr (fun k => if_neg hc) (Ev.bind hm (Ev.bind hf (Ev.now _)))))))
      simp only [whole_Add.j0, he, if_false]; rfl
theorem add_ev (xn yn : Bool) (x y : List Int) (hx : IsB x) (hy : IsB y) : Ev (fun k => whole_Add.f k xn x yn y) (addS xn x yn y) := by
  unfold addS
  by_cases h1 : okN xn x = true
  · by_cases h2 : okN yn y = true
    · rw [if_pos (by rw [h1, h2]; rfl)]
      refine Ev.congr (f := fun k => whole_Add.j0 k false xn x yn y) (fun k => ?_) (add_good xn yn x y hx hy h1 h2)
      unfold whole_Add.f
      rw [right_eq, h1, Option.bind_some, if_pos rfl, right_eq, h2]; rfl
    · have h2 : okN yn y = false := by simpa using h2
      rw [if_neg (by rw [h1, h2]; simp)]
      refine Ev.congr (f := fun k => whole_Add.j0 k true xn x yn y) (fun k => ?_) (Ev.step (f := fun _ => some bad) (fun k => ?_) (Ev.now _))
      · unfold whole_Add.f
        rw [right_eq, h1, Option.bind_some, if_pos rfl, right_eq, h2]; rfl
      · simp only [whole_Add.j0]; rfl
  · have h1 : okN xn x = false := by simpa using h1
    rw [if_neg (by rw [h1]; simp)]
    refine Ev.congr (f := fun k => whole_Add.j0 k true xn x yn y) (fun k => ?_) (Ev.step (f := fun _ => some bad) (fun k => ?_) (Ev.now _))
    · unfold whole_Add.f
      rw [right_eq, h1, Option.bind_some, if_neg (by simp)]
    · simp only [whole_Add.j0]; rfl

/-- A number's sign turned. -/
def negS (yn : Bool) (y : List Int) : Bool := !yn && decide (0 < y.length)
theorem okN_neg (yn : Bool) (y : List Int) (h : okN yn y = true) : okN (negS yn y) y = true := by
  unfold okN negS at *
  split at h
  case isTrue e => subst e; simp
  case isFalse e => rw [if_neg e]; exact h
def subS (xn : Bool) (x : List Int) (yn : Bool) (y : List Int) : Bool × List Int × Int := if (okN xn x && okN yn y) = true then addV xn (bval x) (negS yn y) (bval y) else bad
theorem sub_ev (xn yn : Bool) (x y : List Int) (hx : IsB x) (hy : IsB y) : Ev (fun k => whole_Sub.f k xn x yn y) (subS xn x yn y) := by
  by_cases h2 : okN yn y = true
  · have e : subS xn x yn y = addS xn x (negS yn y) y := by
      unfold subS addS; rw [h2, okN_neg yn y h2]
    rw [e]
    refine Ev.congr (f := fun k => (whole_Add.f k xn x (negS yn y) y).bind fun bt => some (bt.1, bt.2.1, bt.2.2)) (fun k => ?_) (Ev.bind (add_ev xn (negS yn y) x y hx hy) (Ev.now _))
    unfold whole_Sub.f
    rw [right_eq, h2, Option.bind_some, if_pos rfl]
    cases yn
    · rw [if_neg (by simp)]; simp [negS]
    · rw [if_pos rfl]; simp [negS]
  · have h2 : okN yn y = false := by simpa using h2
    have e : subS xn x yn y = bad := by unfold subS; rw [h2]; simp
    rw [e]
    refine Ev.congr (f := fun _ => some bad) (fun k => ?_) (Ev.now _)
    unfold whole_Sub.f
    rw [right_eq, h2, Option.bind_some, if_neg (by simp)]; rfl

theorem okN_mk (neg : Bool) (n : Nat) (h : (bytesN n).length ≤ 128) : okN (mk neg n).1 (mk neg n).2 = true := by
  unfold mk okN
  by_cases hz : n = 0
  · subst hz; simp [bytesN_zero]
  · have hne : bytesN n ≠ [] := fun e => hz ((bytesN_nil_iff n).1 e)
    have hc := (canB_bytesN n).2
    simp only [if_neg hne]
    simp [hc, h]
/-- A whole number as a sign and a size, and back. -/
def nz (z : Int) : Bool × List Int := mk (decide (z < 0)) z.natAbs
def ival (neg : Bool) (l : List Int) : Int := if neg = true then -(bval l : Int) else (bval l : Int)
def Fits (z : Int) (k : Nat) : Prop := z.natAbs < 256 ^ k
theorem mk_nz {neg : Bool} {n : Nat} {z : Int} (h : n = z.natAbs) (hs : n ≠ 0 → neg = decide (z < 0)) : mk neg n = nz z := by
  unfold nz mk
  rw [← h]
  by_cases hz : n = 0
  · simp [hz]
  · rw [hs hz]
theorem nz_ival {neg : Bool} {l : List Int} (hb : IsB l) (h : okN neg l = true) : nz (ival neg l) = (neg, l) := by
  have hc := (okN_can hb h).1
  have e : mk neg (bval l) = nz (ival neg l) := by
    refine mk_nz ?_ ?_
    · unfold ival; cases neg <;> simp
    · intro hn; unfold ival; cases neg <;> simp <;> omega
  rw [← e]
  unfold mk
  rw [bytesN_bval hc]
  cases neg
  · rfl
  · have hne : l ≠ [] := by intro e; rw [e] at h; simp [okN] at h
    have := CanB.pos hc hne
    simp; omega
theorem nz_fst (z : Int) : (nz z).1 = decide (z < 0) := by
  unfold nz mk
  by_cases h : z < 0
  · have : z.natAbs ≠ 0 := by omega
    simp [h]; omega
  · simp [h]
theorem bval_nz (z : Int) : bval (nz z).2 = z.natAbs := by unfold nz mk; exact bval_bytesN _
theorem isB_nz (z : Int) : IsB (nz z).2 := isB_bytesN _
theorem nz_len {z : Int} {k : Nat} (h : Fits z k) : (nz z).2.length ≤ k := bytesN_length_lt.2 h
theorem okN_nz {z : Int} (h : Fits z 128) : okN (nz z).1 (nz z).2 = true := okN_mk _ _ (nz_len h)
theorem fit_fits {neg : Bool} {n : Nat} (h : n < 256 ^ 128) : fit neg n = ((mk neg n).1, (mk neg n).2, 0) := by
  unfold fit
  have := bytesN_length_lt.2 h
  rw [if_neg (by omega)]
theorem fit_nz {neg : Bool} {n : Nat} {z : Int} (h : n = z.natAbs) (hs : n ≠ 0 → neg = decide (z < 0)) (hf : Fits z 128) : fit neg n = ((nz z).1, (nz z).2, 0) := by
  rw [fit_fits (by rw [h]; exact hf), mk_nz h hs]
theorem Fits.neg {z : Int} {k : Nat} (h : Fits z k) : Fits (-z) k := by unfold Fits; rw [Int.natAbs_neg]; exact h
theorem Fits.mono {z : Int} {k m : Nat} (h : Fits z k) (hk : k ≤ m) : Fits z m := Nat.lt_of_lt_of_le h (Nat.pow_le_pow_right (by decide) hk)
theorem Fits.add {x y : Int} {k : Nat} (h : Fits x k) (g : Fits y k) : Fits (x + y) (k + 1) := by
  unfold Fits at *
  rw [Nat.pow_succ]
  generalize (256 : Nat) ^ k = P at *
  omega
theorem Fits.mul {x y : Int} {j k : Nat} (h : Fits x j) (g : Fits y k) : Fits (x * y) (j + k) := by
  unfold Fits at *
  rw [Int.natAbs_mul, Nat.pow_add]
  exact Nat.mul_lt_mul'' h g
theorem Fits.of_le {x y : Int} {k : Nat} (h : Fits x k) (g : y.natAbs ≤ x.natAbs) : Fits y k := Nat.lt_of_le_of_lt g h
theorem ival_fits {neg : Bool} {l : List Int} {k : Nat} (hb : IsB l) (h : l.length ≤ k) : Fits (ival neg l) k := by
  have := bval_small hb h
  unfold Fits ival
  cases neg <;> simpa using this
/-- A number that may be, of few bytes. -/
def smallB (neg : Bool) (l : List Int) : Bool := okN neg l && decide (l.length ≤ 40)
theorem small_parts {neg : Bool} {l : List Int} (hb : IsB l) (h : smallB neg l = true) : nz (ival neg l) = (neg, l) ∧ Fits (ival neg l) 40 := by
  unfold smallB at h
  simp only [Bool.and_eq_true, decide_eq_true_eq] at h
  exact ⟨nz_ival hb h.1, ival_fits hb h.2⟩
theorem len_go {Z : Int} {m : Nat} (hZ : Fits Z m) (hm : m ≤ 128) : (nz Z).2.length ≤ 140737488355328 := by
  have := nz_len hZ; omega

theorem add_nz {X Y : Int} (hX : Fits X 128) (hY : Fits Y 128) (hs : Fits (X + Y) 128) : addS (nz X).1 (nz X).2 (nz Y).1 (nz Y).2 = ((nz (X + Y)).1, (nz (X + Y)).2, 0) := by
  unfold addS
  rw [okN_nz hX, okN_nz hY, Bool.and_self, if_pos rfl, bval_nz, bval_nz, nz_fst, nz_fst]
  unfold addV
  by_cases hx : X < 0
  · by_cases hy : Y < 0
    · rw [if_pos (by simp [hx, hy])]
      exact fit_nz (by omega) (fun _ => by simp [hx]; omega) hs
    · rw [if_neg (by simp [hx, hy])]
      split
      · exact fit_nz (by omega) (fun _ => by simp [hy]; omega) hs
      · exact fit_nz (by omega) (fun _ => by simp [hx]; omega) hs
  · by_cases hy : Y < 0
    · rw [if_neg (by simp [hx, hy])]
      split
      · exact fit_nz (by omega) (fun _ => by simp [hy]; omega) hs
      · exact fit_nz (by omega) (fun _ => by simp [hx]; omega) hs
    · rw [if_pos (by simp [hx, hy])]
      exact fit_nz (by omega) (fun _ => by simp [hx]; omega) hs
theorem add_go {X Y Z : Int} {j k m : Nat} (hX : Fits X j) (hY : Fits Y k) (hZ : Fits Z m) (hj : j ≤ 128) (hk : k ≤ 128) (hm : m ≤ 128) (e : X + Y = Z) : ∃ n, whole_Add.f n (nz X).1 (nz X).2 (nz Y).1 (nz Y).2 = some ((nz Z).1, (nz Z).2, 0) := by
  have h := add_ev (nz X).1 (nz Y).1 _ _ (isB_nz X) (isB_nz Y)
  subst e
  rw [add_nz (hX.mono hj) (hY.mono hk) (hZ.mono hm)] at h
  exact h.rounds

theorem neg_nz (Y : Int) : negS (nz Y).1 (nz Y).2 = (nz (-Y)).1 ∧ (nz Y).2 = (nz (-Y)).2 := by
  constructor
  · unfold negS
    rw [nz_fst, nz_fst]
    have : (nz Y).2.length = 0 ↔ Y = 0 := by
      rw [show (nz Y).2 = bytesN Y.natAbs from rfl, bytesN_len_zero]; omega
    by_cases h1 : Y < 0
    · simp [h1]; omega
    · by_cases h2 : Y = 0
      · subst h2; simp [nz, mk, bytesN_zero]
      · have h3 : (nz Y).2.length ≠ 0 := fun e => h2 (this.1 e)
        have h4 : -Y < 0 := by omega
        simp [h1, h4]
        first | omega | (intro e; exact h3 (by rw [e]; rfl))
  · show bytesN Y.natAbs = bytesN (-Y).natAbs
    rw [Int.natAbs_neg]
theorem sub_nz {X Y : Int} (hX : Fits X 128) (hY : Fits Y 128) (hs : Fits (X - Y) 128) : subS (nz X).1 (nz X).2 (nz Y).1 (nz Y).2 = ((nz (X - Y)).1, (nz (X - Y)).2, 0) := by
  obtain ⟨h1, h2⟩ := neg_nz Y
  have hn := add_nz (X := X) (Y := -Y) hX hY.neg (by rw [← Int.sub_eq_add_neg]; exact hs)
  rw [← h1, ← h2, ← Int.sub_eq_add_neg] at hn
  have e : subS (nz X).1 (nz X).2 (nz Y).1 (nz Y).2 = addS (nz X).1 (nz X).2 (negS (nz Y).1 (nz Y).2) (nz Y).2 := by
    unfold subS addS; rw [okN_nz hY, okN_neg _ _ (okN_nz hY)]
  rw [e, hn]
theorem sub_go {X Y Z : Int} {j k m : Nat} (hX : Fits X j) (hY : Fits Y k) (hZ : Fits Z m) (hj : j ≤ 128) (hk : k ≤ 128) (hm : m ≤ 128) (e : X - Y = Z) : ∃ n, whole_Sub.f n (nz X).1 (nz X).2 (nz Y).1 (nz Y).2 = some ((nz Z).1, (nz Z).2, 0) := by
  have h := sub_ev (nz X).1 (nz Y).1 _ _ (isB_nz X) (isB_nz Y)
  subst e
  rw [sub_nz (hX.mono hj) (hY.mono hk) (hZ.mono hm)] at h
  exact h.rounds

/-- Which is the lesser one. -/
def cmpV (xn : Bool) (a : Nat) (yn : Bool) (b : Nat) : Int := if (xn == yn) = true then (if xn = true then -cmpN a b else cmpN a b) else if xn = true then -1 else 1
def cmpS (xn : Bool) (x : List Int) (yn : Bool) (y : List Int) : Int := if (okN xn x && okN yn y) = true then cmpV xn (bval x) yn (bval y) else 0
theorem cmpN_range (a b : Nat) : -1 ≤ cmpN a b ∧ cmpN a b ≤ 1 := by unfold cmpN; split; omega; split <;> omega
theorem cmp2_ev (xn yn : Bool) (x y : List Int) (hx : IsB x) (hy : IsB y) : Ev (fun k => whole_Cmp.f k xn x yn y) (cmpS xn x yn y) := by
  unfold cmpS
  by_cases h1 : okN xn x = true
  · by_cases h2 : okN yn y = true
    · rw [if_pos (by rw [h1, h2]; rfl)]
      refine Ev.congr (f := fun k => whole_Cmp.j0 k false xn x yn y) (fun k => ?_) ?_
      · unfold whole_Cmp.f
        rw [right_eq, h1, Option.bind_some, if_pos rfl, right_eq, h2]; rfl
      · unfold cmpV
        by_cases he : (xn == yn) = true
        · rw [if_pos he]
          obtain ⟨l1, w1⟩ := words_of hx h1
          obtain ⟨l2, w2⟩ := words_of hy h2
          have ho := order_ev (wordsN (bval x)) (wordsN (bval y)) (canW_wordsN _) (canW_wordsN _) (by omega) (by omega)
          rw [wval_wordsN, wval_wordsN] at ho
          have hr := cmpN_range (bval x) (bval y)
          refine Ev.step (f := fun k => (whole_wordsOf.f k x).bind fun t677 => ((whole_wordsOf.f k y).bind fun t680 => ((whole_order.f k t677 t680).bind fun t683 => (if xn = true then (some (wrap64 (-t683))) else (some t683))))) (fun k => ?_) (Ev.bind w1 (Ev.bind w2 (Ev.bind ho (Ev.congr (f := fun _ => some (if xn = true then -cmpN (bval x) (bval y) else cmpN (bval x) (bval y))) (fun k => ?_) (Ev.now _)))))
          · simp only [whole_Cmp.j0]
            rw [if_neg (by simp), if_pos he]
          · rw [w64 (by omega) (by omega)]; split <;> rfl
        · rw [if_neg he]
          refine Ev.step (f := fun _ => some (if xn = true then -1 else 1)) (fun k => ?_) (Ev.now _)
          simp only [whole_Cmp.j0]
          rw [if_neg (by simp), if_neg he]; split <;> rfl
    · have h2 : okN yn y = false := by simpa using h2
      rw [if_neg (by rw [h1, h2]; simp)]
      refine Ev.congr (f := fun k => whole_Cmp.j0 k true xn x yn y) (fun k => ?_) (Ev.step (f := fun _ => some 0) (fun k => ?_) (Ev.now _))
      · unfold whole_Cmp.f
        rw [right_eq, h1, Option.bind_some, if_pos rfl, right_eq, h2]; rfl
      · simp only [whole_Cmp.j0]; rfl
  · have h1 : okN xn x = false := by simpa using h1
    rw [if_neg (by rw [h1]; simp)]
    refine Ev.congr (f := fun k => whole_Cmp.j0 k true xn x yn y) (fun k => ?_) (Ev.step (f := fun _ => some 0) (fun k => ?_) (Ev.now _))
    · unfold whole_Cmp.f
      rw [right_eq, h1, Option.bind_some, if_neg (by simp)]
    · simp only [whole_Cmp.j0]; rfl

/-- Which of two is the lesser one. -/
def cmpZ (X Y : Int) : Int := if X < Y then -1 else if Y < X then 1 else 0
theorem cmp_nz {X Y : Int} (hX : Fits X 128) (hY : Fits Y 128) : cmpS (nz X).1 (nz X).2 (nz Y).1 (nz Y).2 = cmpZ X Y := by
  unfold cmpS
  rw [okN_nz hX, okN_nz hY, Bool.and_self, if_pos rfl, bval_nz, bval_nz, nz_fst, nz_fst]
  unfold cmpV cmpN cmpZ
  by_cases hx : X < 0
  · by_cases hy : Y < 0
    · rw [if_pos (by simp [hx, hy]), if_pos (by simpa using hx)]
      repeat' split
      all_goals omega
    · rw [if_neg (by simp [hx, hy]), if_pos (by simpa using hx), if_pos (by omega)]
  · by_cases hy : Y < 0
    · rw [if_neg (by simp [hx, hy]), if_neg (by simpa using hx), if_neg (by omega), if_pos (by omega)]
    · rw [if_pos (by simp [hx, hy]), if_neg (by simpa using hx)]
      repeat' split
      all_goals omega

/-- A sign and a size below 2^64 as a small number. -/
def smallV (neg : Bool) (u : Int) : Int × Bool :=
  if neg = true then (if u > 9223372036854775808 then (0, false) else (-u, true)) else (if u ≥ 9223372036854775808 then (0, false) else (u, true))
def smallS (neg : Bool) (l : List Int) : Int × Bool := if (okN neg l && decide (l.length ≤ 8)) = true then smallV neg (bI l) else (0, false)
theorem small_fin (neg : Bool) (u : Int) (h0 : 0 ≤ u) (h1 : u < 18446744073709551616) :
    (if neg = true then (if u = 0 then (some (wrap64 (-(wrap64 (u))), true)) else (if (wrap64 (-(wrap64 (u)))) = 0 then (some (0, false)) else (if ((decide ((wrap64 (-(wrap64 (u)))) < 0)) != neg) = true then (some (0, false)) else (some (wrap64 (-(wrap64 (u))), true))))) else (if u = 0 then (some (wrap64 (u), true)) else (if (wrap64 (u)) = 0 then (some (0, false)) else (if ((decide ((wrap64 (u)) < 0)) != neg) = true then (some (0, false)) else (some (wrap64 (u), true)))))) = some (smallV neg u) := by
  cases neg
  · have e2 : smallV false u = if u ≥ 9223372036854775808 then (0, false) else (u, true) := rfl
    rw [if_neg Bool.false_ne_true, e2]
    by_cases hz : u = 0
    · subst hz; rw [if_pos rfl, if_neg (by omega), w64 (by omega) (by omega)]
    · rw [if_neg hz]
      by_cases hb : u ≥ 9223372036854775808
      · have e : wrap64 u = u - 18446744073709551616 := by unfold wrap64; omega
        have hd : decide (u - 18446744073709551616 < 0) = true := decide_eq_true (by omega)
        rw [if_pos hb, e, if_neg (by omega), hd, if_pos (by decide)]
      · have e : wrap64 u = u := w64 (by omega) (by omega)
        have hd : decide (u < 0) = false := decide_eq_false (by omega)
        rw [if_neg hb, e, if_neg hz, hd, if_neg (by decide)]
  · have e2 : smallV true u = if u > 9223372036854775808 then (0, false) else (-u, true) := rfl
    rw [if_pos rfl, e2]
    by_cases hz : u = 0
    · subst hz; rw [if_pos rfl, if_neg (by omega), w64 (x := 0) (by omega) (by omega), w64 (by omega) (by omega)]
    · rw [if_neg hz]
      by_cases hb : u > 9223372036854775808
      · have e : wrap64 (-(wrap64 u)) = 18446744073709551616 - u := by unfold wrap64; omega
        have hd : decide (18446744073709551616 - u < 0) = false := decide_eq_false (by omega)
        rw [if_pos hb, e, if_neg (by omega), hd, if_pos (by decide)]
      · have e : wrap64 (-(wrap64 u)) = -u := by unfold wrap64; omega
        have hd : decide (-u < 0) = true := decide_eq_true (by omega)
        rw [if_neg hb, e, if_neg (by omega), hd, if_neg (by decide)]
theorem small_next (l : List Int) (hb : IsB l) (hl : l.length ≤ 8) (i : Nat) (hi : i < l.length) : Go.bits .or .u64 (IntKind.u64.wrap (bI (l.take i) * 256)) (IntKind.u64.wrap (rd l (i : Int))) = bI (l.take (i + 1)) := by
  have hA := hb.get i hi
  have h0 := bI_nonneg (l.take i)
  have h1 : bI (l.take i) < 72057594037927936 := by
    rw [bI_eq]
    have := bval_small (hb.take i) (n := 7) (by rw [List.length_take]; omega)
    have e : (256 : Nat) ^ 7 = 72057594037927936 := by decide
    omega
  rw [bI_take_succ l i hi hA.1, rd_lt _ _ hi, u64 (by omega) (by omega), u64 (by omega) (by omega), or64_8 h0 h1 hA.1 hA.2]
theorem bI_64 {l : List Int} (hb : IsB l) (hl : l.length ≤ 8) : 0 ≤ bI l ∧ bI l < 18446744073709551616 := by
  refine ⟨bI_nonneg l, ?_⟩
  rw [bI_eq]
  have := bval_small hb (n := 8) hl
  have e : (256 : Nat) ^ 8 = 18446744073709551616 := by decide
  omega
theorem small_loop (neg : Bool) (l : List Int) (hb : IsB l) (hl : l.length ≤ 8) : ∀ (d i : Nat), d + i = l.length → Ev (fun k => whole_Small.l0 k (bI (l.take i)) l (l.length : Int) (i : Int) neg l) (smallV neg (bI l)) := by
  intro d
  induction d with
  | zero =>
    intro i hd
    obtain rfl : i = l.length := by omega
    rw [List.take_length]
    obtain ⟨h0, h1⟩ := bI_64 hb hl
    refine Ev.step (f := fun _ => some (smallV neg (bI l))) (fun k => ?_) (Ev.now _)
    rw [← small_fin neg _ h0 h1]
    simp only [whole_Small.l0]
    rw [if_neg (by omega)]
  | succ d ih =>
    intro i hd
    have hi : i < l.length := by omega
    refine Ev.step (fun k => ?_) (ih (i + 1) (by omega))
    simp only [whole_Small.l0]
    rw [if_pos (by omega), if_pos (by omega), if_pos (by omega), small_next l hb hl i hi, w64s i (by omega)]
theorem small_ev (neg : Bool) (l : List Int) (hb : IsB l) : Ev (fun k => whole_Small.f k neg l) (smallS neg l) := by
  unfold smallS
  by_cases h1 : okN neg l = true
  · by_cases h2 : l.length ≤ 8
    · rw [if_pos (by rw [h1]; simpa using h2)]
      have h := small_loop neg l hb h2 l.length 0 (by omega)
      rw [List.take_zero, bI_nil] at h
      refine Ev.congr (f := fun k => whole_Small.j0 k false neg l) (fun k => ?_) (Ev.step (fun k => ?_) h)
      · unfold whole_Small.f
        rw [right_eq, h1, Option.bind_some, if_pos rfl, show decide ((l.length : Int) > 8) = false by simp; omega]
      · simp only [whole_Small.j0]; rfl
    · rw [if_neg (by rw [h1]; simpa using h2)]
      refine Ev.congr (f := fun k => whole_Small.j0 k true neg l) (fun k => ?_) (Ev.step (f := fun _ => some (0, false)) (fun k => ?_) (Ev.now _))
      · unfold whole_Small.f
        rw [right_eq, h1, Option.bind_some, if_pos rfl, show decide ((l.length : Int) > 8) = true by simp; omega]
      · simp only [whole_Small.j0]; rfl
  · have h1 : okN neg l = false := by simpa using h1
    rw [if_neg (by rw [h1]; simp)]
    refine Ev.congr (f := fun k => whole_Small.j0 k true neg l) (fun k => ?_) (Ev.step (f := fun _ => some (0, false)) (fun k => ?_) (Ev.now _))
    · unfold whole_Small.f
      rw [right_eq, h1, Option.bind_some, if_neg (by simp)]
    · simp only [whole_Small.j0]; rfl

/-! ### NumberOwn: the plain facts -/
theorem own_fits {n : Bool} {l : List Int} (hb : IsB l) (h : okN n l = true) : Fits (ival n l) 128 := by
  refine ival_fits hb ?_
  unfold okN at h
  by_cases e : l = []
  · subst e; simp
  · rw [if_neg e, Bool.and_eq_true, decide_eq_true_eq, decide_eq_true_eq] at h
    exact h.2
theorem own_same {n : Bool} {l : List Int} (hb : IsB l) (h : okN n l = true) : ∃ k, whole_Cmp.f k n l n l = some 0 := by
  have e := cmp2_ev n n l l hb hb
  have hn := nz_ival hb h
  have hf := own_fits hb h
  have hc := cmp_nz hf hf
  rw [hn] at hc
  have hz : cmpZ (ival n l) (ival n l) = 0 := by unfold cmpZ; simp
  rw [show cmpS n l n l = 0 from hc.trans hz] at e
  exact e.rounds
theorem own_less {n : Bool} {l : List Int} (hb : IsB l) (h : okN n l = true) : ∃ k, whole_Sub.f k n l n l = some (false, [], 0) := by
  have hn := nz_ival hb h
  have hf := own_fits hb h
  obtain ⟨k, hk⟩ := sub_go (X := ival n l) (Y := ival n l) (Z := 0) (j := 128) (k := 128) (m := 128) hf hf (by unfold Fits; decide +kernel) (by omega) (by omega) (by omega) (by omega)
  rw [hn, show nz 0 = (false, []) from by decide +kernel] at hk
  exact ⟨k, hk⟩
theorem own_cmp (n m : Bool) {l r : List Int} (hb : IsB l) (hr : IsB r) : ∃ k c, whole_Cmp.f k n l m r = some c := by
  obtain ⟨k, hk⟩ := (cmp2_ev n m l r hb hr).rounds
  exact ⟨k, _, hk⟩
theorem own_small (n : Bool) {l : List Int} (hb : IsB l) : ∃ k v ok, whole_Small.f k n l = some (v, ok) := by
  obtain ⟨k, hk⟩ := (small_ev n l hb).rounds
  exact ⟨k, (smallS n l).1, (smallS n l).2, hk⟩

end Go.Proofs.Ytfjbhccapgnkiaa.P
