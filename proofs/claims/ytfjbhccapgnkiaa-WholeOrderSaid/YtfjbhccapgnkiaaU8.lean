import Derived.Test.YtfjbhccapgnkiaaU1r
import Derived.Test.YtfjbhccapgnkiaaB6
import Derived.Test.YtfjbhccapgnkiaaB7c
import Derived.Test.YtfjbhccapgnkiaaG1
namespace Go.Proofs.Ytfjbhccapgnkiaa.P
open Go.RowKit Go.Proofs.YtfjbhccapgnkiaaW.PrintWords Go.Proofs.YtfjbhccapgnkiaaW.PrintLast Go.Proofs.YtfjbhccapgnkiaaW.PrintMore
attribute [local go_sem] max2_int min2_int max_two min_two max_three min_three max_four min_four
set_option linter.unusedVariables false
set_option linter.unusedSimpArgs false

open Lap

theorem words_mono {n m : Nat} (h : n ≤ m) : (wordsN n).length ≤ (wordsN m).length := by
  rw [wordsN_length_le]
  exact Nat.lt_of_le_of_lt h (wordsN_length_le.1 (Nat.le_refl _))
theorem bytes_len {n k : Nat} (h : n < 256 ^ k) : (bytesN n).length ≤ k := bytesN_length_lt.2 h
/-- How often, and what is left. -/
def divV (xn : Bool) (a : Nat) (yn : Bool) (b : Nat) : Bool × List Int × Bool × List Int × Int :=
  if (xn != yn && decide (a % b ≠ 0)) = true then ((mk (xn != yn) (a / b + 1)).1, (mk (xn != yn) (a / b + 1)).2, (mk yn (b - a % b)).1, (mk yn (b - a % b)).2, 0)
  else ((mk (xn != yn) (a / b)).1, (mk (xn != yn) (a / b)).2, (mk yn (a % b)).1, (mk yn (a % b)).2, 0)
def divS (xn : Bool) (x : List Int) (yn : Bool) (y : List Int) : Bool × List Int × Bool × List Int × Int :=
  if (okN xn x && okN yn y) = true then (if y = [] then (false, [], false, [], 23) else divV xn (bval x) yn (bval y)) else (false, [], false, [], 1)
theorem one_isB : IsB [1] := IsB.cons (by omega) (by omega) IsB.nil

/-- The sum of two numbers that can be. -/
def addV (xn : Bool) (a : Nat) (yn : Bool) (b : Nat) : Bool × List Int × Int := if (xn == yn) = true then fit xn (a + b) else if a < b then fit yn (b - a) else fit xn (a - b)
def addS (xn : Bool) (x : List Int) (yn : Bool) (y : List Int) : Bool × List Int × Int := if (okN xn x && okN yn y) = true then addV xn (bval x) yn (bval y) else bad
theorem P132 : (256 : Nat) ^ (4 * 33) = 256 ^ 128 * 4294967296 := by
  rw [show 4 * 33 = 128 + 4 by decide, Nat.pow_add, show (256 : Nat) ^ 4 = 4294967296 by decide]
theorem words_len33 {n m : Nat} (h1 : n < 256 ^ 128) (h2 : m < 256 ^ 128) : (wordsN (n + m)).length ≤ 33 := by
  refine wordsN_len _ 33 ?_
  rw [P132]
  generalize (256 : Nat) ^ 128 = P at *
  omega
theorem add_good (xn yn : Bool) (x y : List Int) (hx : IsB x) (hy : IsB y) (h1 : okN xn x = true) (h2 : okN yn y = true) : Ev (fun k => whole_Add.j0 k false xn x yn y) (addV xn (bval x) yn (bval y)) := by
  obtain ⟨l1, w1⟩ := words_of hx h1
  obtain ⟨l2, w2⟩ := words_of hy h2
  have b1 := bval_small hx (okN_can hx h1).2
  have b2 := bval_small hy (okN_can hy h2).2
  unfold addV
  by_cases he : (xn == yn) = true
  · rw [if_pos he]
    have hp := plus_ev (wordsN (bval x)) (wordsN (bval y)) (isW_wordsN _) (isW_wordsN _) (by omega) (by omega)
    rw [wval_wordsN, wval_wordsN] at hp
    have hf := fits_ev xn (wordsN (bval x + bval y)) (isW_wordsN _) (by have := words_len33 b1 b2; omega)
    rw [wval_wordsN] at hf
    refine Ev.step (f := fun k => (whole_wordsOf.f k x).bind fun t1 => (whole_wordsOf.f k y).bind fun t2 => (whole_plus.f k t1 t2).bind fun t3 => (whole_fits.f k xn t3).bind fun bt => some (bt.1, bt.2.1, bt.2.2)) (fun k => ?_) (Ev.bind w1 (Ev.bind w2 (Ev.bind hp (Ev.bind hf (Ev.now _)))))
    simp only [whole_Add.j0, he, if_true]; rfl
  · rw [if_neg he]
    have ho := order_ev (wordsN (bval x)) (wordsN (bval y)) (canW_wordsN _) (canW_wordsN _) (by omega) (by omega)
    rw [wval_wordsN, wval_wordsN] at ho
    by_cases hlt : bval x < bval y
    · rw [if_pos hlt]
      have hm := minus_ev (wordsN (bval y)) (wordsN (bval x)) (isW_wordsN _) (isW_wordsN _) (by omega) (words_mono (by omega)) (by rw [wval_wordsN, wval_wordsN]; omega)
      rw [wval_wordsN, wval_wordsN] at hm
      have hf := fits_ev yn (wordsN (bval y - bval x)) (isW_wordsN _) (by have := words_mono (Nat.sub_le (bval y) (bval x)); omega)
      rw [wval_wordsN] at hf
      have hc : cmpN (bval x) (bval y) < 0 := by unfold cmpN; rw [if_pos hlt]; omega
      refine Ev.step (f := fun k => (whole_wordsOf.f k x).bind fun t1 => (whole_wordsOf.f k y).bind fun t2 => (whole_order.f k t1 t2).bind fun t => if t < 0 then (whole_minus.f k t2 t1).bind fun t3 => (whole_fits.f k yn t3).bind fun bt => some (bt.1, bt.2.1, bt.2.2) else (whole_minus.f k t1 t2).bind fun t3 => (whole_fits.f k xn t3).bind fun bt => some (bt.1, bt.2.1, bt.2.2)) (fun k => ?_)
        (Ev.bind w1 (Ev.bind w2 (Ev.bind ho (Ev.congr (fun k => if_pos hc) (Ev.bind hm (Ev.bind hf (Ev.now _)))))))
      simp only [whole_Add.j0, he, if_false]; rfl
    · rw [if_neg hlt]
      have hm := minus_ev (wordsN (bval x)) (wordsN (bval y)) (isW_wordsN _) (isW_wordsN _) (by omega) (words_mono (by omega)) (by rw [wval_wordsN, wval_wordsN]; omega)
      rw [wval_wordsN, wval_wordsN] at hm
      have hf := fits_ev xn (wordsN (bval x - bval y)) (isW_wordsN _) (by have := words_mono (Nat.sub_le (bval x) (bval y)); omega)
      rw [wval_wordsN] at hf
      have hc : ¬ cmpN (bval x) (bval y) < 0 := by unfold cmpN; rw [if_neg hlt]; split <;> omega
      refine Ev.step (f := fun k => (whole_wordsOf.f k x).bind fun t1 => (whole_wordsOf.f k y).bind fun t2 => (whole_order.f k t1 t2).bind fun t => if t < 0 then (whole_minus.f k t2 t1).bind fun t3 => (whole_fits.f k yn t3).bind fun bt => some (bt.1, bt.2.1, bt.2.2) else (whole_minus.f k t1 t2).bind fun t3 => (whole_fits.f k xn t3).bind fun bt => some (bt.1, bt.2.1, bt.2.2)) (fun k => ?_)
        (Ev.bind w1 (Ev.bind w2 (Ev.bind ho (Ev.congr (fun k => if_neg hc) (Ev.bind hm (Ev.bind hf (Ev.now _)))))))
      simp only [whole_Add.j0, he, if_false]; rfl
theorem add_ev (xn yn : Bool) (x y : List Int) (hx : IsB x) (hy : IsB y) : Ev (fun k => whole_Add.f k xn x yn y) (addS xn x yn y) := by
  unfold addS
  by_cases h1 : okN xn x = true
  · by_cases h2 : okN yn y = true
    · rw [if_pos (by rw [h1, h2]; rfl)]
      refine Ev.congr (f := fun k => whole_Add.j0 k false xn x yn y) (fun k => ?_) (add_good xn yn x y hx hy h1 h2)
      unfold whole_Add.f
      rw [right_eq, h1, Option.bind_some, if_pos rfl, right_eq, h2]; rfl
    · have h2 : okN yn y = false := by simpa using h2
      rw [if_neg (by rw [h1, h2]; simp)]
      refine Ev.congr (f := fun k => whole_Add.j0 k true xn x yn y) (fun k => ?_) (Ev.step (f := fun _ => some bad) (fun k => ?_) (Ev.now _))
      · unfold whole_Add.f
        rw [right_eq, h1, Option.bind_some, if_pos rfl, right_eq, h2]; rfl
      · simp only [whole_Add.j0]; rfl
  · have h1 : okN xn x = false := by simpa using h1
    rw [if_neg (by rw [h1]; simp)]
    refine Ev.congr (f := fun k => whole_Add.j0 k true xn x yn y) (fun k => ?_) (Ev.step (f := fun _ => some bad) (fun k => ?_) (Ev.now _))
    · unfold whole_Add.f
      rw [right_eq, h1, Option.bind_some, if_neg (by simp)]
    · simp only [whole_Add.j0]; rfl

/-- A number's sign turned. -/
def negS (yn : Bool) (y : List Int) : Bool := !yn && decide (0 < y.length)
theorem okN_neg (yn : Bool) (y : List Int) (h : okN yn y = true) : okN (negS yn y) y = true := by
  unfold okN negS at *
  split at h
  case isTrue e => subst e; simp
  case isFalse e => rw [if_neg e]; exact h
def subS (xn : Bool) (x : List Int) (yn : Bool) (y : List Int) : Bool × List Int × Int := if (okN xn x && okN yn y) = true then addV xn (bval x) (negS yn y) (bval y) else bad
theorem sub_ev (xn yn : Bool) (x y : List Int) (hx : IsB x) (hy : IsB y) : Ev (fun k => whole_Sub.f k xn x yn y) (subS xn x yn y) := by
  by_cases h2 : okN yn y = true
  · have e : subS xn x yn y = addS xn x (negS yn y) y := by
      unfold subS addS; rw [h2, okN_neg yn y h2]
    rw [e]
    refine Ev.congr (f := fun k => (whole_Add.f k xn x (negS yn y) y).bind fun bt => some (bt.1, bt.2.1, bt.2.2)) (fun k => ?_) (Ev.bind (add_ev xn (negS yn y) x y hx hy) (Ev.now _))
    unfold whole_Sub.f
    rw [right_eq, h2, Option.bind_some, if_pos rfl]
    cases yn
    · rw [if_neg (by simp)]; simp [negS]
    · rw [if_pos rfl]; simp [negS]
  · have h2 : okN yn y = false := by simpa using h2
    have e : subS xn x yn y = bad := by unfold subS; rw [h2]; simp
    rw [e]
    refine Ev.congr (f := fun _ => some bad) (fun k => ?_) (Ev.now _)
    unfold whole_Sub.f
    rw [right_eq, h2, Option.bind_some, if_neg (by simp)]; rfl

theorem okN_mk (neg : Bool) (n : Nat) (h : (bytesN n).length ≤ 128) : okN (mk neg n).1 (mk neg n).2 = true := by
  unfold mk okN
  by_cases hz : n = 0
  · subst hz; simp [bytesN_zero]
  · have hne : bytesN n ≠ [] := fun e => hz ((bytesN_nil_iff n).1 e)
    have hc := (canB_bytesN n).2
    simp only [if_neg hne]
    simp [hc, h]
/-- A whole number as a sign and a size, and back. -/
def nz (z : Int) : Bool × List Int := mk (decide (z < 0)) z.natAbs
def ival (neg : Bool) (l : List Int) : Int := if neg = true then -(bval l : Int) else (bval l : Int)
def Fits (z : Int) (k : Nat) : Prop := z.natAbs < 256 ^ k
theorem mk_nz {neg : Bool} {n : Nat} {z : Int} (h : n = z.natAbs) (hs : n ≠ 0 → neg = decide (z < 0)) : mk neg n = nz z := by
  unfold nz mk
  rw [← h]
  by_cases hz : n = 0
  · simp [hz]
  · rw [hs hz]
theorem nz_ival {neg : Bool} {l : List Int} (hb : IsB l) (h : okN neg l = true) : nz (ival neg l) = (neg, l) := by
  have hc := (okN_can hb h).1
  have e : mk neg (bval l) = nz (ival neg l) := by
    refine mk_nz ?_ ?_
    · unfold ival; cases neg <;> simp
    · intro hn; unfold ival; cases neg <;> simp <;> omega
  rw [← e]
  unfold mk
  rw [bytesN_bval hc]
  cases neg
  · rfl
  · have hne : l ≠ [] := by intro e; rw [e] at h; simp [okN] at h
    have := CanB.pos hc hne
    simp; omega
theorem nz_fst (z : Int) : (nz z).1 = decide (z < 0) := by
  unfold nz mk
  by_cases h : z < 0
  · have : z.natAbs ≠ 0 := by omega
    simp [h]; omega
  · simp [h]
theorem bval_nz (z : Int) : bval (nz z).2 = z.natAbs := by unfold nz mk; exact bval_bytesN _
theorem isB_nz (z : Int) : IsB (nz z).2 := isB_bytesN _
theorem nz_len {z : Int} {k : Nat} (h : Fits z k) : (nz z).2.length ≤ k := bytesN_length_lt.2 h
theorem okN_nz {z : Int} (h : Fits z 128) : okN (nz z).1 (nz z).2 = true := okN_mk _ _ (nz_len h)
theorem fit_fits {neg : Bool} {n : Nat} (h : n < 256 ^ 128) : fit neg n = ((mk neg n).1, (mk neg n).2, 0) := by
  unfold fit
  have := bytesN_length_lt.2 h
  rw [if_neg (by omega)]
theorem fit_nz {neg : Bool} {n : Nat} {z : Int} (h : n = z.natAbs) (hs : n ≠ 0 → neg = decide (z < 0)) (hf : Fits z 128) : fit neg n = ((nz z).1, (nz z).2, 0) := by
  rw [fit_fits (by rw [h]; exact hf), mk_nz h hs]
theorem Fits.neg {z : Int} {k : Nat} (h : Fits z k) : Fits (-z) k := by unfold Fits; rw [Int.natAbs_neg]; exact h
theorem Fits.mono {z : Int} {k m : Nat} (h : Fits z k) (hk : k ≤ m) : Fits z m := Nat.lt_of_lt_of_le h (Nat.pow_le_pow_right (by decide) hk)
theorem Fits.add {x y : Int} {k : Nat} (h : Fits x k) (g : Fits y k) : Fits (x + y) (k + 1) := by
  unfold Fits at *
  rw [Nat.pow_succ]
  generalize (256 : Nat) ^ k = P at *
  omega
theorem Fits.mul {x y : Int} {j k : Nat} (h : Fits x j) (g : Fits y k) : Fits (x * y) (j + k) := by
  unfold Fits at *
  rw [Int.natAbs_mul, Nat.pow_add]
  exact Nat.mul_lt_mul'' h g
theorem Fits.of_le {x y : Int} {k : Nat} (h : Fits x k) (g : y.natAbs ≤ x.natAbs) : Fits y k := Nat.lt_of_le_of_lt g h
theorem ival_fits {neg : Bool} {l : List Int} {k : Nat} (hb : IsB l) (h : l.length ≤ k) : Fits (ival neg l) k := by
  have := bval_small hb h
  unfold Fits ival
  cases neg <;> simpa using this
/-- A number that may be, of few bytes. -/
def smallB (neg : Bool) (l : List Int) : Bool := okN neg l && decide (l.length ≤ 40)
theorem small_parts {neg : Bool} {l : List Int} (hb : IsB l) (h : smallB neg l = true) : nz (ival neg l) = (neg, l) ∧ Fits (ival neg l) 40 := by
  unfold smallB at h
  simp only [Bool.and_eq_true, decide_eq_true_eq] at h
  exact ⟨nz_ival hb h.1, ival_fits hb h.2⟩
theorem len_go {Z : Int} {m : Nat} (hZ : Fits Z m) (hm : m ≤ 128) : (nz Z).2.length ≤ 140737488355328 := by
  have := nz_len hZ; omega

theorem add_nz {X Y : Int} (hX : Fits X 128) (hY : Fits Y 128) (hs : Fits (X + Y) 128) : addS (nz X).1 (nz X).2 (nz Y).1 (nz Y).2 = ((nz (X + Y)).1, (nz (X + Y)).2, 0) := by
  unfold addS
  rw [okN_nz hX, okN_nz hY, Bool.and_self, if_pos rfl, bval_nz, bval_nz, nz_fst, nz_fst]
  unfold addV
  by_cases hx : X < 0
  · by_cases hy : Y < 0
    · rw [if_pos (by simp [hx, hy])]
      exact fit_nz (by omega) (fun _ => by simp [hx]; omega) hs
    · rw [if_neg (by simp [hx, hy])]
      split
      · exact fit_nz (by omega) (fun _ => by simp [hy]; omega) hs
      · exact fit_nz (by omega) (fun _ => by simp [hx]; omega) hs
  · by_cases hy : Y < 0
    · rw [if_neg (by simp [hx, hy])]
      split
      · exact fit_nz (by omega) (fun _ => by simp [hy]; omega) hs
      · exact fit_nz (by omega) (fun _ => by simp [hx]; omega) hs
    · rw [if_pos (by simp [hx, hy])]
      exact fit_nz (by omega) (fun _ => by simp [hx]; omega) hs
theorem add_go {X Y Z : Int} {j k m : Nat} (hX : Fits X j) (hY : Fits Y k) (hZ : Fits Z m) (hj : j ≤ 128) (hk : k ≤ 128) (hm : m ≤ 128) (e : X + Y = Z) : ∃ n, whole_Add.f n (nz X).1 (nz X).2 (nz Y).1 (nz Y).2 = some ((nz Z).1, (nz Z).2, 0) := by
  have h := add_ev (nz X).1 (nz Y).1 _ _ (isB_nz X) (isB_nz Y)
  subst e
  rw [add_nz (hX.mono hj) (hY.mono hk) (hZ.mono hm)] at h
  exact h.rounds

theorem neg_nz (Y : Int) : negS (nz Y).1 (nz Y).2 = (nz (-Y)).1 ∧ (nz Y).2 = (nz (-Y)).2 := by
  constructor
  · unfold negS
    rw [nz_fst, nz_fst]
    have : (nz Y).2.length = 0 ↔ Y = 0 := by
      rw [show (nz Y).2 = bytesN Y.natAbs from rfl, bytesN_len_zero]; omega
    by_cases h1 : Y < 0
    · simp [h1]; omega
    · by_cases h2 : Y = 0
      · subst h2; simp [nz, mk, bytesN_zero]
      · have h3 : (nz Y).2.length ≠ 0 := fun e => h2 (this.1 e)
        have h4 : -Y < 0 := by omega
        simp [h1, h4]
        first | omega | (intro e; exact h3 (by rw [e]; rfl))
  · show bytesN Y.natAbs = bytesN (-Y).natAbs
    rw [Int.natAbs_neg]
theorem sub_nz {X Y : Int} (hX : Fits X 128) (hY : Fits Y 128) (hs : Fits (X - Y) 128) : subS (nz X).1 (nz X).2 (nz Y).1 (nz Y).2 = ((nz (X - Y)).1, (nz (X - Y)).2, 0) := by
  obtain ⟨h1, h2⟩ := neg_nz Y
  have hn := add_nz (X := X) (Y := -Y) hX hY.neg (by rw [← Int.sub_eq_add_neg]; exact hs)
  rw [← h1, ← h2, ← Int.sub_eq_add_neg] at hn
  have e : subS (nz X).1 (nz X).2 (nz Y).1 (nz Y).2 = addS (nz X).1 (nz X).2 (negS (nz Y).1 (nz Y).2) (nz Y).2 := by
    unfold subS addS; rw [okN_nz hY, okN_neg _ _ (okN_nz hY)]
  rw [e, hn]
theorem sub_go {X Y Z : Int} {j k m : Nat} (hX : Fits X j) (hY : Fits Y k) (hZ : Fits Z m) (hj : j ≤ 128) (hk : k ≤ 128) (hm : m ≤ 128) (e : X - Y = Z) : ∃ n, whole_Sub.f n (nz X).1 (nz X).2 (nz Y).1 (nz Y).2 = some ((nz Z).1, (nz Z).2, 0) := by
  have h := sub_ev (nz X).1 (nz Y).1 _ _ (isB_nz X) (isB_nz Y)
  subst e
  rw [sub_nz (hX.mono hj) (hY.mono hk) (hZ.mono hm)] at h
  exact h.rounds

/-- Which is the lesser one. -/
def cmpV (xn : Bool) (a : Nat) (yn : Bool) (b : Nat) : Int := if (xn == yn) = true then (if xn = true then -cmpN a b else cmpN a b) else if xn = true then -1 else 1
def cmpS (xn : Bool) (x : List Int) (yn : Bool) (y : List Int) : Int := if (okN xn x && okN yn y) = true then cmpV xn (bval x) yn (bval y) else 0
theorem cmpN_range (a b : Nat) : -1 ≤ cmpN a b ∧ cmpN a b ≤ 1 := by unfold cmpN; split; omega; split <;> omega
theorem cmp2_ev (xn yn : Bool) (x y : List Int) (hx : IsB x) (hy : IsB y) : Ev (fun k => whole_Cmp.f k xn x yn y) (cmpS xn x yn y) := by
  unfold cmpS
  by_cases h1 : okN xn x = true
  · by_cases h2 : okN yn y = true
    · rw [if_pos (by rw [h1, h2]; rfl)]
      refine Ev.congr (f := fun k => whole_Cmp.j0 k false xn x yn y) (fun k => ?_) ?_
      · unfold whole_Cmp.f
        rw [right_eq, h1, Option.bind_some, if_pos rfl, right_eq, h2]; rfl
      · unfold cmpV
        by_cases he : (xn == yn) = true
        · rw [if_pos he]
          obtain ⟨l1, w1⟩ := words_of hx h1
          obtain ⟨l2, w2⟩ := words_of hy h2
          have ho := order_ev (wordsN (bval x)) (wordsN (bval y)) (canW_wordsN _) (canW_wordsN _) (by omega) (by omega)
          rw [wval_wordsN, wval_wordsN] at ho
          have hr := cmpN_range (bval x) (bval y)
          refine Ev.step (f := fun k => (whole_wordsOf.f k x).bind fun t677 => ((whole_wordsOf.f k y).bind fun t680 => ((whole_order.f k t677 t680).bind fun t683 => (if xn = true then (some (wrap64 (-t683))) else (some t683))))) (fun k => ?_) (Ev.bind w1 (Ev.bind w2 (Ev.bind ho (Ev.congr (f := fun _ => some (if xn = true then -cmpN (bval x) (bval y) else cmpN (bval x) (bval y))) (fun k => ?_) (Ev.now _)))))
          · simp only [whole_Cmp.j0]
            rw [if_neg (by simp), if_pos he]
          · rw [w64 (by omega) (by omega)]; split <;> rfl
        · rw [if_neg he]
          refine Ev.step (f := fun _ => some (if xn = true then -1 else 1)) (fun k => ?_) (Ev.now _)
          simp only [whole_Cmp.j0]
          rw [if_neg (by simp), if_neg he]; split <;> rfl
    · have h2 : okN yn y = false := by simpa using h2
      rw [if_neg (by rw [h1, h2]; simp)]
      refine Ev.congr (f := fun k => whole_Cmp.j0 k true xn x yn y) (fun k => ?_) (Ev.step (f := fun _ => some 0) (fun k => ?_) (Ev.now _))
      · unfold whole_Cmp.f
        rw [right_eq, h1, Option.bind_some, if_pos rfl, right_eq, h2]; rfl
      · simp only [whole_Cmp.j0]; rfl
  · have h1 : okN xn x = false := by simpa using h1
    rw [if_neg (by rw [h1]; simp)]
    refine Ev.congr (f := fun k => whole_Cmp.j0 k true xn x yn y) (fun k => ?_) (Ev.step (f := fun _ => some 0) (fun k => ?_) (Ev.now _))
    · unfold whole_Cmp.f
      rw [right_eq, h1, Option.bind_some, if_neg (by simp)]
    · simp only [whole_Cmp.j0]; rfl

/-- Which of two is the lesser one. -/
def cmpZ (X Y : Int) : Int := if X < Y then -1 else if Y < X then 1 else 0
theorem cmp_nz {X Y : Int} (hX : Fits X 128) (hY : Fits Y 128) : cmpS (nz X).1 (nz X).2 (nz Y).1 (nz Y).2 = cmpZ X Y := by
  unfold cmpS
  rw [okN_nz hX, okN_nz hY, Bool.and_self, if_pos rfl, bval_nz, bval_nz, nz_fst, nz_fst]
  unfold cmpV cmpN cmpZ
  by_cases hx : X < 0
  · by_cases hy : Y < 0
    · rw [if_pos (by simp [hx, hy]), if_pos (by simpa using hx)]
      repeat' split
      all_goals omega
    · rw [if_neg (by simp [hx, hy]), if_pos (by simpa using hx), if_pos (by omega)]
  · by_cases hy : Y < 0
    · rw [if_neg (by simp [hx, hy]), if_neg (by simpa using hx), if_neg (by omega), if_pos (by omega)]
    · rw [if_pos (by simp [hx, hy]), if_neg (by simpa using hx)]
      repeat' split
      all_goals omega

/-- A small number as one of any size. -/
def ofS (n : Int) : Bool × List Int := mk (decide (n < 0)) n.natAbs
theorem of_neg (n : Int) (h0 : -9223372036854775808 ≤ n) (h : n < 0) : IntKind.u64.wrap (-(IntKind.u64.wrap n)) = (n.natAbs : Int) := by
  rw [u64_mod, u64_mod]; omega
theorem of_pos (n : Int) (h0 : 0 ≤ n) (h : n < 9223372036854775808) : IntKind.u64.wrap n = (n.natAbs : Int) := by
  rw [u64_mod]; omega
theorem two_words (u : Nat) (h : u < 18446744073709551616) : IsW [(u : Int) % 4294967296, ((u : Int) / 4294967296) % 4294967296] ∧ wval [(u : Int) % 4294967296, ((u : Int) / 4294967296) % 4294967296] = u := by
  refine ⟨IsW.cons (by omega) (by omega) (IsW.cons (by omega) (by omega) IsW.nil), ?_⟩
  simp only [wval]; omega
theorem of_ev (n : Int) (h0 : -9223372036854775808 ≤ n) (h1 : n < 9223372036854775808) : Ev (fun k => whole_Of.f k n) (ofS n) := by
  obtain ⟨hw, hv⟩ := two_words n.natAbs (by omega)
  have hm := made_ev (decide (n < 0)) _ hw (by simp)
  rw [hv] at hm
  by_cases hn : n < 0
  · refine Ev.congr (f := fun k => (whole_made.f k (decide (n < 0)) [(n.natAbs : Int) % 4294967296, ((n.natAbs : Int) / 4294967296) % 4294967296]).bind fun bt => some (bt.1, bt.2)) (fun k => ?_) (Ev.bind hm (Ev.now _))
    unfold whole_Of.f
    rw [if_pos hn, of_neg n h0 hn]
  · refine Ev.congr (f := fun k => (whole_made.f k (decide (n < 0)) [(n.natAbs : Int) % 4294967296, ((n.natAbs : Int) / 4294967296) % 4294967296]).bind fun bt => some (bt.1, bt.2)) (fun k => ?_) (Ev.bind hm (Ev.now _))
    unfold whole_Of.f
    rw [if_neg hn, of_pos n (by omega) h1]

theorem small_eq (n : Bool) (l : List Int) : lapidarylaw02_small.f n l = some (smallB n l) := by
  unfold lapidarylaw02_small.f smallB
  rw [rright_eq, Option.bind_some]
  by_cases h : okN n l = true
  · rw [if_pos h, h]; simp; omega
  · rw [if_neg h]; simp [h]
theorem smallB_f {n : Bool} {l : List Int} (h : smallB n l = true) : lapidarylaw02_small.f n l = some true := by rw [small_eq, h]
theorem smallB_n {n : Bool} {l : List Int} (h : ¬ smallB n l = true) : lapidarylaw02_small.f n l = some false := by rw [small_eq]; simpa using h

theorem map_inj : ∀ (x y : List Int), IsB x → IsB y → (x.map fun n => UInt8.ofNat n.toNat) = (y.map fun n => UInt8.ofNat n.toNat) → x = y
  | [], [], _, _, _ => rfl
  | [], _ :: _, _, _, h => by simp at h
  | _ :: _, [], _, _, h => by simp at h
  | a :: r, b :: s, hx, hy, h => by
    rw [List.map_cons, List.map_cons, List.cons.injEq] at h
    have ha := hx.head
    have hb := hy.head
    have e : a.toNat = b.toNat := by
      have := congrArg UInt8.toNat h.1
      rw [UInt8.toNat_ofNat', UInt8.toNat_ofNat', Nat.mod_eq_of_lt (by omega), Nat.mod_eq_of_lt (by omega)] at this
      exact this
    rw [map_inj r s hx.tail hy.tail h.2, show a = b by omega]
theorem str_inj {x y : List Int} (hx : IsB x) (hy : IsB y) (h : (strOfNums x).toList = (strOfNums y).toList) : x = y := by
  rw [ByteArray.toList_eq, ByteArray.toList_eq] at h
  exact map_inj x y hx hy (by simpa [strOfNums] using h)
theorem same_ev (xn yn : Bool) (x y : List Int) (hx : IsB x) (hy : IsB y) : lapidaryref02_Same.f xn x yn y = some (decide ((xn, x) = (yn, y))) := by
  unfold lapidaryref02_Same.f
  by_cases h1 : xn = yn
  · subst h1
    rw [if_pos (by simp)]
    by_cases h2 : x = y
    · subst h2; simp
    · have h3 : (strOfNums x).toList ≠ (strOfNums y).toList := fun e => h2 (str_inj hx hy e)
      simp [h2, h3]
  · rw [if_neg (by simpa using h1)]; simp [h1]
/-- The plain law of WholeOrder. -/
theorem order_plain (xn yn zn : Bool) (x y z : List Int) (hx : IsB x) (hy : IsB y) (hz : IsB z) (sx : smallB xn x = true) (sy : smallB yn y = true) (sz : smallB zn z = true) :
    ∃ (k1 k2 k3 k4 k5 k6 k7 : Nat) (dn : Bool) (ld : List Int) (on : Bool) (lo : List Int) (c cyz cxz : Int),
    whole_Sub.f k1 xn x yn y = some (dn, ld, 0) ∧ ld.length ≤ 140737488355328 ∧ whole_Cmp.f k2 xn x yn y = some c ∧ whole_Of.f k3 0 = some (on, lo) ∧ lo.length ≤ 140737488355328 ∧ whole_Cmp.f k4 dn ld on lo = some c ∧
    whole_Cmp.f k5 yn y xn x = some (-c) ∧ whole_Cmp.f k6 yn y zn z = some cyz ∧ whole_Cmp.f k7 xn x zn z = some cxz ∧ -1 ≤ c ∧ c ≤ 1 ∧
    lapidaryref02_Same.f xn x yn y = some (decide (c = 0)) ∧ (c > 0 ∨ cyz > 0 ∨ cxz ≤ 0) := by
  obtain ⟨ex, fx⟩ := small_parts hx sx
  obtain ⟨ey, fy⟩ := small_parts hy sy
  obtain ⟨ez, fz⟩ := small_parts hz sz
  generalize ival xn x = X at *
  generalize ival yn y = Y at *
  generalize ival zn z = Z at *
  have gx := fx.mono (m := 128) (by omega)
  have gy := fy.mono (m := 128) (by omega)
  have gz := fz.mono (m := 128) (by omega)
  have fd : Fits (X - Y) 41 := by rw [Int.sub_eq_add_neg]; exact fx.add fy.neg
  have f0 : Fits 0 128 := Nat.pow_pos (by decide)
  obtain ⟨k1, h1⟩ := sub_go fx fy fd (by omega) (by omega) (by omega) rfl
  have c1 := cmp2_ev (nz X).1 (nz Y).1 _ _ (isB_nz X) (isB_nz Y)
  have c2 := cmp2_ev (nz (X - Y)).1 (nz 0).1 _ _ (isB_nz (X - Y)) (isB_nz 0)
  have c3 := cmp2_ev (nz Y).1 (nz X).1 _ _ (isB_nz Y) (isB_nz X)
  have c4 := cmp2_ev (nz Y).1 (nz Z).1 _ _ (isB_nz Y) (isB_nz Z)
  have c5 := cmp2_ev (nz X).1 (nz Z).1 _ _ (isB_nz X) (isB_nz Z)
  rw [cmp_nz gx gy, ex, ey] at c1
  have q1 : cmpZ (X - Y) 0 = cmpZ X Y := by
    unfold cmpZ
    repeat' split
    all_goals omega
  have q2 : cmpZ Y X = -cmpZ X Y := by
    unfold cmpZ
    repeat' split
    all_goals omega
  rw [cmp_nz (fd.mono (by omega)) f0, q1] at c2
  rw [cmp_nz gy gx, ex, ey, q2] at c3
  rw [cmp_nz gy gz, ey, ez] at c4
  rw [cmp_nz gx gz, ex, ez] at c5
  have ho := of_ev 0 (by omega) (by omega)
  have e0 : ofS 0 = nz 0 := rfl
  rw [e0] at ho
  obtain ⟨k2, g1⟩ := c1.rounds
  obtain ⟨k3, g0⟩ := ho.rounds
  obtain ⟨k4, g2⟩ := c2.rounds
  obtain ⟨k5, g3⟩ := c3.rounds
  obtain ⟨k6, g4⟩ := c4.rounds
  obtain ⟨k7, g5⟩ := c5.rounds
  rw [ex, ey] at h1
  refine ⟨k1, k2, k3, k4, k5, k6, k7, _, _, _, _, cmpZ X Y, cmpZ Y Z, cmpZ X Z, h1, len_go fd (by omega), g1, g0, len_go f0 (by omega), g2, g3, g4, g5, ?_, ?_, ?_, ?_⟩
  · unfold cmpZ; repeat' split
    all_goals omega
  · unfold cmpZ; repeat' split
    all_goals omega
  · rw [same_ev xn yn x y hx hy]
    have e : ((xn, x) = (yn, y)) ↔ cmpZ X Y = 0 := by
      rw [← ex, ← ey]
      constructor
      · intro h
        have h1 : X.natAbs = Y.natAbs := by rw [← bval_nz, ← bval_nz, h]
        have h2 : decide (X < 0) = decide (Y < 0) := by rw [← nz_fst, ← nz_fst, h]
        have h3 : X < 0 ↔ Y < 0 := by simpa using h2
        unfold cmpZ; rw [if_neg (by omega), if_neg (by omega)]
      · intro h
        have : X = Y := by
          unfold cmpZ at h
          by_cases h1 : X < Y
          · rw [if_pos h1] at h; omega
          · rw [if_neg h1] at h
            by_cases h2 : Y < X
            · rw [if_pos h2] at h; omega
            · omega
        rw [this]
    rw [decide_eq_decide.2 e]
  · unfold cmpZ; repeat' split
    all_goals omega

end Go.Proofs.Ytfjbhccapgnkiaa.P
