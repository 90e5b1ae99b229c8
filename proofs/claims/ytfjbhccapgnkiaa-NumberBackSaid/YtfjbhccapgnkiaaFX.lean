import Derived.Test.YtfjbhccapgnkiaaN1
namespace Go.Proofs.Ytfjbhccapgnkiaa.P
open Go.RowKit Go.Proofs.YtfjbhccapgnkiaaW.PrintWords Go.Proofs.YtfjbhccapgnkiaaW.PrintLast Go.Proofs.YtfjbhccapgnkiaaW.PrintMore
attribute [local go_sem] max2_int min2_int max_two min_two max_three min_three max_four min_four
set_option linter.unusedVariables false
set_option linter.unusedSimpArgs false

/-! ### Whole numbers as floats: the operations are exact -/
theorem dbl_least : Ieee.double.leastPlace = -1074 := by decide
theorem dbl_bin : Ieee.double.binade = 4503599627370496 := by decide
theorem dbl_inf : Ieee.double.infRung = 9218868437227405312 := by decide
theorem dbl_sign : Ieee.double.signWeight = 9223372036854775808 := by decide
theorem log2_mul_pow (n k : Nat) (h : n ≠ 0) : (n * 2 ^ k).log2 = n.log2 + k := by
  have hp : 0 < 2 ^ k := Nat.pow_pos (by decide)
  have h1 := (Nat.log2_eq_iff h).1 rfl
  have h0 : n * 2 ^ k ≠ 0 := by
    have := Nat.mul_pos (Nat.pos_of_ne_zero h) hp
    omega
  refine (Nat.log2_eq_iff h0).2 ⟨?_, ?_⟩
  · rw [Nat.pow_add]; exact Nat.mul_le_mul_right _ h1.1
  · rw [show n.log2 + k + 1 = (n.log2 + 1) + k from by omega, Nat.pow_add]; exact Nat.mul_lt_mul_of_pos_right h1.2 hp
theorem cut_exact (neg : Bool) (n d : Nat) (hd : d ≤ (n * 2 ^ d).log2 + 2) : Ieee.Toward.even.cut neg (n * 2 ^ d) d = n := by
  have hp : 0 < 2 ^ d := Nat.pow_pos (by decide)
  unfold Ieee.Toward.cut
  rw [Nat.min_eq_left hd]
  simp only [Nat.one_shiftLeft]
  rw [Nat.mul_div_cancel _ hp, Nat.mul_mod_left]
  have h2 : (2 ^ d == 2 * 0) = false := by simp; 
  have h1 : decide (2 ^ d < 2 * 0) = false := by simp
  rw [h1, h2]; simp
theorem word_parts (neg : Bool) (rung : Nat) (h : rung < 9223372036854775808) : (Ieee.double.word neg rung / 9223372036854775808 % 2 == 1) = neg ∧ Ieee.double.word neg rung % 9223372036854775808 = rung := by
  unfold Ieee.Format.word
  rw [dbl_sign]
  cases neg
  · rw [if_neg Bool.false_ne_true]
    rw [Nat.div_eq_of_lt h, Nat.mod_eq_of_lt h]
    exact ⟨rfl, rfl⟩
  · rw [if_pos rfl]
    have e1 : (9223372036854775808 + rung) / 9223372036854775808 = 1 := by omega
    have e2 : (9223372036854775808 + rung) % 9223372036854775808 = rung := by omega
    rw [e1, e2]
    exact ⟨rfl, rfl⟩
theorem read_word (neg : Bool) (L K : Nat) (hL : L ≤ 52) (h0 : 4503599627370496 ≤ K) (h1 : K < 9007199254740992) :
    Ieee.double.read (Ieee.double.word neg ((L + 1022) * 4503599627370496 + K)) = .number neg K ((L : Int) - 52) := by
  obtain ⟨e1, e2⟩ := word_parts neg ((L + 1022) * 4503599627370496 + K) (by omega)
  unfold Ieee.Format.read
  simp only [dbl_sign, dbl_bin, dbl_inf, dbl_least, e1, e2]
  rw [if_neg (by omega), if_pos (by omega)]
  have e3 : 4503599627370496 + ((L + 1022) * 4503599627370496 + K) % 4503599627370496 = K := by omega
  have e4 : ((L + 1022) * 4503599627370496 + K) / 4503599627370496 - 1 = L + 1022 := by omega
  rw [e3, e4, show (-1074 + ((L + 1022 : Nat) : Int)) = (L : Int) - 52 from by omega]
theorem read_zero (neg : Bool) : Ieee.double.read (Ieee.double.word neg 0) = .number neg 0 (-1074) := by
  obtain ⟨e1, e2⟩ := word_parts neg 0 (by omega)
  unfold Ieee.Format.read
  simp only [dbl_sign, dbl_bin, dbl_inf, dbl_least, e1, e2]
  exact if_pos (by omega)
theorem read_near (neg : Bool) (N k : Nat) (hN : N ≠ 0) (hN2 : N < 9007199254740992) :
    Ieee.double.read (Ieee.double.nearest neg (N * 2 ^ k) (-(k : Int))) = .number neg (N * 2 ^ (52 - N.log2)) ((N.log2 : Int) - 52) := by
  have hp : 0 < 2 ^ k := Nat.pow_pos (by decide)
  have h1 := (Nat.log2_eq_iff hN).1 rfl
  have hlg := log2_mul_pow N k hN
  have h0 : N * 2 ^ k ≠ 0 := by
    have := Nat.mul_pos (Nat.pos_of_ne_zero hN) hp
    omega
  have hL : N.log2 ≤ 52 := by
    apply Nat.le_of_not_lt
    intro h
    have : 2 ^ 53 ≤ 2 ^ N.log2 := Nat.pow_le_pow_right (by decide) h
    have e : (2 : Nat) ^ 53 = 9007199254740992 := by decide
    omega
  have hK : 4503599627370496 ≤ N * 2 ^ (52 - N.log2) ∧ N * 2 ^ (52 - N.log2) < 9007199254740992 := by
    have e52 : (2 : Nat) ^ 52 = 4503599627370496 := by decide
    have e53 : (2 : Nat) ^ 53 = 9007199254740992 := by decide
    constructor
    · rw [← e52, show (2 : Nat) ^ 52 = 2 ^ N.log2 * 2 ^ (52 - N.log2) from by rw [← Nat.pow_add]; congr 1; omega]
      exact Nat.mul_le_mul_right _ h1.1
    · rw [← e53, show (2 : Nat) ^ 53 = 2 ^ (N.log2 + 1) * 2 ^ (52 - N.log2) from by rw [← Nat.pow_add]; congr 1; omega]
      exact Nat.mul_lt_mul_of_pos_right h1.2 (Nat.pow_pos (by decide))
  have hlast : max (-(k : Int) + ((N * 2 ^ k).log2 : Int) - (Ieee.double.fractionBits : Int)) Ieee.double.leastPlace = (N.log2 : Int) - 52 := by
    rw [hlg, dbl_least]
    have : (Ieee.double.fractionBits : Int) = 52 := rfl
    rw [this]; omega
  have hkept : Ieee.Toward.even.cut neg ((N * 2 ^ k) <<< (-(k : Int) - ((N.log2 : Int) - 52)).toNat) (((N.log2 : Int) - 52) - -(k : Int)).toNat = N * 2 ^ (52 - N.log2) := by
    by_cases hc : k ≤ 52 - N.log2
    · rw [show (((N.log2 : Int) - 52) - -(k : Int)).toNat = 0 from by omega, show (-(k : Int) - ((N.log2 : Int) - 52)).toNat = 52 - N.log2 - k from by omega, Nat.shiftLeft_eq, Nat.mul_assoc, ← Nat.pow_add, show k + (52 - N.log2 - k) = 52 - N.log2 from by omega]
      have h := cut_exact neg (N * 2 ^ (52 - N.log2)) 0 (by omega)
      rw [Nat.pow_zero, Nat.mul_one] at h
      exact h
    · rw [show (-(k : Int) - ((N.log2 : Int) - 52)).toNat = 0 from by omega, show (((N.log2 : Int) - 52) - -(k : Int)).toNat = k - (52 - N.log2) from by omega, Nat.shiftLeft_zero]
      have e : N * 2 ^ k = N * 2 ^ (52 - N.log2) * 2 ^ (k - (52 - N.log2)) := by
        rw [Nat.mul_assoc, ← Nat.pow_add]; congr 2; omega
      have hd : k - (52 - N.log2) ≤ (N * 2 ^ (52 - N.log2) * 2 ^ (k - (52 - N.log2))).log2 + 2 := by rw [← e, hlg]; omega
      rw [e]
      exact cut_exact neg _ _ hd
  unfold Ieee.Format.nearest
  rw [if_neg h0]
  dsimp only
  rw [hlast, hkept, dbl_least, dbl_bin, dbl_inf]
  rw [show ((N.log2 : Int) - 52 - -1074).toNat = N.log2 + 1022 from by omega]
  rw [Nat.min_eq_left (by omega)]
  exact read_word neg N.log2 _ hL hK.1 hK.2
/-- A datum that stands for the whole number n. -/
def VD (d : Ieee.Datum) (n : Int) : Prop := ∃ (s : Bool) (k : Nat), d = .number s (n.natAbs * 2 ^ k) (-(k : Int)) ∧ (n ≠ 0 → s = decide (n < 0))
def VF (b : Nat) (n : Int) : Prop := VD (Ieee.double.read b) n
theorem VD.write {s : Bool} {n : Int} {m : Nat} {i : Int} (hz : n = 0 → m = 0) (hm : n ≠ 0 → ∃ k : Nat, m = n.natAbs * 2 ^ k ∧ i = -(k : Int)) (hs : n ≠ 0 → s = decide (n < 0)) (hb : n.natAbs < 9007199254740992) : VF (Ieee.double.write (.number s m i)) n := by
  by_cases h : n = 0
  · rw [hz h]
    show VD (Ieee.double.read (Ieee.double.nearest s 0 i)) n
    unfold Ieee.Format.nearest
    rw [if_pos rfl, read_zero]
    have e : ∀ k : Nat, Ieee.Datum.number s 0 (-(k : Int)) = .number s ((0 : Int).natAbs * 2 ^ k) (-(k : Int)) := fun k => by simp
    exact ⟨s, 1074, by rw [h]; exact e 1074, fun h' => absurd h h'⟩
  · obtain ⟨k, rfl, rfl⟩ := hm h
    show VD (Ieee.double.read (Ieee.double.nearest s _ _)) n
    rw [read_near s n.natAbs k (by omega) hb]
    have hL : n.natAbs.log2 ≤ 52 := by
      have h1 := (Nat.log2_eq_iff (n := n.natAbs) (by omega)).1 rfl
      apply Nat.le_of_not_lt
      intro h
      have : 2 ^ 53 ≤ 2 ^ n.natAbs.log2 := Nat.pow_le_pow_right (by decide) h
      have e : (2 : Nat) ^ 53 = 9007199254740992 := by decide
      omega
    exact ⟨s, 52 - n.natAbs.log2, by congr 1; omega, hs⟩
theorem VD.opposite {d : Ieee.Datum} {n : Int} (h : VD d n) : VD d.opposite (-n) := by
  obtain ⟨s, k, rfl, hs⟩ := h
  refine ⟨!s, k, by rw [Int.natAbs_neg]; rfl, fun h => ?_⟩
  rw [hs (by omega)]
  by_cases h2 : n < 0
  · rw [decide_eq_true h2, decide_eq_false (by omega)]; rfl
  · rw [decide_eq_false h2, decide_eq_true (by omega)]; rfl
theorem VF.near (n : Int) (hb : n.natAbs < 9007199254740992) : VF (FloatKind.f64.nearest n) n :=
  VD.write (s := decide (n < 0)) (m := n.natAbs) (i := 0) (fun h => by rw [h]; rfl) (fun _ => ⟨0, by simp, by simp⟩) (fun _ => rfl) hb
theorem VD.product {d e : Ieee.Datum} {n m : Int} (h : VD d n) (g : VD e m) : ∃ q, d.product e = some q ∧ VD q (n * m) := by
  obtain ⟨s, k, rfl, hs⟩ := h
  obtain ⟨t, j, rfl, ht⟩ := g
  refine ⟨_, rfl, s ^^ t, k + j, ?_, fun h => ?_⟩
  · rw [Int.natAbs_mul, Nat.pow_add]
    congr 1
    · rw [Nat.mul_assoc, Nat.mul_left_comm (2 ^ k), ← Nat.mul_assoc]
    · omega
  · have hn : n ≠ 0 := fun e => h (by rw [e, Int.zero_mul])
    have hm : m ≠ 0 := fun e => h (by rw [e, Int.mul_zero])
    rw [hs hn, ht hm]
    by_cases h1 : n < 0
    · by_cases h2 : m < 0
      · rw [decide_eq_true h1, decide_eq_true h2, decide_eq_false (by have := Int.mul_pos_of_neg_of_neg h1 h2; omega)]; rfl
      · rw [decide_eq_true h1, decide_eq_false h2, decide_eq_true (Int.mul_neg_of_neg_of_pos h1 (by omega))]; rfl
    · by_cases h2 : m < 0
      · rw [decide_eq_false h1, decide_eq_true h2, decide_eq_true (Int.mul_neg_of_pos_of_neg (by omega) h2)]; rfl
      · rw [decide_eq_false h1, decide_eq_false h2, decide_eq_false (by have := Int.mul_pos (a := n) (b := m) (by omega) (by omega); omega)]; rfl
theorem signed_val {s : Bool} {n : Int} {k u : Nat} (hs : n ≠ 0 → s = decide (n < 0)) : Ieee.signed s (n.natAbs * 2 ^ k) u = n * ((2 ^ (k + u) : Nat) : Int) := by
  unfold Ieee.signed
  rw [Nat.shiftLeft_eq, Nat.mul_assoc, ← Nat.pow_add]
  by_cases h : n = 0
  · subst h; simp
  · rw [hs h]
    by_cases h1 : n < 0
    · rw [decide_eq_true h1, if_pos rfl, Int.natCast_mul, ← Int.neg_mul, show -((n.natAbs : Nat) : Int) = n from by omega]
    · rw [decide_eq_false h1, if_neg Bool.false_ne_true, Int.natCast_mul, show ((n.natAbs : Nat) : Int) = n from by omega]
theorem VD.sum {d e : Ieee.Datum} {n m : Int} (h : VD d n) (g : VD e m) : ∃ s M i, d.sum e = some (.number s M i) ∧ (n + m = 0 → M = 0) ∧ (n + m ≠ 0 → ∃ k : Nat, M = (n + m).natAbs * 2 ^ k ∧ i = -(k : Int)) ∧ (n + m ≠ 0 → s = decide (n + m < 0)) := by
  obtain ⟨s, k, rfl, hs⟩ := h
  obtain ⟨t, j, rfl, ht⟩ := g
  have hbase : min (-(k : Int)) (-(j : Int)) = -((max k j : Nat) : Int) := by omega
  have e1 : Ieee.signed s (n.natAbs * 2 ^ k) (-(k : Int) - min (-(k : Int)) (-(j : Int))).toNat = n * ((2 ^ (max k j) : Nat) : Int) := by
    rw [signed_val hs]; congr 3; omega
  have e2 : Ieee.signed t (m.natAbs * 2 ^ j) (-(j : Int) - min (-(k : Int)) (-(j : Int))).toNat = m * ((2 ^ (max k j) : Nat) : Int) := by
    rw [signed_val ht]; congr 3; omega
  have hp : (0 : Int) < ((2 ^ (max k j) : Nat) : Int) := by have : 0 < 2 ^ (max k j) := Nat.pow_pos (by decide); omega
  have e3 : Ieee.signed s (n.natAbs * 2 ^ k) (-(k : Int) - min (-(k : Int)) (-(j : Int))).toNat + Ieee.signed t (m.natAbs * 2 ^ j) (-(j : Int) - min (-(k : Int)) (-(j : Int))).toNat = (n + m) * ((2 ^ (max k j) : Nat) : Int) := by rw [e1, e2, Int.add_mul]
  have e4 : (0 : Int) < (2 ^ (max k j) : Nat) := hp
  have e5 : n + m = 0 ↔ (n + m) * ((2 ^ (max k j) : Nat) : Int) = 0 := by
    constructor
    · intro h; rw [h, Int.zero_mul]
    · intro h; rcases Int.mul_eq_zero.1 h with h | h
      · exact h
      · omega
  have e6 : n + m < 0 ↔ (n + m) * ((2 ^ (max k j) : Nat) : Int) < 0 := by
    constructor
    · intro h; exact Int.mul_neg_of_neg_of_pos h hp
    · intro h
      apply Int.not_le.1
      intro h2
      have := Int.mul_nonneg h2 (Int.le_of_lt hp)
      omega
  refine ⟨_, _, _, rfl, fun h => ?_, fun h => ⟨max k j, ?_, hbase⟩, fun h => ?_⟩
  · rw [e3, e5.1 h]; rfl
  · rw [e3, Int.natAbs_mul, Int.natAbs_natCast]
  · rw [e3, if_neg (fun h2 => h (e5.2 h2))]
    by_cases h1 : n + m < 0
    · rw [decide_eq_true h1, decide_eq_true (e6.1 h1)]
    · rw [decide_eq_false h1, decide_eq_false (fun h2 => h1 (e6.2 h2))]
theorem VF.mul {x y r : Nat} {n m : Int} (h : VF x n) (g : VF y m) (hb : (n * m).natAbs < 9007199254740992) (hr : FO .mul x y r) : VF r (n * m) := by
  obtain ⟨q, e1, hq⟩ := VD.product h g
  have e2 : floatBits .mul .f64 x y = some (Ieee.double.write q) := by
    show (Option.map Ieee.double.write ((Ieee.double.read x).product (Ieee.double.read y))) = _
    rw [e1]; rfl
  unfold FO at hr
  rw [e2] at hr
  subst hr
  obtain ⟨s, k, rfl, hs⟩ := hq
  exact VD.write (fun h => by rw [h]; simp) (fun _ => ⟨k, rfl, rfl⟩) hs hb
theorem VF.add {x y r : Nat} {n m : Int} (h : VF x n) (g : VF y m) (hb : (n + m).natAbs < 9007199254740992) (hr : FO .add x y r) : VF r (n + m) := by
  obtain ⟨s, M, i, e1, h1, h2, h3⟩ := VD.sum h g
  have e2 : floatBits .add .f64 x y = some (Ieee.double.write (.number s M i)) := by
    show (Option.map Ieee.double.write ((Ieee.double.read x).sum (Ieee.double.read y))) = _
    rw [e1]; rfl
  unfold FO at hr
  rw [e2] at hr
  subst hr
  exact VD.write h1 h2 h3 hb
theorem VF.sub {x y r : Nat} {n m : Int} (h : VF x n) (g : VF y m) (hb : (n - m).natAbs < 9007199254740992) (hr : FO .sub x y r) : VF r (n - m) := by
  obtain ⟨s, M, i, e1, h1, h2, h3⟩ := VD.sum h (VD.opposite g)
  have e2 : floatBits .sub .f64 x y = some (Ieee.double.write (.number s M i)) := by
    show (Option.map Ieee.double.write ((Ieee.double.read x).sum (Ieee.double.read y).opposite)) = _
    rw [e1]; rfl
  unfold FO at hr
  rw [e2] at hr
  subst hr
  rw [Int.sub_eq_add_neg] at hb ⊢
  exact VD.write h1 h2 h3 hb
theorem VF.same {x y : Nat} {n : Int} (h : VF x n) (g : VF y n) : FloatKind.f64.format.order x y = some .eq := by
  show (Ieee.double.read x).order (Ieee.double.read y) = _
  obtain ⟨s, k, e1, hs⟩ := h
  obtain ⟨t, j, e2, ht⟩ := g
  rw [e1, e2]
  show some (compare (Ieee.signed s (n.natAbs * 2 ^ k) (-(k : Int) - min (-(k : Int)) (-(j : Int))).toNat) (Ieee.signed t (n.natAbs * 2 ^ j) (-(j : Int) - min (-(k : Int)) (-(j : Int))).toNat)) = _
  have e1 : Ieee.signed s (n.natAbs * 2 ^ k) (-(k : Int) - min (-(k : Int)) (-(j : Int))).toNat = n * ((2 ^ (max k j) : Nat) : Int) := by
    rw [signed_val hs]; congr 3; omega
  have e2 : Ieee.signed t (n.natAbs * 2 ^ j) (-(j : Int) - min (-(k : Int)) (-(j : Int))).toNat = n * ((2 ^ (max k j) : Nat) : Int) := by
    rw [signed_val ht]; congr 3; omega
  rw [e1, e2]
  simp

end Go.Proofs.Ytfjbhccapgnkiaa.P
