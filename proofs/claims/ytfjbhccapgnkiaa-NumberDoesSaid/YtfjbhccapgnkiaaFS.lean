import Derived.Test.YtfjbhccapgnkiaaN29
import Derived.Test.YtfjbhccapgnkiaaN11
namespace Go.Proofs.Ytfjbhccapgnkiaa.P
open Go.RowKit Go.Proofs.YtfjbhccapgnkiaaW.PrintWords Go.Proofs.YtfjbhccapgnkiaaW.PrintLast Go.Proofs.YtfjbhccapgnkiaaW.PrintMore
attribute [local go_sem] max2_int min2_int max_two min_two max_three min_three max_four min_four
set_option linter.unusedVariables false
set_option maxHeartbeats 16000000
set_option maxRecDepth 100000
set_option linter.unusedSimpArgs false
/-! ### Floats that are alike: one for all that are no number -/
theorem sim_cases {x y : Nat} (h : bitsN x = bitsN y) : (nanB x = true ∧ nanB y = true) ∨ (nanB x = false ∧ nanB y = false ∧ x = y) := by
 cases hx : nanB x <;> cases hy : nanB y
 ·exact .inr ⟨rfl, rfl, by rw [bitsN_num hx, bitsN_num hy] at h; exact h⟩
 ·rw [bitsN_num hx, bitsN_nan hy] at h
  rw [h, nanB_q] at hx
  cases hx
 ·rw [bitsN_nan hx, bitsN_num hy] at h
  rw [← h, nanB_q] at hy
  cases hy
 ·exact .inl ⟨rfl, rfl⟩
theorem sim_nan {x y : Nat} (hx : nanB x = true) (hy : nanB y = true) : bitsN x = bitsN y := by rw [bitsN_nan hx, bitsN_nan hy]
theorem FO.val {op : BinOp} {x y r v : Nat} (h : FO op x y r) (hv : floatBits op .f64 x y = some v) : r = v := by unfold FO at h; rw [hv] at h; exact h
def Op4 (op : BinOp) : Prop := op = .add ∨ op = .sub ∨ op = .mul ∨ op = .quo
theorem read_nan {x : Nat} (h : nanB x = true) : ∃ s f, Ieee.double.read x = .nan s f := by
 unfold nanB at h
 cases hd : Ieee.double.read x with
 | nan s f => exact ⟨s, f, rfl⟩
 | number s m e => rw [hd] at h; simp [Ieee.Datum.isNaN] at h
 | infinity s => rw [hd] at h; simp [Ieee.Datum.isNaN] at h
theorem fb_add (x y : Nat) : floatBits .add .f64 x y = ((Ieee.double.read x).sum (Ieee.double.read y)).map Ieee.double.write := rfl
theorem fb_sub (x y : Nat) : floatBits .sub .f64 x y = ((Ieee.double.read x).sum (Ieee.double.read y).opposite).map Ieee.double.write := rfl
theorem fb_mul (x y : Nat) : floatBits .mul .f64 x y = ((Ieee.double.read x).product (Ieee.double.read y)).map Ieee.double.write := rfl
theorem fb_quo (x y : Nat) : floatBits .quo .f64 x y = ((Ieee.double.read x).quotient (Ieee.double.fractionBits + 2) (Ieee.double.read y)).map Ieee.double.write := rfl
theorem fb_nan {op : BinOp} (hop : Op4 op) {x y : Nat} (h : nanB x = true ∨ nanB y = true) : floatBits op .f64 x y = none := by
 rcases h with h | h
 ·obtain ⟨s, f, e⟩ := read_nan h
  rcases hop with rfl | rfl | rfl | rfl
  ·rw [fb_add, e]; rfl
  ·rw [fb_sub, e]; rfl
  ·rw [fb_mul, e]; rfl
  ·rw [fb_quo, e]; rfl
 ·obtain ⟨s, f, e⟩ := read_nan h
  rcases hop with rfl | rfl | rfl | rfl
  ·rw [fb_add, e]; cases Ieee.double.read x <;> rfl
  ·rw [fb_sub, e]; cases Ieee.double.read x <;> rfl
  ·rw [fb_mul, e]; cases Ieee.double.read x <;> rfl
  ·rw [fb_quo, e]; cases Ieee.double.read x <;> rfl
theorem FO.none {op : BinOp} {x y r : Nat} (h : FO op x y r) (e : floatBits op .f64 x y = none) : nanB r = true := by
 unfold FO at h; rw [e] at h; exact h.1
theorem FO.same {op op' : BinOp} {x y r x' y' r' : Nat} (h : FO op x y r) (h' : FO op' x' y' r') (e : floatBits op .f64 x y = floatBits op' .f64 x' y') : bitsN r = bitsN r' := by
 cases hv : floatBits op' .f64 x' y' with
 | none => exact sim_nan (h.none (e.trans hv)) (h'.none hv)
 | some v =>
  have e1 := h.val (e.trans hv)
  have e2 := h'.val hv
  rw [e1, e2]
theorem FO.alike {op : BinOp} (hop : Op4 op) {x y r x' y' r' : Nat} (hx : bitsN x = bitsN x') (hy : bitsN y = bitsN y') (h : FO op x y r) (h' : FO op x' y' r') : bitsN r = bitsN r' := by
 rcases sim_cases hx with ⟨a, b⟩ | ⟨a, b, rfl⟩
 ·exact h.same h' ((fb_nan hop (.inl a)).trans (fb_nan hop (.inl b)).symm)
 ·rcases sim_cases hy with ⟨c, d⟩ | ⟨c, d, rfl⟩
  ·exact h.same h' ((fb_nan hop (.inr c)).trans (fb_nan hop (.inr d)).symm)
  ·exact h.same h' rfl
theorem sum_comm (d e : Ieee.Datum) : d.sum e = e.sum d := by
 cases d <;> cases e <;> simp only [Ieee.Datum.sum]
 ·rename_i s m i t n j
  rw [Int.min_comm j i, Int.add_comm (Ieee.signed t n _), Bool.and_comm t s]
 ·rename_i s t
  by_cases h : s = t
  ·subst h; rfl
  ·rw [if_neg h, if_neg (fun e => h e.symm)]
theorem product_comm (d e : Ieee.Datum) : d.product e = e.product d := by
 cases d <;> cases e <;> simp only [Ieee.Datum.product]
 ·rename_i s m i t n j
  rw [Nat.mul_comm n m, Int.add_comm j i, Bool.xor_comm t s]
 ·rename_i s t
  rw [Bool.xor_comm]
theorem fb_add_comm (x y : Nat) : floatBits .add .f64 x y = floatBits .add .f64 y x := by rw [fb_add, fb_add, sum_comm]
theorem fb_mul_comm (x y : Nat) : floatBits .mul .f64 x y = floatBits .mul .f64 y x := by rw [fb_mul, fb_mul, product_comm]
theorem FO.add_comm {x y r : Nat} (h : FO .add x y r) : FO .add y x r := by unfold FO at h ⊢; rw [fb_add_comm y x]; exact h
theorem FO.mul_comm {x y r : Nat} (h : FO .mul x y r) : FO .mul y x r := by unfold FO at h ⊢; rw [fb_mul_comm y x]; exact h
theorem op_add : Op4 .add := .inl rfl
theorem op_sub : Op4 .sub := .inr (.inl rfl)
theorem op_mul : Op4 .mul := .inr (.inr (.inl rfl))
theorem op_quo : Op4 .quo := .inr (.inr (.inr rfl))
theorem TimesR.alike {a b c d re im a' b' c' d' re' im' : Nat} (ha : bitsN a = bitsN a') (hb : bitsN b = bitsN b') (hc : bitsN c = bitsN c') (hd : bitsN d = bitsN d') (h : TimesR a b c d re im) (h' : TimesR a' b' c' d' re' im') : bitsN re = bitsN re' ∧ bitsN im = bitsN im' := by
 obtain ⟨p, q, s, t, h1, h2, h3, h4, h5, h6⟩ := h
 obtain ⟨p', q', s', t', g1, g2, g3, g4, g5, g6⟩ := h'
 exact ⟨FO.alike op_sub (FO.alike op_mul ha hc h1 g1) (FO.alike op_mul hb hd h2 g2) h3 g3, FO.alike op_add (FO.alike op_mul ha hd h4 g4) (FO.alike op_mul hb hc h5 g5) h6 g6⟩
theorem opp_opp (d : Ieee.Datum) : d.opposite.opposite = d := by cases d <;> simp [Ieee.Datum.opposite]
theorem xor_top {y : Nat} (h : y < 18446744073709551616) : ((y ^^^ 9223372036854775808) / 9223372036854775808 % 2 == 1) = !(y / 9223372036854775808 % 2 == 1) ∧ (y ^^^ 9223372036854775808) % 9223372036854775808 = y % 9223372036854775808 := by
 have e1 : (y ^^^ 2 ^ 63) / 2 ^ 63 = y / 2 ^ 63 ^^^ 2 ^ 63 / 2 ^ 63 := Nat.xor_div_two_pow
 have e2 : (y ^^^ 2 ^ 63) % 2 ^ 63 = y % 2 ^ 63 ^^^ 2 ^ 63 % 2 ^ 63 := Nat.xor_mod_two_pow
 rw [show (2 : Nat) ^ 63 = 9223372036854775808 from by decide] at e1 e2
 rw [Nat.mod_self, Nat.xor_zero] at e2
 refine ⟨?_, e2⟩
 rw [e1, Nat.div_self (by decide)]
 have h2 : y / 9223372036854775808 = 0 ∨ y / 9223372036854775808 = 1 := by omega
 rcases h2 with h2 | h2 <;> rw [h2] <;> rfl
theorem read_neg {y : Nat} (h : y < 18446744073709551616) : Ieee.double.read (Op.negFloat .f64 y) = (Ieee.double.read y).opposite := by
 obtain ⟨e1, e2⟩ := xor_top h
 have hs : Ieee.double.signWeight = 9223372036854775808 := by decide
 have hn : Op.negFloat .f64 y = y ^^^ 9223372036854775808 := by
  unfold Op.negFloat
  rw [show (2 : Nat) ^ (FloatKind.f64.format.exponentBits + FloatKind.f64.format.fractionBits) = 9223372036854775808 from by decide]
 rw [hn]
 unfold Ieee.Format.read
 simp only [hs, e1, e2]
 split
 ·rfl
 ·split
  ·rfl
  ·split <;> rfl
theorem word_opp (s : Bool) {r : Nat} (hr : r ≤ 9218868437227405312) : Ieee.double.read (Ieee.double.word (!s) r) = (Ieee.double.read (Ieee.double.word s r)).opposite := by
 have hs : Ieee.double.signWeight = 9223372036854775808 := by decide
 have e1 : ∀ s : Bool, (Ieee.double.word s r / 9223372036854775808 % 2 == 1) = s ∧ Ieee.double.word s r % 9223372036854775808 = r := fun s => by
  unfold Ieee.Format.word
  rw [hs]
  cases s
  ·rw [if_neg Bool.false_ne_true]; exact ⟨by rw [Nat.div_eq_of_lt (by omega)]; rfl, Nat.mod_eq_of_lt (by omega)⟩
  ·rw [if_pos rfl, show (9223372036854775808 + r) / 9223372036854775808 = 1 from by omega, show (9223372036854775808 + r) % 9223372036854775808 = r from by omega]; exact ⟨rfl, rfl⟩
 unfold Ieee.Format.read
 simp only [hs, (e1 s).1, (e1 s).2, (e1 (!s)).1, (e1 (!s)).2]
 split
 ·rfl
 ·split
  ·rfl
  ·split <;> rfl
theorem near_le (s : Bool) (m : Nat) (p : Int) : ∃ r, r ≤ 9218868437227405312 ∧ ∀ s : Bool, Ieee.double.nearest s m p = Ieee.double.word s r := by
 have hi : Ieee.double.infRung = 9218868437227405312 := by decide
 by_cases hm : m = 0
 ·exact ⟨0, by omega, fun s => by unfold Ieee.Format.nearest; rw [if_pos hm]⟩
 ·refine ⟨min ((max (p + m.log2 - Ieee.double.fractionBits) Ieee.double.leastPlace - Ieee.double.leastPlace).toNat * Ieee.double.binade + Ieee.Toward.even.cut true (m <<< (p - max (p + m.log2 - Ieee.double.fractionBits) Ieee.double.leastPlace).toNat) (max (p + m.log2 - Ieee.double.fractionBits) Ieee.double.leastPlace - p).toNat) Ieee.double.infRung, ?_, fun s => ?_⟩
  ·rw [hi]; exact Nat.min_le_right _ _
  ·unfold Ieee.Format.nearest; rw [if_neg hm]; rfl
theorem write_opp {d : Ieee.Datum} (h : d.isNaN = false) : Ieee.double.read (Ieee.double.write d.opposite) = (Ieee.double.read (Ieee.double.write d)).opposite := by
 cases d with
 | nan s f => cases h
 | infinity s => exact word_opp s (by decide)
 | number s m p =>
  obtain ⟨r, hr, he⟩ := near_le s m p
  show Ieee.double.read (Ieee.double.nearest (!s) m p) = (Ieee.double.read (Ieee.double.nearest s m p)).opposite
  rw [he, he]
  exact word_opp s hr
theorem product_opp (d e : Ieee.Datum) : d.product e.opposite = (d.product e).map Ieee.Datum.opposite := by
 cases d <;> cases e <;> simp only [Ieee.Datum.product, Ieee.Datum.opposite, Option.map_none, Option.map_some]
 all_goals first
  | (split <;> simp [Ieee.Datum.opposite]; done)
  | (simp [Ieee.Datum.opposite]; done)
theorem product_num {d e q : Ieee.Datum} (h : d.product e = some q) : q.isNaN = false := by
 cases d <;> cases e <;> simp only [Ieee.Datum.product] at h
 all_goals first
  | (cases h; done)
  | (split at h <;> first | (cases h; done) | (obtain rfl := Option.some.inj h; rfl))
  | (obtain rfl := Option.some.inj h; rfl)
/-- A product with the one turned over is turned over, or neither is a number. -/
theorem mul_neg {x y q q' : Nat} (hy : y < 18446744073709551616) (h : FO .mul x (Op.negFloat .f64 y) q) (h' : FO .mul x y q') : (nanB q = true ∧ nanB q' = true) ∨ Ieee.double.read q = (Ieee.double.read q').opposite := by
 have e1 : floatBits .mul .f64 x (Op.negFloat .f64 y) = (((Ieee.double.read x).product (Ieee.double.read y)).map Ieee.Datum.opposite).map Ieee.double.write := by
  rw [fb_mul, read_neg hy, product_opp]
 have e2 := fb_mul x y
 cases hp : (Ieee.double.read x).product (Ieee.double.read y) with
 | none =>
  rw [hp] at e1 e2
  exact .inl ⟨h.none e1, h'.none e2⟩
 | some d =>
  rw [hp] at e1 e2
  right
  rw [h.val e1, h'.val e2]
  exact write_opp (product_num hp)
theorem OverR.alike {a b c d re im re' im' : Nat} (hd : d < 18446744073709551616) (h : OverR a b c d re im) (h' : ROverR a b c d re' im') : bitsN re = bitsN re' ∧ bitsN im = bitsN im' := by
 obtain ⟨p, q, n, x, y, h1, h2, h3, ⟨u, v, s, t, k1, k2, k3, k4, k5, k6⟩, h4, h5⟩ := h
 obtain ⟨p', q', n', x1, x2, x', y1, y2, y', g1, g2, g3, g4, g5, g6, g7, g8, g9, g10, g11⟩ := h'
 have en : bitsN n = bitsN n' := FO.alike op_add (FO.alike op_mul rfl rfl h1 g1) (FO.alike op_mul rfl rfl h2 g2) h3 g3
 constructor
 ·refine FO.alike op_quo ?_ en h4 g7
  have eu : bitsN u = bitsN x1 := FO.alike op_mul rfl rfl k1 g4
  rcases mul_neg hd k2 g5 with ⟨m1, m2⟩ | hv
  ·exact k3.same g6 ((fb_nan op_sub (.inr m1)).trans (fb_nan op_add (.inr m2)).symm)
  ·rcases sim_cases eu with ⟨m1, m2⟩ | ⟨m1, m2, rfl⟩
   ·exact k3.same g6 ((fb_nan op_sub (.inl m1)).trans (fb_nan op_add (.inl m2)).symm)
   ·exact k3.same g6 (by rw [fb_sub, fb_add, hv, opp_opp])
 ·refine FO.alike op_quo ?_ en h5 g11
  have et : bitsN t = bitsN y1 := FO.alike op_mul rfl rfl k5 g8
  rcases mul_neg hd k4 g9 with ⟨m1, m2⟩ | hv
  ·exact k6.same g10 ((fb_nan op_add (.inl m1)).trans (fb_nan op_sub (.inr m2)).symm)
  ·rcases sim_cases et with ⟨m1, m2⟩ | ⟨m1, m2, rfl⟩
   ·exact k6.same g10 ((fb_nan op_add (.inr m1)).trans (fb_nan op_sub (.inl m2)).symm)
   ·exact k6.same g10 (by rw [fb_sub, fb_add, hv, sum_comm])
/-! ### An operation on two floats, either way round -/
theorem bsame_of {a b : Nat} (h : bitsN a = bitsN b) : bsame a b = true := decide_eq_true h
end Go.Proofs.Ytfjbhccapgnkiaa.P
