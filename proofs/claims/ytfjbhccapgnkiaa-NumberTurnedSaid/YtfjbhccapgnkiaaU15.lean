import Derived.Test.YtfjbhccapgnkiaaU1r
import Derived.Test.YtfjbhccapgnkiaaB5
import Derived.Test.YtfjbhccapgnkiaaB5a
import Derived.Test.YtfjbhccapgnkiaaB7
import Derived.Test.YtfjbhccapgnkiaaN6
import Derived.Test.YtfjbhccapgnkiaaN11t
namespace Go.Proofs.Ytfjbhccapgnkiaa.P
open Go.RowKit Go.Proofs.YtfjbhccapgnkiaaW.PrintWords Go.Proofs.YtfjbhccapgnkiaaW.PrintLast Go.Proofs.YtfjbhccapgnkiaaW.PrintMore
attribute [local go_sem] max2_int min2_int max_two min_two max_three min_three max_four min_four
set_option linter.unusedVariables false
set_option linter.unusedSimpArgs false

/-! ### Floats that are alike: one for all that are no number -/
theorem sim_cases {x y : Nat} (h : bitsN x = bitsN y) : (nanB x = true ∧ nanB y = true) ∨ (nanB x = false ∧ nanB y = false ∧ x = y) := by
  cases hx : nanB x <;> cases hy : nanB y
  · exact .inr ⟨rfl, rfl, by rw [bitsN_num hx, bitsN_num hy] at h; exact h⟩
  · rw [bitsN_num hx, bitsN_nan hy] at h
    rw [h, nanB_q] at hx
    cases hx
  · rw [bitsN_nan hx, bitsN_num hy] at h
    rw [← h, nanB_q] at hy
    cases hy
  · exact .inl ⟨rfl, rfl⟩
theorem sim_nan {x y : Nat} (hx : nanB x = true) (hy : nanB y = true) : bitsN x = bitsN y := by rw [bitsN_nan hx, bitsN_nan hy]
theorem FO.val {op : BinOp} {x y r v : Nat} (h : FO op x y r) (hv : floatBits op .f64 x y = some v) : r = v := by unfold FO at h; rw [hv] at h; exact h
def Op4 (op : BinOp) : Prop := op = .add ∨ op = .sub ∨ op = .mul ∨ op = .quo
theorem read_nan {x : Nat} (h : nanB x = true) : ∃ s f, Ieee.double.read x = .nan s f := by
  unfold nanB at h
  cases hd : Ieee.double.read x with
  | nan s f => exact ⟨s, f, rfl⟩
  | number s m e => rw [hd] at h; simp [Ieee.Datum.isNaN] at h
  | infinity s => rw [hd] at h; simp [Ieee.Datum.isNaN] at h
theorem fb_add (x y : Nat) : floatBits .add .f64 x y = ((Ieee.double.read x).sum (Ieee.double.read y)).map Ieee.double.write := rfl
theorem fb_sub (x y : Nat) : floatBits .sub .f64 x y = ((Ieee.double.read x).sum (Ieee.double.read y).opposite).map Ieee.double.write := rfl
theorem fb_mul (x y : Nat) : floatBits .mul .f64 x y = ((Ieee.double.read x).product (Ieee.double.read y)).map Ieee.double.write := rfl
theorem fb_quo (x y : Nat) : floatBits .quo .f64 x y = ((Ieee.double.read x).quotient (Ieee.double.fractionBits + 2) (Ieee.double.read y)).map Ieee.double.write := rfl
theorem fb_nan {op : BinOp} (hop : Op4 op) {x y : Nat} (h : nanB x = true ∨ nanB y = true) : floatBits op .f64 x y = none := by
  rcases h with h | h
  · obtain ⟨s, f, e⟩ := read_nan h
    rcases hop with rfl | rfl | rfl | rfl
    · rw [fb_add, e]; rfl
    · rw [fb_sub, e]; rfl
    · rw [fb_mul, e]; rfl
    · rw [fb_quo, e]; rfl
  · obtain ⟨s, f, e⟩ := read_nan h
    rcases hop with rfl | rfl | rfl | rfl
    · rw [fb_add, e]; cases Ieee.double.read x <;> rfl
    · rw [fb_sub, e]; cases Ieee.double.read x <;> rfl
    · rw [fb_mul, e]; cases Ieee.double.read x <;> rfl
    · rw [fb_quo, e]; cases Ieee.double.read x <;> rfl
theorem FO.none {op : BinOp} {x y r : Nat} (h : FO op x y r) (e : floatBits op .f64 x y = none) : nanB r = true := by
  unfold FO at h; rw [e] at h; exact h.1
theorem FO.same {op op' : BinOp} {x y r x' y' r' : Nat} (h : FO op x y r) (h' : FO op' x' y' r') (e : floatBits op .f64 x y = floatBits op' .f64 x' y') : bitsN r = bitsN r' := by
  cases hv : floatBits op' .f64 x' y' with
  | none => exact sim_nan (h.none (e.trans hv)) (h'.none hv)
  | some v =>
    have e1 := h.val (e.trans hv)
    have e2 := h'.val hv
    rw [e1, e2]
theorem FO.alike {op : BinOp} (hop : Op4 op) {x y r x' y' r' : Nat} (hx : bitsN x = bitsN x') (hy : bitsN y = bitsN y') (h : FO op x y r) (h' : FO op x' y' r') : bitsN r = bitsN r' := by
  rcases sim_cases hx with ⟨a, b⟩ | ⟨a, b, rfl⟩
  · exact h.same h' ((fb_nan hop (.inl a)).trans (fb_nan hop (.inl b)).symm)
  · rcases sim_cases hy with ⟨c, d⟩ | ⟨c, d, rfl⟩
    · exact h.same h' ((fb_nan hop (.inr c)).trans (fb_nan hop (.inr d)).symm)
    · exact h.same h' rfl
theorem sum_comm (d e : Ieee.Datum) : d.sum e = e.sum d := by
  cases d <;> cases e <;> simp only [Ieee.Datum.sum]
  · rename_i s m i t n j
    rw [Int.min_comm j i, Int.add_comm (Ieee.signed t n _), Bool.and_comm t s]
  · rename_i s t
    by_cases h : s = t
    · subst h; rfl
    · rw [if_neg h, if_neg (fun e => h e.symm)]
theorem product_comm (d e : Ieee.Datum) : d.product e = e.product d := by
  cases d <;> cases e <;> simp only [Ieee.Datum.product]
  · rename_i s m i t n j
    rw [Nat.mul_comm n m, Int.add_comm j i, Bool.xor_comm t s]
  · rename_i s t
    rw [Bool.xor_comm]
theorem fb_add_comm (x y : Nat) : floatBits .add .f64 x y = floatBits .add .f64 y x := by rw [fb_add, fb_add, sum_comm]
theorem fb_mul_comm (x y : Nat) : floatBits .mul .f64 x y = floatBits .mul .f64 y x := by rw [fb_mul, fb_mul, product_comm]
theorem FO.add_comm {x y r : Nat} (h : FO .add x y r) : FO .add y x r := by unfold FO at h ⊢; rw [fb_add_comm y x]; exact h
theorem FO.mul_comm {x y r : Nat} (h : FO .mul x y r) : FO .mul y x r := by unfold FO at h ⊢; rw [fb_mul_comm y x]; exact h
theorem op_add : Op4 .add := .inl rfl
theorem op_sub : Op4 .sub := .inr (.inl rfl)
theorem op_mul : Op4 .mul := .inr (.inr (.inl rfl))
theorem op_quo : Op4 .quo := .inr (.inr (.inr rfl))
theorem TimesR.alike {a b c d re im a' b' c' d' re' im' : Nat} (ha : bitsN a = bitsN a') (hb : bitsN b = bitsN b') (hc : bitsN c = bitsN c') (hd : bitsN d = bitsN d') (h : TimesR a b c d re im) (h' : TimesR a' b' c' d' re' im') : bitsN re = bitsN re' ∧ bitsN im = bitsN im' := by
  obtain ⟨p, q, s, t, h1, h2, h3, h4, h5, h6⟩ := h
  obtain ⟨p', q', s', t', g1, g2, g3, g4, g5, g6⟩ := h'
  exact ⟨FO.alike op_sub (FO.alike op_mul ha hc h1 g1) (FO.alike op_mul hb hd h2 g2) h3 g3, FO.alike op_add (FO.alike op_mul ha hd h4 g4) (FO.alike op_mul hb hc h5 g5) h6 g6⟩
theorem TimesR.swap {a b c d re im : Nat} (h : TimesR a b c d re im) : TimesR c d a b re im := by
  obtain ⟨p, q, s, t, h1, h2, h3, h4, h5, h6⟩ := h
  exact ⟨p, q, t, s, h1.mul_comm, h2.mul_comm, h3, h5.mul_comm, h4.mul_comm, h6.add_comm⟩
/-- The quotient as the document has it. -/
def ROverR (a b c d re im : Nat) : Prop := ∃ p q n x1 x2 x y1 y2 y, FO .mul c c p ∧ FO .mul d d q ∧ FO .add p q n ∧ FO .mul a c x1 ∧ FO .mul b d x2 ∧ FO .add x1 x2 x ∧ FO .quo x n re ∧ FO .mul b c y1 ∧ FO .mul a d y2 ∧ FO .sub y1 y2 y ∧ FO .quo y n im
theorem opp_opp (d : Ieee.Datum) : d.opposite.opposite = d := by cases d <;> simp [Ieee.Datum.opposite]
theorem xor_top {y : Nat} (h : y < 18446744073709551616) : ((y ^^^ 9223372036854775808) / 9223372036854775808 % 2 == 1) = !(y / 9223372036854775808 % 2 == 1) ∧ (y ^^^ 9223372036854775808) % 9223372036854775808 = y % 9223372036854775808 := by
  have e1 : (y ^^^ 2 ^ 63) / 2 ^ 63 = y / 2 ^ 63 ^^^ 2 ^ 63 / 2 ^ 63 := Nat.xor_div_two_pow
  have e2 : (y ^^^ 2 ^ 63) % 2 ^ 63 = y % 2 ^ 63 ^^^ 2 ^ 63 % 2 ^ 63 := Nat.xor_mod_two_pow
  rw [show (2 : Nat) ^ 63 = 9223372036854775808 from by decide] at e1 e2
  rw [Nat.mod_self, Nat.xor_zero] at e2
  refine ⟨?_, e2⟩
  rw [e1, Nat.div_self (by decide)]
  have h2 : y / 9223372036854775808 = 0 ∨ y / 9223372036854775808 = 1 := by omega
  rcases h2 with h2 | h2 <;> rw [h2] <;> rfl
theorem read_neg {y : Nat} (h : y < 18446744073709551616) : Ieee.double.read (Op.negFloat .f64 y) = (Ieee.double.read y).opposite := by
  obtain ⟨e1, e2⟩ := xor_top h
  have hs : Ieee.double.signWeight = 9223372036854775808 := by decide
  have hn : Op.negFloat .f64 y = y ^^^ 9223372036854775808 := by
    unfold Op.negFloat
    rw [show (2 : Nat) ^ (FloatKind.f64.format.exponentBits + FloatKind.f64.format.fractionBits) = 9223372036854775808 from by decide]
  rw [hn]
  unfold Ieee.Format.read
  simp only [hs, e1, e2]
  split
  · rfl
  · split
    · rfl
    · split <;> rfl
theorem word_opp (s : Bool) {r : Nat} (hr : r ≤ 9218868437227405312) : Ieee.double.read (Ieee.double.word (!s) r) = (Ieee.double.read (Ieee.double.word s r)).opposite := by
  have hs : Ieee.double.signWeight = 9223372036854775808 := by decide
  have e1 : ∀ s : Bool, (Ieee.double.word s r / 9223372036854775808 % 2 == 1) = s ∧ Ieee.double.word s r % 9223372036854775808 = r := fun s => by
    unfold Ieee.Format.word
    rw [hs]
    cases s
    · rw [if_neg Bool.false_ne_true]; exact ⟨by rw [Nat.div_eq_of_lt (by omega)]; rfl, Nat.mod_eq_of_lt (by omega)⟩
    · rw [if_pos rfl, show (9223372036854775808 + r) / 9223372036854775808 = 1 from by omega, show (9223372036854775808 + r) % 9223372036854775808 = r from by omega]; exact ⟨rfl, rfl⟩
  unfold Ieee.Format.read
  simp only [hs, (e1 s).1, (e1 s).2, (e1 (!s)).1, (e1 (!s)).2]
  split
  · rfl
  · split
    · rfl
    · split <;> rfl
theorem near_le (s : Bool) (m : Nat) (p : Int) : ∃ r, r ≤ 9218868437227405312 ∧ ∀ s : Bool, Ieee.double.nearest s m p = Ieee.double.word s r := by
  have hi : Ieee.double.infRung = 9218868437227405312 := by decide
  by_cases hm : m = 0
  · exact ⟨0, by omega, fun s => by unfold Ieee.Format.nearest; rw [if_pos hm]⟩
  · refine ⟨min ((max (p + m.log2 - Ieee.double.fractionBits) Ieee.double.leastPlace - Ieee.double.leastPlace).toNat * Ieee.double.binade + Ieee.Toward.even.cut true (m <<< (p - max (p + m.log2 - Ieee.double.fractionBits) Ieee.double.leastPlace).toNat) (max (p + m.log2 - Ieee.double.fractionBits) Ieee.double.leastPlace - p).toNat) Ieee.double.infRung, ?_, fun s => ?_⟩
    · rw [hi]; exact Nat.min_le_right _ _
    · unfold Ieee.Format.nearest; rw [if_neg hm]; rfl
theorem write_opp {d : Ieee.Datum} (h : d.isNaN = false) : Ieee.double.read (Ieee.double.write d.opposite) = (Ieee.double.read (Ieee.double.write d)).opposite := by
  cases d with
  | nan s f => cases h
  | infinity s => exact word_opp s (by decide)
  | number s m p =>
    obtain ⟨r, hr, he⟩ := near_le s m p
    show Ieee.double.read (Ieee.double.nearest (!s) m p) = (Ieee.double.read (Ieee.double.nearest s m p)).opposite
    rw [he, he]
    exact word_opp s hr
theorem product_opp (d e : Ieee.Datum) : d.product e.opposite = (d.product e).map Ieee.Datum.opposite := by
  cases d <;> cases e <;> simp only [Ieee.Datum.product, Ieee.Datum.opposite, Option.map_none, Option.map_some]
  all_goals first
    | (split <;> simp [Ieee.Datum.opposite]; done)
    | (simp [Ieee.Datum.opposite]; done)
theorem product_num {d e q : Ieee.Datum} (h : d.product e = some q) : q.isNaN = false := by
  cases d <;> cases e <;> simp only [Ieee.Datum.product] at h
  all_goals first
    | (cases h; done)
    | (split at h <;> first | (cases h; done) | (obtain rfl := Option.some.inj h; rfl))
    | (obtain rfl := Option.some.inj h; rfl)
/-- A product with the one turned over is turned over, or neither is a number. -/
theorem mul_neg {x y q q' : Nat} (hy : y < 18446744073709551616) (h : FO .mul x (Op.negFloat .f64 y) q) (h' : FO .mul x y q') : (nanB q = true ∧ nanB q' = true) ∨ Ieee.double.read q = (Ieee.double.read q').opposite := by
  have e1 : floatBits .mul .f64 x (Op.negFloat .f64 y) = (((Ieee.double.read x).product (Ieee.double.read y)).map Ieee.Datum.opposite).map Ieee.double.write := by
    rw [fb_mul, read_neg hy, product_opp]
  have e2 := fb_mul x y
  cases hp : (Ieee.double.read x).product (Ieee.double.read y) with
  | none =>
    rw [hp] at e1 e2
    exact .inl ⟨h.none e1, h'.none e2⟩
  | some d =>
    rw [hp] at e1 e2
    right
    rw [h.val e1, h'.val e2]
    exact write_opp (product_num hp)
theorem OverR.alike {a b c d re im re' im' : Nat} (hd : d < 18446744073709551616) (h : OverR a b c d re im) (h' : ROverR a b c d re' im') : bitsN re = bitsN re' ∧ bitsN im = bitsN im' := by
  obtain ⟨p, q, n, x, y, h1, h2, h3, ⟨u, v, s, t, k1, k2, k3, k4, k5, k6⟩, h4, h5⟩ := h
  obtain ⟨p', q', n', x1, x2, x', y1, y2, y', g1, g2, g3, g4, g5, g6, g7, g8, g9, g10, g11⟩ := h'
  have en : bitsN n = bitsN n' := FO.alike op_add (FO.alike op_mul rfl rfl h1 g1) (FO.alike op_mul rfl rfl h2 g2) h3 g3
  constructor
  · refine FO.alike op_quo ?_ en h4 g7
    have eu : bitsN u = bitsN x1 := FO.alike op_mul rfl rfl k1 g4
    rcases mul_neg hd k2 g5 with ⟨m1, m2⟩ | hv
    · exact k3.same g6 ((fb_nan op_sub (.inr m1)).trans (fb_nan op_add (.inr m2)).symm)
    · rcases sim_cases eu with ⟨m1, m2⟩ | ⟨m1, m2, rfl⟩
      · exact k3.same g6 ((fb_nan op_sub (.inl m1)).trans (fb_nan op_add (.inl m2)).symm)
      · exact k3.same g6 (by rw [fb_sub, fb_add, hv, opp_opp])
  · refine FO.alike op_quo ?_ en h5 g11
    have et : bitsN t = bitsN y1 := FO.alike op_mul rfl rfl k5 g8
    rcases mul_neg hd k4 g9 with ⟨m1, m2⟩ | hv
    · exact k6.same g10 ((fb_nan op_add (.inl m1)).trans (fb_nan op_sub (.inr m2)).symm)
    · rcases sim_cases et with ⟨m1, m2⟩ | ⟨m1, m2, rfl⟩
      · exact k6.same g10 ((fb_nan op_add (.inr m1)).trans (fb_nan op_sub (.inl m2)).symm)
      · exact k6.same g10 (by rw [fb_sub, fb_add, hv, sum_comm])

/-! ### An operation on two floats, either way round -/
theorem int_compare (a b : Int) : compare a b = .eq ↔ a = b := by
  show compareOfLessAndEq a b = .eq ↔ a = b
  unfold compareOfLessAndEq
  by_cases h : a < b
  · rw [if_pos h]; exact ⟨fun e => (by cases e), fun e => (by omega)⟩
  · rw [if_neg h]
    by_cases h2 : a = b
    · rw [if_pos h2]; exact ⟨fun _ => h2, fun _ => rfl⟩
    · rw [if_neg h2]; exact ⟨fun e => (by cases e), fun e => absurd e h2⟩
theorem order_eq_comm (d e : Ieee.Datum) : (d.order e == some Ordering.eq) = (e.order d == some Ordering.eq) := by
  cases d <;> cases e <;> simp only [Ieee.Datum.order]
  · rename_i s m i t n j
    rw [Int.min_comm j i]
    generalize Ieee.signed s m _ = a
    generalize Ieee.signed t n _ = b
    rw [Bool.eq_iff_iff]
    simp only [beq_iff_eq, Option.some.injEq, int_compare]
    exact eq_comm
  · rename_i s m i t
    cases t <;> rfl
  · rename_i s t n j
    cases s <;> rfl
  · rename_i s t
    cases s <;> cases t <;> rfl
theorem ceqB_comm (a b c d : Nat) : ceqB a b c d = ceqB c d a b := by
  unfold ceqB
  rw [show (FloatKind.f64.format.order a c == some Ordering.eq) = (FloatKind.f64.format.order c a == some Ordering.eq) from order_eq_comm _ _, show (FloatKind.f64.format.order b d == some Ordering.eq) = (FloatKind.f64.format.order d b == some Ordering.eq) from order_eq_comm _ _]
theorem bsame_of {a b : Nat} (h : bitsN a = bitsN b) : bsame a b = true := decide_eq_true h
theorem pairs_turn {op : Int} (hop : op = 0 ∨ op = 2) {a b : Nat} {k : Bool} {c d : Nat} {m : Bool} {p : Bool} {re im : Nat} {t : Bool} {e : Int} {p' : Bool} {re' im' : Nat} {t' : Bool} {e' : Int} (h : PairsR op a b k c d m p re im t e) (h' : PairsR op c d m a b k p' re' im' t' e') : p = p' ∧ bsame re re' = true ∧ bsame im im' = true ∧ e = e' := by
  rcases hop with rfl | rfl
  · simp only [PairsR] at h h'
    rcases h with ⟨h, _⟩ | ⟨h, _⟩ | ⟨_, hk, rfl, rfl, rfl, rfl, rfl⟩ | ⟨h, _⟩ | ⟨hk, rfl, rfl, rfl, hf⟩
    · omega
    · omega
    · rcases h' with ⟨h, _⟩ | ⟨h, _⟩ | ⟨_, _, rfl, rfl, rfl, rfl, rfl⟩ | ⟨h, _⟩ | ⟨hk', _⟩
      · omega
      · omega
      · exact ⟨rfl, bsame_of rfl, bsame_of rfl, rfl⟩
      · omega
      · rw [Bool.and_comm, hk] at hk'; cases hk'
    · omega
    · rcases h' with ⟨h, _⟩ | ⟨h, _⟩ | ⟨_, hk', _⟩ | ⟨h, _⟩ | ⟨_, rfl, rfl, rfl, hf'⟩
      · omega
      · omega
      · rw [Bool.and_comm, hk] at hk'; cases hk'
      · omega
      · rcases hf with ⟨_, f1, f2⟩ | ⟨h, _⟩ | ⟨h, _⟩ | ⟨h, _⟩
        · rcases hf' with ⟨_, g1, g2⟩ | ⟨h, _⟩ | ⟨h, _⟩ | ⟨h, _⟩
          · exact ⟨rfl, bsame_of (f1.same g1.add_comm rfl), bsame_of (f2.same g2.add_comm rfl), rfl⟩
          · omega
          · omega
          · omega
        · omega
        · omega
        · omega
  · simp only [PairsR] at h h'
    rcases h with ⟨h, _⟩ | ⟨h, _⟩ | ⟨_, hk, rfl, rfl, rfl, rfl, rfl⟩ | ⟨h, _⟩ | ⟨hk, rfl, rfl, rfl, hf⟩
    · omega
    · omega
    · rcases h' with ⟨h, _⟩ | ⟨h, _⟩ | ⟨_, _, rfl, rfl, rfl, rfl, rfl⟩ | ⟨h, _⟩ | ⟨hk', _⟩
      · omega
      · omega
      · exact ⟨rfl, bsame_of rfl, bsame_of rfl, rfl⟩
      · omega
      · rw [Bool.and_comm, hk] at hk'; cases hk'
    · omega
    · rcases h' with ⟨h, _⟩ | ⟨h, _⟩ | ⟨_, hk', _⟩ | ⟨h, _⟩ | ⟨_, rfl, rfl, rfl, hf'⟩
      · omega
      · omega
      · rw [Bool.and_comm, hk] at hk'; cases hk'
      · omega
      · rcases hf with ⟨h, _⟩ | ⟨h, _⟩ | ⟨_, f1⟩ | ⟨h, _⟩
        · omega
        · omega
        · rcases hf' with ⟨h, _⟩ | ⟨h, _⟩ | ⟨_, g1⟩ | ⟨h, _⟩
          · omega
          · omega
          · have q := TimesR.alike rfl rfl rfl rfl f1 g1.swap
            exact ⟨rfl, bsame_of q.1, bsame_of q.2, rfl⟩
          · omega
        · omega
theorem pairs_turn6 {a b : Nat} {k : Bool} {c d : Nat} {m : Bool} {p : Bool} {re im : Nat} {t : Bool} {e : Int} {p' : Bool} {re' im' : Nat} {t' : Bool} {e' : Int} (h : PairsR 6 a b k c d m p re im t e) (h' : PairsR 6 c d m a b k p' re' im' t' e') : t = t' := by
  simp only [PairsR] at h h'
  rcases h with ⟨h, _⟩ | ⟨_, _, _, _, rfl, _⟩ | ⟨h, _⟩ | ⟨h, _⟩ | ⟨_, _, _, _, ⟨h, _⟩ | ⟨h, _⟩ | ⟨h, _⟩ | ⟨h, _⟩⟩
  · omega
  · rcases h' with ⟨h, _⟩ | ⟨_, _, _, _, rfl, _⟩ | ⟨h, _⟩ | ⟨h, _⟩ | ⟨_, _, _, _, ⟨h, _⟩ | ⟨h, _⟩ | ⟨h, _⟩ | ⟨h, _⟩⟩
    · omega
    · rw [ceqB_comm, Bool.and_comm k]
    all_goals omega
  all_goals omega

open Lap

theorem words_mono {n m : Nat} (h : n ≤ m) : (wordsN n).length ≤ (wordsN m).length := by
  rw [wordsN_length_le]
  exact Nat.lt_of_le_of_lt h (wordsN_length_le.1 (Nat.le_refl _))
theorem bytes_len {n k : Nat} (h : n < 256 ^ k) : (bytesN n).length ≤ k := bytesN_length_lt.2 h
/-- How often, and what is left. -/
def divV (xn : Bool) (a : Nat) (yn : Bool) (b : Nat) : Bool × List Int × Bool × List Int × Int :=
  if (xn != yn && decide (a % b ≠ 0)) = true then ((mk (xn != yn) (a / b + 1)).1, (mk (xn != yn) (a / b + 1)).2, (mk yn (b - a % b)).1, (mk yn (b - a % b)).2, 0)
  else ((mk (xn != yn) (a / b)).1, (mk (xn != yn) (a / b)).2, (mk yn (a % b)).1, (mk yn (a % b)).2, 0)
def divS (xn : Bool) (x : List Int) (yn : Bool) (y : List Int) : Bool × List Int × Bool × List Int × Int :=
  if (okN xn x && okN yn y) = true then (if y = [] then (false, [], false, [], 23) else divV xn (bval x) yn (bval y)) else (false, [], false, [], 1)
theorem one_isB : IsB [1] := IsB.cons (by omega) (by omega) IsB.nil

/-- The sum of two numbers that can be. -/
def addV (xn : Bool) (a : Nat) (yn : Bool) (b : Nat) : Bool × List Int × Int := if (xn == yn) = true then fit xn (a + b) else if a < b then fit yn (b - a) else fit xn (a - b)
def addS (xn : Bool) (x : List Int) (yn : Bool) (y : List Int) : Bool × List Int × Int := if (okN xn x && okN yn y) = true then addV xn (bval x) yn (bval y) else bad
theorem P132 : (256 : Nat) ^ (4 * 33) = 256 ^ 128 * 4294967296 := by
  rw [show 4 * 33 = 128 + 4 by decide, Nat.pow_add, show (256 : Nat) ^ 4 = 4294967296 by decide]
theorem words_len33 {n m : Nat} (h1 : n < 256 ^ 128) (h2 : m < 256 ^ 128) : (wordsN (n + m)).length ≤ 33 := by
  refine wordsN_len _ 33 ?_
  rw [P132]
  generalize (256 : Nat) ^ 128 = P at *
  omega
theorem add_good (xn yn : Bool) (x y : List Int) (hx : IsB x) (hy : IsB y) (h1 : okN xn x = true) (h2 : okN yn y = true) : Ev (fun k => whole_Add.j0 k false xn x yn y) (addV xn (bval x) yn (bval y)) := by
  obtain ⟨l1, w1⟩ := words_of hx h1
  obtain ⟨l2, w2⟩ := words_of hy h2
  have b1 := bval_small hx (okN_can hx h1).2
  have b2 := bval_small hy (okN_can hy h2).2
  unfold addV
  by_cases he : (xn == yn) = true
  · rw [if_pos he]
    have hp := plus_ev (wordsN (bval x)) (wordsN (bval y)) (isW_wordsN _) (isW_wordsN _) (by omega) (by omega)
    rw [wval_wordsN, wval_wordsN] at hp
    have hf := fits_ev xn (wordsN (bval x + bval y)) (isW_wordsN _) (by have := words_len33 b1 b2; omega)
    rw [wval_wordsN] at hf
    refine Ev.step (f := fun k => (whole_wordsOf.f k x).bind fun t1 => (whole_wordsOf.f k y).bind fun t2 => (whole_plus.f k t1 t2).bind fun t3 => (whole_fits.f k xn t3).bind fun bt => some (bt.1, bt.2.1, bt.2.2)) (fun k => ?_) (Ev.bind w1 (Ev.bind w2 (Ev.bind hp (Ev.bind hf (Ev.now _)))))
    simp only [whole_Add.j0, he, if_true]; rfl
  · rw [if_neg he]
    have ho := order_ev (wordsN (bval x)) (wordsN (bval y)) (canW_wordsN _) (canW_wordsN _) (by omega) (by omega)
    rw [wval_wordsN, wval_wordsN] at ho
    by_cases hlt : bval x < bval y
    · rw [if_pos hlt]
      have hm := minus_ev (wordsN (bval y)) (wordsN (bval x)) (isW_wordsN _) (isW_wordsN _) (by omega) (words_mono (by omega)) (by rw [wval_wordsN, wval_wordsN]; omega)
      rw [wval_wordsN, wval_wordsN] at hm
      have hf := fits_ev yn (wordsN (bval y - bval x)) (isW_wordsN _) (by have := words_mono (Nat.sub_le (bval y) (bval x)); omega)
      rw [wval_wordsN] at hf
      have hc : cmpN (bval x) (bval y) < 0 := by unfold cmpN; rw [if_pos hlt]; omega
      refine Ev.step (f := fun k => (whole_wordsOf.f k x).bind fun t1 => (whole_wordsOf.f k y).bind fun t2 => (whole_order.f k t1 t2).bind fun t => if t < 0 then (whole_minus.f k t2 t1).bind fun t3 => (whole_fits.f k yn t3).bind fun bt => some (bt.1, bt.2.1, bt.2.2) else (whole_minus.f k t1 t2).bind fun t3 => (whole_fits.f k xn t3).bind fun bt => some (bt.1, bt.2.1, bt.2.2)) (fun k => ?_)
        (Ev.bind w1 (Ev.bind w2 (Ev.bind ho (Ev.congr (fun k => if_pos hc) (Ev.bind hm (Ev.bind hf (Ev.now _)))))))
      simp only [whole_Add.j0, he, if_false]; rfl
    · rw [if_neg hlt]
      have hm := minus_ev (wordsN (bval x)) (wordsN (bval y)) (isW_wordsN _) (isW_wordsN _) (by omega) (words_mono (by omega)) (by rw [wval_wordsN, wval_wordsN]; omega)
      rw [wval_wordsN, wval_wordsN] at hm
      have hf := fits_ev xn (wordsN (bval x - bval y)) (isW_wordsN _) (by have := words_mono (Nat.sub_le (bval x) (bval y)); omega)
      rw [wval_wordsN] at hf
      have hc : ¬ cmpN (bval x) (bval y) < 0 := by unfold cmpN; rw [if_neg hlt]; split <;> omega
      refine Ev.step (f := fun k => (whole_wordsOf.f k x).bind fun t1 => (whole_wordsOf.f k y).bind fun t2 => (whole_order.f k t1 t2).bind fun t => if t < 0 then (whole_minus.f k t2 t1).bind fun t3 => (whole_fits.f k yn t3).bind fun bt => some (bt.1, bt.2.1, bt.2.2) else (whole_minus.f k t1 t2).bind fun t3 => (whole_fits.f k xn t3).bind fun bt => some (bt.1, bt.2.1, bt.2.2)) (fun k => ?_)
        (Ev.bind w1 (Ev.bind w2 (Ev.bind ho (Ev.congr (fun k => if_neg hc) (Ev.bind hm (Ev.bind hf (Ev.now _)))))))
      simp only [whole_Add.j0, he, if_false]; rfl
theorem add_ev (xn yn : Bool) (x y : List Int) (hx : IsB x) (hy : IsB y) : Ev (fun k => whole_Add.f k xn x yn y) (addS xn x yn y) := by
  unfold addS
  by_cases h1 : okN xn x = true
  · by_cases h2 : okN yn y = true
    · rw [if_pos (by rw [h1, h2]; rfl)]
      refine Ev.congr (f := fun k => whole_Add.j0 k false xn x yn y) (fun k => ?_) (add_good xn yn x y hx hy h1 h2)
      unfold whole_Add.f
      rw [right_eq, h1, Option.bind_some, if_pos rfl, right_eq, h2]; rfl
    · have h2 : okN yn y = false := by simpa using h2
      rw [if_neg (by rw [h1, h2]; simp)]
      refine Ev.congr (f := fun k => whole_Add.j0 k true xn x yn y) (fun k => ?_) (Ev.step (f := fun _ => some bad) (fun k => ?_) (Ev.now _))
      · unfold whole_Add.f
        rw [right_eq, h1, Option.bind_some, if_pos rfl, right_eq, h2]; rfl
      · simp only [whole_Add.j0]; rfl
  · have h1 : okN xn x = false := by simpa using h1
    rw [if_neg (by rw [h1]; simp)]
    refine Ev.congr (f := fun k => whole_Add.j0 k true xn x yn y) (fun k => ?_) (Ev.step (f := fun _ => some bad) (fun k => ?_) (Ev.now _))
    · unfold whole_Add.f
      rw [right_eq, h1, Option.bind_some, if_neg (by simp)]
    · simp only [whole_Add.j0]; rfl

theorem times_step {S0 wo P Q c ai bj o v q T : Int} (h : v + 4294967296 * q = c + (ai * bj + o)) (he : wo + P * Q * c = S0 + ai * P * T) :
    (wo + P * Q * (v - o)) + P * (Q * 4294967296) * q = S0 + ai * P * (T + Q * bj) := by grind

theorem times_inner (a b : List Int) (hb : IsW b) (ai : Int) (h0 : 0 ≤ ai) (h1 : ai < 4294967296) (i n m : Nat) (S0 : Int) (hm : b.length = m) (hi : i < n) (hn : n ≤ 100000) (hm2 : m ≤ 100000) (r : List Int)
    (hr : ∀ (out : List Int) (c : Int), out.length = n + m → IsW out → 0 ≤ c → c < 4294967296 → (∀ p (hp : p < out.length), i + m ≤ p → out[p] = 0) → wI out + W32 i * W32 m * c = S0 + ai * W32 i * wI b →
      Ev (fun k => whole_times.l0 k b (out.set (i + m) c) a n ((i + 1 : Nat) : Int)) r) :
    ∀ (d j : Nat) (out : List Int) (c : Int), d = m - j → j ≤ m → out.length = n + m → IsW out → 0 ≤ c → c < 4294967296 → (∀ p (hp : p < out.length), i + m ≤ p → out[p] = 0) →
      wI out + W32 i * W32 j * c = S0 + ai * W32 i * wI (b.take j) →
      Ev (fun k => whole_times.l1 k b out i ai c a n i b m j) r := by
  intro d
  induction d with
  | zero =>
    intro j out c hd hj ho hw c0 c1 hz he
    obtain rfl : j = m := by omega
    rw [List.take_of_length_le (by omega)] at he
    refine Ev.step (fun k => ?_) (hr out c ho hw c0 c1 hz he)
    simp only [whole_times.l1]
    rw [if_neg (by omega), hm, w64 (x := (i : Int) + j) (by omega) (by omega), if_pos (by omega), if_pos (by omega), w64s i (by omega), Int.emod_eq_of_lt c0 (by omega)]
    rw [show ((i : Int) + (j : Int)).toNat = i + j by omega]
  | succ d ih =>
    intro j out c hd hj ho hw c0 c1 hz he
    have hlt : j < b.length := by omega
    have hpos : i + j < out.length := by omega
    have hB := hb.get j hlt
    have hO := hw.get (i + j) hpos
    have hM := mul_bound h0 h1 hB.1 hB.2
    have hT : 0 ≤ c + (ai * b[j] + out[i + j]) ∧ c + (ai * b[j] + out[i + j]) < 18446744073709551616 := by omega
    have e1 : IntKind.u64.wrap (c + IntKind.u64.wrap (IntKind.u64.wrap (IntKind.u64.wrap ai * IntKind.u64.wrap b[j]) + IntKind.u64.wrap out[i + j])) = c + (ai * b[j] + out[i + j]) := by
      rw [u64 (x := ai) (by omega) (by omega), u64 (x := b[j]) (by omega) (by omega), u64 (x := out[i + j]) (by omega) (by omega), u64 (x := ai * b[j]) (by omega) (by omega),
        u64 (x := ai * b[j] + out[i + j]) (by omega) (by omega), u64 hT.1 hT.2]
    refine Ev.step (fun k => ?_) (ih (j + 1) (out.set (i + j) ((c + (ai * b[j] + out[i + j])) % 4294967296)) ((c + (ai * b[j] + out[i + j])) / 4294967296) (by omega) (by omega) (by simpa using ho) (hw.set _ _ (by omega) (by omega)) (by omega) (by omega)
      (fun p hp hge => by
        rw [List.getElem_set_ne (by omega)]
        exact hz p (by simpa using hp) hge) ?_)
    · simp only [whole_times.l1]
      rw [if_pos (by omega), if_pos (by omega), if_pos (by omega), w64 (x := (i : Int) + j) (by omega) (by omega), if_pos (by omega), if_pos (by omega), w64s j (by omega)]
      rw [show ((i : Int) + (j : Int)) = ((i + j : Nat) : Int) by omega, rd_lt _ _ hlt, rd_lt _ _ hpos, e1]
      rfl
    · rw [wI_set _ _ _ hpos (by omega) hO.1, wI_take_succ _ _ hlt hB.1, W32_add, W32_succ]
      exact times_step (by omega) he

theorem times_outer (a b : List Int) (ha : IsW a) (hb : IsW b) (hla : a.length ≤ 100000) (hlb : b.length ≤ 100000) :
    ∀ (d i : Nat) (out : List Int), d = a.length - i → i ≤ a.length → out.length = a.length + b.length → IsW out → (∀ p (hp : p < out.length), i + b.length ≤ p → out[p] = 0) →
      wI out = wI (a.take i) * wI b → Ev (fun k => whole_times.l0 k b out a a.length i) (wordsN (wval a * wval b)) := by
  intro d
  induction d with
  | zero =>
    intro i out hd hi ho hw hz he
    obtain rfl : i = a.length := by omega
    rw [List.take_length] at he
    have hv : wval out = wval a * wval b := by
      rw [wI_eq, wI_eq, wI_eq] at he
      exact_mod_cast he
    refine Ev.step (f := fun k => (whole_words_trim.f k out).bind fun t => some t) (fun k => ?_) ?_
    · simp only [whole_times.l0]; rw [if_neg (by omega)]
    · rw [← hv]; exact Ev.bind (trim_ev out hw (by omega)) (Ev.now _)
  | succ d ih =>
    intro i out hd hi ho hw hz he
    have hlt : i < a.length := by omega
    have hA := ha.get i hlt
    refine Ev.step (f := fun k => whole_times.l1 k b out i a[i] 0 a a.length i b b.length 0) (fun k => ?_) ?_
    · simp only [whole_times.l0]
      rw [if_pos (by omega), if_pos (by omega), if_pos (by omega), rd_lt _ _ hlt]
    · refine times_inner a b hb a[i] hA.1 hA.2 i a.length b.length (wI out) rfl hlt hla hlb _ ?_ b.length 0 out 0 (by omega) (by omega) ho hw (by omega) (by omega) hz (by simp [wI_nil])
      intro out2 c h2 hw2 c0 c1 hz2 he2
      refine ih (i + 1) (out2.set (i + b.length) c) (by omega) (by omega) (by simpa using h2) (hw2.set _ _ c0 c1) (fun p hp hge => ?_) ?_
      · rw [List.getElem_set_ne (by omega)]
        exact hz2 p (by simpa using hp) (by omega)
      · have hpos : i + b.length < out2.length := by omega
        have hz3 := hz2 (i + b.length) hpos (Nat.le_refl _)
        rw [wI_set _ _ _ hpos c0 (by omega), hz3, W32_add, wI_take_succ _ _ hlt hA.1]
        have e0 : W32 i * W32 b.length * (c - 0) = W32 i * W32 b.length * c := by simp
        rw [e0, he2, he]
        grind

theorem times_ev (a b : List Int) (ha : IsW a) (hb : IsW b) (hla : a.length ≤ 100000) (hlb : b.length ≤ 100000) :
    Ev (fun k => whole_times.f k a b) (wordsN (wval a * wval b)) := by
  refine Ev.congr (fun k => ?_) (times_outer a b ha hb hla hlb a.length 0 (List.replicate (a.length + b.length) 0) (by omega) (by omega) (by simp) (IsW.replicate _) (fun p hp _ => by simp) (by simp [wI_nil, wI_replicate_zero]))
  unfold whole_times.f
  rw [w64 (x := (a.length : Int) + b.length) (by omega) (by omega), if_pos (by omega), if_pos (by omega)]
  rw [show ((a.length : Int) + (b.length : Int)).toNat = a.length + b.length by omega]
  rfl
def mulS (xn : Bool) (x : List Int) (yn : Bool) (y : List Int) : Bool × List Int × Int := if okN xn x && okN yn y then fit (xn != yn) (bval x * bval y) else bad
theorem mul_ev (xn yn : Bool) (x y : List Int) (hx : IsB x) (hy : IsB y) : Ev (fun k => whole_Mul.f k xn x yn y) (mulS xn x yn y) := by
  unfold mulS
  by_cases h1 : okN xn x = true
  · by_cases h2 : okN yn y = true
    · rw [h1, h2]
      obtain ⟨l1, w1⟩ := words_of hx h1
      obtain ⟨l2, w2⟩ := words_of hy h2
      have ht := times_ev (wordsN (bval x)) (wordsN (bval y)) (isW_wordsN _) (isW_wordsN _) (by omega) (by omega)
      rw [wval_wordsN, wval_wordsN] at ht
      have hlt : (wordsN (bval x * bval y)).length ≤ 64 := by
        refine wordsN_len _ 64 ?_
        have a1 := bval_small hx (n := 128) (okN_can hx h1).2
        have a2 := bval_small hy (n := 128) (okN_can hy h2).2
        have : (256 : Nat) ^ (4 * 64) = 256 ^ 128 * 256 ^ 128 := by rw [← Nat.pow_add]
        rw [this]
        exact Nat.mul_lt_mul'' a1 a2
      have hf := fits_ev (xn != yn) (wordsN (bval x * bval y)) (isW_wordsN _) (by omega)
      rw [wval_wordsN] at hf
      rw [Bool.and_self, if_pos rfl]
      refine Ev.congr (f := fun k => whole_Mul.j0 k false xn x yn y) (fun k => ?_) (Ev.step (f := fun k => (whole_wordsOf.f k x).bind fun t509 => (whole_wordsOf.f k y).bind fun t512 => (whole_times.f k t509 t512).bind fun t515 => (whole_fits.f k (xn != yn) t515).bind fun bt => some (bt.1, bt.2.1, bt.2.2)) (fun k => ?_) (Ev.bind w1 (Ev.bind w2 (Ev.bind ht (Ev.bind hf (Ev.now _))))))
      · unfold whole_Mul.f
        rw [right_eq, h1, Option.bind_some, if_pos rfl, right_eq, h2]; rfl
      · simp only [whole_Mul.j0]; rfl
    · have h2 : okN yn y = false := by simpa using h2
      rw [h1, h2]
      refine Ev.congr (f := fun k => whole_Mul.j0 k true xn x yn y) (fun k => ?_) (Ev.step (f := fun _ => some bad) (fun k => ?_) (Ev.now _))
      · unfold whole_Mul.f
        rw [right_eq, h1, Option.bind_some, if_pos rfl, right_eq, h2]; rfl
      · simp only [whole_Mul.j0]; rfl
  · have h1 : okN xn x = false := by simpa using h1
    rw [h1]
    refine Ev.congr (f := fun k => whole_Mul.j0 k true xn x yn y) (fun k => ?_) (Ev.step (f := fun _ => some bad) (fun k => ?_) (Ev.now _))
    · unfold whole_Mul.f
      rw [right_eq, h1, Option.bind_some, if_neg (by simp)]
    · simp only [whole_Mul.j0]; rfl

/-- Which is the lesser one. -/
def cmpV (xn : Bool) (a : Nat) (yn : Bool) (b : Nat) : Int := if (xn == yn) = true then (if xn = true then -cmpN a b else cmpN a b) else if xn = true then -1 else 1
def cmpS (xn : Bool) (x : List Int) (yn : Bool) (y : List Int) : Int := if (okN xn x && okN yn y) = true then cmpV xn (bval x) yn (bval y) else 0
theorem cmpN_range (a b : Nat) : -1 ≤ cmpN a b ∧ cmpN a b ≤ 1 := by unfold cmpN; split; omega; split <;> omega
theorem cmp2_ev (xn yn : Bool) (x y : List Int) (hx : IsB x) (hy : IsB y) : Ev (fun k => whole_Cmp.f k xn x yn y) (cmpS xn x yn y) := by
  unfold cmpS
  by_cases h1 : okN xn x = true
  · by_cases h2 : okN yn y = true
    · rw [if_pos (by rw [h1, h2]; rfl)]
      refine Ev.congr (f := fun k => whole_Cmp.j0 k false xn x yn y) (fun k => ?_) ?_
      · unfold whole_Cmp.f
        rw [right_eq, h1, Option.bind_some, if_pos rfl, right_eq, h2]; rfl
      · unfold cmpV
        by_cases he : (xn == yn) = true
        · rw [if_pos he]
          obtain ⟨l1, w1⟩ := words_of hx h1
          obtain ⟨l2, w2⟩ := words_of hy h2
          have ho := order_ev (wordsN (bval x)) (wordsN (bval y)) (canW_wordsN _) (canW_wordsN _) (by omega) (by omega)
          rw [wval_wordsN, wval_wordsN] at ho
          have hr := cmpN_range (bval x) (bval y)
          refine Ev.step (f := fun k => (whole_wordsOf.f k x).bind fun t677 => ((whole_wordsOf.f k y).bind fun t680 => ((whole_order.f k t677 t680).bind fun t683 => (if xn = true then (some (wrap64 (-t683))) else (some t683))))) (fun k => ?_) (Ev.bind w1 (Ev.bind w2 (Ev.bind ho (Ev.congr (f := fun _ => some (if xn = true then -cmpN (bval x) (bval y) else cmpN (bval x) (bval y))) (fun k => ?_) (Ev.now _)))))
          · simp only [whole_Cmp.j0]
            rw [if_neg (by simp), if_pos he]
          · rw [w64 (by omega) (by omega)]; split <;> rfl
        · rw [if_neg he]
          refine Ev.step (f := fun _ => some (if xn = true then -1 else 1)) (fun k => ?_) (Ev.now _)
          simp only [whole_Cmp.j0]
          rw [if_neg (by simp), if_neg he]; split <;> rfl
    · have h2 : okN yn y = false := by simpa using h2
      rw [if_neg (by rw [h1, h2]; simp)]
      refine Ev.congr (f := fun k => whole_Cmp.j0 k true xn x yn y) (fun k => ?_) (Ev.step (f := fun _ => some 0) (fun k => ?_) (Ev.now _))
      · unfold whole_Cmp.f
        rw [right_eq, h1, Option.bind_some, if_pos rfl, right_eq, h2]; rfl
      · simp only [whole_Cmp.j0]; rfl
  · have h1 : okN xn x = false := by simpa using h1
    rw [if_neg (by rw [h1]; simp)]
    refine Ev.congr (f := fun k => whole_Cmp.j0 k true xn x yn y) (fun k => ?_) (Ev.step (f := fun _ => some 0) (fun k => ?_) (Ev.now _))
    · unfold whole_Cmp.f
      rw [right_eq, h1, Option.bind_some, if_neg (by simp)]
    · simp only [whole_Cmp.j0]; rfl

/-- A sign and a size below 2^64 as a small number. -/
def smallV (neg : Bool) (u : Int) : Int × Bool :=
  if neg = true then (if u > 9223372036854775808 then (0, false) else (-u, true)) else (if u ≥ 9223372036854775808 then (0, false) else (u, true))
def smallS (neg : Bool) (l : List Int) : Int × Bool := if (okN neg l && decide (l.length ≤ 8)) = true then smallV neg (bI l) else (0, false)
theorem small_fin (neg : Bool) (u : Int) (h0 : 0 ≤ u) (h1 : u < 18446744073709551616) :
    (if neg = true then (if u = 0 then (some (wrap64 (-(wrap64 (u))), true)) else (if (wrap64 (-(wrap64 (u)))) = 0 then (some (0, false)) else (if ((decide ((wrap64 (-(wrap64 (u)))) < 0)) != neg) = true then (some (0, false)) else (some (wrap64 (-(wrap64 (u))), true))))) else (if u = 0 then (some (wrap64 (u), true)) else (if (wrap64 (u)) = 0 then (some (0, false)) else (if ((decide ((wrap64 (u)) < 0)) != neg) = true then (some (0, false)) else (some (wrap64 (u), true)))))) = some (smallV neg u) := by
  cases neg
  · have e2 : smallV false u = if u ≥ 9223372036854775808 then (0, false) else (u, true) := rfl
    rw [if_neg Bool.false_ne_true, e2]
    by_cases hz : u = 0
    · subst hz; rw [if_pos rfl, if_neg (by omega), w64 (by omega) (by omega)]
    · rw [if_neg hz]
      by_cases hb : u ≥ 9223372036854775808
      · have e : wrap64 u = u - 18446744073709551616 := by unfold wrap64; omega
        have hd : decide (u - 18446744073709551616 < 0) = true := decide_eq_true (by omega)
        rw [if_pos hb, e, if_neg (by omega), hd, if_pos (by decide)]
      · have e : wrap64 u = u := w64 (by omega) (by omega)
        have hd : decide (u < 0) = false := decide_eq_false (by omega)
        rw [if_neg hb, e, if_neg hz, hd, if_neg (by decide)]
  · have e2 : smallV true u = if u > 9223372036854775808 then (0, false) else (-u, true) := rfl
    rw [if_pos rfl, e2]
    by_cases hz : u = 0
    · subst hz; rw [if_pos rfl, if_neg (by omega), w64 (x := 0) (by omega) (by omega), w64 (by omega) (by omega)]
    · rw [if_neg hz]
      by_cases hb : u > 9223372036854775808
      · have e : wrap64 (-(wrap64 u)) = 18446744073709551616 - u := by unfold wrap64; omega
        have hd : decide (18446744073709551616 - u < 0) = false := decide_eq_false (by omega)
        rw [if_pos hb, e, if_neg (by omega), hd, if_pos (by decide)]
      · have e : wrap64 (-(wrap64 u)) = -u := by unfold wrap64; omega
        have hd : decide (-u < 0) = true := decide_eq_true (by omega)
        rw [if_neg hb, e, if_neg (by omega), hd, if_neg (by decide)]
theorem small_next (l : List Int) (hb : IsB l) (hl : l.length ≤ 8) (i : Nat) (hi : i < l.length) : Go.bits .or .u64 (IntKind.u64.wrap (bI (l.take i) * 256)) (IntKind.u64.wrap (rd l (i : Int))) = bI (l.take (i + 1)) := by
  have hA := hb.get i hi
  have h0 := bI_nonneg (l.take i)
  have h1 : bI (l.take i) < 72057594037927936 := by
    rw [bI_eq]
    have := bval_small (hb.take i) (n := 7) (by rw [List.length_take]; omega)
    have e : (256 : Nat) ^ 7 = 72057594037927936 := by decide
    omega
  rw [bI_take_succ l i hi hA.1, rd_lt _ _ hi, u64 (by omega) (by omega), u64 (by omega) (by omega), or64_8 h0 h1 hA.1 hA.2]
theorem bI_64 {l : List Int} (hb : IsB l) (hl : l.length ≤ 8) : 0 ≤ bI l ∧ bI l < 18446744073709551616 := by
  refine ⟨bI_nonneg l, ?_⟩
  rw [bI_eq]
  have := bval_small hb (n := 8) hl
  have e : (256 : Nat) ^ 8 = 18446744073709551616 := by decide
  omega
theorem small_loop (neg : Bool) (l : List Int) (hb : IsB l) (hl : l.length ≤ 8) : ∀ (d i : Nat), d + i = l.length → Ev (fun k => whole_Small.l0 k (bI (l.take i)) l (l.length : Int) (i : Int) neg l) (smallV neg (bI l)) := by
  intro d
  induction d with
  | zero =>
    intro i hd
    obtain rfl : i = l.length := by omega
    rw [List.take_length]
    obtain ⟨h0, h1⟩ := bI_64 hb hl
    refine Ev.step (f := fun _ => some (smallV neg (bI l))) (fun k => ?_) (Ev.now _)
    rw [← small_fin neg _ h0 h1]
    simp only [whole_Small.l0]
    rw [if_neg (by omega)]
  | succ d ih =>
    intro i hd
    have hi : i < l.length := by omega
    refine Ev.step (fun k => ?_) (ih (i + 1) (by omega))
    simp only [whole_Small.l0]
    rw [if_pos (by omega), if_pos (by omega), if_pos (by omega), small_next l hb hl i hi, w64s i (by omega)]
theorem small_ev (neg : Bool) (l : List Int) (hb : IsB l) : Ev (fun k => whole_Small.f k neg l) (smallS neg l) := by
  unfold smallS
  by_cases h1 : okN neg l = true
  · by_cases h2 : l.length ≤ 8
    · rw [if_pos (by rw [h1]; simpa using h2)]
      have h := small_loop neg l hb h2 l.length 0 (by omega)
      rw [List.take_zero, bI_nil] at h
      refine Ev.congr (f := fun k => whole_Small.j0 k false neg l) (fun k => ?_) (Ev.step (fun k => ?_) h)
      · unfold whole_Small.f
        rw [right_eq, h1, Option.bind_some, if_pos rfl, show decide ((l.length : Int) > 8) = false by simp; omega]
      · simp only [whole_Small.j0]; rfl
    · rw [if_neg (by rw [h1]; simpa using h2)]
      refine Ev.congr (f := fun k => whole_Small.j0 k true neg l) (fun k => ?_) (Ev.step (f := fun _ => some (0, false)) (fun k => ?_) (Ev.now _))
      · unfold whole_Small.f
        rw [right_eq, h1, Option.bind_some, if_pos rfl, show decide ((l.length : Int) > 8) = true by simp; omega]
      · simp only [whole_Small.j0]; rfl
  · have h1 : okN neg l = false := by simpa using h1
    rw [if_neg (by rw [h1]; simp)]
    refine Ev.congr (f := fun k => whole_Small.j0 k true neg l) (fun k => ?_) (Ev.step (f := fun _ => some (0, false)) (fun k => ?_) (Ev.now _))
    · unfold whole_Small.f
      rw [right_eq, h1, Option.bind_some, if_neg (by simp)]
    · simp only [whole_Small.j0]; rfl

/-! ### Sums, products, comparisons either way round -/
theorem addS_comm (xn : Bool) (x : List Int) (yn : Bool) (y : List Int) : addS xn x yn y = addS yn y xn x := by
  unfold addS
  rw [Bool.and_comm (okN xn x)]
  split
  · unfold addV
    by_cases h : (xn == yn) = true
    · have e : xn = yn := by simpa using h
      subst e
      rw [if_pos h, if_pos h, Nat.add_comm]
    · have h' : ¬ (yn == xn) = true := fun e => h (by simpa using (by simpa using e : yn = xn).symm)
      rw [if_neg h, if_neg h']
      by_cases h1 : bval x < bval y
      · rw [if_pos h1, if_neg (by omega)]
      · rw [if_neg h1]
        by_cases h2 : bval y < bval x
        · rw [if_pos h2]
        · rw [if_neg h2, show bval x - bval y = 0 from by omega, show bval y - bval x = 0 from by omega]
          unfold fit mk
          simp
  · rfl
theorem mulS_comm (xn : Bool) (x : List Int) (yn : Bool) (y : List Int) : mulS xn x yn y = mulS yn y xn x := by
  unfold mulS
  rw [Bool.and_comm (okN xn x), Nat.mul_comm (bval x), show (xn != yn) = (yn != xn) from by cases xn <;> cases yn <;> rfl]
theorem cmpN_zero (a b : Nat) : cmpN a b = 0 ↔ a = b := by unfold cmpN; split; omega; split <;> omega
theorem cmpS_turn (xn : Bool) (x : List Int) (yn : Bool) (y : List Int) : decide (cmpS xn x yn y = 0) = decide (cmpS yn y xn x = 0) := by
  refine decide_eq_decide.2 ?_
  unfold cmpS
  rw [Bool.and_comm (okN xn x)]
  split
  · unfold cmpV
    have h1 := cmpN_zero (bval x) (bval y)
    have h2 := cmpN_zero (bval y) (bval x)
    cases xn <;> cases yn <;> simp <;> omega
  · exact Iff.rfl
theorem turn_small (n : Bool) {l : List Int} (hb : IsB l) : ∃ k v ok, whole_Small.f k n l = some (v, ok) := by
  obtain ⟨k, hk⟩ := (small_ev n l hb).rounds
  exact ⟨k, (smallS n l).1, (smallS n l).2, hk⟩

end Go.Proofs.Ytfjbhccapgnkiaa.P
