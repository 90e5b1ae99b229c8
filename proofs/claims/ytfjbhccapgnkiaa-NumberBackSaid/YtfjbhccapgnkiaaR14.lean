import Derived.Test.YtfjbhccapgnkiaaN14
import Derived.Test.YtfjbhccapgnkiaaFX
import Derived.Test.YtfjbhccapgnkiaaU14
namespace Go.Proofs.Ytfjbhccapgnkiaa.P
open Go.RowKit Go.Proofs.YtfjbhccapgnkiaaW.PrintWords Go.Proofs.YtfjbhccapgnkiaaW.PrintLast Go.Proofs.YtfjbhccapgnkiaaW.PrintMore
attribute [local go_sem] max2_int min2_int max_two min_two max_three min_three max_four min_four
set_option linter.unusedVariables false
set_option linter.unusedSimpArgs false

open Lap
/-! ### NumberBack: the law -/
theorem tmod_range (a : Int) : -999 ≤ a.tmod 1000 ∧ a.tmod 1000 ≤ 999 := by
  have h1 := Int.tmod_lt_of_pos a (b := 1000) (by decide)
  have h2 := Int.tmod_lt_of_pos (-a) (b := 1000) (by decide)
  rw [Int.neg_tmod] at h2
  omega
theorem mul_range {a b m n : Int} (ha : -m ≤ a ∧ a ≤ m) (hb : -n ≤ b ∧ b ≤ n) (hm : 0 ≤ m) (hn : 0 ≤ n) : -(m * n) ≤ a * b ∧ a * b ≤ m * n := by
  have h := Int.natAbs_mul a b
  have h1 : a.natAbs ≤ m.toNat := by omega
  have h2 : b.natAbs ≤ n.toNat := by omega
  have h3 := Nat.mul_le_mul h1 h2
  rw [← h] at h3
  have h4 : ((m.toNat * n.toNat : Nat) : Int) = m * n := by rw [Int.natCast_mul]; congr 1 <;> omega
  omega
/-- A product of complex numbers of whole parts is one. -/
theorem times_whole {x y u v re im : Nat} {a b c d m : Int} (hx : VF x a) (hy : VF y b) (hu : VF u c) (hv : VF v d) (hm : 0 ≤ m) (ha : -m ≤ a ∧ a ≤ m) (hb : -m ≤ b ∧ b ≤ m) (hc : -2000000 ≤ c ∧ c ≤ 2000000) (hd : -2000000 ≤ d ∧ d ≤ 2000000) (hm2 : m ≤ 2000000)
    (h : TimesR x y u v re im) : VF re (a * c - b * d) ∧ VF im (a * d + b * c) := by
  obtain ⟨p, q, s, t, h1, h2, h3, h4, h5, h6⟩ := h
  have hh : m * 2000000 ≤ 4000000000000 := by omega
  have r1 := mul_range ha hc hm (by decide)
  have r2 := mul_range hb hd hm (by decide)
  have r3 := mul_range ha hd hm (by decide)
  have r4 := mul_range hb hc hm (by decide)
  exact ⟨(VF.mul hx hu (by omega) h1).sub (VF.mul hy hv (by omega) h2) (by omega) h3, (VF.mul hx hv (by omega) h4).add (VF.mul hy hu (by omega) h5) (by omega) h6⟩
theorem back_plain (a b c d n m : Int) (ha : -999 ≤ a ∧ a ≤ 999) (hb : -999 ≤ b ∧ b ≤ 999) (hc : -999 ≤ c ∧ c ≤ 999) (hd : -999 ≤ d ∧ d ≤ 999) (hn : n = -d) (hm : m = c * c + d * d) (p q r s t u : Nat)
    (h1 : TimesR (FloatKind.f64.nearest a) (FloatKind.f64.nearest b) (FloatKind.f64.nearest c) (FloatKind.f64.nearest d) p q) (h2 : TimesR p q (FloatKind.f64.nearest c) (FloatKind.f64.nearest n) r s) (h3 : TimesR (FloatKind.f64.nearest a) (FloatKind.f64.nearest b) (FloatKind.f64.nearest m) 0 t u) : ceqB r s t u = true := by
  have va := VF.near a (by omega)
  have vb := VF.near b (by omega)
  have vc := VF.near c (by omega)
  have vd := VF.near d (by omega)
  have vn := VF.near n (by omega)
  have rcc := mul_range hc hc (by decide) (by decide)
  have rdd := mul_range hd hd (by decide) (by decide)
  have rac := mul_range ha hc (by decide) (by decide)
  have rbd := mul_range hb hd (by decide) (by decide)
  have rad := mul_range ha hd (by decide) (by decide)
  have rbc := mul_range hb hc (by decide) (by decide)
  have vm := VF.near m (by omega)
  have v0 : VF 0 0 := VF.near 0 (by decide)
  obtain ⟨w1, w2⟩ := times_whole va vb vc vd (m := 999) (by decide) ha hb (by omega) (by omega) (by decide) h1
  obtain ⟨w3, w4⟩ := times_whole w1 w2 vc vn (m := 2000000) (by decide) (by omega) (by omega) (by omega) (by omega) (by decide) h2
  obtain ⟨w5, w6⟩ := times_whole va vb vm v0 (m := 999) (by decide) ha hb (by omega) (by omega) (by decide) h3
  have e1 : (a * c - b * d) * c - (a * d + b * c) * n = a * m - b * 0 := by
    subst hn hm
    simp only [Int.sub_mul, Int.add_mul, Int.mul_add, Int.mul_neg, Int.mul_zero, Int.mul_assoc, Int.sub_neg]
    simp only [Int.mul_comm c d, Int.mul_left_comm d]
    omega
  have e2 : (a * c - b * d) * n + (a * d + b * c) * c = a * 0 + b * m := by
    subst hn hm
    simp only [Int.sub_mul, Int.add_mul, Int.mul_add, Int.mul_neg, Int.mul_zero, Int.mul_assoc]
    simp only [Int.mul_comm c d]
    omega
  rw [e1] at w3
  rw [e2] at w4
  unfold ceqB
  rw [VF.same w3 w5, VF.same w4 w6]; rfl
theorem back_law (a b c d : Int) (w : World) : Calls Try.prog 14 #[.int .i64 a, .int .i64 b, .int .i64 c, .int .i64 d] w fun e w' => e = .returned (.bool true) ∧ Below w.heap.size w w' := by
  have ra := tmod_range a
  have rb := tmod_range b
  have rc := tmod_range c
  have rd := tmod_range d
  have rcc := mul_range (m := 999) (n := 999) rc rc (by decide) (by decide)
  have rdd := mul_range (m := 999) (n := 999) rd rd (by decide) (by decide)
  obtain ⟨ka, ja, sa, la, Oa, Ra, Sa⟩ := small_all (a.tmod 1000) (by omega) (by omega)
  obtain ⟨kb, jb, sb, lb, Ob, Rb, Sb⟩ := small_all (b.tmod 1000) (by omega) (by omega)
  obtain ⟨kc, jc, sc, lc, Oc, Rc, Sc⟩ := small_all (c.tmod 1000) (by omega) (by omega)
  obtain ⟨kd, jd, sd, ld, Od, Rd, Sd⟩ := small_all (d.tmod 1000) (by omega) (by omega)
  obtain ⟨kn, jn, sn, ln, On, Rn, Sn⟩ := small_all (-(d.tmod 1000)) (by omega) (by omega)
  obtain ⟨km, jm, sm, lm, Om, Rm, Sm⟩ := small_all (c.tmod 1000 * c.tmod 1000 + d.tmod 1000 * d.tmod 1000) (by omega) (by omega)
  exact back_walk a b c d (c.tmod 1000 * c.tmod 1000) (d.tmod 1000 * d.tmod 1000) ka ja _ sa la kb jb _ sb lb kc jc _ sc lc kd jd _ sd ld kn jn _ sn ln km jm _ sm lm rfl rfl rfl rfl ((i64_w _).trans (w64 (by omega) (by omega))) ((i64_w _).trans (w64 (by omega) (by omega))) ((i64_w _).trans (w64 (by omega) (by omega))) ((i64_w _).trans (w64 (by omega) (by omega))) w Oa Ob Oc Od On Om Ra Rb Rc Rd Rn Rm Sa Sb Sc Sd Sn Sm
    (fun p q r s t u h1 h2 h3 => back_plain _ _ _ _ _ _ ra rb rc rd rfl rfl p q r s t u h1 h2 h3)

end Go.Proofs.Ytfjbhccapgnkiaa.P
