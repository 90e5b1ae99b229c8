import Derived.Test.YtfjbhccapgnkiaaU1w
import Derived.Test.YtfjbhccapgnkiaaB4
namespace Go.Proofs.Ytfjbhccapgnkiaa.P
open Go.RowKit Go.Proofs.YtfjbhccapgnkiaaW.PrintWords Go.Proofs.YtfjbhccapgnkiaaW.PrintLast Go.Proofs.YtfjbhccapgnkiaaW.PrintMore
attribute [local go_sem] max2_int min2_int max_two min_two max_three min_three max_four min_four
set_option linter.unusedVariables false
set_option linter.unusedSimpArgs false

open Lap

/-- 2 to a small power. -/
@[irreducible] def P2 (m : Nat) : Int := ((2 ^ m : Nat) : Int)
theorem P2_eq (m : Nat) : P2 m = ((2 ^ m : Nat) : Int) := by unfold P2; rfl
theorem P2_succ (m : Nat) : P2 (m + 1) = P2 m * 2 := by rw [P2_eq, P2_eq, Nat.pow_succ, Int.natCast_mul]; rfl
theorem P2_pos (m : Nat) : 0 < P2 m := by rw [P2_eq]; have : 0 < 2 ^ m := Nat.pow_pos (by decide); omega
theorem shr32 (x : Int) (m : Nat) (hm : m < 32) : shr .u32 x (m : Int) = x / P2 m := by
  unfold shr
  rw [Int.toNat_natCast, show IntKind.u32.bits = 32 from rfl, Nat.min_eq_left (by omega), P2_eq]
  norm_cast
theorem P2_lt (m : Nat) (hm : m < 32) : P2 m < 4294967296 := by
  rw [P2_eq]
  have h1 : 2 ^ m < 2 ^ 32 := Nat.pow_lt_pow_right (by decide) hm
  have h2 : (2 : Nat) ^ 32 = 4294967296 := by decide
  omega
theorem shl32 (m : Nat) (hm : m < 32) : shl .u32 1 (m : Int) = P2 m := by
  have h1 := P2_lt m hm
  have h2 := P2_pos m
  unfold shl
  rw [Int.toNat_natCast, show IntKind.u32.bits = 32 from rfl, Nat.min_eq_left (by omega)]
  have e : (1 : Int) * 2 ^ m = P2 m := by rw [P2_eq, Int.one_mul]; norm_cast
  rw [e, IntKind.wrap_u32]
  omega
theorem and1 (x : Int) (h0 : 0 ≤ x) (h1 : x < 4294967296) : Go.bits .and .u32 x 1 = x % 2 := by
  have := bits_mask .u32 32 (by decide) (fun n a b => by rw [IntKind.wrap_u32]; omega) 1 (by decide) x h0 (by omega)
  simpa using this
theorem or_bit (x : Int) (m : Nat) (hm : m < 32) (h0 : 0 ≤ x) (h1 : x < 4294967296) (hd : x % P2 (m + 1) = 0) : Go.bits .or .u32 x (P2 m) = x + P2 m := by
  have hp := P2_pos m
  have hs := P2_succ m
  have hl := P2_lt m hm
  refine bits_join .u32 32 (by decide) (fun n a b => by rw [IntKind.wrap_u32]; omega) (m + 1) x (P2 m) h0 ?_ (by omega) (by omega) ?_ (by omega)
  · rw [P2_eq] at hd; exact_mod_cast hd
  · rw [P2_eq] at hs; have : ((2 ^ (m + 1) : Nat) : Int) = (2 : Int) ^ (m + 1) := by norm_cast
    rw [← this, hs]; omega
theorem pow32 (j : Nat) : 4294967296 ^ j = 2 ^ (32 * j) := by
  rw [Nat.pow_mul]
theorem wval_parts (a : List Int) (j : Nat) (hj : j < a.length) : wval a = wval (a.take j) + 2 ^ (32 * j) * ((a[j]).toNat + 4294967296 * wval (a.drop (j + 1))) := by
  have e : a = a.take j ++ a[j] :: a.drop (j + 1) := by rw [← List.drop_eq_getElem_cons hj, List.take_append_drop]
  have h : wval a = wval (a.take j ++ a[j] :: a.drop (j + 1)) := by rw [← e]
  rw [wval_append, List.length_take, Nat.min_eq_left (by omega), pow32] at h
  exact h
theorem bit_at (a : List Int) (ha : IsW a) (j m : Nat) (hj : j < a.length) (hm : m < 32) : wval a / 2 ^ (32 * j + m) % 2 = (a[j]).toNat / 2 ^ m % 2 := by
  have hl : wval (a.take j) < 2 ^ (32 * j) := by
    have := wval_lt (ha.take j)
    rw [List.length_take, Nat.min_eq_left (by omega), pow32] at this
    exact this
  rw [wval_parts a j hj, Nat.pow_add, ← Nat.div_div_eq_div_mul, Nat.add_mul_div_left _ _ (Nat.pow_pos (by decide)), Nat.div_eq_of_lt hl, Nat.zero_add]
  have e : (4294967296 : Nat) = 2 ^ m * (2 * 2 ^ (31 - m)) := by
    rw [← Nat.pow_succ', ← Nat.pow_add, show m + (31 - m + 1) = 32 by omega]
  rw [e, Nat.mul_assoc, Nat.add_mul_div_left _ _ (Nat.pow_pos (by decide)), Nat.mul_assoc, Nat.add_mul_mod_self_left]
theorem wval_set (l : List Int) (p : Nat) (v : Int) (h : p < l.length) (h0 : 0 ≤ v) (hl : 0 ≤ l[p]) (hv : l[p] ≤ v) : wval (l.set p v) = wval l + 2 ^ (32 * p) * (v - l[p]).toNat := by
  have := wI_set l p v h h0 hl
  rw [wI_eq, wI_eq] at this
  have e : W32 p = ((2 ^ (32 * p) : Nat) : Int) := by unfold W32; rw [pow32]
  have ev : v - l[p] = (((v - l[p]).toNat : Nat) : Int) := by omega
  rw [e, ev, ← Int.natCast_mul] at this
  omega
/-- The place of a bit: the words below it are 0, its word is a multiple of twice its weight. -/
def Clean (q : List Int) (d : Nat) : Prop := (∀ p, (h : p < q.length) → p < d / 32 → q[p] = 0) ∧ (∀ h : d / 32 < q.length, q[d / 32] % P2 (d % 32 + 1) = 0)
theorem P2_32 : P2 32 = 4294967296 := by rw [P2_eq]; decide
theorem clean_down (q : List Int) (d : Nat) (hw : IsW q) (h : Clean q (d + 1)) : Clean q d := by
  obtain ⟨h1, h2⟩ := h
  by_cases hm : (d + 1) % 32 = 0
  · have e1 : (d + 1) / 32 = d / 32 + 1 := by omega
    have e2 : d % 32 = 31 := by omega
    refine ⟨fun p hp hlt => h1 p hp (by omega), fun hl => ?_⟩
    rw [h1 (d / 32) hl (by omega)]; simp
  · have e1 : (d + 1) / 32 = d / 32 := by omega
    have e2 : (d + 1) % 32 = d % 32 + 1 := by omega
    refine ⟨fun p hp hlt => h1 p hp (by omega), fun hl => ?_⟩
    have := h2 (by omega)
    simp only [e1, e2] at this
    rw [P2_succ] at this
    have hd : P2 (d % 32 + 1) ∣ P2 (d % 32 + 1) * 2 := ⟨2, rfl⟩
    exact Int.emod_eq_zero_of_dvd (Int.dvd_trans hd (Int.dvd_of_emod_eq_zero this))
theorem clean_set (q : List Int) (d : Nat) (hw : IsW q) (hl : d / 32 < q.length) (h : Clean q d) (hd : 0 < d) : Clean (q.set (d / 32) (q[d / 32] + P2 (d % 32))) (d - 1) := by
  obtain ⟨h1, h2⟩ := h
  have h3 := h2 hl
  by_cases hm : d % 32 = 0
  · have e1 : d / 32 = (d - 1) / 32 + 1 := by omega
    refine ⟨fun p hp hlt => ?_, fun hl2 => ?_⟩
    · rw [List.getElem_set_ne (by omega)]; exact h1 p (by simpa using hp) (by omega)
    · rw [List.getElem_set_ne (by omega), h1 ((d - 1) / 32) (by simpa using hl2) (by omega)]; simp
  · have e1 : (d - 1) / 32 = d / 32 := by omega
    have e2 : (d - 1) % 32 + 1 = d % 32 := by omega
    refine ⟨fun p hp hlt => ?_, fun hl2 => ?_⟩
    · rw [List.getElem_set_ne (by omega)]; exact h1 p (by simpa using hp) (by omega)
    · simp only [e1, e2, List.getElem_set_self]
      rw [P2_succ] at h3
      have hdv : P2 (d % 32) ∣ P2 (d % 32) * 2 := ⟨2, rfl⟩
      have := Int.dvd_trans hdv (Int.dvd_of_emod_eq_zero h3)
      exact Int.emod_eq_zero_of_dvd (Int.dvd_add this ⟨1, by omega⟩)
theorem P2_add (m n : Nat) : P2 (m + n) = P2 m * P2 n := by rw [P2_eq, P2_eq, P2_eq, Nat.pow_add, Int.natCast_mul]
theorem word_room (x : Int) (m : Nat) (hm : m < 32) (h0 : 0 ≤ x) (h1 : x < 4294967296) (hd : x % P2 (m + 1) = 0) : x + P2 m < 4294967296 := by
  obtain ⟨t, ht⟩ := Int.dvd_of_emod_eq_zero hd
  have e : P2 (m + 1) * P2 (31 - m) = 4294967296 := by rw [← P2_add, show m + 1 + (31 - m) = 32 by omega, P2_32]
  have hp := P2_pos m
  have hs := P2_succ m
  have hlt : t < P2 (31 - m) := by
    rw [ht, ← e] at h1
    exact Int.lt_of_mul_lt_mul_left h1 (by omega)
  have hle : P2 (m + 1) * (t + 1) ≤ P2 (m + 1) * P2 (31 - m) := Int.mul_le_mul_of_nonneg_left (by omega) (by omega)
  rw [e, Int.mul_add, ← ht] at hle
  omega
theorem wordsN_len_of {R k : Nat} {b : List Int} (hb : IsW b) (h : R < 2 * wval b) : (wordsN R).length ≤ b.length + 1 := by
  rw [wordsN_length_le, Nat.pow_succ]
  have := wval_lt hb
  omega
theorem split_next (a b : List Int) (ha : IsW a) (hb : CanW b) (hlb : b.length ≤ 1000) (q : List Int) (hq : q.length = a.length) (hw : IsW q) (hla : a.length ≤ 1000)
    (d r Q : Nat) (hd : d < 32 * a.length) (hc : Clean q d) (hr : r < 2 * wval b) (hv : wval q = Q * 2 ^ (d + 1)) (res : List Int × List Int)
    (h1 : wval b ≤ r → ∀ q' : List Int, q'.length = a.length → IsW q' → (0 < d → Clean q' (d - 1)) → wval q' = (2 * Q + 1) * 2 ^ d → Ev (fun k => whole_split.l0 k a b q' (wordsN (r - wval b)) ((d : Int) - 1)) res)
    (h2 : r < wval b → (0 < d → Clean q (d - 1)) → wval q = (2 * Q) * 2 ^ d → Ev (fun k => whole_split.l0 k a b q (wordsN r) ((d : Int) - 1)) res) :
    Ev (fun k => whole_split.j1 k a b q (wordsN r) (d : Int)) res := by
  have hlr : (wordsN r).length ≤ b.length + 1 := wordsN_len_of (k := 0) hb.1 hr
  have ho := order_ev (wordsN r) b (canW_wordsN r) hb (by omega) (by omega)
  rw [wval_wordsN] at ho
  have hdiv : wrap64 (Int.tdiv (d : Int) 32) = ((d / 32 : Nat) : Int) := by
    rw [Int.tdiv_eq_ediv_of_nonneg (by omega), w64 (by omega) (by omega)]; omega
  have hmod : Int.tmod (d : Int) 32 = ((d % 32 : Nat) : Int) := by
    rw [Int.tmod_eq_emod_of_nonneg (by omega)]; omega
  have hjq : d / 32 < q.length := by omega
  have hA := hw.get _ hjq
  have hm : d % 32 < 32 := Nat.mod_lt _ (by omega)
  by_cases hge : wval b ≤ r
  · have hcl := hc.2 hjq
    have hroom := word_room _ _ hm hA.1 hA.2 hcl
    have hpp := P2_pos (d % 32)
    have hll : b.length ≤ (wordsN r).length := by
      rcases Nat.lt_or_ge (wordsN r).length b.length with h | h
      · have := wval_len_lt (isW_wordsN r) hb h; rw [wval_wordsN] at this; omega
      · exact h
    have hmi := minus_ev (wordsN r) b (isW_wordsN r) hb.1 (by omega) hll (by rw [wval_wordsN]; exact hge)
    rw [wval_wordsN] at hmi
    have h3 := h1 hge (q.set (d / 32) (q[d / 32] + P2 (d % 32))) (by simpa using hq) (hw.set _ _ (by omega) hroom) (fun h => clean_set q d hw hjq hc h) (by
      rw [wval_set q _ _ hjq (by omega) hA.1 (by omega), hv]
      have e : (q[d / 32] + P2 (d % 32) - q[d / 32]).toNat = 2 ^ (d % 32) := by rw [show q[d / 32] + P2 (d % 32) - q[d / 32] = P2 (d % 32) by omega, P2_eq, Int.toNat_natCast]
      rw [e, ← Nat.pow_add, Nat.div_add_mod, Nat.pow_succ]
      generalize 2 ^ d = T
      grind)
    refine Ev.step (f := fun k => (whole_order.f k (wordsN r) b).bind fun t182 => if t182 ≥ 0 then (whole_minus.f k (wordsN r) b).bind fun t183 => whole_split.l0 k a b (q.set (d / 32) (q[d / 32] + P2 (d % 32))) t183 ((d : Int) - 1) else whole_split.l0 k a b q (wordsN r) ((d : Int) - 1)) (fun k => ?_) (Ev.bind ho (Ev.congr (fun k => if_pos (by unfold cmpN; split <;> omega)) (Ev.bind hmi h3)))
    simp only [whole_split.j1]
    rw [hdiv, hmod, w64 (x := (d : Int) - 1) (by omega) (by omega)]
    simp only [if_pos (show (0 : Int) ≤ ((d / 32 : Nat) : Int) by omega), if_pos (show ((d / 32 : Nat) : Int) < (q.length : Int) by omega), if_pos (show (0 : Int) ≤ ((d % 32 : Nat) : Int) by omega), rd_lt _ _ hjq, shl32 _ hm, or_bit _ _ hm hA.1 hA.2 hcl, Int.toNat_natCast]
  · have h3 := h2 (by omega) (fun h => by
      have := clean_down q (d - 1) hw (by rw [show d - 1 + 1 = d by omega]; exact hc)
      exact this) (by rw [hv, Nat.pow_succ]; generalize 2 ^ d = T; grind)
    refine Ev.step (f := fun k => (whole_order.f k (wordsN r) b).bind fun t182 => if t182 ≥ 0 then (whole_minus.f k (wordsN r) b).bind fun t183 => (if 0 ≤ (wrap64 (Int.tdiv (d : Int) 32)) then (if (wrap64 (Int.tdiv (d : Int) 32)) < (q.length : Int) then (if 0 ≤ (Int.tmod (d : Int) 32) then (whole_split.l0 k a b (q.set ((wrap64 (Int.tdiv (d : Int) 32)) : Int).toNat (Go.bits .or .u32 (rd q (wrap64 (Int.tdiv (d : Int) 32))) (shl .u32 1 (Int.tmod (d : Int) 32)))) t183 (wrap64 ((d : Int) - 1))) else (none)) else (none)) else (none)) else whole_split.l0 k a b q (wordsN r) ((d : Int) - 1)) (fun k => ?_) (Ev.bind ho (Ev.congr (fun k => if_neg (by unfold cmpN; rw [if_pos (by omega)]; omega)) h3))
    simp only [whole_split.j1]
    rw [w64 (x := (d : Int) - 1) (by omega) (by omega)]
theorem one_isW : IsW [1] := IsW.cons (by omega) (by omega) IsW.nil
theorem and1n (n : Nat) (h : n < 4294967296) : Go.bits .and .u32 (n : Int) 1 = ((n % 2 : Nat) : Int) := by rw [and1 _ (by omega) (by omega)]; omega
theorem split_unfold (a b q r : List Int) (d t k : Nat) (hj : d / 32 < a.length) (hla : a.length ≤ 1000) (hand : Go.bits .and .u32 (shr .u32 (rd a ((d / 32 : Nat) : Int)) ((d % 32 : Nat) : Int)) 1 = ((t % 2 : Nat) : Int)) :
    whole_split.l0 (k + 1) a b q r (d : Int) = (whole_plus.f k r r).bind fun t172 => if ((t % 2 : Nat) : Int) = 1 then (whole_plus.f k t172 [1]).bind fun t179 => whole_split.j1 k a b q t179 (d : Int) else whole_split.j1 k a b q t172 (d : Int) := by
  have hdiv : wrap64 (Int.tdiv (d : Int) 32) = ((d / 32 : Nat) : Int) := by
    rw [Int.tdiv_eq_ediv_of_nonneg (by omega), w64 (by omega) (by omega)]; omega
  have hmod : Int.tmod (d : Int) 32 = ((d % 32 : Nat) : Int) := by
    rw [Int.tmod_eq_emod_of_nonneg (by omega)]; omega
  have p1 : (0 : Int) ≤ ((d / 32 : Nat) : Int) := by omega
  have p2 : ((d / 32 : Nat) : Int) < (a.length : Int) := by omega
  have p3 : (0 : Int) ≤ ((d % 32 : Nat) : Int) := by omega
  have p4 : (d : Int) ≥ 0 := by omega
  simp only [whole_split.l0]
  rw [if_pos p4, hdiv, hmod, hand]
  simp only [if_pos p1, if_pos p2, if_pos p3]
theorem split_loop (a b : List Int) (ha : IsW a) (hb : CanW b) (hB : 0 < wval b) (hla : a.length ≤ 1000) (hlb : b.length ≤ 1000) :
    ∀ (d : Nat) (q : List Int) (R Q : Nat), d ≤ 32 * a.length → q.length = a.length → IsW q → (0 < d → Clean q (d - 1)) → R < wval b → wval q = Q * 2 ^ d → wval a / 2 ^ d = Q * wval b + R →
      Ev (fun k => whole_split.l0 k a b q (wordsN R) ((d : Int) - 1)) (wordsN (wval a / wval b), wordsN (wval a % wval b)) := by
  intro d
  induction d with
  | zero =>
    intro q R Q hd hq hw hc hR hv he
    rw [Nat.pow_zero, Nat.div_one] at he
    rw [Nat.pow_zero, Nat.mul_one] at hv
    have e1 : wval a / wval b = Q := by rw [he, Nat.mul_comm, Nat.mul_add_div hB, Nat.div_eq_of_lt hR, Nat.add_zero]
    have e2 : wval a % wval b = R := by rw [he, Nat.mul_comm, Nat.mul_add_mod, Nat.mod_eq_of_lt hR]
    rw [e1, e2, ← hv]
    refine Ev.step (f := fun k => (whole_words_trim.f k q).bind fun t169 => some (t169, wordsN R)) (fun k => ?_) (Ev.bind (trim_ev q hw (by omega)) (Ev.now _))
    simp only [whole_split.l0]
    rw [if_neg (by omega)]
  | succ d ih =>
    intro q R Q hd hq hw hc hR hv he
    have hc := hc (by omega)
    rw [Nat.add_sub_cancel] at hc
    have hj : d / 32 < a.length := by omega
    have hm : d % 32 < 32 := Nat.mod_lt _ (by omega)
    have hA := ha.get _ hj
    have hbit := bit_at a ha (d / 32) (d % 32) hj hm
    rw [Nat.div_add_mod] at hbit
    have hhalf : wval a / 2 ^ d / 2 = Q * wval b + R := by rw [Nat.div_div_eq_div_mul, ← Nat.pow_succ]; exact he
    have hlR : (wordsN R).length ≤ b.length + 1 := wordsN_len_of (k := 0) hb.1 (by omega)
    have hp := plus_ev (wordsN R) (wordsN R) (isW_wordsN R) (isW_wordsN R) (by omega) (by omega)
    rw [wval_wordsN] at hp
    have hsh : shr .u32 (rd a ((d / 32 : Nat) : Int)) ((d % 32 : Nat) : Int) = (((a[d / 32]).toNat / 2 ^ (d % 32) : Nat) : Int) := by
      rw [rd_lt _ _ hj, shr32 _ _ hm, P2_eq, Int.natCast_ediv, Int.toNat_of_nonneg hA.1]
    have hsmall : (a[d / 32]).toNat / 2 ^ (d % 32) < 4294967296 := by
      have := Nat.div_le_self (a[d / 32]).toNat (2 ^ (d % 32)); omega
    have hand : Go.bits .and .u32 (((a[d / 32]).toNat / 2 ^ (d % 32) : Nat) : Int) 1 = ((wval a / 2 ^ d % 2 : Nat) : Int) := by
      rw [and1n _ hsmall, hbit]
    obtain ⟨t, ht⟩ : ∃ t, wval a / 2 ^ d = t := ⟨_, rfl⟩
    rw [ht] at hhalf hand
    have hx8 : ((d + 1 : Nat) : Int) - 1 = (d : Int) := by omega
    have htest : ∀ k, whole_split.l0 (k + 1) a b q (wordsN R) (((d + 1 : Nat) : Int) - 1) = (whole_plus.f k (wordsN R) (wordsN R)).bind fun t172 => if ((t % 2 : Nat) : Int) = 1 then (whole_plus.f k t172 [1]).bind fun t179 => whole_split.j1 k a b q t179 (d : Int) else whole_split.j1 k a b q t172 (d : Int) := by
      intro k
      rw [hx8]
      exact split_unfold a b q (wordsN R) d t k hj hla (by rw [hsh]; exact hand)
    have hnext := split_next a b ha hb hlb q hq hw hla d (R + R + t % 2) Q (by omega) hc (by omega) hv (wordsN (wval a / wval b), wordsN (wval a % wval b))
      (fun hge q' g1 g2 g3 g4 => ih q' (R + R + t % 2 - wval b) (2 * Q + 1) (by omega) g1 g2 g3 (by omega) g4 (by
        have : (2 * Q + 1) * wval b = Q * wval b + Q * wval b + wval b := by grind
        omega))
      (fun hlt g3 g4 => ih q (R + R + t % 2) (2 * Q) (by omega) hq hw g3 hlt g4 (by
        have : (2 * Q) * wval b = Q * wval b + Q * wval b := by grind
        omega))
    by_cases hb1 : t % 2 = 1
    · have hl2 : (wordsN (R + R)).length ≤ b.length + 1 := wordsN_len_of (k := 0) hb.1 (by omega)
      have hp1 := plus_ev (wordsN (R + R)) [1] (isW_wordsN _) one_isW (by omega) (by simp)
      rw [wval_wordsN, show wval [1] = 1 from rfl] at hp1
      rw [hb1] at hnext
      exact Ev.step htest (Ev.bind hp (Ev.congr (fun k => if_pos (by omega)) (Ev.bind hp1 hnext)))
    · have hb0 : t % 2 = 0 := by omega
      rw [hb0, Nat.add_zero] at hnext
      exact Ev.step htest (Ev.bind hp (Ev.congr (fun k => if_neg (by omega)) hnext))
theorem split_ev (a b : List Int) (ha : IsW a) (hb : CanW b) (hB : 0 < wval b) (hla : a.length ≤ 1000) (hlb : b.length ≤ 1000) :
    Ev (fun k => whole_split.f k a b) (wordsN (wval a / wval b), wordsN (wval a % wval b)) := by
  have h := split_loop a b ha hb hB hla hlb (32 * a.length) (List.replicate a.length 0) 0 0 (Nat.le_refl _) (by simp) (IsW.replicate _)
    (fun _ => ⟨fun p hp _ => by simp, fun hp => by simp⟩) hB (by rw [wval_replicate_zero]; simp) (by
      rw [Nat.div_eq_of_lt (by rw [← pow32]; exact wval_lt ha)]; simp)
  refine Ev.congr (fun k => ?_) h
  unfold whole_split.f
  rw [if_pos (by omega), if_pos (by omega), Int.toNat_natCast, wordsN_zero, w64 (x := (a.length : Int) * 32) (by omega) (by omega), w64 (by omega) (by omega)]
  rw [show (a.length : Int) * 32 = ((32 * a.length : Nat) : Int) by omega]
theorem wlen_pos_iff (n : Nat) : decide (((wordsN n).length : Int) > 0) = decide (n ≠ 0) := by
  have : (wordsN n).length = 0 ↔ n = 0 := by rw [List.length_eq_zero_iff]; exact wordsN_nil_iff n
  simp only [decide_eq_decide]; omega
theorem divide_good (xn yn : Bool) (x y : List Int) (hx : IsB x) (hy : IsB y) (h1 : okN xn x = true) (h2 : okN yn y = true) (hne : y ≠ []) :
    Ev (fun k => whole_divide.j0 k false xn x yn y) (divV xn (bval x) yn (bval y)) := by
  have c2 := okN_can hy h2
  have hB := CanB.pos c2.1 hne
  obtain ⟨l1, w1⟩ := words_of hx h1
  obtain ⟨l2, w2⟩ := words_of hy h2
  have hs := split_ev (wordsN (bval x)) (wordsN (bval y)) (isW_wordsN _) (canW_wordsN _) (by rw [wval_wordsN]; exact hB) (by omega) (by omega)
  rw [wval_wordsN, wval_wordsN] at hs
  generalize bval x = A at *
  generalize bval y = B at *
  have hmod : A % B < B := Nat.mod_lt _ hB
  have hyl : y.length ≠ 0 := fun e => hne (List.eq_nil_of_length_eq_zero e)
  have hql : (wordsN (A / B)).length ≤ 32 := Nat.le_trans (words_mono (Nat.div_le_self _ _)) l1
  have hrl : (wordsN (A % B)).length ≤ (wordsN B).length := words_mono (Nat.le_of_lt hmod)
  have hstep : ∀ k, whole_divide.j0 (k + 1) false xn x yn y = (whole_wordsOf.f k y).bind fun t194 => (whole_wordsOf.f k x).bind fun t197 => (whole_split.f k t197 t194).bind fun bt => if (xn != yn) = true then whole_divide.j1 k t194 bt.1 bt.2 (xn != yn) (decide ((bt.2.length : Int) > 0)) yn y else whole_divide.j1 k t194 bt.1 bt.2 (xn != yn) false yn y := by
    intro k
    simp only [whole_divide.j0]
    rw [if_neg (by simp), if_neg (by omega)]
  unfold divV
  by_cases hap : (xn != yn && decide (A % B ≠ 0)) = true
  · rw [if_pos hap]
    have ha : (xn != yn) = true := by simp only [Bool.and_eq_true] at hap; exact hap.1
    have hr : decide (A % B ≠ 0) = true := by simp only [Bool.and_eq_true] at hap; exact hap.2
    have hp := plus_ev (wordsN (A / B)) [1] (isW_wordsN _) one_isW (by omega) (by simp)
    rw [wval_wordsN, show wval [1] = 1 from rfl] at hp
    have hmi := minus_ev (wordsN B) (wordsN (A % B)) (isW_wordsN _) (isW_wordsN _) (by omega) hrl (by rw [wval_wordsN, wval_wordsN]; omega)
    rw [wval_wordsN, wval_wordsN] at hmi
    have hlq : (wordsN (A / B + 1)).length ≤ 33 := by
      rw [wordsN_length_le] at hql ⊢
      have : (4294967296 : Nat) ^ 33 = 4294967296 ^ 32 * 4294967296 := Nat.pow_succ ..
      have hp : 0 < (4294967296 : Nat) ^ 32 := Nat.pow_pos (by omega)
      rw [this]; omega
    have hlm : (wordsN (B - A % B)).length ≤ 32 := Nat.le_trans (words_mono (Nat.sub_le _ _)) l2
    have m1 := made_ev (xn != yn) (wordsN (A / B + 1)) (isW_wordsN _) (by omega)
    have m2 := made_ev yn (wordsN (B - A % B)) (isW_wordsN _) (by omega)
    rw [wval_wordsN] at m1 m2
    refine Ev.step hstep (Ev.bind w2 (Ev.bind w1 (Ev.bind hs (Ev.congr (f := fun k => whole_divide.j1 k (wordsN B) (wordsN (A / B)) (wordsN (A % B)) (xn != yn) true yn y) (fun k => ?_) (Ev.step (f := fun k => (whole_plus.f k (wordsN (A / B)) [1]).bind fun t209 => (whole_minus.f k (wordsN B) (wordsN (A % B))).bind fun t212 => (whole_made.f k (xn != yn) t209).bind fun bt215 => (whole_made.f k yn t212).bind fun bt219 => some (bt215.1, bt215.2, bt219.1, bt219.2, 0)) (fun k => ?_) (Ev.bind hp (Ev.bind hmi (Ev.bind m1 (Ev.bind m2 (Ev.now _))))))))))
    · rw [if_pos ha, wlen_pos_iff, hr]
    · simp only [whole_divide.j1]; rw [if_pos trivial]
  · rw [if_neg hap]
    have m1 := made_ev (xn != yn) (wordsN (A / B)) (isW_wordsN _) (by omega)
    have m2 := made_ev yn (wordsN (A % B)) (isW_wordsN _) (by omega)
    rw [wval_wordsN] at m1 m2
    refine Ev.step hstep (Ev.bind w2 (Ev.bind w1 (Ev.bind hs (Ev.congr (f := fun k => whole_divide.j1 k (wordsN B) (wordsN (A / B)) (wordsN (A % B)) (xn != yn) false yn y) (fun k => ?_) (Ev.step (f := fun k => (whole_made.f k (xn != yn) (wordsN (A / B))).bind fun bt223 => (whole_made.f k yn (wordsN (A % B))).bind fun bt227 => some (bt223.1, bt223.2, bt227.1, bt227.2, 0)) (fun k => ?_) (Ev.bind m1 (Ev.bind m2 (Ev.now _))))))))
    · by_cases ha : (xn != yn) = true
      · have hr : decide (A % B ≠ 0) = false := by
          rw [ha, Bool.true_and] at hap; simpa using hap
        rw [if_pos ha, wlen_pos_iff, hr]
      · rw [if_neg ha]
    · simp only [whole_divide.j1]
      rw [if_neg (by simp)]
theorem divide_ev (xn yn : Bool) (x y : List Int) (hx : IsB x) (hy : IsB y) : Ev (fun k => whole_divide.f k xn x yn y) (divS xn x yn y) := by
  unfold divS
  by_cases h1 : okN xn x = true
  · by_cases h2 : okN yn y = true
    · rw [if_pos (by rw [h1, h2]; rfl)]
      have hf : ∀ k, whole_divide.f k xn x yn y = whole_divide.j0 k false xn x yn y := by
        intro k
        unfold whole_divide.f
        rw [right_eq, h1, Option.bind_some, if_pos rfl, right_eq, h2]; rfl
      refine Ev.congr hf ?_
      by_cases hne : y = []
      · rw [if_pos hne]
        refine Ev.step (f := fun _ => some (false, [], false, [], 23)) (fun k => ?_) (Ev.now _)
        simp only [whole_divide.j0]
        rw [if_neg (by simp), if_pos (by rw [hne]; rfl)]
      · rw [if_neg hne]
        exact divide_good xn yn x y hx hy h1 h2 hne
    · have h2 : okN yn y = false := by simpa using h2
      rw [if_neg (by rw [h1, h2]; simp)]
      refine Ev.congr (f := fun k => whole_divide.j0 k true xn x yn y) (fun k => ?_) (Ev.step (f := fun _ => some (false, [], false, [], 1)) (fun k => ?_) (Ev.now _))
      · unfold whole_divide.f
        rw [right_eq, h1, Option.bind_some, if_pos rfl, right_eq, h2]; rfl
      · simp only [whole_divide.j0]; rfl
  · have h1 : okN xn x = false := by simpa using h1
    rw [if_neg (by rw [h1]; simp)]
    refine Ev.congr (f := fun k => whole_divide.j0 k true xn x yn y) (fun k => ?_) (Ev.step (f := fun _ => some (false, [], false, [], 1)) (fun k => ?_) (Ev.now _))
    · unfold whole_divide.f
      rw [right_eq, h1, Option.bind_some, if_neg (by simp)]
    · simp only [whole_divide.j0]; rfl
theorem mk_len {neg : Bool} {n k : Nat} (h : n < 256 ^ k) (hk : k ≤ 100000) : (mk neg n).2.length ≤ 140737488355328 := by
  have := bytes_len h
  show (bytesN n).length ≤ _
  omega
theorem divS_len (xn yn : Bool) (x y : List Int) (hx : IsB x) (hy : IsB y) : (divS xn x yn y).2.1.length ≤ 140737488355328 ∧ (divS xn x yn y).2.2.2.1.length ≤ 140737488355328 := by
  unfold divS
  split
  · rename_i h
    simp only [Bool.and_eq_true] at h
    have a1 := bval_small hx (n := 128) (okN_can hx h.1).2
    have a2 := bval_small hy (n := 128) (okN_can hy h.2).2
    have e : (256 : Nat) ^ 129 = 256 ^ 128 * 256 := Nat.pow_succ ..
    have hdv := Nat.div_le_self (bval x) (bval y)
    have hmd := Nat.mod_le (bval x) (bval y)
    split
    · exact ⟨by simp, by simp⟩
    · generalize (256 : Nat) ^ 128 = T at *
      have hp : bval x / bval y + 1 < 256 ^ 129 := by omega
      have hq : bval x / bval y < 256 ^ 129 := by omega
      have hr : bval x % bval y < 256 ^ 129 := by omega
      have hs : bval y - bval x % bval y < 256 ^ 129 := by omega
      unfold divV
      split
      · exact ⟨mk_len (neg := false) hp (by omega), mk_len (neg := false) hs (by omega)⟩
      · exact ⟨mk_len (neg := false) hq (by omega), mk_len (neg := false) hr (by omega)⟩
  · exact ⟨by simp, by simp⟩

end Go.Proofs.Ytfjbhccapgnkiaa.P
