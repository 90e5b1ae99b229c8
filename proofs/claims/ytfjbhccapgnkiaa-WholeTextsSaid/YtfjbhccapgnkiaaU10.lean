import Derived.Test.YtfjbhccapgnkiaaU1r
import Derived.Test.YtfjbhccapgnkiaaC7
import Derived.Test.YtfjbhccapgnkiaaC8
import Derived.Test.YtfjbhccapgnkiaaX2
import Derived.Test.YtfjbhccapgnkiaaB2
namespace Go.Proofs.Ytfjbhccapgnkiaa.P
open Go.RowKit Go.Proofs.YtfjbhccapgnkiaaW.PrintWords Go.Proofs.YtfjbhccapgnkiaaW.PrintLast Go.Proofs.YtfjbhccapgnkiaaW.PrintMore
attribute [local go_sem] max2_int min2_int max_two min_two max_three min_three max_four min_four
set_option linter.unusedVariables false
set_option linter.unusedSimpArgs false

open Lap

theorem words_mono {n m : Nat} (h : n ≤ m) : (wordsN n).length ≤ (wordsN m).length := by
  rw [wordsN_length_le]
  exact Nat.lt_of_le_of_lt h (wordsN_length_le.1 (Nat.le_refl _))
theorem bytes_len {n k : Nat} (h : n < 256 ^ k) : (bytesN n).length ≤ k := bytesN_length_lt.2 h
/-- How often, and what is left. -/
def divV (xn : Bool) (a : Nat) (yn : Bool) (b : Nat) : Bool × List Int × Bool × List Int × Int :=
  if (xn != yn && decide (a % b ≠ 0)) = true then ((mk (xn != yn) (a / b + 1)).1, (mk (xn != yn) (a / b + 1)).2, (mk yn (b - a % b)).1, (mk yn (b - a % b)).2, 0)
  else ((mk (xn != yn) (a / b)).1, (mk (xn != yn) (a / b)).2, (mk yn (a % b)).1, (mk yn (a % b)).2, 0)
def divS (xn : Bool) (x : List Int) (yn : Bool) (y : List Int) : Bool × List Int × Bool × List Int × Int :=
  if (okN xn x && okN yn y) = true then (if y = [] then (false, [], false, [], 23) else divV xn (bval x) yn (bval y)) else (false, [], false, [], 1)
theorem one_isB : IsB [1] := IsB.cons (by omega) (by omega) IsB.nil

theorem times_step {S0 wo P Q c ai bj o v q T : Int} (h : v + 4294967296 * q = c + (ai * bj + o)) (he : wo + P * Q * c = S0 + ai * P * T) :
    (wo + P * Q * (v - o)) + P * (Q * 4294967296) * q = S0 + ai * P * (T + Q * bj) := by grind

theorem times_inner (a b : List Int) (hb : IsW b) (ai : Int) (h0 : 0 ≤ ai) (h1 : ai < 4294967296) (i n m : Nat) (S0 : Int) (hm : b.length = m) (hi : i < n) (hn : n ≤ 100000) (hm2 : m ≤ 100000) (r : List Int)
    (hr : ∀ (out : List Int) (c : Int), out.length = n + m → IsW out → 0 ≤ c → c < 4294967296 → (∀ p (hp : p < out.length), i + m ≤ p → out[p] = 0) → wI out + W32 i * W32 m * c = S0 + ai * W32 i * wI b →
      Ev (fun k => whole_times.l0 k b (out.set (i + m) c) a n ((i + 1 : Nat) : Int)) r) :
    ∀ (d j : Nat) (out : List Int) (c : Int), d = m - j → j ≤ m → out.length = n + m → IsW out → 0 ≤ c → c < 4294967296 → (∀ p (hp : p < out.length), i + m ≤ p → out[p] = 0) →
      wI out + W32 i * W32 j * c = S0 + ai * W32 i * wI (b.take j) →
      Ev (fun k => whole_times.l1 k b out i ai c a n i b m j) r := by
  intro d
  induction d with
  | zero =>
    intro j out c hd hj ho hw c0 c1 hz he
    obtain rfl : j = m := by omega
    rw [List.take_of_length_le (by omega)] at he
    refine Ev.step (fun k => ?_) (hr out c ho hw c0 c1 hz he)
    simp only [whole_times.l1]
    rw [if_neg (by omega), hm, w64 (x := (i : Int) + j) (by omega) (by omega), if_pos (by omega), if_pos (by omega), w64s i (by omega), Int.emod_eq_of_lt c0 (by omega)]
    rw [show ((i : Int) + (j : Int)).toNat = i + j by omega]
  | succ d ih =>
    intro j out c hd hj ho hw c0 c1 hz he
    have hlt : j < b.length := by omega
    have hpos : i + j < out.length := by omega
    have hB := hb.get j hlt
    have hO := hw.get (i + j) hpos
    have hM := mul_bound h0 h1 hB.1 hB.2
    have hT : 0 ≤ c + (ai * b[j] + out[i + j]) ∧ c + (ai * b[j] + out[i + j]) < 18446744073709551616 := by omega
    have e1 : IntKind.u64.wrap (c + IntKind.u64.wrap (IntKind.u64.wrap (IntKind.u64.wrap ai * IntKind.u64.wrap b[j]) + IntKind.u64.wrap out[i + j])) = c + (ai * b[j] + out[i + j]) := by
      rw [u64 (x := ai) (by omega) (by omega), u64 (x := b[j]) (by omega) (by omega), u64 (x := out[i + j]) (by omega) (by omega), u64 (x := ai * b[j]) (by omega) (by omega),
        u64 (x := ai * b[j] + out[i + j]) (by omega) (by omega), u64 hT.1 hT.2]
    refine Ev.step (fun k => ?_) (ih (j + 1) (out.set (i + j) ((c + (ai * b[j] + out[i + j])) % 4294967296)) ((c + (ai * b[j] + out[i + j])) / 4294967296) (by omega) (by omega) (by simpa using ho) (hw.set _ _ (by omega) (by omega)) (by omega) (by omega)
      (fun p hp hge => by
        rw [List.getElem_set_ne (by omega)]
        exact hz p (by simpa using hp) hge) ?_)
    · simp only [whole_times.l1]
      rw [if_pos (by omega), if_pos (by omega), if_pos (by omega), w64 (x := (i : Int) + j) (by omega) (by omega), if_pos (by omega), if_pos (by omega), w64s j (by omega)]
      rw [show ((i : Int) + (j : Int)) = ((i + j : Nat) : Int) by omega, rd_lt _ _ hlt, rd_lt _ _ hpos, e1]
      rfl
    · rw [wI_set _ _ _ hpos (by omega) hO.1, wI_take_succ _ _ hlt hB.1, W32_add, W32_succ]
      exact times_step (by omega) he

theorem times_outer (a b : List Int) (ha : IsW a) (hb : IsW b) (hla : a.length ≤ 100000) (hlb : b.length ≤ 100000) :
    ∀ (d i : Nat) (out : List Int), d = a.length - i → i ≤ a.length → out.length = a.length + b.length → IsW out → (∀ p (hp : p < out.length), i + b.length ≤ p → out[p] = 0) →
      wI out = wI (a.take i) * wI b → Ev (fun k => whole_times.l0 k b out a a.length i) (wordsN (wval a * wval b)) := by
  intro d
  induction d with
  | zero =>
    intro i out hd hi ho hw hz he
    obtain rfl : i = a.length := by omega
    rw [List.take_length] at he
    have hv : wval out = wval a * wval b := by
      rw [wI_eq, wI_eq, wI_eq] at he
      exact_mod_cast he
    refine Ev.step (f := fun k => (whole_words_trim.f k out).bind fun t => some t) (fun k => ?_) ?_
    · simp only [whole_times.l0]; rw [if_neg (by omega)]
    · rw [← hv]; exact Ev.bind (trim_ev out hw (by omega)) (Ev.now _)
  | succ d ih =>
    intro i out hd hi ho hw hz he
    have hlt : i < a.length := by omega
    have hA := ha.get i hlt
    refine Ev.step (f := fun k => whole_times.l1 k b out i a[i] 0 a a.length i b b.length 0) (fun k => ?_) ?_
    · simp only [whole_times.l0]
      rw [if_pos (by omega), if_pos (by omega), if_pos (by omega), rd_lt _ _ hlt]
    · refine times_inner a b hb a[i] hA.1 hA.2 i a.length b.length (wI out) rfl hlt hla hlb _ ?_ b.length 0 out 0 (by omega) (by omega) ho hw (by omega) (by omega) hz (by simp [wI_nil])
      intro out2 c h2 hw2 c0 c1 hz2 he2
      refine ih (i + 1) (out2.set (i + b.length) c) (by omega) (by omega) (by simpa using h2) (hw2.set _ _ c0 c1) (fun p hp hge => ?_) ?_
      · rw [List.getElem_set_ne (by omega)]
        exact hz2 p (by simpa using hp) (by omega)
      · have hpos : i + b.length < out2.length := by omega
        have hz3 := hz2 (i + b.length) hpos (Nat.le_refl _)
        rw [wI_set _ _ _ hpos c0 (by omega), hz3, W32_add, wI_take_succ _ _ hlt hA.1]
        have e0 : W32 i * W32 b.length * (c - 0) = W32 i * W32 b.length * c := by simp
        rw [e0, he2, he]
        grind

theorem times_ev (a b : List Int) (ha : IsW a) (hb : IsW b) (hla : a.length ≤ 100000) (hlb : b.length ≤ 100000) :
    Ev (fun k => whole_times.f k a b) (wordsN (wval a * wval b)) := by
  refine Ev.congr (fun k => ?_) (times_outer a b ha hb hla hlb a.length 0 (List.replicate (a.length + b.length) 0) (by omega) (by omega) (by simp) (IsW.replicate _) (fun p hp _ => by simp) (by simp [wI_nil, wI_replicate_zero]))
  unfold whole_times.f
  rw [w64 (x := (a.length : Int) + b.length) (by omega) (by omega), if_pos (by omega), if_pos (by omega)]
  rw [show ((a.length : Int) + (b.length : Int)).toNat = a.length + b.length by omega]
  rfl
theorem rtimes_step {O P c a m v q T L : Int} (h : v + 256 * q = c + a * m) (he : O + P * T * c = P * m * L) : (O + P * T * v) + (P * (T * 256)) * q = P * m * (L + T * a) := by grind
theorem byte_mul {a b : Int} (h0 : 0 ≤ a) (h1 : a < 256) (k0 : 0 ≤ b) (k1 : b < 256) : 0 ≤ a * b ∧ a * b ≤ 65025 := by
  have h2 : 0 ≤ a * b := Int.mul_nonneg h0 k0
  have h3 : a * b ≤ 255 * 255 := Int.mul_le_mul (by omega) (by omega) k0 (by decide)
  omega
theorem rtimes_loop (a : List Int) (m : Int) (n : Nat) (ha : IsB a) (hla : a.length ≤ 400000) (hn : n ≤ 400000) (m0 : 0 ≤ m) (m1 : m < 256) :
    ∀ (d i : Nat) (out : List Int) (c : Int), d + i = a.length + 1 → out.length = n + i → IsB out → 0 ≤ c → c < 256 → (d = 0 → c = 0) → bI out.reverse + W8 n * W8 i * c = W8 n * m * low a i →
      ∃ r : List Int, IsB r ∧ bI r = W8 n * m * bI a ∧ r.length ≤ n + a.length + 1 ∧ Ev (fun k => lapidaryref02_times.l0 k a m out c (i : Int)) r := by
  intro d
  induction d with
  | zero =>
    intro i out c hd ho hw h0 h1 hz he
    have hc := hz rfl
    subst hc
    refine ⟨out.reverse, hw.reverse, ?_, by rw [List.length_reverse]; omega, ?_⟩
    · rw [low_all a i (by omega)] at he; simpa using he
    · refine Ev.step (f := fun k => (lapidaryref02_turned.f k out).bind fun t => some t) (fun k => ?_) (Ev.bind (turned_ev out (by omega)) (Ev.now _))
      simp only [lapidaryref02_times.l0]
      rw [if_neg (by omega), if_neg (by omega)]
  | succ d ih =>
    intro i out c hd ho hw h0 h1 hz he
    have hA := atv_range ha i
    by_cases hstop : a.length ≤ i ∧ c = 0
    · obtain ⟨h2, rfl⟩ := hstop
      refine ⟨out.reverse, hw.reverse, ?_, by rw [List.length_reverse]; omega, ?_⟩
      · rw [low_all a i (by omega)] at he; simpa using he
      · refine Ev.step (f := fun k => (lapidaryref02_turned.f k out).bind fun t => some t) (fun k => ?_) (Ev.bind (turned_ev out (by omega)) (Ev.now _))
        simp only [lapidaryref02_times.l0]
        rw [if_neg (by omega), if_neg (by omega)]
    · have hlow1 := low_succ a ha i
      have hm := byte_mul hA.1 hA.2 m0 m1
      obtain ⟨r, h2, h3, h4, h5⟩ := ih (i + 1) (out ++ [(c + atv a i * m) % 256]) ((c + atv a i * m) / 256) (by omega) (by simp [ho]; omega) (hw.append (IsB.cons (by omega) (by omega) IsB.nil)) (by omega) (by omega)
        (by
          intro hd0
          have e1 : a.length ≤ i := by omega
          have z1 : atv a i = 0 := by unfold atv; rw [dif_neg (by omega)]
          rw [z1]; omega)
        (by rw [bI_rev_snoc _ _ (by omega), ho, W8_succ, W8_add, hlow1]; exact rtimes_step (by omega) he)
      refine ⟨r, h2, h3, h4, ?_⟩
      have hw : wrap64 (c + wrap64 (atv a i * m)) = c + atv a i * m := by rw [w64 (x := atv a i * m) (by omega) (by omega), w64 (by omega) (by omega)]
      refine Ev.step (fun k => ?_) h5
      simp only [lapidaryref02_times.l0]
      by_cases e1 : (i : Int) < a.length
      · rw [if_pos e1, at_eq a ha (by omega) i (by omega), Option.bind_some, if_pos (by omega), hw, w64s i (by omega), Int.tmod_eq_emod_of_nonneg (by omega), Int.tdiv_eq_ediv_of_nonneg (by omega), w64 (by omega) (by omega), Int.emod_emod_of_dvd _ (by decide)]
      · rw [if_neg e1, if_pos (by omega), at_eq a ha (by omega) i (by omega), Option.bind_some, if_pos (by omega), hw, w64s i (by omega), Int.tmod_eq_emod_of_nonneg (by omega), Int.tdiv_eq_ediv_of_nonneg (by omega), w64 (by omega) (by omega), Int.emod_emod_of_dvd _ (by decide)]
theorem rtimes_ev (a : List Int) (m : Int) (n : Nat) (ha : IsB a) (hla : a.length ≤ 400000) (hn : n ≤ 400000) (m0 : 0 ≤ m) (m1 : m < 256) :
    ∃ r : List Int, IsB r ∧ bI r = W8 n * m * bI a ∧ r.length ≤ n + a.length + 1 ∧ Ev (fun k => lapidaryref02_times.f k a m (n : Int)) r := by
  obtain ⟨r, h1, h2, h3, h4⟩ := rtimes_loop a m n ha hla hn m0 m1 (a.length + 1) 0 (List.replicate n 0) 0 (by omega) (by simp) (IsB.replicate n) (by omega) (by omega) (fun _ => rfl) (by rw [low_zero]; simp [bI_replicate])
  refine ⟨r, h1, h2, h3, Ev.congr (fun k => ?_) h4⟩
  unfold lapidaryref02_times.f
  rw [if_pos (by omega), if_pos (by omega), Int.toNat_natCast]; rfl
theorem okN_mk (neg : Bool) (n : Nat) (h : (bytesN n).length ≤ 128) : okN (mk neg n).1 (mk neg n).2 = true := by
  unfold mk okN
  by_cases hz : n = 0
  · subst hz; simp [bytesN_zero]
  · have hne : bytesN n ≠ [] := fun e => hz ((bytesN_nil_iff n).1 e)
    have hc := (canB_bytesN n).2
    simp only [if_neg hne]
    simp [hc, h]
namespace Lap
/-- The digits of a number, the lowest first. -/
def decL (n : Nat) : List Int := if h : n = 0 then [] else ((48 + n % 10 : Nat) : Int) :: decL (n / 10)
termination_by n
decreasing_by omega
def digs : Nat → Nat → List Int
  | 0, _ => []
  | m + 1, n => ((48 + n % 10 : Nat) : Int) :: digs m (n / 10)
def dval : List Int → Nat
  | [] => 0
  | x :: r => (x - 48).toNat + 10 * dval r
theorem decL_zero : decL 0 = [] := by unfold decL; simp
theorem decL_pos {n : Nat} (h : n ≠ 0) : decL n = ((48 + n % 10 : Nat) : Int) :: decL (n / 10) := by rw [decL]; simp [h]
theorem digs_length : ∀ m n : Nat, (digs m n).length = m
  | 0, _ => rfl
  | m + 1, n => by simp [digs, digs_length m]
theorem digs_add : ∀ a b n : Nat, digs (a + b) n = digs a n ++ digs b (n / 10 ^ a)
  | 0, b, n => by simp [digs]
  | a + 1, b, n => by
    rw [show a + 1 + b = (a + b) + 1 by omega, digs, digs, digs_add a b, List.cons_append, Nat.div_div_eq_div_mul, Nat.pow_succ']
theorem digs_mod : ∀ a n : Nat, digs a (n % 10 ^ a) = digs a n
  | 0, _ => rfl
  | a + 1, n => by
    rw [digs, digs, Nat.pow_succ', Nat.mod_mul_right_div_self, digs_mod a, Nat.mod_mod_of_dvd _ ⟨10 ^ a, rfl⟩]
theorem decL_len : ∀ m n : Nat, n < 10 ^ m → (decL n).length ≤ m
  | 0, n, h => by
    have : n = 0 := by simpa using h
    subst this; rw [decL_zero]; simp
  | m + 1, n, h => by
    by_cases hn : n = 0
    · subst hn; rw [decL_zero]; simp
    · rw [decL_pos hn, List.length_cons]
      have := decL_len m (n / 10) (by rw [Nat.pow_succ] at h; omega)
      omega
theorem digs_dec : ∀ m n : Nat, n < 10 ^ m → digs m n = decL n ++ List.replicate (m - (decL n).length) 48
  | 0, n, h => by
    have : n = 0 := by simpa using h
    subst this; simp [digs, decL_zero]
  | m + 1, n, h => by
    have ih := digs_dec m (n / 10) (by rw [Nat.pow_succ] at h; omega)
    by_cases hn : n = 0
    · subst hn
      rw [decL_zero, digs]
      rw [show 0 / 10 = 0 from rfl, decL_zero] at ih
      simp at ih ⊢
      rw [ih, List.replicate_succ]
    · rw [decL_pos hn, digs, ih, List.cons_append, List.length_cons, show m + 1 - ((decL (n / 10)).length + 1) = m - (decL (n / 10)).length by omega]
theorem isB_decL (n : Nat) : IsB (decL n) := by
  induction n using Nat.strongRecOn with
  | _ n ih =>
    by_cases h : n = 0
    · subst h; rw [decL_zero]; exact IsB.nil
    · rw [decL_pos h]; exact IsB.cons (by omega) (by omega) (ih _ (by omega))
def IsD (l : List Int) : Prop := ∀ x ∈ l, 48 ≤ x ∧ x ≤ 57
theorem isD_decL (n : Nat) : IsD (decL n) := by
  induction n using Nat.strongRecOn with
  | _ n ih =>
    by_cases h : n = 0
    · subst h; rw [decL_zero]; intro x hx; cases hx
    · rw [decL_pos h]; intro x hx
      rcases List.mem_cons.1 hx with rfl | hx
      · omega
      · exact ih _ (by omega) x hx
theorem decL_last (n : Nat) : (decL n).getLast? ≠ some 48 := by
  induction n using Nat.strongRecOn with
  | _ n ih =>
    by_cases h : n = 0
    · subst h; rw [decL_zero]; simp
    · rw [decL_pos h]
      by_cases h2 : n / 10 = 0
      · rw [h2, decL_zero]; simp; omega
      · have := ih _ (show n / 10 < n by omega)
        rw [decL_pos h2] at this ⊢
        simpa [List.getLast?_cons_cons] using this
theorem dval_decL (n : Nat) : dval (decL n) = n := by
  induction n using Nat.strongRecOn with
  | _ n ih =>
    by_cases h : n = 0
    · subst h; rw [decL_zero]; rfl
    · rw [decL_pos h, dval, ih _ (by omega)]; omega
theorem decL_nil_iff (n : Nat) : decL n = [] ↔ n = 0 := by
  constructor
  · intro h; have := dval_decL n; rw [h] at this; simpa [dval] using this.symm
  · rintro rfl; exact decL_zero
theorem dval_pos : ∀ l : List Int, IsD l → l ≠ [] → l.getLast? ≠ some 48 → dval l ≠ 0
  | [], _, h, _ => absurd rfl h
  | [x], hd, _, hl => by
    have := hd x (by simp)
    have hx : x ≠ 48 := by simpa using hl
    simp [dval]; omega
  | x :: y :: r, hd, _, hl => by
    have := dval_pos (y :: r) (fun z hz => hd z (List.mem_cons_of_mem _ hz)) (by simp) (by simpa [List.getLast?_cons_cons] using hl)
    rw [dval]; omega
theorem decL_dval : ∀ l : List Int, IsD l → l.getLast? ≠ some 48 → decL (dval l) = l
  | [], _, _ => by simp [dval, decL_zero]
  | x :: r, hd, hl => by
    have hx := hd x (by simp)
    have hp := dval_pos (x :: r) hd (by simp) hl
    have hr : r.getLast? ≠ some 48 := by
      cases r with
      | nil => simp
      | cons y s => simpa [List.getLast?_cons_cons] using hl
    rw [decL_pos hp]
    have e : dval (x :: r) = (x - 48).toNat + 10 * dval r := rfl
    have e1 : dval (x :: r) / 10 = dval r := by omega
    have e2 : ((48 + dval (x :: r) % 10 : Nat) : Int) = x := by omega
    rw [e1, e2, decL_dval r (fun z hz => hd z (List.mem_cons_of_mem _ hz)) hr]
/-- Digits, the highest first. -/
def hval (l : List Int) : Nat := dval l.reverse
theorem dval_snoc : ∀ (l : List Int) (x : Int), dval (l ++ [x]) = dval l + 10 ^ l.length * (x - 48).toNat
  | [], x => by simp [dval]
  | y :: l, x => by
    simp only [List.cons_append, dval, dval_snoc l x, List.length_cons, Nat.pow_succ']
    rw [Nat.mul_add, Nat.mul_assoc]; omega
theorem hval_snoc (l : List Int) (x : Int) : hval (l ++ [x]) = hval l * 10 + (x - 48).toNat := by
  unfold hval; rw [List.reverse_append, List.reverse_singleton, List.singleton_append, dval]; omega
theorem dval_lt : ∀ l : List Int, IsD l → dval l < 10 ^ l.length
  | [], _ => by simp [dval]
  | x :: r, hd => by
    have h1 := dval_lt r (fun z hz => hd z (List.mem_cons_of_mem _ hz))
    have h2 := hd x (by simp)
    rw [dval, List.length_cons, Nat.pow_succ']; omega
end Lap

/-- The text of a number of a sign and a size. -/
def textS (neg : Bool) (n : Nat) : ByteArray := if n = 0 then ⟨#[48]⟩ else strOfNums (decL n ++ if neg = true then [45] else []).reverse
def textT (neg : Bool) (l : List Int) : ByteArray := if okN neg l = true then textS neg (bval l) else ⟨#[]⟩
theorem tdiv10 {H B x : Nat} (hB : 0 < B) : (H * 256 + x) / B = H / B * 256 + (H % B * 256 + x) / B ∧ (H * 256 + x) % B = (H % B * 256 + x) % B := by
  have e : H * 256 + x = B * (H / B * 256) + (H % B * 256 + x) := by
    have := Nat.div_add_mod H B
    generalize H / B = Q at *
    generalize H % B = R at *
    subst this
    grind
  constructor
  · rw [e, Nat.mul_add_div hB]
  · rw [e, Nat.mul_add_mod]
theorem ten_bound {R n : Nat} (h : R < 10) (g : n < 256) : R * 256 + n < 2560 := by omega
theorem ten_step (N : Nat) (h : N < 2560) : wrap64 (Int.tdiv (N : Int) 10) % 256 = ((N / 10 : Nat) : Int) ∧ Int.tmod (N : Int) 10 = ((N % 10 : Nat) : Int) := by
  have h1 : Int.tdiv (N : Int) 10 = ((N / 10 : Nat) : Int) := by rw [Int.tdiv_eq_ediv_of_nonneg (Int.natCast_nonneg _)]; omega
  have h2 : Int.tmod (N : Int) 10 = ((N % 10 : Nat) : Int) := by rw [Int.tmod_eq_emod_of_nonneg (Int.natCast_nonneg _)]; omega
  rw [h1, h2, w64 (by omega) (by omega)]
  omega
theorem tenth_loop (x : List Int) (hx : IsB x) (hl : x.length ≤ 1000) : ∀ (d i : Nat) (q : List Int), d + i = x.length → q.length = i → IsB q → bval q = bval (x.take i) / 10 →
    ∃ q' : List Int, IsB q' ∧ bval q' = bval x / 10 ∧ q'.length = x.length ∧ Ev (fun k => lapidaryref02_tenth.l0 k x q ((bval (x.take i) % 10 : Nat) : Int) (i : Int)) (q', ((bval x % 10 : Nat) : Int)) := by
  intro d
  induction d with
  | zero =>
    intro i q hd hq hw hv
    obtain rfl : i = x.length := by omega
    rw [List.take_length] at hv ⊢
    refine ⟨q, hw, hv, hq, Ev.step (f := fun _ => some (q, ((bval x % 10 : Nat) : Int))) (fun k => ?_) (Ev.now _)⟩
    simp only [lapidaryref02_tenth.l0]
    rw [if_neg (by omega)]
    have : ((bval x % 10 : Nat) : Int) % 256 = ((bval x % 10 : Nat) : Int) := by omega
    rw [this]
  | succ d ih =>
    intro i q hd hq hw hv
    have hi : i < x.length := by omega
    have hA := hx.get i hi
    have ht : bval (x.take (i + 1)) = bval (x.take i) * 256 + (x[i]).toNat := by rw [take_succ_get x i hi, bval_snoc]
    obtain ⟨e1, e2⟩ := tdiv10 (H := bval (x.take i)) (x := (x[i]).toNat) (show 0 < 10 by omega)
    generalize hR : bval (x.take i) % 10 = R at *
    have hRlt : R < 10 := by rw [← hR]; exact Nat.mod_lt _ (by omega)
    have hx8 : (x[i]).toNat < 256 := by omega
    obtain ⟨m, hm⟩ : ∃ m, (R * 256 + (x[i]).toNat) / 10 = m := ⟨_, rfl⟩
    rw [hm] at e1
    have hm8 : m < 256 := by omega
    obtain ⟨q', h1, h2, h3, h4⟩ := ih (i + 1) (q ++ [(m : Int)]) (by omega) (by simp [hq]) (hw.append (IsB.cons (by omega) (by omega) IsB.nil)) (by
      rw [ht, e1, bval_snoc, hv, Int.toNat_natCast])
    refine ⟨q', h1, h2, h3, Ev.step (fun k => ?_) h4⟩
    simp only [lapidaryref02_tenth.l0]
    have hw1 : wrap64 (wrap64 ((R : Int) * 256) + wrap64 (rd x (i : Int))) = ((R * 256 + (x[i]).toNat : Nat) : Int) := by
      rw [rd_lt _ _ hi, w64 (x := (R : Int) * 256) (by omega) (by omega), w64 (x := x[i]) (by omega) (by omega), w64 (by omega) (by omega)]; omega
    obtain ⟨f1, f2⟩ := ten_step (R * 256 + (x[i]).toNat) (ten_bound hRlt hx8)
    rw [if_pos (by omega), if_pos (by omega), if_pos (by omega), hw1, w64s i (by omega), f1, f2, hm, ht, e2]
theorem tenth_ev (x : List Int) (hx : IsB x) (hl : x.length ≤ 1000) : ∃ q : List Int, IsB q ∧ bval q = bval x / 10 ∧ q.length = x.length ∧ Ev (fun k => lapidaryref02_tenth.f k x) (q, ((bval x % 10 : Nat) : Int)) := by
  obtain ⟨q, h1, h2, h3, h4⟩ := tenth_loop x hx hl x.length 0 [] (by omega) rfl IsB.nil (by simp [bval_nil])
  refine ⟨q, h1, h2, h3, ?_⟩
  rw [List.take_zero, bval_nil, Nat.zero_mod] at h4
  exact h4
theorem bytesN_mono {n m : Nat} (h : n ≤ m) : (bytesN n).length ≤ (bytesN m).length := by
  rw [bytesN_length_lt]
  exact Nat.lt_of_le_of_lt h (bytesN_length_lt.1 (Nat.le_refl _))
theorem rtext_loop (neg : Bool) (l : List Int) : ∀ (m v : Nat) (x3 : List Int), v < 10 ^ m → x3.length + m ≤ 100000 → (bytesN v).length ≤ 1000 →
    Ev (fun k => lapidaryref02_Text.l0 k x3 (bytesN v) neg l) (strOfNums (x3 ++ decL v ++ if neg = true then [45] else []).reverse) := by
  intro m
  induction m with
  | zero =>
    intro v x3 hv hx hb
    have : v = 0 := by simpa using hv
    subst this
    rw [decL_zero, bytesN_zero, List.append_nil]
    cases neg
    · refine Ev.step (f := fun k => (lapidaryref02_turned.f k x3).bind fun t => some (strOfNums t)) (fun k => ?_) (Ev.bind (turned_ev x3 (by omega)) (by simpa using Ev.now _))
      simp only [lapidaryref02_Text.l0]
      rw [if_neg (by simp), if_neg (by simp)]
    · refine Ev.step (f := fun k => (lapidaryref02_turned.f k (x3 ++ [45])).bind fun t => some (strOfNums t)) (fun k => ?_) (Ev.bind (turned_ev (x3 ++ [45]) (by simp; omega)) (by simpa using Ev.now _))
      simp only [lapidaryref02_Text.l0]
      rw [if_neg (by simp), if_pos trivial, if_pos (by omega)]
  | succ m ih =>
    intro v x3 hv hx hb
    by_cases h0 : v = 0
    · exact h0 ▸ (by
        have := ih 0 x3 (Nat.pow_pos (by omega)) (by omega) (by rw [bytesN_zero]; simp)
        exact this)
    · obtain ⟨q, q1, q2, q3, q4⟩ := tenth_ev (bytesN v) (isB_bytesN v) hb
      rw [bval_bytesN] at q2 q4
      have h := ih (v / 10) (x3 ++ [((48 + v % 10 : Nat) : Int)]) (by rw [Nat.pow_succ] at hv; omega) (by simp; omega) (Nat.le_trans (bytesN_mono (Nat.div_le_self _ _)) hb)
      have e : x3 ++ [((48 + v % 10 : Nat) : Int)] ++ decL (v / 10) = x3 ++ decL v := by rw [decL_pos h0]; simp
      rw [e] at h
      have hlen : (bytesN v).length ≠ 0 := fun e => h0 ((bytesN_len_zero v).1 e)
      refine Ev.step (f := fun k => (lapidaryref02_tenth.f k (bytesN v)).bind fun bt769 => (if x3.length < 140737488355328 then ((lapidaryref02_made.f false bt769.1).bind fun bt776 => (lapidaryref02_Text.l0 k (x3 ++ [(48 + bt769.2) % 256]) bt776.2 neg l)) else (none))) (fun k => ?_) (Ev.bind q4 (Ev.congr (fun k => ?_) h))
      · simp only [lapidaryref02_Text.l0]
        rw [if_pos (by omega)]
      · rw [if_pos (by omega), rmade_eq false q q1 (by omega), Option.bind_some, q2]
        have : (48 + ((v % 10 : Nat) : Int)) % 256 = ((48 + v % 10 : Nat) : Int) := by omega
        simp only [mk]
        rw [this]
theorem big_dec : (256 : Nat) ^ 128 < 10 ^ 399 := by decide +kernel
theorem rtext_ev (neg : Bool) (l : List Int) (hb : IsB l) : Ev (fun k => lapidaryref02_Text.f k neg l) (textT neg l) := by
  unfold textT
  by_cases h1 : okN neg l = true
  · rw [if_pos h1]
    have hc := okN_can hb h1
    unfold textS
    by_cases h0 : bval l = 0
    · have hl : l = [] := by
        cases l with
        | nil => rfl
        | cons x r => have := CanB.pos hc.1 (by simp); omega
      rw [if_pos h0]
      refine Ev.congr (f := fun _ => some (⟨#[48]⟩ : ByteArray)) (fun k => ?_) (Ev.now _)
      unfold lapidaryref02_Text.f
      rw [rright_eq, h1, Option.bind_some, if_pos rfl, if_pos (by rw [hl]; rfl)]
    · rw [if_neg h0]
      have hl : l.length ≠ 0 := fun e => h0 (by rw [List.eq_nil_of_length_eq_zero e]; rfl)
      have h := rtext_loop neg l 399 (bval l) [] (Nat.lt_trans (bval_small hb hc.2) big_dec) (by simp) (by rw [bytesN_bval hc.1]; omega)
      rw [bytesN_bval hc.1, List.nil_append] at h
      refine Ev.congr (fun k => ?_) h
      unfold lapidaryref02_Text.f
      rw [rright_eq, h1, Option.bind_some, if_pos rfl, if_neg (by omega)]
  · have h1 : okN neg l = false := by simpa using h1
    rw [if_neg (by rw [h1]; simp)]
    refine Ev.congr (f := fun _ => some (⟨#[]⟩ : ByteArray)) (fun k => ?_) (Ev.now _)
    unfold lapidaryref02_Text.f
    rw [rright_eq, h1, Option.bind_some, if_neg (by simp)]
theorem longB {H B x W : Nat} (hB : 0 < B) : (H * W + x) / B = H / B * W + (H % B * W + x) / B ∧ (H * W + x) % B = (H % B * W + x) % B := by
  have e : H * W + x = B * (H / B * W) + (H % B * W + x) := by
    have := Nat.div_add_mod H B
    generalize H / B = Q at *
    generalize H % B = R at *
    subst this
    grind
  constructor
  · rw [e, Nat.mul_add_div hB]
  · rw [e, Nat.mul_add_mod]
theorem wval_drop (a : List Int) (i : Nat) (h : i < a.length) : wval (a.drop i) = wval (a.drop (i + 1)) * 4294967296 + (a[i]).toNat := by
  rw [List.drop_eq_getElem_cons h, wval]; omega
theorem drop_set_same (q : List Int) (i : Nat) (v : Int) (h : i < q.length) : (q.set i v).drop i = v :: q.drop (i + 1) := by
  rw [List.drop_eq_getElem_cons (by simpa using h), List.getElem_set_self]
  congr 1
  rw [List.drop_set_of_lt (by omega)]
theorem least_loop (a : List Int) (ha : IsW a) (hl : a.length ≤ 1000) : ∀ (i : Nat) (q : List Int), i ≤ a.length → q.length = a.length → IsW q → (∀ p, (h : p < q.length) → p < i → q[p] = 0) → wval (q.drop i) = wval (a.drop i) / 1000000000 →
    Ev (fun k => whole_least.l0 k a q ((wval (a.drop i) % 1000000000 : Nat) : Int) ((i : Int) - 1)) (wordsN (wval a / 1000000000), ((wval a % 1000000000 : Nat) : Int)) := by
  intro i
  induction i with
  | zero =>
    intro q hi hq hw hz hv
    rw [List.drop_zero, List.drop_zero] at hv
    rw [List.drop_zero, ← hv]
    refine Ev.step (f := fun k => (whole_words_trim.f k q).bind fun t422 => some (t422, ((wval a % 1000000000 : Nat) : Int))) (fun k => ?_) (Ev.bind (trim_ev q hw (by omega)) (Ev.now _))
    simp only [whole_least.l0]
    have : ((wval a % 1000000000 : Nat) : Int) % 4294967296 = ((wval a % 1000000000 : Nat) : Int) := by omega
    rw [if_neg (by omega), this]
  | succ i ih =>
    intro q hi hq hw hz hv
    have hlt : i < a.length := by omega
    have hA := ha.get i hlt
    obtain ⟨e1, e2⟩ := longB (H := wval (a.drop (i + 1))) (x := (a[i]).toNat) (W := 4294967296) (show 0 < 1000000000 by omega)
    have hd := wval_drop a i hlt
    rw [← hd] at e1 e2
    have hRlt : wval (a.drop (i + 1)) % 1000000000 < 1000000000 := Nat.mod_lt _ (by omega)
    generalize hR : wval (a.drop (i + 1)) % 1000000000 = R at *
    have hx8 : (a[i]).toNat < 4294967296 := by omega
    obtain ⟨m, hm⟩ : ∃ m, (R * 4294967296 + (a[i]).toNat) / 1000000000 = m := ⟨_, rfl⟩
    rw [hm] at e1
    have hm8 : m < 4294967296 := by omega
    have hx : ((i + 1 : Nat) : Int) - 1 = (i : Int) := by omega
    have h := ih (q.set i (m : Int)) (by omega) (by simpa using hq) (hw.set _ _ (by omega) (by omega)) (fun p hp hpi => by rw [List.getElem_set_ne (by omega)]; exact hz p (by simpa using hp) (by omega)) (by
      rw [drop_set_same q i _ (by omega), wval, hv, e1, Int.toNat_natCast]; omega)
    rw [hx]
    refine Ev.step (fun k => ?_) h
    simp only [whole_least.l0]
    have hor : Go.bits .or .u64 (IntKind.u64.wrap ((R : Int) * 4294967296)) (IntKind.u64.wrap (rd a (i : Int))) = ((R * 4294967296 + (a[i]).toNat : Nat) : Int) := by
      rw [rd_lt _ _ hlt, u64 (by omega) (by omega), u64 (by omega) (by omega), or64_32 (by omega) (by omega) hA.1 hA.2]; omega
    rw [if_pos (by omega), if_pos (by omega), if_pos (by omega), if_pos (by omega), hor, Int.toNat_natCast, w64 (x := (i : Int) - 1) (by omega) (by omega), Int.tdiv_eq_ediv_of_nonneg (by omega), Int.tmod_eq_emod_of_nonneg (by omega)]
    have f1 : IntKind.u64.wrap (((R * 4294967296 + (a[i]).toNat : Nat) : Int) / 1000000000) % 4294967296 = (m : Int) := by rw [u64 (by omega) (by omega)]; omega
    have f2 : ((R * 4294967296 + (a[i]).toNat : Nat) : Int) % 1000000000 = (((R * 4294967296 + (a[i]).toNat) % 1000000000 : Nat) : Int) := by omega
    rw [f1, f2, ← e2]
theorem least_ev (a : List Int) (ha : IsW a) (hl : a.length ≤ 1000) : Ev (fun k => whole_least.f k a) (wordsN (wval a / 1000000000), ((wval a % 1000000000 : Nat) : Int)) := by
  have h := least_loop a ha hl a.length (List.replicate a.length 0) (Nat.le_refl _) (by simp) (IsW.replicate _) (fun p hp _ => by simp) (by
    rw [List.drop_of_length_le (by simp), List.drop_of_length_le (Nat.le_refl _)]; rfl)
  refine Ev.congr (fun k => ?_) h
  unfold whole_least.f
  rw [if_pos (by omega), if_pos (by omega), Int.toNat_natCast, List.drop_of_length_le (Nat.le_refl _), w64 (by omega) (by omega)]
  rfl
theorem text_digits (neg : Bool) (l : List Int) (w : List Int) (res : ByteArray) : ∀ (d i n : Nat) (x3 : List Int), d + i = 9 → n < 4294967296 → x3.length + d ≤ 100000 →
    Ev (fun k => whole_Text.l0 k (x3 ++ digs d n) w neg l) res → Ev (fun k => whole_Text.l1 k x3 w (n : Int) (i : Int) neg l) res := by
  intro d
  induction d with
  | zero =>
    intro i n x3 hd hn hx h
    rw [digs, List.append_nil] at h
    refine Ev.step (fun k => ?_) h
    simp only [whole_Text.l1]
    rw [if_neg (by omega)]
  | succ d ih =>
    intro i n x3 hd hn hx h
    have h2 := ih (i + 1) (n / 10) (x3 ++ [((48 + n % 10 : Nat) : Int)]) (by omega) (by omega) (by simp; omega) (by simpa [digs] using h)
    refine Ev.step (fun k => ?_) h2
    simp only [whole_Text.l1]
    rw [if_pos (by omega), if_pos (by omega), w64s i (by omega), Int.tmod_eq_emod_of_nonneg (by omega), Int.tdiv_eq_ediv_of_nonneg (by omega)]
    have f1 : (48 + (n : Int) % 10) % 256 = ((48 + n % 10 : Nat) : Int) := by omega
    have f2 : (n : Int) / 10 % 4294967296 = ((n / 10 : Nat) : Int) := by omega
    rw [f1, f2]
theorem text_loop (neg : Bool) (l : List Int) (res : ByteArray) : ∀ (j v : Nat) (x3 : List Int), v < 1000000000 ^ j → x3.length + 9 * j ≤ 100000 → (wordsN v).length ≤ 1000 →
    (∀ m, v < 10 ^ m → m ≤ 9 * j → Ev (fun k => whole_Text.l2 k (x3 ++ digs m v) neg l) res) → Ev (fun k => whole_Text.l0 k x3 (wordsN v) neg l) res := by
  intro j
  induction j with
  | zero =>
    intro v x3 hv hx hb h
    have : v = 0 := by simpa using hv
    subst this
    have h0 := h 0 (by simp) (by omega)
    rw [digs, List.append_nil] at h0
    refine Ev.step (fun k => ?_) h0
    simp only [whole_Text.l0]
    rw [if_neg (by rw [wordsN_zero]; simp)]
  | succ j ih =>
    intro v x3 hv hx hb h
    by_cases h0 : v = 0
    · subst h0
      have h1 := h 0 (by simp) (by omega)
      rw [digs, List.append_nil] at h1
      refine Ev.step (fun k => ?_) h1
      simp only [whole_Text.l0]
      rw [if_neg (by rw [wordsN_zero]; simp)]
    · have hlen : (wordsN v).length ≠ 0 := fun e => h0 ((wordsN_nil_iff v).1 (List.eq_nil_of_length_eq_zero e))
      have hle := least_ev (wordsN v) (isW_wordsN v) hb
      rw [wval_wordsN] at hle
      have h2 := ih (v / 1000000000) (x3 ++ digs 9 (v % 1000000000)) (by rw [Nat.pow_succ] at hv; exact (Nat.div_lt_iff_lt_mul (by omega)).2 hv) (by rw [List.length_append, digs_length]; omega) (Nat.le_trans (words_mono (Nat.div_le_self _ _)) hb) (fun m hm hmj => by
        have h3 := h (9 + m) (by
          rw [Nat.pow_add, show (10 : Nat) ^ 9 = 1000000000 by decide, Nat.mul_comm]
          exact (Nat.div_lt_iff_lt_mul (by omega)).1 hm) (by omega)
        rw [digs_add, show (10 : Nat) ^ 9 = 1000000000 by decide, ← List.append_assoc] at h3
        have e := digs_mod 9 v
        rw [show (10 : Nat) ^ 9 = 1000000000 by decide] at e
        rw [e]; exact h3)
      have h4 := text_digits neg l (wordsN (v / 1000000000)) res 9 0 (v % 1000000000) x3 (by omega) (by omega) (by omega) h2
      refine Ev.step (f := fun k => (whole_least.f k (wordsN v)).bind fun bt434 => whole_Text.l1 k x3 bt434.1 bt434.2 0 neg l) (fun k => ?_) (Ev.bind hle h4)
      simp only [whole_Text.l0]
      rw [if_pos (by omega)]
def Half (l x : List Int) (i : Nat) : Prop := ∃ h : x.length = l.length, ∀ p, (hp : p < l.length) → x[p]'(by omega) = if p < i ∨ l.length - 1 - i < p then l[l.length - 1 - p]'(by omega) else l[p]
theorem half_done {l x : List Int} {i : Nat} (h : Half l x i) (hi : i ≤ l.length) (hd : ¬ i + 1 < l.length - i) : x = l.reverse := by
  obtain ⟨h1, h2⟩ := h
  apply List.ext_getElem (by simpa using h1)
  intro p hp hq
  have hp' : p < l.length := by omega
  rw [h2 p hp', List.getElem_reverse]
  split
  · rfl
  · have : l.length - 1 - p = p := by omega
    simp only [this]
theorem half_step {l x : List Int} {i : Nat} (h : Half l x i) (hd : i + 1 < l.length - i) (a b : Int) (ha : a = x[l.length - 1 - i]'(by have := h.1; omega)) (hb : b = x[i]'(by have := h.1; omega)) :
    Half l ((x.set i a).set (l.length - 1 - i) b) (i + 1) := by
  obtain ⟨h1, h2⟩ := h
  refine ⟨by simpa using h1, fun p hp => ?_⟩
  rw [List.getElem_set, List.getElem_set]
  have e1 := h2 (l.length - 1 - i) (by omega)
  have e2 := h2 i (by omega)
  rw [if_neg (by omega)] at e1 e2
  by_cases hj : l.length - 1 - i = p
  · rw [if_pos hj, hb, e2, if_pos (by omega)]
    have : l.length - 1 - p = i := by omega
    simp only [this]
  · rw [if_neg hj]
    by_cases hi : i = p
    · rw [if_pos hi, ha, e1, if_pos (by omega)]
      simp only [hi]
    · rw [if_neg hi, h2 p hp]
      by_cases hc : p < i ∨ l.length - 1 - i < p
      · rw [if_pos hc, if_pos (by omega)]
      · rw [if_neg hc, if_neg (by omega)]
theorem rev_loop (l : List Int) (hl : l.length ≤ 1000000) : ∀ (d i : Nat) (x : List Int), i + d = l.length → Half l x i → Ev (fun k => slices_Reverse_byte_byte.l0 k x (i : Int) ((l.length : Int) - 1 - i)) l.reverse := by
  intro d
  induction d with
  | zero =>
    intro i x hd h
    have e := half_done h (by omega) (by omega)
    refine Ev.step (f := fun _ => some l.reverse) (fun k => ?_) (Ev.now _)
    simp only [slices_Reverse_byte_byte.l0]
    rw [if_neg (by omega), e]
  | succ d ih =>
    intro i x hd h
    by_cases hc : i + 1 < l.length - i
    · have hx := h.1
      have hj : (l.length : Int) - 1 - (i : Int) = ((l.length - 1 - i : Nat) : Int) := by omega
      have h2 := ih (i + 1) _ (by omega) (half_step h hc _ _ rfl rfl)
      refine Ev.step (fun k => ?_) h2
      rw [hj]
      simp only [slices_Reverse_byte_byte.l0]
      rw [if_pos (by omega), if_pos (by omega), if_pos (by omega), if_pos (by omega), if_pos (by omega), rd_lt _ _ (by omega : l.length - 1 - i < x.length), rd_lt _ _ (by omega : i < x.length), w64s i (by omega), w64 (by omega) (by omega), Int.toNat_natCast, Int.toNat_natCast]
      have : ((l.length - 1 - i : Nat) : Int) - 1 = (l.length : Int) - 1 - ((i + 1 : Nat) : Int) := by omega
      rw [this]
    · have e := half_done h (by omega) hc
      refine Ev.step (f := fun _ => some l.reverse) (fun k => ?_) (Ev.now _)
      simp only [slices_Reverse_byte_byte.l0]
      rw [if_neg (by omega), e]
theorem rev_ev (l : List Int) (hl : l.length ≤ 1000000) : Ev (fun k => slices_Reverse_byte_byte.f k l) l.reverse := by
  have h := rev_loop l hl l.length 0 l (by omega) ⟨rfl, fun p hp => by rw [if_neg (by omega)]⟩
  refine Ev.congr (fun k => ?_) h
  unfold slices_Reverse_byte_byte.f
  rw [w64 (by omega) (by omega)]
  simp
theorem text_end (neg : Bool) (l d : List Int) (hd : d.length ≤ 100000) : Ev (fun k => whole_Text.j3 k d neg l) (if d = [] then ⟨#[48]⟩ else strOfNums (d ++ if neg = true then [45] else []).reverse) := by
  by_cases h0 : d = []
  · rw [if_pos h0]
    refine Ev.step (f := fun _ => some (⟨#[48]⟩ : ByteArray)) (fun k => ?_) (Ev.now _)
    simp only [whole_Text.j3]
    rw [if_pos (by rw [h0]; rfl)]
  · rw [if_neg h0]
    have hl : d.length ≠ 0 := fun e => h0 (List.eq_nil_of_length_eq_zero e)
    cases neg
    · refine Ev.step (f := fun k => (slices_Reverse_byte_byte.f k d).bind fun t => some (strOfNums t)) (fun k => ?_) (Ev.bind (rev_ev d (by omega)) (by simpa using Ev.now _))
      simp only [whole_Text.j3]
      rw [if_neg (by omega), if_neg (by simp)]
    · refine Ev.step (f := fun k => (slices_Reverse_byte_byte.f k (d ++ [45])).bind fun t => some (strOfNums t)) (fun k => ?_) (Ev.bind (rev_ev (d ++ [45]) (by simp; omega)) (by simpa using Ev.now _))
      simp only [whole_Text.j3]
      rw [if_neg (by omega), if_pos trivial, if_pos (by omega)]
theorem text_strip (neg : Bool) (l d : List Int) (hl : d.getLast? ≠ some 48) (res : ByteArray) (h : Ev (fun k => whole_Text.j3 k d neg l) res) : ∀ z : Nat, d.length + z ≤ 100000 → Ev (fun k => whole_Text.l2 k (d ++ List.replicate z 48) neg l) res := by
  intro z
  induction z with
  | zero =>
    intro hz
    rw [List.replicate_zero, List.append_nil]
    refine Ev.step (fun k => ?_) h
    simp only [whole_Text.l2]
    by_cases h0 : d.length = 0
    · rw [if_neg (by omega)]
    · have hx : wrap64 ((d.length : Int) - 1) = ((d.length - 1 : Nat) : Int) := by rw [w64 (by omega) (by omega)]; omega
      have hne : d[d.length - 1]'(by omega) ≠ 48 := by
        intro e
        apply hl
        rw [List.getLast?_eq_getElem?, List.getElem?_eq_getElem (by omega : d.length - 1 < d.length), e]
      rw [if_pos (by omega), hx, if_pos (by omega), if_pos (by omega), rd_lt _ _ (by omega : d.length - 1 < d.length), if_neg hne]
  | succ z ih =>
    intro hz
    have h2 := ih (by omega)
    have hlen : (d ++ List.replicate (z + 1) 48).length = d.length + z + 1 := by simp; omega
    have hx : wrap64 (((d ++ List.replicate (z + 1) (48 : Int)).length : Int) - 1) = ((d.length + z : Nat) : Int) := by rw [hlen, w64 (by omega) (by omega)]; omega
    have he : d ++ List.replicate (z + 1) (48 : Int) = (d ++ List.replicate z 48) ++ [48] := by rw [List.replicate_succ', List.append_assoc]
    have hr : rd (d ++ List.replicate (z + 1) (48 : Int)) ((d.length + z : Nat) : Int) = 48 := by rw [he]; exact rd_snoc _ _ _ (by simp)
    have ht : (d ++ List.replicate (z + 1) (48 : Int)).take (d.length + z) = d ++ List.replicate z 48 := by
      rw [he, List.take_left' (by simp)]
    refine Ev.step (fun k => ?_) h2
    simp only [whole_Text.l2]
    rw [if_pos (by omega), hx, if_pos (by omega), if_pos (by omega), if_pos hr, if_pos (by omega), Int.toNat_natCast, ht]
theorem big_ninth : (256 : Nat) ^ 128 < 1000000000 ^ 45 := by decide +kernel
theorem text_ev (neg : Bool) (l : List Int) (hb : IsB l) : Ev (fun k => whole_Text.f k neg l) (textT neg l) := by
  unfold textT
  by_cases h1 : okN neg l = true
  · rw [if_pos h1]
    have hc := okN_can hb h1
    obtain ⟨l1, w1⟩ := words_of hb h1
    have hs : textS neg (bval l) = if decL (bval l) = [] then ⟨#[48]⟩ else strOfNums (decL (bval l) ++ if neg = true then [45] else []).reverse := by
      unfold textS
      by_cases h0 : bval l = 0
      · rw [if_pos h0, if_pos ((decL_nil_iff _).2 h0)]
      · rw [if_neg h0, if_neg (fun e => h0 ((decL_nil_iff _).1 e))]
    have h := text_loop neg l (textS neg (bval l)) 45 (bval l) [] (Nat.lt_trans (bval_small hb hc.2) big_ninth) (by simp) (by omega) (fun m hm hmj => by
      have hlen := decL_len m (bval l) hm
      rw [List.nil_append, digs_dec m _ hm, hs]
      exact text_strip neg l (decL (bval l)) (decL_last _) _ (text_end neg l (decL (bval l)) (by omega)) _ (by omega))
    refine Ev.congr (f := fun k => (whole_wordsOf.f k l).bind fun t431 => whole_Text.l0 k [] t431 neg l) (fun k => ?_) (Ev.bind w1 h)
    unfold whole_Text.f
    rw [right_eq, h1, Option.bind_some, if_pos rfl]
  · have h1 : okN neg l = false := by simpa using h1
    rw [if_neg (by rw [h1]; simp)]
    refine Ev.congr (f := fun _ => some (⟨#[]⟩ : ByteArray)) (fun k => ?_) (Ev.now _)
    unfold whole_Text.f
    rw [right_eq, h1, Option.bind_some, if_neg (by simp)]
theorem bytesL_len (s : ByteArray) : (bytesL s).length = s.size := by simp [bytesL]
theorem isB_bytesL (s : ByteArray) : IsB (bytesL s) := by
  intro x hx
  simp only [bytesL, List.mem_map] at hx
  obtain ⟨b, _, rfl⟩ := hx
  have := b.toNat_lt
  omega
theorem str_bytesL (s : ByteArray) : strOfNums (bytesL s) = s := by
  apply ByteArray.ext
  have h : ((fun n : Int => UInt8.ofNat n.toNat) ∘ fun b : UInt8 => ((b.toNat : Nat) : Int)) = id := by
    funext b; simp
  simp [strOfNums, bytesL, h]
theorem bytesL_str : ∀ {l : List Int}, IsB l → bytesL (strOfNums l) = l := by
  intro l h
  simp only [bytesL, strOfNums, List.map_map]
  have : ∀ x ∈ l, ((fun b : UInt8 => ((b.toNat : Nat) : Int)) ∘ fun n : Int => UInt8.ofNat n.toNat) x = x := by
    intro x hx
    have := h x hx
    simp only [Function.comp, UInt8.toNat_ofNat']
    omega
  exact (List.map_congr_left this).trans (List.map_id _)
theorem bt_at (s : ByteArray) (i : Nat) (h : i < s.size) : bt s (i : Int) = (bytesL s)[i]'(by rw [bytesL_len]; exact h) := by
  unfold bt
  simp [h, bytesL]
  rfl
theorem bt_zero (s : ByteArray) (h : 0 < s.size) : bt s 0 = (bytesL s)[0]'(by rw [bytesL_len]; exact h) := bt_at s 0 h
/-- Is there a sign ahead; what stands behind it. -/
def cutN (s : ByteArray) : Bool := decide ((bytesL s).head? = some 45)
def cutD (s : ByteArray) : ByteArray := if cutN s = true then s.extract 1 s.size else s
theorem cutD_bytes (s : ByteArray) : bytesL (cutD s) = if cutN s = true then (bytesL s).drop 1 else bytesL s := by
  unfold cutD
  split
  · simp [bytesL, ByteArray.data_extract]
    rw [List.take_of_length_le (by simp)]
  · rfl
theorem cut_eq (s : ByteArray) : strings_CutPrefix.f s ⟨#[45]⟩ = some (cutD s, cutN s) := by
  unfold strings_CutPrefix.f stringslite_CutPrefix.f stringslite_HasPrefix.f
  have h1 : (⟨#[45]⟩ : ByteArray).size = 1 := rfl
  rw [h1]
  by_cases h : (s.size : Int) ≥ ((1 : Nat) : Int)
  · rw [if_pos h, if_pos (by omega), if_pos (by omega)]
    have hs : 0 < s.size := by omega
    have hl : (bytesL s).length = s.size := bytesL_len s
    have e : ((s.extract 0 ((1 : Nat) : Int).toNat).toList == (⟨#[45]⟩ : ByteArray).toList) = cutN s := by
      rw [ByteArray.toList_eq, ByteArray.toList_eq]
      unfold cutN bytesL
      obtain ⟨⟨l⟩⟩ := s
      cases l with
      | nil => exact absurd hs (Nat.lt_irrefl 0)
      | cons b r =>
        simp only [ByteArray.data_extract]
        by_cases hb : b = 45
        · subst hb; simp
        · have : ¬ ((b.toNat : Nat) : Int) = 45 := by
            intro e
            apply hb
            have : b.toNat = (45 : UInt8).toNat := by have : (45 : UInt8).toNat = 45 := rfl; omega
            exact UInt8.toNat.inj this
          simp [this, hb]
    rw [e, Option.bind_some]
    by_cases hc : cutN s = true
    · rw [if_pos hc, if_pos (by omega), if_pos (by omega), Option.bind_some]
      unfold cutD; rw [if_pos hc, hc]; rfl
    · have hc' : cutN s = false := by simpa using hc
      rw [if_neg hc, Option.bind_some]
      unfold cutD; rw [if_neg hc, hc']
  · rw [if_neg h, Option.bind_some, if_neg (by simp), Option.bind_some]
    have hs : s.size = 0 := by omega
    have hn : bytesL s = [] := List.eq_nil_of_length_eq_zero (by rw [bytesL_len]; exact hs)
    have hc : cutN s = false := by unfold cutN; rw [hn]; rfl
    unfold cutD; rw [hc]; rfl
theorem decode_high (s : ByteArray) (pos : Nat) (h : ¬ (s.get! (pos + 0)).toNat < 128) : 128 ≤ (Utf8.decode s pos).1 := by
  unfold Utf8.decode
  simp only [h, if_false, Utf8.runeError]
  repeat' split
  all_goals first | omega | (simp_all; done) | (simp_all; omega)
theorem odd_at (s : ByteArray) (pos : Nat) (h : pos < s.size) (hd : 48 ≤ (bytesL s)[pos]'(by rw [bytesL_len]; exact h) ∧ (bytesL s)[pos]'(by rw [bytesL_len]; exact h) ≤ 57) : oddR (Utf8.decode s pos).1 = false ∧ (Utf8.decode s pos).2 = 1 := by
  have e : (bytesL s)[pos]'(by rw [bytesL_len]; exact h) = (((s[pos]'h).toNat : Nat) : Int) := by simp [bytesL]; rfl
  rw [e] at hd
  rw [decode_ascii s pos h (by omega)]
  refine ⟨?_, rfl⟩
  unfold oddR
  simp only [Bool.or_eq_false_iff, decide_eq_false_iff_not]
  omega
theorem odd_not (s : ByteArray) (pos : Nat) (h : pos < s.size) (hd : ¬ (48 ≤ (bytesL s)[pos]'(by rw [bytesL_len]; exact h) ∧ (bytesL s)[pos]'(by rw [bytesL_len]; exact h) ≤ 57)) : oddR (Utf8.decode s pos).1 = true := by
  have e : (bytesL s)[pos]'(by rw [bytesL_len]; exact h) = (((s[pos]'h).toNat : Nat) : Int) := by simp [bytesL]; rfl
  rw [e] at hd
  by_cases ha : (s[pos]'h).toNat < 128
  · rw [decode_ascii s pos h ha]
    unfold oddR
    simp only [Bool.or_eq_true, decide_eq_true_eq]
    omega
  · have := decode_high s pos (by
      have : s.get! (pos + 0) = s[pos]'h := by simp [ByteArray.get!, h]; rfl
      rw [this]; exact ha)
    unfold oddR
    simp only [Bool.or_eq_true, decide_eq_true_eq]
    omega
theorem idx_none (s : ByteArray) : ∀ (f pos : Nat), (∀ p, (h : p < s.size) → pos ≤ p → 48 ≤ (bytesL s)[p]'(by rw [bytesL_len]; exact h) ∧ (bytesL s)[p]'(by rw [bytesL_len]; exact h) ≤ 57) → idxF s f pos = -1
  | 0, _, _ => rfl
  | f + 1, pos, h => by
    unfold idxF
    by_cases hp : pos < s.size
    · obtain ⟨e1, e2⟩ := odd_at s pos hp (h pos hp (Nat.le_refl _))
      rw [if_pos hp, e1, if_neg (by simp), e2]
      exact idx_none s f (pos + 1) (fun p hp' hle => h p hp' (by omega))
    · rw [if_neg hp]
theorem idx_some (s : ByteArray) : ∀ (f pos p : Nat), s.size ≤ pos + f → pos ≤ p → (h : p < s.size) → ¬ (48 ≤ (bytesL s)[p]'(by rw [bytesL_len]; exact h) ∧ (bytesL s)[p]'(by rw [bytesL_len]; exact h) ≤ 57) → 0 ≤ idxF s f pos
  | 0, pos, p, hs, hle, hp, _ => by omega
  | f + 1, pos, p, hs, hle, hp, hn => by
    unfold idxF
    have hps : pos < s.size := by omega
    rw [if_pos hps]
    by_cases hd : 48 ≤ (bytesL s)[pos]'(by rw [bytesL_len]; exact hps) ∧ (bytesL s)[pos]'(by rw [bytesL_len]; exact hps) ≤ 57
    · obtain ⟨e1, e2⟩ := odd_at s pos hps hd
      rw [e1, if_neg (by simp), e2]
      refine idx_some s f (pos + 1) p (by omega) ?_ hp hn
      rcases Nat.lt_or_ge pos p with h | h
      · exact h
      · have : pos = p := by omega
        subst this; exact absurd hd hn
    · rw [odd_not s pos hps hd, if_pos rfl]; omega
/-- A text that is a number. -/
def Good (s : ByteArray) : Prop := ∃ h : 0 < (bytesL (cutD s)).length, IsD (bytesL (cutD s)) ∧ ¬ ((bytesL (cutD s))[0] = 48 ∧ 1 < s.size)
theorem all_isD {l : List Int} : IsD l ↔ ∀ p, (h : p < l.length) → 48 ≤ l[p] ∧ l[p] ≤ 57 := by
  constructor
  · intro h p hp; exact h _ (List.getElem_mem hp)
  · intro h x hx
    obtain ⟨p, hp, rfl⟩ := List.getElem_of_mem hx
    exact h p hp
theorem not_isD {l : List Int} (h : ¬ IsD l) : ∃ p, ∃ hp : p < l.length, ¬ (48 ≤ l[p] ∧ l[p] ≤ 57) := by
  apply Classical.byContradiction
  intro hn
  apply h
  rw [all_isD]
  intro p hp
  apply Classical.byContradiction
  intro h2
  exact hn ⟨p, hp, h2⟩
theorem empty_iff (d : ByteArray) : d.toList = [] ↔ (bytesL d).length = 0 := by
  rw [ByteArray.toList_eq, bytesL_len]
  constructor
  · intro h; have := congrArg List.length h; simpa using this
  · intro h; exact List.eq_nil_of_length_eq_zero (by simpa using h)
theorem cut_size (s : ByteArray) : (cutD s).size + (if cutN s = true then 1 else 0) = s.size := by
  rw [← bytesL_len, ← bytesL_len s, cutD_bytes]
  by_cases h : cutN s = true
  · rw [if_pos h, if_pos h, List.length_drop]
    have : bytesL s ≠ [] := by intro e; unfold cutN at h; rw [e] at h; simp at h
    have : (bytesL s).length ≠ 0 := fun e => this (List.eq_nil_of_length_eq_zero e)
    omega
  · rw [if_neg h, if_neg h]; rfl
/-- whole.Read's first tests. -/
theorem read_test (s : ByteArray) : ∃ b : Bool, (b = true ↔ ¬ Good s) ∧ ∀ (k : Nat) (l1 : List Int), whole_Read.f k s l1 = whole_Read.j0 k s l1 (cutN s) b := by
  have hsz := bytesL_len (cutD s)
  by_cases h0 : (cutD s).toList = []
  · have hz := (empty_iff _).1 h0
    refine ⟨true, ⟨fun _ hg => ?_, fun _ => rfl⟩, fun k l1 => ?_⟩
    · obtain ⟨h, _⟩ := hg; omega
    · unfold whole_Read.f; rw [cut_eq, Option.bind_some]; dsimp only; rw [if_pos h0]
  · have hz : 0 < (cutD s).size := by
      rcases Nat.eq_zero_or_pos (cutD s).size with h | h
      · exact absurd ((empty_iff _).2 (by rw [hsz]; exact h)) h0
      · exact h
    by_cases hd : IsD (bytesL (cutD s))
    · have hi : idxF (cutD s) (cutD s).size 0 = -1 := idx_none _ _ _ (fun p hp _ => all_isD.1 hd p (by rw [hsz]; exact hp))
      by_cases h1 : (bytesL (cutD s))[0]'(by rw [hsz]; exact hz) = 48
      · refine ⟨decide ((s.size : Int) > 1), ?_, fun k l1 => ?_⟩
        · rw [decide_eq_true_eq]
          constructor
          · intro h hg
            obtain ⟨_, _, h2⟩ := hg
            exact h2 ⟨h1, by omega⟩
          · intro hg
            apply Classical.byContradiction
            intro h
            exact hg ⟨by rw [hsz]; exact hz, hd, fun h2 => h (by have := h2.2; omega)⟩
        · unfold whole_Read.f
          rw [cut_eq, Option.bind_some]
          dsimp only
          rw [if_neg h0]
          show ((strings_IndexFunc.f (cutD s)).bind _) = _
          unfold strings_IndexFunc.f
          rw [hi, Option.bind_some, if_neg (by omega), if_pos (by omega), if_pos (by rw [bt_zero _ hz]; exact h1)]
      · refine ⟨false, ⟨fun h => Bool.noConfusion h, fun hg => absurd ⟨by rw [hsz]; exact hz, hd, fun h2 => h1 h2.1⟩ hg⟩, fun k l1 => ?_⟩
        unfold whole_Read.f
        rw [cut_eq, Option.bind_some]
        dsimp only
        rw [if_neg h0]
        show ((strings_IndexFunc.f (cutD s)).bind _) = _
        unfold strings_IndexFunc.f
        rw [hi, Option.bind_some, if_neg (by omega), if_pos (by omega), if_neg (by rw [bt_zero _ hz]; exact h1)]
    · obtain ⟨p, hp, hn⟩ := not_isD hd
      have hi : 0 ≤ idxF (cutD s) (cutD s).size 0 := idx_some _ _ _ p (by omega) (by omega) (by rw [← hsz]; exact hp) hn
      refine ⟨true, ⟨fun _ hg => ?_, fun _ => rfl⟩, fun k l1 => ?_⟩
      · obtain ⟨_, h2, _⟩ := hg; exact hd h2
      · unfold whole_Read.f
        rw [cut_eq, Option.bind_some]
        dsimp only
        rw [if_neg h0]
        show ((strings_IndexFunc.f (cutD s)).bind _) = _
        unfold strings_IndexFunc.f
        rw [Option.bind_some, if_pos (by omega)]
theorem big400 : (10 : Nat) ^ 400 < 256 ^ (4 * 50) := by decide +kernel
theorem hval_words {D : List Int} (hD : IsD D) (hl : D.length ≤ 400) (i : Nat) : (wordsN (hval (D.take i))).length ≤ 50 := by
  refine wordsN_len _ 50 ?_
  have h1 : IsD (D.take i).reverse := fun x hx => hD x (List.mem_of_mem_take (List.mem_reverse.1 hx))
  have h2 := dval_lt _ h1
  rw [List.length_reverse] at h2
  have h3 : (D.take i).length ≤ 400 := by rw [List.length_take]; omega
  exact Nat.lt_of_lt_of_le h2 (Nat.le_trans (Nat.pow_le_pow_right (by decide) h3) (Nat.le_of_lt big400))
theorem hval_take {D : List Int} (i : Nat) (h : i < D.length) : hval (D.take (i + 1)) = hval (D.take i) * 10 + (D[i] - 48).toNat := by
  rw [take_succ_get D i h, hval_snoc]
theorem dig_isW (x : Int) : IsW [(x - 48) % 256] := IsW.cons (by omega) (by omega) IsW.nil
theorem dig_wval (x : Int) (h : 48 ≤ x ∧ x ≤ 57) : wval [(x - 48) % 256] = (x - 48).toNat := by
  have : (x - 48) % 256 = x - 48 := by omega
  rw [this]; simp [wval]
theorem read_loop (neg : Bool) (D : List Int) (hD : IsD D) (hl : D.length ≤ 400) : ∀ (d i : Nat), d + i = D.length → Ev (fun k => whole_Read.l0 k neg (wordsN (hval (D.take i))) D (D.length : Int) (i : Int)) (fit neg (hval D)) := by
  intro d
  induction d with
  | zero =>
    intro i hd
    obtain rfl : i = D.length := by omega
    have hw := hval_words hD hl D.length
    rw [List.take_length] at hw ⊢
    have hf := fits_ev neg (wordsN (hval D)) (isW_wordsN _) (by omega)
    rw [wval_wordsN] at hf
    refine Ev.step (f := fun k => (whole_fits.f k neg (wordsN (hval D))).bind fun bt400 => some (bt400.1, bt400.2.1, bt400.2.2)) (fun k => ?_) (Ev.bind hf (Ev.now _))
    simp only [whole_Read.l0]
    rw [if_neg (by omega)]
  | succ d ih =>
    intro i hd
    have hi : i < D.length := by omega
    have hA := hD _ (List.getElem_mem hi)
    have hw := hval_words hD hl i
    have hw2 := hval_words hD hl (i + 1)
    have h := ih (i + 1) (by omega)
    have e := hval_take i hi
    generalize hval (D.take i) = v at *
    have ten : IsW [10] := IsW.cons (by omega) (by omega) IsW.nil
    have ht := times_ev (wordsN v) [10] (isW_wordsN _) ten (by omega) (by simp)
    rw [wval_wordsN, show wval [10] = 10 from rfl] at ht
    have hlt : (wordsN (v * 10)).length ≤ 50 := Nat.le_trans (words_mono (by omega)) hw2
    have hr := trim_ev [(D[i] - 48) % 256] (dig_isW _) (by simp)
    rw [dig_wval _ hA] at hr
    have hlr : (wordsN (D[i] - 48).toNat).length ≤ 50 := Nat.le_trans (words_mono (by omega)) hw2
    have hp := plus_ev (wordsN (v * 10)) (wordsN (D[i] - 48).toNat) (isW_wordsN _) (isW_wordsN _) (by omega) (by omega)
    rw [wval_wordsN, wval_wordsN, ← e] at hp
    refine Ev.step (f := fun k => (whole_times.f k (wordsN v) [10]).bind fun t388 => (whole_words_trim.f k [(D[i] - 48) % 256]).bind fun t394 => (whole_plus.f k t388 t394).bind fun t397 => whole_Read.l0 k neg t397 D (D.length : Int) ((i + 1 : Nat) : Int)) (fun k => ?_) (Ev.bind ht (Ev.bind hr (Ev.bind hp h)))
    simp only [whole_Read.l0]
    rw [if_pos (by omega), if_pos (by omega), if_pos (by omega), rd_lt _ _ hi, w64s i (by omega)]
theorem cut_neg (s : ByteArray) : decide ((cutD s).size < s.size) = cutN s := by
  have := cut_size s
  cases h : cutN s
  · rw [h] at this; simp at this; simp; omega
  · rw [h] at this; simp at this; simp; omega
theorem rread_loop (s : ByteArray) (hD : IsD (bytesL (cutD s))) (hl : (cutD s).size ≤ 400) : ∀ (d i : Nat) (a : List Int), d + i = (cutD s).size → IsB a → a.length ≤ 2 * i → bval a = hval ((bytesL (cutD s)).take i) →
    Ev (fun k => lapidaryref02_Read.l1 k s (cutD s) a (i : Int)) (fit (cutN s) (hval (bytesL (cutD s)))) := by
  have hsz := bytesL_len (cutD s)
  intro d
  induction d with
  | zero =>
    intro i a hd ha hla hv
    obtain rfl : i = (cutD s).size := by omega
    rw [← hsz, List.take_length] at hv
    refine Ev.step (f := fun _ => some (fit (cutN s) (hval (bytesL (cutD s))))) (fun k => ?_) (Ev.now _)
    simp only [lapidaryref02_Read.l1]
    rw [if_neg (by omega), rfits_eq _ a ha (by omega), cut_neg, hv]; rfl
  | succ d ih =>
    intro i a hd ha hla hv
    have hi : i < (cutD s).size := by omega
    have hi2 : i < (bytesL (cutD s)).length := by omega
    have hA := hD _ (List.getElem_mem hi2)
    have e := hval_take (D := bytesL (cutD s)) i hi2
    obtain ⟨t, t1, t2, t3, t4⟩ := rtimes_ev a 10 0 ha (by omega) (by omega) (by omega) (by omega)
    have hdg : IsB [(((bytesL (cutD s))[i] - 48) % 256)] := IsB.cons (by omega) (by omega) IsB.nil
    obtain ⟨r, r1, r2, r3, r4⟩ := sum_ev t [(((bytesL (cutD s))[i] - 48) % 256)] t1 hdg (by omega) (by simp)
    have hlr : r.length ≤ 2 * (i + 1) := by
      have : ([(((bytesL (cutD s))[i] - 48) % 256)] : List Int).length = 1 := rfl
      omega
    have hvr : bval r = hval ((bytesL (cutD s)).take (i + 1)) := by
      apply bI_bval
      rw [r2, t2, e, ← hv, W8_zero, bI_eq a]
      have : bI [(((bytesL (cutD s))[i] - 48) % 256)] = (bytesL (cutD s))[i] - 48 := by
        rw [bI_cons _ _ (by omega), bI_nil]; simp [W8_zero]; omega
      rw [this]; omega
    have h := ih (i + 1) r (by omega) r1 hlr hvr
    refine Ev.step (f := fun k => (lapidaryref02_times.f k a 10 ((0 : Nat) : Int)).bind fun t749 => (lapidaryref02_sum.f k t749 [(((bytesL (cutD s))[i] - 48) % 256)]).bind fun t755 => lapidaryref02_Read.l1 k s (cutD s) t755 ((i + 1 : Nat) : Int)) (fun k => ?_) (Ev.bind t4 (Ev.bind r4 h))
    simp only [lapidaryref02_Read.l1]
    rw [if_pos (by omega)]
    simp only [if_pos (show (0 : Int) ≤ (i : Int) by omega), bt_at _ _ hi, w64s i (by omega)]
    rfl
theorem flag_false (s d : ByteArray) (hl : d.size ≤ 9000000000000000000) : ∀ (t i : Nat), t + i = d.size → Ev (fun k => lapidaryref02_Read.l0 k s d false (i : Int)) (false, [], 11) := by
  intro t
  induction t with
  | zero =>
    intro i hd
    refine Ev.step (f := fun _ => some (false, [], 11)) (fun k => ?_) (Ev.now _)
    simp only [lapidaryref02_Read.l0]
    rw [if_neg (by omega), if_neg (by simp)]
  | succ t ih =>
    intro i hd
    refine Ev.step (fun k => ?_) (ih (i + 1) (by omega))
    simp only [lapidaryref02_Read.l0]
    rw [if_pos (by omega), if_neg (by simp), w64s i (by omega)]
theorem flag_step (s d : ByteArray) (i : Nat) (hi : i < d.size) (hs : d.size ≤ 9000000000000000000) (b : Bool) (hb : b = true ↔ 48 ≤ (bytesL d)[i]'(by rw [bytesL_len]; exact hi) ∧ (bytesL d)[i]'(by rw [bytesL_len]; exact hi) ≤ 57) (k : Nat) :
    lapidaryref02_Read.l0 (k + 1) s d true (i : Int) = lapidaryref02_Read.l0 k s d b ((i + 1 : Nat) : Int) := by
  simp only [lapidaryref02_Read.l0]
  rw [if_pos (by omega), if_pos trivial, if_pos (by omega), bt_at d i hi, w64s i (by omega)]
  by_cases h : (bytesL d)[i]'(by rw [bytesL_len]; exact hi) ≥ 48
  · rw [if_pos h]
    have : decide ((bytesL d)[i]'(by rw [bytesL_len]; exact hi) ≤ 57) = b := by
      rw [Bool.eq_iff_iff, hb, decide_eq_true_eq]; omega
    rw [this]
  · rw [if_neg h]
    have : b = false := by
      rw [Bool.eq_false_iff]; intro hbt; have := hb.1 hbt; omega
    rw [this]
theorem flag_good (s d : ByteArray) (hs : d.size ≤ 9000000000000000000) (hD : IsD (bytesL d)) (res : Bool × List Int × Int) (h : Ev (fun k => if (s.size : Int) > 400 then some (false, [], 24) else lapidaryref02_Read.l1 k s d [] 0) res) : ∀ (t i : Nat), t + i = d.size → Ev (fun k => lapidaryref02_Read.l0 k s d true (i : Int)) res := by
  intro t
  induction t with
  | zero =>
    intro i hd
    refine Ev.step (fun k => ?_) h
    simp only [lapidaryref02_Read.l0]
    rw [if_neg (by omega), if_pos trivial]
  | succ t ih =>
    intro i hd
    have hi : i < d.size := by omega
    exact Ev.step (fun k => flag_step s d i hi hs true ⟨fun _ => hD _ (List.getElem_mem _), fun _ => rfl⟩ k) (ih (i + 1) (by omega))
theorem flag_bad (s d : ByteArray) (hs : d.size ≤ 9000000000000000000) (p : Nat) (hp : p < d.size) (hn : ¬ (48 ≤ (bytesL d)[p]'(by rw [bytesL_len]; exact hp) ∧ (bytesL d)[p]'(by rw [bytesL_len]; exact hp) ≤ 57)) : ∀ (t i : Nat), t + i = d.size → i ≤ p → Ev (fun k => lapidaryref02_Read.l0 k s d true (i : Int)) (false, [], 11) := by
  intro t
  induction t with
  | zero => intro i hd hi; omega
  | succ t ih =>
    intro i hd hip
    have hi : i < d.size := by omega
    by_cases hg : 48 ≤ (bytesL d)[i]'(by rw [bytesL_len]; exact hi) ∧ (bytesL d)[i]'(by rw [bytesL_len]; exact hi) ≤ 57
    · have hne : i ≠ p := by intro e; subst e; exact hn hg
      exact Ev.step (fun k => flag_step s d i hi hs true ⟨fun _ => hg, fun _ => rfl⟩ k) (ih (i + 1) (by omega) (by omega))
    · exact Ev.step (fun k => flag_step s d i hi hs false ⟨fun h => Bool.noConfusion h, fun h => absurd h hg⟩ k) (flag_false s d hs t (i + 1) (by omega))
theorem head_cut (s : ByteArray) (h : 0 < s.size) : (bt s 0 == 45) = cutN s := by
  rw [bt_zero s h]
  unfold cutN
  have hl : 0 < (bytesL s).length := by rw [bytesL_len]; exact h
  rw [List.head?_eq_getElem?, List.getElem?_eq_getElem hl]
  by_cases e : (bytesL s)[0] = 45
  · simp [e]
  · simp [e]
theorem rread_top (s : ByteArray) (res : Bool × List Int × Int) (h : Ev (fun k => lapidaryref02_Read.j1 k s (cutD s)) res) : Ev (fun k => lapidaryref02_Read.f k s) res := by
  by_cases h0 : 0 < s.size
  · refine Ev.congr (f := fun k => lapidaryref02_Read.j0 k s s (cutN s)) (fun k => ?_) (Ev.step (fun k => ?_) h)
    · unfold lapidaryref02_Read.f
      rw [if_pos (by omega), if_pos (by omega), head_cut s h0]
    · simp only [lapidaryref02_Read.j0]
      by_cases hc : cutN s = true
      · rw [if_pos hc, if_pos (by omega)]; unfold cutD; rw [if_pos hc]
      · rw [if_neg hc]; unfold cutD; rw [if_neg hc]
  · have hn : bytesL s = [] := List.eq_nil_of_length_eq_zero (by rw [bytesL_len]; omega)
    have hc : cutN s = false := by unfold cutN; rw [hn]; rfl
    refine Ev.congr (f := fun k => lapidaryref02_Read.j0 k s s false) (fun k => ?_) (Ev.step (fun k => ?_) h)
    · unfold lapidaryref02_Read.f
      rw [if_neg (by omega)]
    · simp only [lapidaryref02_Read.j0]
      rw [if_neg (by simp)]; unfold cutD; rw [hc]; rfl
theorem rread_j2 (s d : ByteArray) (b : Bool) (res : Bool × List Int × Int) (h : Ev (fun k => lapidaryref02_Read.l0 k s d b ((0 : Nat) : Int)) res) : Ev (fun k => lapidaryref02_Read.j2 k s d b) res :=
  Ev.step (fun k => by simp only [lapidaryref02_Read.j2]; rfl) h
theorem rread_good (s : ByteArray) (hg : Good s) (hs : s.size ≤ 9000000000000000000) (res : Bool × List Int × Int) (h : Ev (fun k => if (s.size : Int) > 400 then some (false, [], 24) else lapidaryref02_Read.l1 k s (cutD s) [] 0) res) : Ev (fun k => lapidaryref02_Read.f k s) res := by
  obtain ⟨h0, hD, h1⟩ := hg
  have hsz := bytesL_len (cutD s)
  have hcs := cut_size s
  have hfl := flag_good s (cutD s) (by omega) hD res h (cutD s).size 0 (by omega)
  have hz : 0 < (cutD s).size := by omega
  refine rread_top s res (Ev.step (f := fun k => lapidaryref02_Read.j2 k s (cutD s) true) (fun k => ?_) (rread_j2 s (cutD s) true res hfl))
  simp only [lapidaryref02_Read.j1]
  rw [if_pos (by omega), if_pos (by omega), bt_zero _ hz]
  by_cases e : (bytesL (cutD s))[0] = 48
  · rw [if_pos e]
    have : s.size = 1 := by
      have : ¬ 1 < s.size := fun h2 => h1 ⟨e, h2⟩
      split at hcs <;> omega
    rw [this]; rfl
  · rw [if_neg e]
theorem rread_bad (s : ByteArray) (hg : ¬ Good s) (hs : s.size ≤ 9000000000000000000) : Ev (fun k => lapidaryref02_Read.f k s) (false, [], 11) := by
  have hsz := bytesL_len (cutD s)
  have hcs := cut_size s
  have hff := flag_false s (cutD s) (by omega) (cutD s).size 0 (by omega)
  by_cases hz : 0 < (cutD s).size
  · by_cases hD : IsD (bytesL (cutD s))
    · have e : (bytesL (cutD s))[0]'(by omega) = 48 ∧ 1 < s.size := by
        apply Classical.byContradiction
        intro hn; exact hg ⟨by omega, hD, hn⟩
      refine rread_top s _ (Ev.step (f := fun k => lapidaryref02_Read.j2 k s (cutD s) false) (fun k => ?_) (rread_j2 s (cutD s) false _ hff))
      simp only [lapidaryref02_Read.j1]
      rw [if_pos (by omega), if_pos (by omega), bt_zero _ hz, if_pos e.1]
      have : ((s.size : Int) == 1) = false := by rw [beq_eq_false_iff_ne]; omega
      rw [this]
    · obtain ⟨p, hp, hn⟩ := not_isD hD
      have hfb := flag_bad s (cutD s) (by omega) p (by omega) hn (cutD s).size 0 (by omega) (by omega)
      by_cases e : (bytesL (cutD s))[0]'(by omega) = 48
      · by_cases e1 : ((s.size : Int) == 1) = true
        · refine rread_top s _ (Ev.step (f := fun k => lapidaryref02_Read.j2 k s (cutD s) true) (fun k => ?_) (rread_j2 s (cutD s) true _ hfb))
          simp only [lapidaryref02_Read.j1]
          rw [if_pos (by omega), if_pos (by omega), bt_zero _ hz, if_pos e, e1]
        · have e1 : ((s.size : Int) == 1) = false := by simpa using e1
          refine rread_top s _ (Ev.step (f := fun k => lapidaryref02_Read.j2 k s (cutD s) false) (fun k => ?_) (rread_j2 s (cutD s) false _ hff))
          simp only [lapidaryref02_Read.j1]
          rw [if_pos (by omega), if_pos (by omega), bt_zero _ hz, if_pos e, e1]
      · refine rread_top s _ (Ev.step (f := fun k => lapidaryref02_Read.j2 k s (cutD s) true) (fun k => ?_) (rread_j2 s (cutD s) true _ hfb))
        simp only [lapidaryref02_Read.j1]
        rw [if_pos (by omega), if_pos (by omega), bt_zero _ hz, if_neg e]
  · refine rread_top s _ (Ev.step (f := fun k => lapidaryref02_Read.j2 k s (cutD s) false) (fun k => ?_) (rread_j2 s (cutD s) false _ hff))
    simp only [lapidaryref02_Read.j1]
    rw [if_neg (by omega)]
theorem fit_len128 (neg : Bool) (n : Nat) : (fit neg n).2.1.length ≤ 128 := by
  unfold fit
  split
  · simp
  · simp only [mk]; omega
/-- Both readings, and what they come to. -/
theorem reads (s : ByteArray) (hs : s.size ≤ 9000000000000000000) : ∃ (neg : Bool) (l : List Int) (er : Int), Ev (fun k => whole_Read.f k s (bytesL (cutD s))) (neg, l, er) ∧ Ev (fun k => lapidaryref02_Read.f k s) (neg, l, er) ∧ l.length ≤ 128 ∧
    ((Good s ∧ s.size ≤ 400 ∧ (neg, l, er) = fit (cutN s) (hval (bytesL (cutD s)))) ∨ (¬ (Good s ∧ s.size ≤ 400) ∧ er ≠ 0)) := by
  obtain ⟨b, hb, hf⟩ := read_test s
  have hsz := bytesL_len (cutD s)
  have hcs := cut_size s
  by_cases hg : Good s
  · have hb0 : b = false := by rw [Bool.eq_false_iff]; intro h; exact hb.1 h hg
    subst hb0
    by_cases h400 : s.size ≤ 400
    · have hD := hg.2.1
      have hl : (bytesL (cutD s)).length ≤ 400 := by split at hcs <;> omega
      have hw := read_loop (cutN s) (bytesL (cutD s)) hD hl (bytesL (cutD s)).length 0 (by omega)
      rw [List.take_zero, show hval [] = 0 from rfl, wordsN_zero] at hw
      have hr := rread_loop s hD (by omega) (cutD s).size 0 [] (by omega) IsB.nil (by simp) (by rw [List.take_zero]; rfl)
      refine ⟨(fit (cutN s) (hval (bytesL (cutD s)))).1, (fit (cutN s) (hval (bytesL (cutD s)))).2.1, (fit (cutN s) (hval (bytesL (cutD s)))).2.2, ?_, ?_, fit_len128 _ _, .inl ⟨hg, h400, rfl⟩⟩
      · refine Ev.congr (fun k => hf k _) (Ev.step (fun k => ?_) hw)
        simp only [whole_Read.j0]
        rw [if_neg (by simp), if_neg (by omega)]; rfl
      · refine rread_good s hg hs _ (Ev.congr (fun k => ?_) hr)
        rw [if_neg (by omega)]; rfl
    · refine ⟨false, [], 24, ?_, ?_, by simp, .inr ⟨fun h => h400 h.2, by decide⟩⟩
      · refine Ev.congr (fun k => hf k _) (Ev.step (f := fun _ => some (false, [], 24)) (fun k => ?_) (Ev.now _))
        simp only [whole_Read.j0]
        rw [if_neg (by simp), if_pos (by omega)]
      · refine rread_good s hg hs _ (Ev.congr (f := fun _ => some (false, [], 24)) (fun k => ?_) (Ev.now _))
        rw [if_pos (by omega)]
  · have hb1 : b = true := hb.2 hg
    subst hb1
    refine ⟨false, [], 11, ?_, rread_bad s hg hs, by simp, .inr ⟨fun h => hg h.1, by decide⟩⟩
    refine Ev.congr (fun k => hf k _) (Ev.step (f := fun _ => some (false, [], 11)) (fun k => ?_) (Ev.now _))
    simp only [whole_Read.j0]; rfl
theorem cons_head {l : List Int} (h : 0 < l.length) : ∃ x r, l = x :: r ∧ l[0] = x := by
  cases l with
  | nil => simp at h
  | cons x r => exact ⟨x, r, rfl, rfl⟩
theorem hval_zero {D : List Int} (hD : IsD D) (h0 : 0 < D.length) (h : hval D = 0) : D[0] = 48 := by
  apply Classical.byContradiction
  intro hn
  obtain ⟨x, r, rfl, e⟩ := cons_head h0
  have : dval (x :: r).reverse ≠ 0 := dval_pos _ (fun y hy => hD y (List.mem_reverse.1 hy)) (by simp) (by
    rw [List.getLast?_reverse, List.head?_cons]; intro e2; exact hn (by simpa using e2))
  exact this h
/-- What is read is written as it was. -/
theorem text_back (s : ByteArray) (hg : Good s) : textS (cutN s) (hval (bytesL (cutD s))) = s := by
  obtain ⟨h0, hD, h1⟩ := hg
  have hsz := bytesL_len (cutD s)
  have hcs := cut_size s
  have hcd := cutD_bytes s
  unfold textS
  by_cases hz : hval (bytesL (cutD s)) = 0
  · rw [if_pos hz]
    have e := hval_zero hD h0 hz
    have hs1 : s.size = 1 := by
      have : ¬ 1 < s.size := fun h2 => h1 ⟨e, h2⟩
      split at hcs <;> omega
    have hc : cutN s = false := by
      cases h : cutN s
      · rfl
      · rw [h] at hcs; simp at hcs; omega
    rw [hc] at hcd
    have hcd : bytesL (cutD s) = bytesL s := hcd
    have hb : bytesL s = [48] := by
      have hl : (bytesL s).length = 1 := by rw [bytesL_len]; exact hs1
      rw [← hcd] at hl ⊢
      obtain ⟨x, r, e1, e2⟩ := cons_head h0
      rw [e1] at hl
      have hr : r = [] := List.eq_nil_of_length_eq_zero (by simpa using hl)
      have hx : x = 48 := by rw [← e2]; exact e
      rw [e1, hr, hx]
    rw [← str_bytesL s, hb]; rfl
  · rw [if_neg hz]
    have hlast : (bytesL (cutD s)).reverse.getLast? ≠ some 48 := by
      obtain ⟨x, r, e1, e2⟩ := cons_head h0
      rw [List.getLast?_reverse, e1, List.head?_cons]
      intro h
      have hx : (bytesL (cutD s))[0] = 48 := by rw [e2]; simpa using h
      have hs1 : s.size = 1 := by
        have : ¬ 1 < s.size := fun h2 => h1 ⟨hx, h2⟩
        split at hcs <;> omega
      have hl : (bytesL (cutD s)).length = 1 := by split at hcs <;> omega
      have hr : r = [] := List.eq_nil_of_length_eq_zero (by rw [e1] at hl; simpa using hl)
      apply hz
      rw [e1, hr, show x = 48 by rw [← e2]; exact hx]
      rfl
    have hdec : decL (hval (bytesL (cutD s))) = (bytesL (cutD s)).reverse := decL_dval _ (fun y hy => hD y (List.mem_reverse.1 hy)) hlast
    rw [hdec, List.reverse_append, List.reverse_reverse]
    rw [← str_bytesL s]
    congr 1
    rw [str_bytesL, hcd]
    cases hc : cutN s
    · simp
    · simp only [if_true]
      unfold cutN at hc
      have hh : (bytesL s).head? = some 45 := of_decide_eq_true hc
      cases hb : bytesL s with
      | nil => rw [hb] at hh; simp at hh
      | cons x r => rw [hb] at hh; simp at hh; subst hh; rfl
theorem textS_sign (neg : Bool) (n : Nat) : textS (neg && decide (n ≠ 0)) n = textS neg n := by
  unfold textS
  by_cases h : n = 0
  · rw [if_pos h, if_pos h]
  · rw [if_neg h, if_neg h]
    have : decide (n ≠ 0) = true := by simpa using h
    rw [this, Bool.and_true]
/-- A number's text is a good one, and is read as the number. -/
theorem text_good (neg : Bool) (l : List Int) (hb : IsB l) (h : okN neg l = true) : Good (textS neg (bval l)) ∧ (textS neg (bval l)).size ≤ 400 ∧ fit (cutN (textS neg (bval l))) (hval (bytesL (cutD (textS neg (bval l))))) = (neg, l, 0) := by
  have hc := okN_can hb h
  by_cases h0 : bval l = 0
  · have hl : l = [] := by
      cases l with
      | nil => rfl
      | cons x r => have := CanB.pos hc.1 (by simp); omega
    have hn : neg = false := by rw [hl] at h; simpa [okN] using h
    subst hl hn
    have e : textS false (bval []) = ⟨#[48]⟩ := rfl
    rw [e]
    have b1 : bytesL (⟨#[48]⟩ : ByteArray) = [48] := rfl
    have c1 : cutN (⟨#[48]⟩ : ByteArray) = false := by unfold cutN; rw [b1]; decide
    have d1 : bytesL (cutD (⟨#[48]⟩ : ByteArray)) = [48] := by rw [cutD_bytes, c1]; exact b1
    refine ⟨⟨by rw [d1]; simp, by rw [d1]; intro x hx; simp at hx; omega, fun h2 => absurd h2.2 (by decide)⟩, by decide, ?_⟩
    rw [c1, d1]
    have : hval [48] = 0 := rfl
    rw [this]
    unfold fit mk
    rw [bytesN_zero]; rfl
  · have hne : decL (bval l) ≠ [] := fun e => h0 ((decL_nil_iff _).1 e)
    have hdl : (decL (bval l)).length ≤ 399 := decL_len 399 _ (Nat.lt_trans (bval_small hb hc.2) big_dec)
    have hfit : ∀ b : Bool, b = neg → fit b (bval l) = (neg, l, 0) := by
      intro b hbn
      subst hbn
      unfold fit mk
      rw [bytesN_bval hc.1, if_neg (by omega)]
      have : decide (bval l ≠ 0) = true := by simpa using h0
      rw [this, Bool.and_true]
    have hlast := decL_last (bval l)
    have hD := isD_decL (bval l)
    have hB := isB_decL (bval l)
    have hval0 : hval (decL (bval l)).reverse = bval l := by unfold hval; rw [List.reverse_reverse, dval_decL]
    have et : textS neg (bval l) = strOfNums (decL (bval l) ++ if neg = true then [45] else []).reverse := by
      unfold textS; rw [if_neg h0]
    generalize decL (bval l) = dd at *
    have hrev0 : 0 < dd.reverse.length := by
      rw [List.length_reverse]; exact Nat.pos_of_ne_zero (fun e => hne (List.eq_nil_of_length_eq_zero e))
    obtain ⟨x, r, e1, e2⟩ := cons_head hrev0
    have hx48 : x ≠ 48 := by
      intro e
      apply hlast
      have : dd.reverse.head? = some 48 := by rw [e1, e]; rfl
      rwa [List.head?_reverse] at this
    have hxd : 48 ≤ x ∧ x ≤ 57 := hD x (List.mem_reverse.1 (by rw [e1]; simp))
    have hDr : IsD dd.reverse := fun y hy => hD y (List.mem_reverse.1 hy)
    have key : ∀ t : ByteArray, bytesL (cutD t) = dd.reverse → cutN t = neg → t.size ≤ 400 → Good t ∧ t.size ≤ 400 ∧ fit (cutN t) (hval (bytesL (cutD t))) = (neg, l, 0) := by
      intro t h1 h2 h3
      refine ⟨⟨by rw [h1]; exact hrev0, by rw [h1]; exact hDr, fun h4 => ?_⟩, h3, by rw [h1, hval0]; exact hfit _ h2⟩
      apply hx48
      have h5 : (bytesL (cutD t)).head? = some 48 := by
        rw [List.head?_eq_getElem?, List.getElem?_eq_getElem (by rw [h1]; exact hrev0), h4.1]
      rw [h1, e1] at h5
      simpa using h5
    rw [et]
    have hBR : IsB (dd ++ if neg = true then [45] else []).reverse := by
      refine IsB.reverse (IsB.append hB ?_)
      split
      · exact IsB.cons (by omega) (by omega) IsB.nil
      · exact IsB.nil
    have hbt := bytesL_str hBR
    have hsize : (strOfNums (dd ++ if neg = true then [45] else []).reverse).size ≤ 400 := by
      rw [← bytesL_len, hbt, List.length_reverse, List.length_append]
      split <;> simp <;> omega
    cases neg
    · simp only [Bool.false_eq_true, if_false, List.append_nil] at hbt hsize ⊢
      have hcn : cutN (strOfNums dd.reverse) = false := by
        unfold cutN; rw [hbt, e1]
        simp; omega
      exact key _ (by rw [cutD_bytes, hcn, hbt]; rfl) hcn hsize
    · simp only [if_true] at hbt hsize ⊢
      have hr : (dd ++ [45]).reverse = 45 :: dd.reverse := by simp
      rw [hr] at hbt hsize ⊢
      have hcn : cutN (strOfNums (45 :: dd.reverse)) = true := by
        unfold cutN; rw [hbt]; rfl
      exact key _ (by rw [cutD_bytes, hcn, hbt]; rfl) hcn hsize
/-- The plain law of WholeTexts. -/
theorem texts_plain (xn : Bool) (x : List Int) (hx : IsB x) (s : ByteArray) (hs : s.size ≤ 9000000000000000000) : ∃ (tt : ByteArray) (k1 k2 k3 k4 : Nat) (ja : Bool) (la : List Int) (er : Int),
    whole_Text.f k1 xn x = some tt ∧ whole_Read.f k2 s (bytesL (cutD s)) = some (ja, la, er) ∧ lapidaryref02_Read.f k3 s = some (ja, la, er) ∧ la.length ≤ 140737488351232 ∧ lapidaryref02_Text.f k4 xn x = some tt ∧
    (er = 0 → ∃ k5, whole_Text.f k5 ja la = some s) ∧ lapidaryref02_Right.f xn x = some (okN xn x) ∧ tt.size ≤ 400 ∧ (okN xn x = true → ∃ k7, whole_Read.f k7 tt (bytesL (cutD tt)) = some (xn, x, 0)) := by
  obtain ⟨ja, la, er, r1, r2, r3, r4⟩ := reads s hs
  obtain ⟨k1, e1⟩ := (text_ev xn x hx).rounds
  obtain ⟨k4, e4⟩ := (rtext_ev xn x hx).rounds
  obtain ⟨k2, e2⟩ := r1.rounds
  obtain ⟨k3, e3⟩ := r2.rounds
  have hts : (textT xn x).size ≤ 400 := by
    unfold textT
    split
    · rename_i h; exact (text_good xn x hx h).2.1
    · decide
  refine ⟨textT xn x, k1, k2, k3, k4, ja, la, er, e1, e2, e3, by omega, e4, ?_, rright_eq xn x, hts, ?_⟩
  · intro he
    subst he
    rcases r4 with ⟨hg, h400, hf⟩ | ⟨_, hn⟩
    · have hfm : (ja, la) = mk (cutN s) (hval (bytesL (cutD s))) ∧ (bytesN (hval (bytesL (cutD s)))).length ≤ 128 := by
        unfold fit at hf
        split at hf
        · simp at hf
        · rename_i h; refine ⟨?_, by omega⟩
          injection hf with h1 h2
          injection h2 with h2 h3
          rw [h1, h2]
      obtain ⟨k5, h5⟩ := (text_ev ja la (by
        have : la = (mk (cutN s) (hval (bytesL (cutD s)))).2 := congrArg Prod.snd hfm.1
        rw [this]; exact isB_bytesN _)).rounds
      refine ⟨k5, ?_⟩
      rw [h5]
      have h6 : textT ja la = s := by
        have j1 : ja = (mk (cutN s) (hval (bytesL (cutD s)))).1 := congrArg Prod.fst hfm.1
        have j2 : la = (mk (cutN s) (hval (bytesL (cutD s)))).2 := congrArg Prod.snd hfm.1
        unfold textT
        rw [j1, j2, if_pos (okN_mk _ _ hfm.2)]
        show textS (cutN s && decide (hval (bytesL (cutD s)) ≠ 0)) (bval (bytesN (hval (bytesL (cutD s))))) = s
        rw [bval_bytesN, textS_sign, text_back s hg]
      rw [h6]
    · exact absurd rfl hn
  · intro h
    obtain ⟨g1, g2, g3⟩ := text_good xn x hx h
    have et : textT xn x = textS xn (bval x) := by unfold textT; rw [if_pos h]
    rw [et]
    obtain ⟨ja', la', er', q1, _, _, q4⟩ := reads (textS xn (bval x)) (by omega)
    rcases q4 with ⟨_, _, hf⟩ | ⟨hn, _⟩
    · rw [hf, g3] at q1
      exact q1.rounds
    · exact absurd ⟨g1, g2⟩ hn

end Go.Proofs.Ytfjbhccapgnkiaa.P
