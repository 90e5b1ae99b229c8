import Derived.Test.YtfjbhccapgnkiaaU1w
import Derived.Test.YtfjbhccapgnkiaaB5
import Derived.Test.YtfjbhccapgnkiaaC4
import Derived.Test.YtfjbhccapgnkiaaB6
import Derived.Test.YtfjbhccapgnkiaaC5
import Derived.Test.YtfjbhccapgnkiaaC3
import Derived.Test.YtfjbhccapgnkiaaB4
import Derived.Test.YtfjbhccapgnkiaaB7
import Derived.Test.YtfjbhccapgnkiaaC6
namespace Go.Proofs.Ytfjbhccapgnkiaa.P
open Go.RowKit Go.Proofs.YtfjbhccapgnkiaaW.PrintWords Go.Proofs.YtfjbhccapgnkiaaW.PrintLast Go.Proofs.YtfjbhccapgnkiaaW.PrintMore
attribute [local go_sem] max2_int min2_int max_two min_two max_three min_three max_four min_four
set_option linter.unusedVariables false
set_option maxHeartbeats 16000000
set_option maxRecDepth 100000
set_option linter.unusedSimpArgs false
open Lap
theorem times_step {S0 wo P Q c ai bj o v q T : Int} (h : v + 4294967296 * q = c + (ai * bj + o)) (he : wo + P * Q * c = S0 + ai * P * T) :
  (wo + P * Q * (v - o)) + P * (Q * 4294967296) * q = S0 + ai * P * (T + Q * bj) := by grind
theorem times_inner (a b : List Int) (hb : IsW b) (ai : Int) (h0 : 0 ≤ ai) (h1 : ai < 4294967296) (i n m : Nat) (S0 : Int) (hm : b.length = m) (hi : i < n) (hn : n ≤ 100000) (hm2 : m ≤ 100000) (r : List Int)
  (hr : ∀ (out : List Int) (c : Int), out.length = n + m → IsW out → 0 ≤ c → c < 4294967296 → (∀ p (hp : p < out.length), i + m ≤ p → out[p] = 0) → wI out + W32 i * W32 m * c = S0 + ai * W32 i * wI b →
   Ev (fun k => whole_times.l0 k b (out.set (i + m) c) a n ((i + 1 : Nat) : Int)) r) :
  ∀ (d j : Nat) (out : List Int) (c : Int), d = m - j → j ≤ m → out.length = n + m → IsW out → 0 ≤ c → c < 4294967296 → (∀ p (hp : p < out.length), i + m ≤ p → out[p] = 0) →
   wI out + W32 i * W32 j * c = S0 + ai * W32 i * wI (b.take j) →
   Ev (fun k => whole_times.l1 k b out i ai c a n i b m j) r := by
 intro d
 induction d with
 | zero =>
  intro j out c hd hj ho hw c0 c1 hz he
  obtain rfl : j = m := by omega
  rw [List.take_of_length_le (by omega)] at he
  refine Ev.step (fun k => ?_) (hr out c ho hw c0 c1 hz he)
  simp only [whole_times.l1]
  rw [if_neg (by omega), hm, w64 (x := (i : Int) + j) (by omega) (by omega), if_pos (by omega), if_pos (by omega), w64s i (by omega), Int.emod_eq_of_lt c0 (by omega)]
  rw [show ((i : Int) + (j : Int)).toNat = i + j by omega]
 | succ d ih =>
  intro j out c hd hj ho hw c0 c1 hz he
  have hlt : j < b.length := by omega
  have hpos : i + j < out.length := by omega
  have hB := hb.get j hlt
  have hO := hw.get (i + j) hpos
  have hM := mul_bound h0 h1 hB.1 hB.2
  have hT : 0 ≤ c + (ai * b[j] + out[i + j]) ∧ c + (ai * b[j] + out[i + j]) < 18446744073709551616 := by omega
  have e1 : IntKind.u64.wrap (c + IntKind.u64.wrap (IntKind.u64.wrap (IntKind.u64.wrap ai * IntKind.u64.wrap b[j]) + IntKind.u64.wrap out[i + j])) = c + (ai * b[j] + out[i + j]) := by
   rw [u64 (x := ai) (by omega) (by omega), u64 (x := b[j]) (by omega) (by omega), u64 (x := out[i + j]) (by omega) (by omega), u64 (x := ai * b[j]) (by omega) (by omega),
    u64 (x := ai * b[j] + out[i + j]) (by omega) (by omega), u64 hT.1 hT.2]
  refine Ev.step (fun k => ?_) (ih (j + 1) (out.set (i + j) ((c + (ai * b[j] + out[i + j])) % 4294967296)) ((c + (ai * b[j] + out[i + j])) / 4294967296) (by omega) (by omega) (by simpa using ho) (hw.set _ _ (by omega) (by omega)) (by omega) (by omega)
   (fun p hp hge => by
    rw [List.getElem_set_ne (by omega)]
    exact hz p (by simpa using hp) hge) ?_)
  ·simp only [whole_times.l1]
   rw [if_pos (by omega), if_pos (by omega), if_pos (by omega), w64 (x := (i : Int) + j) (by omega) (by omega), if_pos (by omega), if_pos (by omega), w64s j (by omega)]
   rw [show ((i : Int) + (j : Int)) = ((i + j : Nat) : Int) by omega, rd_lt _ _ hlt, rd_lt _ _ hpos, e1]
   rfl
  ·rw [wI_set _ _ _ hpos (by omega) hO.1, wI_take_succ _ _ hlt hB.1, W32_add, W32_succ]
   exact times_step (by omega) he
theorem times_outer (a b : List Int) (ha : IsW a) (hb : IsW b) (hla : a.length ≤ 100000) (hlb : b.length ≤ 100000) :
  ∀ (d i : Nat) (out : List Int), d = a.length - i → i ≤ a.length → out.length = a.length + b.length → IsW out → (∀ p (hp : p < out.length), i + b.length ≤ p → out[p] = 0) →
   wI out = wI (a.take i) * wI b → Ev (fun k => whole_times.l0 k b out a a.length i) (wordsN (wval a * wval b)) := by
 intro d
 induction d with
 | zero =>
  intro i out hd hi ho hw hz he
  obtain rfl : i = a.length := by omega
  rw [List.take_length] at he
  have hv : wval out = wval a * wval b := by
   rw [wI_eq, wI_eq, wI_eq] at he
   exact_mod_cast he
  refine Ev.step (f := fun k => (whole_words_trim.f k out).bind fun t => some t) (fun k => ?_) ?_
  ·simp only [whole_times.l0]; rw [if_neg (by omega)]
  ·rw [← hv]; exact Ev.bind (trim_ev out hw (by omega)) (Ev.now _)
 | succ d ih =>
  intro i out hd hi ho hw hz he
  have hlt : i < a.length := by omega
  have hA := ha.get i hlt
  refine Ev.step (f := fun k => whole_times.l1 k b out i a[i] 0 a a.length i b b.length 0) (fun k => ?_) ?_
  ·simp only [whole_times.l0]
   rw [if_pos (by omega), if_pos (by omega), if_pos (by omega), rd_lt _ _ hlt]
  ·refine times_inner a b hb a[i] hA.1 hA.2 i a.length b.length (wI out) rfl hlt hla hlb _ ?_ b.length 0 out 0 (by omega) (by omega) ho hw (by omega) (by omega) hz (by simp [wI_nil])
   intro a0 c h2 hw2 c0 c1 a1 he2
   refine ih (i + 1) (a0.set (i + b.length) c) (by omega) (by omega) (by simpa using h2) (hw2.set _ _ c0 c1) (fun p hp hge => ?_) ?_
   ·rw [List.getElem_set_ne (by omega)]
    exact a1 p (by simpa using hp) (by omega)
   ·have hpos : i + b.length < a0.length := by omega
    have hz3 := a1 (i + b.length) hpos (Nat.le_refl _)
    rw [wI_set _ _ _ hpos c0 (by omega), hz3, W32_add, wI_take_succ _ _ hlt hA.1]
    have e0 : W32 i * W32 b.length * (c - 0) = W32 i * W32 b.length * c := by simp
    rw [e0, he2, he]
    grind
theorem times_ev (a b : List Int) (ha : IsW a) (hb : IsW b) (hla : a.length ≤ 100000) (hlb : b.length ≤ 100000) :
  Ev (fun k => whole_times.f k a b) (wordsN (wval a * wval b)) := by
 refine Ev.congr (fun k => ?_) (times_outer a b ha hb hla hlb a.length 0 (List.replicate (a.length + b.length) 0) (by omega) (by omega) (by simp) (IsW.replicate _) (fun p hp _ => by simp) (by simp [wI_nil, wI_replicate_zero]))
 unfold whole_times.f
 rw [w64 (x := (a.length : Int) + b.length) (by omega) (by omega), if_pos (by omega), if_pos (by omega)]
 rw [show ((a.length : Int) + (b.length : Int)).toNat = a.length + b.length by omega]
 rfl
theorem rtimes_step {O P c a m v q T L : Int} (h : v + 256 * q = c + a * m) (he : O + P * T * c = P * m * L) : (O + P * T * v) + (P * (T * 256)) * q = P * m * (L + T * a) := by grind
theorem byte_mul {a b : Int} (h0 : 0 ≤ a) (h1 : a < 256) (k0 : 0 ≤ b) (k1 : b < 256) : 0 ≤ a * b ∧ a * b ≤ 65025 := by
 have h2 : 0 ≤ a * b := Int.mul_nonneg h0 k0
 have h3 : a * b ≤ 255 * 255 := Int.mul_le_mul (by omega) (by omega) k0 (by decide)
 omega
theorem rtimes_loop (a : List Int) (m : Int) (n : Nat) (ha : IsB a) (hla : a.length ≤ 400000) (hn : n ≤ 400000) (m0 : 0 ≤ m) (m1 : m < 256) :
  ∀ (d i : Nat) (out : List Int) (c : Int), d + i = a.length + 1 → out.length = n + i → IsB out → 0 ≤ c → c < 256 → (d = 0 → c = 0) → bI out.reverse + W8 n * W8 i * c = W8 n * m * low a i →
   ∃ r : List Int, IsB r ∧ bI r = W8 n * m * bI a ∧ r.length ≤ n + a.length + 1 ∧ Ev (fun k => lapidaryref02_times.l0 k a m out c (i : Int)) r := by
 intro d
 induction d with
 | zero =>
  intro i out c hd ho hw h0 h1 hz he
  have hc := hz rfl
  subst hc
  refine ⟨out.reverse, hw.reverse, ?_, by rw [List.length_reverse]; omega, ?_⟩
  ·rw [low_all a i (by omega)] at he; simpa using he
  ·refine Ev.step (f := fun k => (lapidaryref02_turned.f k out).bind fun t => some t) (fun k => ?_) (Ev.bind (turned_ev out (by omega)) (Ev.now _))
   simp only [lapidaryref02_times.l0]
   rw [if_neg (by omega), if_neg (by omega)]
 | succ d ih =>
  intro i out c hd ho hw h0 h1 hz he
  have hA := atv_range ha i
  by_cases hstop : a.length ≤ i ∧ c = 0
  ·obtain ⟨h2, rfl⟩ := hstop
   refine ⟨out.reverse, hw.reverse, ?_, by rw [List.length_reverse]; omega, ?_⟩
   ·rw [low_all a i (by omega)] at he; simpa using he
   ·refine Ev.step (f := fun k => (lapidaryref02_turned.f k out).bind fun t => some t) (fun k => ?_) (Ev.bind (turned_ev out (by omega)) (Ev.now _))
    simp only [lapidaryref02_times.l0]
    rw [if_neg (by omega), if_neg (by omega)]
  ·have a0 := low_succ a ha i
   have hm := byte_mul hA.1 hA.2 m0 m1
   obtain ⟨r, h2, h3, h4, h5⟩ := ih (i + 1) (out ++ [(c + atv a i * m) % 256]) ((c + atv a i * m) / 256) (by omega) (by simp [ho]; omega) (hw.append (IsB.cons (by omega) (by omega) IsB.nil)) (by omega) (by omega)
    (by
     intro hd0
     have e1 : a.length ≤ i := by omega
     have z1 : atv a i = 0 := by unfold atv; rw [dif_neg (by omega)]
     rw [z1]; omega)
    (by rw [bI_rev_snoc _ _ (by omega), ho, W8_succ, W8_add, a0]; exact rtimes_step (by omega) he)
   refine ⟨r, h2, h3, h4, ?_⟩
   have hw : wrap64 (c + wrap64 (atv a i * m)) = c + atv a i * m := by rw [w64 (x := atv a i * m) (by omega) (by omega), w64 (by omega) (by omega)]
   refine Ev.step (fun k => ?_) h5
   simp only [lapidaryref02_times.l0]
   by_cases e1 : (i : Int) < a.length
   ·rw [if_pos e1, at_eq a ha (by omega) i (by omega), Option.bind_some, if_pos (by omega), hw, w64s i (by omega), Int.tmod_eq_emod_of_nonneg (by omega), Int.tdiv_eq_ediv_of_nonneg (by omega), w64 (by omega) (by omega), Int.emod_emod_of_dvd _ (by decide)]
   ·rw [if_neg e1, if_pos (by omega), at_eq a ha (by omega) i (by omega), Option.bind_some, if_pos (by omega), hw, w64s i (by omega), Int.tmod_eq_emod_of_nonneg (by omega), Int.tdiv_eq_ediv_of_nonneg (by omega), w64 (by omega) (by omega), Int.emod_emod_of_dvd _ (by decide)]
theorem rtimes_ev (a : List Int) (m : Int) (n : Nat) (ha : IsB a) (hla : a.length ≤ 400000) (hn : n ≤ 400000) (m0 : 0 ≤ m) (m1 : m < 256) :
  ∃ r : List Int, IsB r ∧ bI r = W8 n * m * bI a ∧ r.length ≤ n + a.length + 1 ∧ Ev (fun k => lapidaryref02_times.f k a m (n : Int)) r := by
 obtain ⟨r, h1, h2, h3, h4⟩ := rtimes_loop a m n ha hla hn m0 m1 (a.length + 1) 0 (List.replicate n 0) 0 (by omega) (by simp) (IsB.replicate n) (by omega) (by omega) (fun _ => rfl) (by rw [low_zero]; simp [bI_replicate])
 refine ⟨r, h1, h2, h3, Ev.congr (fun k => ?_) h4⟩
 unfold lapidaryref02_times.f
 rw [if_pos (by omega), if_pos (by omega), Int.toNat_natCast]; rfl
theorem rmul_step {O X L P T a t : Int} (h1 : O = X * L) (h2 : t = P * a * X) : O + t = X * (L + P * a) := by grind
theorem rmul_loop (xn yn : Bool) (x y : List Int) (hx : IsB x) (hy : IsB y) (hlx : x.length ≤ 128) (hly : y.length ≤ 128) :
  ∀ (d i : Nat) (out : List Int), d + i = y.length → IsB out → out.length ≤ x.length + 2 * i + 1 → bI out = bI x * low y i →
   Ev (fun k => lapidaryref02_Mul.l0 k out (i : Int) xn x yn y) (fit (xn != yn) (bval x * bval y)) := by
 intro d
 induction d with
 | zero =>
  intro i out hd hw hl he
  obtain rfl : i = y.length := by omega
  have hv : bval out = bval x * bval y := by
   rw [low_all y _ (Nat.le_refl _), bI_eq x, bI_eq y, ← Int.natCast_mul] at he
   exact bI_bval he
  refine Ev.step (f := fun _ => some (fit (xn != yn) (bval x * bval y))) (fun k => ?_) (Ev.now _)
  simp only [lapidaryref02_Mul.l0]
  rw [if_neg (by omega), rfits_eq _ _ hw (by omega), hv]; rfl
 | succ d ih =>
  intro i out hd hw hl he
  have hA := atv_range hy i
  obtain ⟨t, t1, t2, t3, t4⟩ := rtimes_ev x (atv y i) i hx (by omega) (by omega) hA.1 hA.2
  obtain ⟨s, s1, s2, s3, s4⟩ := sum_ev out t hw t1 (by omega) (by omega)
  have h := ih (i + 1) s (by omega) s1 (by omega) (by rw [s2, low_succ y hy i]; exact rmul_step (T := 0) he t2)
  refine Ev.step (f := fun k => (lapidaryref02_times.f k x (atv y i) (i : Int)).bind fun a0 => (lapidaryref02_sum.f k out a0).bind fun a1 => lapidaryref02_Mul.l0 k a1 ((i + 1 : Nat) : Int) xn x yn y) (fun k => ?_) (Ev.bind t4 (Ev.bind s4 h))
  simp only [lapidaryref02_Mul.l0]
  rw [if_pos (by omega), at_eq y hy (by omega) i (by omega), Option.bind_some, w64s i (by omega)]
def mulS (xn : Bool) (x : List Int) (yn : Bool) (y : List Int) : Bool × List Int × Int := if okN xn x && okN yn y then fit (xn != yn) (bval x * bval y) else bad
theorem rmul_ev (xn yn : Bool) (x y : List Int) (hx : IsB x) (hy : IsB y) : Ev (fun k => lapidaryref02_Mul.f k xn x yn y) (mulS xn x yn y) := by
 unfold mulS
 by_cases h1 : okN xn x = true
 ·by_cases h2 : okN yn y = true
  ·rw [h1, h2]
   have c1 := okN_can hx h1
   have c2 := okN_can hy h2
   have h := rmul_loop xn yn x y hx hy c1.2 c2.2 y.length 0 [] (by omega) IsB.nil (by simp) (by rw [low_zero]; simp [bI_nil])
   refine Ev.congr (f := fun k => lapidaryref02_Mul.j0 k false xn x yn y) (fun k => ?_) (Ev.step (fun k => ?_) h)
   ·unfold lapidaryref02_Mul.f
    rw [rright_eq, h1, Option.bind_some, if_pos rfl, rright_eq, h2]; rfl
   ·simp only [lapidaryref02_Mul.j0]; rfl
  ·have h2 : okN yn y = false := by simpa using h2
   rw [h1, h2]
   refine Ev.congr (f := fun k => lapidaryref02_Mul.j0 k true xn x yn y) (fun k => ?_) (Ev.step (f := fun _ => some bad) (fun k => ?_) (Ev.now _))
   ·unfold lapidaryref02_Mul.f
    rw [rright_eq, h1, Option.bind_some, if_pos rfl, rright_eq, h2]; rfl
   ·simp only [lapidaryref02_Mul.j0]; rfl
 ·have h1 : okN xn x = false := by simpa using h1
  rw [h1]
  refine Ev.congr (f := fun k => lapidaryref02_Mul.j0 k true xn x yn y) (fun k => ?_) (Ev.step (f := fun _ => some bad) (fun k => ?_) (Ev.now _))
  ·unfold lapidaryref02_Mul.f
   rw [rright_eq, h1, Option.bind_some, if_neg (by simp)]
  ·simp only [lapidaryref02_Mul.j0]; rfl
theorem mul_ev (xn yn : Bool) (x y : List Int) (hx : IsB x) (hy : IsB y) : Ev (fun k => whole_Mul.f k xn x yn y) (mulS xn x yn y) := by
 unfold mulS
 by_cases h1 : okN xn x = true
 ·by_cases h2 : okN yn y = true
  ·rw [h1, h2]
   obtain ⟨l1, w1⟩ := words_of hx h1
   obtain ⟨l2, w2⟩ := words_of hy h2
   have ht := times_ev (wordsN (bval x)) (wordsN (bval y)) (isW_wordsN _) (isW_wordsN _) (by omega) (by omega)
   rw [wval_wordsN, wval_wordsN] at ht
   have hlt : (wordsN (bval x * bval y)).length ≤ 64 := by
    refine wordsN_len _ 64 ?_
    have a1 := bval_small hx (n := 128) (okN_can hx h1).2
    have a2 := bval_small hy (n := 128) (okN_can hy h2).2
    have : (256 : Nat) ^ (4 * 64) = 256 ^ 128 * 256 ^ 128 := by rw [← Nat.pow_add]
    rw [this]
    exact Nat.mul_lt_mul'' a1 a2
   have hf := fits_ev (xn != yn) (wordsN (bval x * bval y)) (isW_wordsN _) (by omega)
   rw [wval_wordsN] at hf
   rw [Bool.and_self, if_pos rfl]
   refine Ev.congr (f := fun k => whole_Mul.j0 k false xn x yn y) (fun k => ?_) (Ev.step (f := fun k => (whole_wordsOf.f k x).bind fun a4 => (whole_wordsOf.f k y).bind fun a3 => (whole_times.f k a4 a3).bind fun a0 => (whole_fits.f k (xn != yn) a0).bind fun bt => some (bt.1, bt.2.1, bt.2.2)) (fun k => ?_) (Ev.bind w1 (Ev.bind w2 (Ev.bind ht (Ev.bind hf (Ev.now _))))))
   ·unfold whole_Mul.f
    rw [right_eq, h1, Option.bind_some, if_pos rfl, right_eq, h2]; rfl
   ·simp only [whole_Mul.j0]; rfl
  ·have h2 : okN yn y = false := by simpa using h2
   rw [h1, h2]
   refine Ev.congr (f := fun k => whole_Mul.j0 k true xn x yn y) (fun k => ?_) (Ev.step (f := fun _ => some bad) (fun k => ?_) (Ev.now _))
   ·unfold whole_Mul.f
    rw [right_eq, h1, Option.bind_some, if_pos rfl, right_eq, h2]; rfl
   ·simp only [whole_Mul.j0]; rfl
 ·have h1 : okN xn x = false := by simpa using h1
  rw [h1]
  refine Ev.congr (f := fun k => whole_Mul.j0 k true xn x yn y) (fun k => ?_) (Ev.step (f := fun _ => some bad) (fun k => ?_) (Ev.now _))
  ·unfold whole_Mul.f
   rw [right_eq, h1, Option.bind_some, if_neg (by simp)]
  ·simp only [whole_Mul.j0]; rfl
theorem mulS_len (xn yn : Bool) (x y : List Int) : (mulS xn x yn y).2.1.length ≤ 140737488355328 := by
 unfold mulS
 split
 ·exact fit_len _ _
 ·simp [bad]
/-- The plain law of WholeMuls. -/
theorem muls_plain (xn yn : Bool) (x y : List Int) (hx : IsB x) (hy : IsB y) : ∃ (k1 k2 : Nat) (zn : Bool) (lz : List Int) (er : Int), whole_Mul.f k1 xn x yn y = some (zn, lz, er) ∧ lapidaryref02_Mul.f k2 xn x yn y = some (zn, lz, er) ∧ lz.length ≤ 140737488355328 := by
 obtain ⟨k1, h1⟩ := (mul_ev xn yn x y hx hy).rounds
 obtain ⟨k2, h2⟩ := (rmul_ev xn yn x y hx hy).rounds
 exact ⟨k1, k2, _, _, _, h1, h2, mulS_len xn yn x y⟩
end Go.Proofs.Ytfjbhccapgnkiaa.P
namespace Go.Proofs.Ytfjbhccapgnkiaa.P
open Go.RowKit Go.Proofs.YtfjbhccapgnkiaaW.PrintWords Go.Proofs.YtfjbhccapgnkiaaW.PrintLast Go.Proofs.YtfjbhccapgnkiaaW.PrintMore
attribute [local go_sem] max2_int min2_int max_two min_two max_three min_three max_four min_four
set_option linter.unusedVariables false
set_option maxHeartbeats 16000000
set_option maxRecDepth 100000
set_option linter.unusedSimpArgs false
open Lap
/-- The sum of two numbers that can be. -/
def addV (xn : Bool) (a : Nat) (yn : Bool) (b : Nat) : Bool × List Int × Int := if (xn == yn) = true then fit xn (a + b) else if a < b then fit yn (b - a) else fit xn (a - b)
def addS (xn : Bool) (x : List Int) (yn : Bool) (y : List Int) : Bool × List Int × Int := if (okN xn x && okN yn y) = true then addV xn (bval x) yn (bval y) else bad
theorem addV_len (xn : Bool) (a : Nat) (yn : Bool) (b : Nat) : (addV xn a yn b).2.1.length ≤ 140737488355328 := by
 unfold addV
 split
 ·exact fit_len _ _
 ·split <;> exact fit_len _ _
theorem addS_len (xn yn : Bool) (x y : List Int) : (addS xn x yn y).2.1.length ≤ 140737488355328 := by
 unfold addS
 split
 ·exact addV_len _ _ _ _
 ·simp [bad]
theorem P132 : (256 : Nat) ^ (4 * 33) = 256 ^ 128 * 4294967296 := by
 rw [show 4 * 33 = 128 + 4 by decide, Nat.pow_add, show (256 : Nat) ^ 4 = 4294967296 by decide]
theorem words_len33 {n m : Nat} (h1 : n < 256 ^ 128) (h2 : m < 256 ^ 128) : (wordsN (n + m)).length ≤ 33 := by
 refine wordsN_len _ 33 ?_
 rw [P132]
 generalize (256 : Nat) ^ 128 = P at *
 omega
theorem add_good (xn yn : Bool) (x y : List Int) (hx : IsB x) (hy : IsB y) (h1 : okN xn x = true) (h2 : okN yn y = true) : Ev (fun k => whole_Add.j0 k false xn x yn y) (addV xn (bval x) yn (bval y)) := by
 obtain ⟨l1, w1⟩ := words_of hx h1
 obtain ⟨l2, w2⟩ := words_of hy h2
 have b1 := bval_small hx (okN_can hx h1).2
 have b2 := bval_small hy (okN_can hy h2).2
 unfold addV
 by_cases he : (xn == yn) = true
 ·rw [if_pos he]
  have hp := plus_ev (wordsN (bval x)) (wordsN (bval y)) (isW_wordsN _) (isW_wordsN _) (by omega) (by omega)
  rw [wval_wordsN, wval_wordsN] at hp
  have hf := fits_ev xn (wordsN (bval x + bval y)) (isW_wordsN _) (by have := words_len33 b1 b2; omega)
  rw [wval_wordsN] at hf
  refine Ev.step (f := fun k => (whole_wordsOf.f k x).bind fun t1 => (whole_wordsOf.f k y).bind fun t2 => (whole_plus.f k t1 t2).bind fun t3 => (whole_fits.f k xn t3).bind fun bt => some (bt.1, bt.2.1, bt.2.2)) (fun k => ?_) (Ev.bind w1 (Ev.bind w2 (Ev.bind hp (Ev.bind hf (Ev.now _)))))
  simp only [whole_Add.j0, he, if_true]; rfl
 ·rw [if_neg he]
  have ho := order_ev (wordsN (bval x)) (wordsN (bval y)) (canW_wordsN _) (canW_wordsN _) (by omega) (by omega)
  rw [wval_wordsN, wval_wordsN] at ho
  by_cases hlt : bval x < bval y
  ·rw [if_pos hlt]
   have hm := minus_ev (wordsN (bval y)) (wordsN (bval x)) (isW_wordsN _) (isW_wordsN _) (by omega) (words_mono (by omega)) (by rw [wval_wordsN, wval_wordsN]; omega)
   rw [wval_wordsN, wval_wordsN] at hm
   have hf := fits_ev yn (wordsN (bval y - bval x)) (isW_wordsN _) (by have := words_mono (Nat.sub_le (bval y) (bval x)); omega)
   rw [wval_wordsN] at hf
   have hc : cmpN (bval x) (bval y) < 0 := by unfold cmpN; rw [if_pos hlt]; omega
   refine Ev.step (f := fun k => (whole_wordsOf.f k x).bind fun t1 => (whole_wordsOf.f k y).bind fun t2 => (whole_order.f k t1 t2).bind fun t => if t < 0 then (whole_minus.f k t2 t1).bind fun t3 => (whole_fits.f k yn t3).bind fun bt => some (bt.1, bt.2.1, bt.2.2) else (whole_minus.f k t1 t2).bind fun t3 => (whole_fits.f k xn t3).bind fun bt => some (bt.1, bt.2.1, bt.2.2)) (fun k => ?_)
    (Ev.bind w1 (Ev.bind w2 (Ev.bind ho (Ev.congr (fun k => if_pos hc) (Ev.bind hm (Ev.bind hf (Ev.now _)))))))
   simp only [whole_Add.j0, he, if_false]; rfl
  ·rw [if_neg hlt]
   have hm := minus_ev (wordsN (bval x)) (wordsN (bval y)) (isW_wordsN _) (isW_wordsN _) (by omega) (words_mono (by omega)) (by rw [wval_wordsN, wval_wordsN]; omega)
   rw [wval_wordsN, wval_wordsN] at hm
   have hf := fits_ev xn (wordsN (bval x - bval y)) (isW_wordsN _) (by have := words_mono (Nat.sub_le (bval x) (bval y)); omega)
   rw [wval_wordsN] at hf
   have hc : ¬ cmpN (bval x) (bval y) < 0 := by unfold cmpN; rw [if_neg hlt]; split <;> omega
   refine Ev.step (f := fun k => (whole_wordsOf.f k x).bind fun t1 => (whole_wordsOf.f k y).bind fun t2 => (whole_order.f k t1 t2).bind fun t => if t < 0 then (whole_minus.f k t2 t1).bind fun t3 => (whole_fits.f k yn t3).bind fun bt => some (bt.1, bt.2.1, bt.2.2) else (whole_minus.f k t1 t2).bind fun t3 => (whole_fits.f k xn t3).bind fun bt => some (bt.1, bt.2.1, bt.2.2)) (fun k => ?_)
    (Ev.bind w1 (Ev.bind w2 (Ev.bind ho (Ev.congr (fun k => if_neg hc) (Ev.bind hm (Ev.bind hf (Ev.now _)))))))
   simp only [whole_Add.j0, he, if_false]; rfl
theorem add_ev (xn yn : Bool) (x y : List Int) (hx : IsB x) (hy : IsB y) : Ev (fun k => whole_Add.f k xn x yn y) (addS xn x yn y) := by
 unfold addS
 by_cases h1 : okN xn x = true
 ·by_cases h2 : okN yn y = true
  ·rw [if_pos (by rw [h1, h2]; rfl)]
   refine Ev.congr (f := fun k => whole_Add.j0 k false xn x yn y) (fun k => ?_) (add_good xn yn x y hx hy h1 h2)
   unfold whole_Add.f
   rw [right_eq, h1, Option.bind_some, if_pos rfl, right_eq, h2]; rfl
  ·have h2 : okN yn y = false := by simpa using h2
   rw [if_neg (by rw [h1, h2]; simp)]
   refine Ev.congr (f := fun k => whole_Add.j0 k true xn x yn y) (fun k => ?_) (Ev.step (f := fun _ => some bad) (fun k => ?_) (Ev.now _))
   ·unfold whole_Add.f
    rw [right_eq, h1, Option.bind_some, if_pos rfl, right_eq, h2]; rfl
   ·simp only [whole_Add.j0]; rfl
 ·have h1 : okN xn x = false := by simpa using h1
  rw [if_neg (by rw [h1]; simp)]
  refine Ev.congr (f := fun k => whole_Add.j0 k true xn x yn y) (fun k => ?_) (Ev.step (f := fun _ => some bad) (fun k => ?_) (Ev.now _))
  ·unfold whole_Add.f
   rw [right_eq, h1, Option.bind_some, if_neg (by simp)]
  ·simp only [whole_Add.j0]; rfl
theorem radd_good (xn yn : Bool) (x y : List Int) (hx : IsB x) (hy : IsB y) (h1 : okN xn x = true) (h2 : okN yn y = true) : Ev (fun k => lapidaryref02_Add.j0 k false xn x yn y) (addV xn (bval x) yn (bval y)) := by
 have c1 := okN_can hx h1
 have c2 := okN_can hy h2
 unfold addV
 by_cases he : (xn == yn) = true
 ·rw [if_pos he]
  obtain ⟨s, s1, s2, s3, s4⟩ := sum_ev x y hx hy (by omega) (by omega)
  have hv : bval s = bval x + bval y := bI_bval (by rw [s2, bI_eq, bI_eq]; omega)
  refine Ev.step (f := fun k => (lapidaryref02_sum.f k x y).bind fun t => (lapidaryref02_fits.f xn t).bind fun bt => some (bt.1, bt.2.1, bt.2.2)) (fun k => ?_) (Ev.bind s4 (Ev.congr (f := fun _ => some (fit xn (bval x + bval y))) (fun k => ?_) (Ev.now _)))
  ·simp only [lapidaryref02_Add.j0, he, if_true]; rfl
  ·rw [rfits_eq _ _ s1 (by omega), hv]; rfl
 ·rw [if_neg he]
  obtain ⟨c, ⟨q1, q2, q3, q4⟩, q5⟩ := cmp_ev x y c1.1 c2.1 (by omega) (by omega)
  by_cases hlt : bval x < bval y
  ·rw [if_pos hlt]
   have hll : x.length ≤ y.length := by
    rcases Nat.lt_or_ge y.length x.length with h | h
    ·have := bval_len_lt hy c1.1 h; omega
    ·exact h
   obtain ⟨s, s1, s2, s3, s4⟩ := less_ev y x hy hx (by omega) hll (by omega)
   refine Ev.step (f := fun k => (lapidaryref02_cmp.f k x y).bind fun t => if t ≥ 0 then (lapidaryref02_less.f k x y).bind fun t3 => (lapidaryref02_fits.f xn t3).bind fun bt => some (bt.1, bt.2.1, bt.2.2) else (lapidaryref02_less.f k y x).bind fun t3 => (lapidaryref02_fits.f yn t3).bind fun bt => some (bt.1, bt.2.1, bt.2.2)) (fun k => ?_)
    (Ev.bind q5 (Ev.congr (fun k => if_neg (by omega)) (Ev.bind s4 (Ev.congr (f := fun _ => some (fit yn (bval y - bval x))) (fun k => ?_) (Ev.now _)))))
   ·simp only [lapidaryref02_Add.j0, he, if_false]; rfl
   ·rw [rfits_eq _ _ s1 (by omega), s2]; rfl
  ·rw [if_neg hlt]
   have hll : y.length ≤ x.length := by
    rcases Nat.lt_or_ge x.length y.length with h | h
    ·have := bval_len_lt hx c2.1 h; omega
    ·exact h
   obtain ⟨s, s1, s2, s3, s4⟩ := less_ev x y hx hy (by omega) hll (by omega)
   refine Ev.step (f := fun k => (lapidaryref02_cmp.f k x y).bind fun t => if t ≥ 0 then (lapidaryref02_less.f k x y).bind fun t3 => (lapidaryref02_fits.f xn t3).bind fun bt => some (bt.1, bt.2.1, bt.2.2) else (lapidaryref02_less.f k y x).bind fun t3 => (lapidaryref02_fits.f yn t3).bind fun bt => some (bt.1, bt.2.1, bt.2.2)) (fun k => ?_)
    (Ev.bind q5 (Ev.congr (fun k => if_pos (by omega)) (Ev.bind s4 (Ev.congr (f := fun _ => some (fit xn (bval x - bval y))) (fun k => ?_) (Ev.now _)))))
   ·simp only [lapidaryref02_Add.j0, he, if_false]; rfl
   ·rw [rfits_eq _ _ s1 (by omega), s2]; rfl
theorem radd_ev (xn yn : Bool) (x y : List Int) (hx : IsB x) (hy : IsB y) : Ev (fun k => lapidaryref02_Add.f k xn x yn y) (addS xn x yn y) := by
 unfold addS
 by_cases h1 : okN xn x = true
 ·by_cases h2 : okN yn y = true
  ·rw [if_pos (by rw [h1, h2]; rfl)]
   refine Ev.congr (f := fun k => lapidaryref02_Add.j0 k false xn x yn y) (fun k => ?_) (radd_good xn yn x y hx hy h1 h2)
   unfold lapidaryref02_Add.f
   rw [rright_eq, h1, Option.bind_some, if_pos rfl, rright_eq, h2]; rfl
  ·have h2 : okN yn y = false := by simpa using h2
   rw [if_neg (by rw [h1, h2]; simp)]
   refine Ev.congr (f := fun k => lapidaryref02_Add.j0 k true xn x yn y) (fun k => ?_) (Ev.step (f := fun _ => some bad) (fun k => ?_) (Ev.now _))
   ·unfold lapidaryref02_Add.f
    rw [rright_eq, h1, Option.bind_some, if_pos rfl, rright_eq, h2]; rfl
   ·simp only [lapidaryref02_Add.j0]; rfl
 ·have h1 : okN xn x = false := by simpa using h1
  rw [if_neg (by rw [h1]; simp)]
  refine Ev.congr (f := fun k => lapidaryref02_Add.j0 k true xn x yn y) (fun k => ?_) (Ev.step (f := fun _ => some bad) (fun k => ?_) (Ev.now _))
  ·unfold lapidaryref02_Add.f
   rw [rright_eq, h1, Option.bind_some, if_neg (by simp)]
  ·simp only [lapidaryref02_Add.j0]; rfl
/-- A number's sign turned. -/
def negS (yn : Bool) (y : List Int) : Bool := !yn && decide (0 < y.length)
theorem okN_neg (yn : Bool) (y : List Int) (h : okN yn y = true) : okN (negS yn y) y = true := by
 unfold okN negS at *
 split at h
 case isTrue e => subst e; simp
 case isFalse e => rw [if_neg e]; exact h
def subS (xn : Bool) (x : List Int) (yn : Bool) (y : List Int) : Bool × List Int × Int := if (okN xn x && okN yn y) = true then addV xn (bval x) (negS yn y) (bval y) else bad
theorem subS_len (xn yn : Bool) (x y : List Int) : (subS xn x yn y).2.1.length ≤ 140737488355328 := by
 unfold subS
 split
 ·exact addV_len _ _ _ _
 ·simp [bad]
theorem sub_ev (xn yn : Bool) (x y : List Int) (hx : IsB x) (hy : IsB y) : Ev (fun k => whole_Sub.f k xn x yn y) (subS xn x yn y) := by
 by_cases h2 : okN yn y = true
 ·have e : subS xn x yn y = addS xn x (negS yn y) y := by
   unfold subS addS; rw [h2, okN_neg yn y h2]
  rw [e]
  refine Ev.congr (f := fun k => (whole_Add.f k xn x (negS yn y) y).bind fun bt => some (bt.1, bt.2.1, bt.2.2)) (fun k => ?_) (Ev.bind (add_ev xn (negS yn y) x y hx hy) (Ev.now _))
  unfold whole_Sub.f
  rw [right_eq, h2, Option.bind_some, if_pos rfl]
  cases yn
  ·rw [if_neg (by simp)]; simp [negS]
  ·rw [if_pos rfl]; simp [negS]
 ·have h2 : okN yn y = false := by simpa using h2
  have e : subS xn x yn y = bad := by unfold subS; rw [h2]; simp
  rw [e]
  refine Ev.congr (f := fun _ => some bad) (fun k => ?_) (Ev.now _)
  unfold whole_Sub.f
  rw [right_eq, h2, Option.bind_some, if_neg (by simp)]; rfl
theorem rsub_ev (xn yn : Bool) (x y : List Int) (hx : IsB x) (hy : IsB y) : Ev (fun k => lapidaryref02_Sub.f k xn x yn y) (subS xn x yn y) := by
 by_cases h1 : okN xn x = true
 ·by_cases h2 : okN yn y = true
  ·have e : subS xn x yn y = addS xn x (negS yn y) y := by
    unfold subS addS; rw [h2, okN_neg yn y h2]
   rw [e]
   refine Ev.congr (f := fun k => (lapidaryref02_Add.f k xn x (negS yn y) y).bind fun bt => some (bt.1, bt.2.1, bt.2.2)) (fun k => ?_) (Ev.bind (radd_ev xn (negS yn y) x y hx hy) (Ev.now _))
   unfold lapidaryref02_Sub.f
   rw [rright_eq, h1, Option.bind_some, if_pos rfl, rright_eq, h2, Option.bind_some, if_pos rfl]
   cases yn
   ·rw [if_neg (by simp)]; simp [negS]
   ·rw [if_pos rfl]; simp [negS]
  ·have h2 : okN yn y = false := by simpa using h2
   have e : subS xn x yn y = bad := by unfold subS; rw [h2]; simp
   rw [e]
   refine Ev.congr (f := fun _ => some bad) (fun k => ?_) (Ev.now _)
   unfold lapidaryref02_Sub.f
   rw [rright_eq, h1, Option.bind_some, if_pos rfl, rright_eq, h2, Option.bind_some, if_neg (by simp)]; rfl
 ·have h1 : okN xn x = false := by simpa using h1
  have e : subS xn x yn y = bad := by unfold subS; rw [h1]; simp
  rw [e]
  refine Ev.congr (f := fun _ => some bad) (fun k => ?_) (Ev.now _)
  unfold lapidaryref02_Sub.f
  rw [rright_eq, h1, Option.bind_some, if_neg (by simp)]; rfl
/-- The plain law of WholeAdds. -/
theorem adds_plain (xn yn : Bool) (x y : List Int) (hx : IsB x) (hy : IsB y) : ∃ (k1 k2 k3 k4 : Nat) (zn : Bool) (lz : List Int) (er : Int) (vn : Bool) (lv : List Int) (es : Int),
  whole_Add.f k1 xn x yn y = some (zn, lz, er) ∧ lapidaryref02_Add.f k2 xn x yn y = some (zn, lz, er) ∧ lz.length ≤ 140737488355328 ∧ whole_Sub.f k3 xn x yn y = some (vn, lv, es) ∧ lapidaryref02_Sub.f k4 xn x yn y = some (vn, lv, es) ∧ lv.length ≤ 140737488355328 := by
 obtain ⟨k1, h1⟩ := (add_ev xn yn x y hx hy).rounds
 obtain ⟨k2, h2⟩ := (radd_ev xn yn x y hx hy).rounds
 obtain ⟨k3, h3⟩ := (sub_ev xn yn x y hx hy).rounds
 obtain ⟨k4, h4⟩ := (rsub_ev xn yn x y hx hy).rounds
 exact ⟨k1, k2, k3, k4, _, _, _, _, _, _, h1, h2, addS_len xn yn x y, h3, h4, subS_len xn yn x y⟩
end Go.Proofs.Ytfjbhccapgnkiaa.P
namespace Go.Proofs.Ytfjbhccapgnkiaa.P
open Go.RowKit Go.Proofs.YtfjbhccapgnkiaaW.PrintWords Go.Proofs.YtfjbhccapgnkiaaW.PrintLast Go.Proofs.YtfjbhccapgnkiaaW.PrintMore
attribute [local go_sem] max2_int min2_int max_two min_two max_three min_three max_four min_four
set_option linter.unusedVariables false
set_option maxHeartbeats 16000000
set_option maxRecDepth 100000
set_option linter.unusedSimpArgs false
open Lap
theorem rdiv_inner (x0 x1 : List Int) (hb : CanB x1) (hl : x1.length ≤ 1000) (hB : 0 < bval x1) (q : List Int) (hq : q.length ≤ 1000) (i : Nat) (hi : i < 1000000) (res : List Int × List Int) :
  ∀ (m R n : Nat), R / bval x1 = m → n + m ≤ 255 → (bytesN R).length ≤ 1001 →
   Ev (fun k => lapidaryref02_divide.l0 k x0 x1 (q ++ [((n + m : Nat) : Int)]) (bytesN (R % bval x1)) ((i + 1 : Nat) : Int)) res →
   Ev (fun k => lapidaryref02_divide.l1 k x0 x1 q (bytesN R) (i : Int) (n : Int)) res := by
 intro m
 induction m with
 | zero =>
  intro R n hm hn hlR h
  have hlt : R < bval x1 := by
   rcases Nat.lt_or_ge R (bval x1) with h1 | h1
   ·exact h1
   ·have := Nat.div_pos h1 hB; omega
  obtain ⟨c, ⟨q1, q2, q3, q4⟩, q5⟩ := cmp_ev (bytesN R) x1 (canB_bytesN R) hb (by omega) (by omega)
  rw [bval_bytesN] at q1 q2
  rw [Nat.mod_eq_of_lt hlt, Nat.add_zero] at h
  refine Ev.step (f := fun k => (lapidaryref02_cmp.f k (bytesN R) x1).bind fun a1 => if a1 ≥ 0 then (lapidaryref02_less.f k (bytesN R) x1).bind fun a2 => (lapidaryref02_made.f false a2).bind fun a0 => lapidaryref02_divide.l1 k x0 x1 q a0.2 (i : Int) (((n : Int) + 1) % 256) else lapidaryref02_divide.l0 k x0 x1 (q ++ [(n : Int)]) (bytesN R) ((i + 1 : Nat) : Int)) (fun k => ?_) (Ev.bind q5 (Ev.congr (fun k => if_neg (by omega)) h))
  simp only [lapidaryref02_divide.l1, Option.bind_some]
  rw [w64s i (by omega)]
  simp only [List.length_cons, List.length_nil]
  rw [if_pos (by omega : q.length + (0 + 1) < 140737488355328)]
 | succ m ih =>
  intro R n hm hn hlR h
  have hge : bval x1 ≤ R := by
   rcases Nat.lt_or_ge R (bval x1) with h1 | h1
   ·have := Nat.div_eq_of_lt h1; omega
   ·exact h1
  obtain ⟨c, ⟨q1, q2, q3, q4⟩, q5⟩ := cmp_ev (bytesN R) x1 (canB_bytesN R) hb (by omega) (by omega)
  rw [bval_bytesN] at q1 q2
  have hll : x1.length ≤ (bytesN R).length := by
   rcases Nat.lt_or_ge (bytesN R).length x1.length with h1 | h1
   ·have := bval_len_lt (isB_bytesN R) hb h1; rw [bval_bytesN] at this; omega
   ·exact h1
  obtain ⟨s, s1, s2, s3, s4⟩ := less_ev (bytesN R) x1 (isB_bytesN R) hb.1 (by omega) hll (by rw [bval_bytesN]; exact hge)
  rw [bval_bytesN] at s2
  have hd : (R - bval x1) / bval x1 = m := by have := Nat.div_eq_sub_div hB hge; omega
  have h' := ih (R - bval x1) (n + 1) hd (by omega) (by
   rw [← s2, ← strip_bytes s s1]
   have : (strip s).length ≤ s.length := by unfold strip; exact (List.dropWhile_sublist _).length_le
   omega) (by
   rw [show n + 1 + m = n + (m + 1) by omega, Nat.mod_eq_sub_mod hge |>.symm]; exact h)
  refine Ev.step (f := fun k => (lapidaryref02_cmp.f k (bytesN R) x1).bind fun a1 => if a1 ≥ 0 then (lapidaryref02_less.f k (bytesN R) x1).bind fun a2 => (lapidaryref02_made.f false a2).bind fun a0 => lapidaryref02_divide.l1 k x0 x1 q a0.2 (i : Int) (((n : Int) + 1) % 256) else lapidaryref02_divide.l0 k x0 x1 (q ++ [(n : Int)]) (bytesN R) ((i + 1 : Nat) : Int)) (fun k => ?_) (Ev.bind q5 (Ev.congr (fun k => if_pos (by omega)) (Ev.bind s4 (Ev.congr (fun k => ?_) h'))))
  ·simp only [lapidaryref02_divide.l1, Option.bind_some]
   rw [w64s i (by omega)]
   simp only [List.length_cons, List.length_nil]
   rw [if_pos (by omega : q.length + (0 + 1) < 140737488355328)]
  ·rw [rmade_eq false s s1 (by omega), Option.bind_some, s2, Int.emod_eq_of_lt (by omega) (by omega)]
   rfl
theorem longdiv {H B x : Nat} (hB : 0 < B) : (H * 256 + x) / B = H / B * 256 + (H % B * 256 + x) / B ∧ (H * 256 + x) % B = (H % B * 256 + x) % B := by
 have e : H * 256 + x = B * (H / B * 256) + (H % B * 256 + x) := by
  have := Nat.div_add_mod H B
  generalize H / B = Q at *
  generalize H % B = R at *
  subst this
  grind
 constructor
 ·rw [e, Nat.mul_add_div hB]
 ·rw [e, Nat.mul_add_mod]
theorem digit_le {R B x : Nat} (hB : 0 < B) (hR : R < B) (hx : x < 256) : (R * 256 + x) / B ≤ 255 := by
 have : (R * 256 + x) / B < 256 := by
  rw [Nat.div_lt_iff_lt_mul hB]
  omega
 omega
theorem rdiv_loop (x0 x1 : List Int) (hx : IsB x0) (hb : CanB x1) (hl0 : x0.length ≤ 900) (hl : x1.length ≤ 900) (hB : 0 < bval x1) :
  ∀ (d i : Nat) (q : List Int), d + i = x0.length → q.length = i → IsB q → bval q = bval (x0.take i) / bval x1 →
   ∃ q' : List Int, IsB q' ∧ bval q' = bval x0 / bval x1 ∧ q'.length = x0.length ∧ Ev (fun k => lapidaryref02_divide.l0 k x0 x1 q (bytesN (bval (x0.take i) % bval x1)) (i : Int)) (q', bytesN (bval x0 % bval x1)) := by
 intro d
 induction d with
 | zero =>
  intro i q hd hq hw hv
  obtain rfl : i = x0.length := by omega
  rw [List.take_length] at hv ⊢
  refine ⟨q, hw, hv, hq, Ev.step (f := fun _ => some (q, bytesN (bval x0 % bval x1))) (fun k => ?_) (Ev.now _)⟩
  simp only [lapidaryref02_divide.l0]
  rw [if_neg (by omega)]
 | succ d ih =>
  intro i q hd hq hw hv
  have hi : i < x0.length := by omega
  have hA := hx.get i hi
  have ht : bval (x0.take (i + 1)) = bval (x0.take i) * 256 + (x0[i]).toNat := by rw [take_succ_get x0 i hi, bval_snoc]
  obtain ⟨e1, e2⟩ := longdiv (H := bval (x0.take i)) (x := (x0[i]).toNat) hB
  generalize hR : bval (x0.take i) % bval x1 = R at *
  have hRlt : R < bval x1 := by rw [← hR]; exact Nat.mod_lt _ hB
  have hx8 : (x0[i]).toNat < 256 := by omega
  have hn : (R * 256 + (x0[i]).toNat) / bval x1 ≤ 255 := digit_le hB hRlt hx8
  obtain ⟨m, hm⟩ : ∃ m, (R * 256 + (x0[i]).toNat) / bval x1 = m := ⟨_, rfl⟩
  rw [hm] at e1 hn
  have hBl : bval x1 < 256 ^ x1.length := bval_lt hb.1
  have hlR : (bytesN (R * 256 + (x0[i]).toNat)).length ≤ 1001 := by
   refine Nat.le_trans (bytes_len (k := x1.length + 1) ?_) (by omega)
   rw [Nat.pow_succ]
   generalize (256 : Nat) ^ x1.length = P at *
   omega
  have hsR : (bytesN R).length ≤ 900 := Nat.le_trans (bytes_len (k := x1.length) (by omega)) hl
  obtain ⟨q', h1, h2, h3, h4⟩ := ih (i + 1) (q ++ [((0 + m : Nat) : Int)]) (by omega) (by simp [hq]) (hw.append (IsB.cons (by omega) (by omega) IsB.nil)) (by
   rw [ht, e1, bval_snoc, hv, Int.toNat_natCast, Nat.zero_add])
  refine ⟨q', h1, h2, h3, ?_⟩
  rw [ht, e2] at h4
  have hin := rdiv_inner x0 x1 hb (by omega) hB q (by omega) i (by omega) _ m (R * 256 + (x0[i]).toNat) 0 hm (by omega) hlR h4
  refine Ev.step (fun k => ?_) hin
  simp only [lapidaryref02_divide.l0]
  have hcat : bytesN (bval (bytesN R ++ [x0[i]])) = bytesN (R * 256 + (x0[i]).toNat) := by rw [bval_snoc, bval_bytesN]
  rw [if_pos (by omega), rmade_eq false (bytesN R) (isB_bytesN R) (by omega), Option.bind_some, if_pos (by omega), rd_lt _ _ hi, Option.bind_some]
  simp only [mk, bval_bytesN, List.length_cons, List.length_nil]
  rw [if_pos (by omega), rmade_eq false _ ((isB_bytesN R).append (IsB.cons hA.1 hA.2 IsB.nil)) (by simp; omega), Option.bind_some]
  simp only [mk, hcat]
  rfl
theorem rdivide_ev (x y : List Int) (hx : IsB x) (hb : CanB y) (hlx : x.length ≤ 900) (hly : y.length ≤ 900) (hB : 0 < bval y) :
  ∃ q : List Int, IsB q ∧ bval q = bval x / bval y ∧ q.length = x.length ∧ Ev (fun k => lapidaryref02_divide.f k x y) (q, bytesN (bval x % bval y)) := by
 obtain ⟨q, h1, h2, h3, h4⟩ := rdiv_loop x y hx hb hlx hly hB x.length 0 [] (by omega) rfl IsB.nil (by simp [bval_nil])
 refine ⟨q, h1, h2, h3, ?_⟩
 have e : bytesN (bval (x.take 0) % bval y) = [] := by rw [List.take_zero, bval_nil, Nat.zero_mod, bytesN_zero]
 rw [e] at h4
 exact h4
theorem len_pos_iff (n : Nat) : decide (((bytesN n).length : Int) > 0) = decide (n ≠ 0) := by
 have := bytesN_len_zero n
 simp only [decide_eq_decide]; omega
theorem rboth_good (xn yn : Bool) (x y : List Int) (hx : IsB x) (hy : IsB y) (h1 : okN xn x = true) (h2 : okN yn y = true) (hne : y ≠ []) :
  Ev (fun k => lapidaryref02_both.j0 k false xn x yn y) (divV xn (bval x) yn (bval y)) := by
 have c1 := okN_can hx h1
 have c2 := okN_can hy h2
 have hB := CanB.pos c2.1 hne
 obtain ⟨q, q1, q2, q3, q4⟩ := rdivide_ev x y hx c2.1 (by omega) (by omega) hB
 have hmod : bval x % bval y < bval y := Nat.mod_lt _ hB
 have hyl : y.length ≠ 0 := fun e => hne (List.eq_nil_of_length_eq_zero e)
 have hrl : (bytesN (bval x % bval y)).length ≤ y.length := bytes_len (Nat.lt_trans hmod (bval_lt hy))
 have hstep : ∀ k, lapidaryref02_both.j0 (k + 1) false xn x yn y = (lapidaryref02_divide.f k x y).bind fun bt => if (xn != yn) = true then lapidaryref02_both.j1 k bt.1 bt.2 (decide ((bt.2.length : Int) > 0)) xn x yn y else lapidaryref02_both.j1 k bt.1 bt.2 false xn x yn y := by
  intro k
  simp only [lapidaryref02_both.j0]
  rw [if_neg (by simp), if_neg (by omega)]
 unfold divV
 by_cases hap : (xn != yn && decide (bval x % bval y ≠ 0)) = true
 ·rw [if_pos hap]
  have ha : (xn != yn) = true := by simp only [Bool.and_eq_true] at hap; exact hap.1
  have hr : decide (bval x % bval y ≠ 0) = true := by simp only [Bool.and_eq_true] at hap; exact hap.2
  obtain ⟨s, s1, s2, s3, s4⟩ := sum_ev q [1] q1 one_isB (by omega) (by simp)
  obtain ⟨t, t1, t2, t3, t4⟩ := less_ev y (bytesN (bval x % bval y)) hy (isB_bytesN _) (by omega) hrl (by rw [bval_bytesN]; omega)
  rw [bval_bytesN] at t2
  have hs : bval s = bval x / bval y + 1 := bI_bval (by rw [s2, bI_eq, bI_eq, q2]; simp [bval])
  have hsl : s.length ≤ 1000000 := by have : ([1] : List Int).length = 1 := rfl; omega
  refine Ev.step hstep (Ev.bind q4 (Ev.congr (f := fun k => lapidaryref02_both.j1 k q (bytesN (bval x % bval y)) true xn x yn y) (fun k => ?_) (Ev.step (f := fun k => (lapidaryref02_sum.f k q [1]).bind fun a2 => (lapidaryref02_less.f k y (bytesN (bval x % bval y))).bind fun a3 => (lapidaryref02_made.f (xn != yn) a2).bind fun a1 => (lapidaryref02_made.f yn a3).bind fun a0 => some (a1.1, a1.2, a0.1, a0.2, 0)) (fun k => ?_) (Ev.bind s4 (Ev.bind t4 (Ev.congr (f := fun _ => some ((mk (xn != yn) (bval x / bval y + 1)).1, (mk (xn != yn) (bval x / bval y + 1)).2, (mk yn (bval y - bval x % bval y)).1, (mk yn (bval y - bval x % bval y)).2, 0)) (fun k => ?_) (Ev.now _)))))))
  ·rw [if_pos ha, len_pos_iff, hr]
  ·simp only [lapidaryref02_both.j1]; rw [if_pos trivial]
  ·rw [rmade_eq _ s s1 hsl, Option.bind_some, rmade_eq _ t t1 (by omega), Option.bind_some, hs, t2]
 ·rw [if_neg hap]
  refine Ev.step hstep (Ev.bind q4 (Ev.congr (f := fun k => lapidaryref02_both.j1 k q (bytesN (bval x % bval y)) false xn x yn y) (fun k => ?_) (Ev.step (f := fun _ => some ((mk (xn != yn) (bval x / bval y)).1, (mk (xn != yn) (bval x / bval y)).2, (mk yn (bval x % bval y)).1, (mk yn (bval x % bval y)).2, 0)) (fun k => ?_) (Ev.now _))))
  ·by_cases ha : (xn != yn) = true
   ·have hr : decide (bval x % bval y ≠ 0) = false := by
     rw [ha, Bool.true_and] at hap; simpa using hap
    rw [if_pos ha, len_pos_iff, hr]
   ·rw [if_neg ha]
  ·simp only [lapidaryref02_both.j1]
   rw [if_neg (by simp), rmade_eq _ q q1 (by omega), Option.bind_some, rmade_eq _ _ (isB_bytesN _) (by omega), Option.bind_some, q2, bval_bytesN]
theorem rboth_ev (xn yn : Bool) (x y : List Int) (hx : IsB x) (hy : IsB y) : Ev (fun k => lapidaryref02_both.f k xn x yn y) (divS xn x yn y) := by
 unfold divS
 by_cases h1 : okN xn x = true
 ·by_cases h2 : okN yn y = true
  ·rw [if_pos (by rw [h1, h2]; rfl)]
   have hf : ∀ k, lapidaryref02_both.f k xn x yn y = lapidaryref02_both.j0 k false xn x yn y := by
    intro k
    unfold lapidaryref02_both.f
    rw [rright_eq, h1, Option.bind_some, if_pos rfl, rright_eq, h2]; rfl
   refine Ev.congr hf ?_
   by_cases hne : y = []
   ·rw [if_pos hne]
    refine Ev.step (f := fun _ => some (false, [], false, [], 23)) (fun k => ?_) (Ev.now _)
    simp only [lapidaryref02_both.j0]
    rw [if_neg (by simp), if_pos (by rw [hne]; rfl)]
   ·rw [if_neg hne]
    exact rboth_good xn yn x y hx hy h1 h2 hne
  ·have h2 : okN yn y = false := by simpa using h2
   rw [if_neg (by rw [h1, h2]; simp)]
   refine Ev.congr (f := fun k => lapidaryref02_both.j0 k true xn x yn y) (fun k => ?_) (Ev.step (f := fun _ => some (false, [], false, [], 1)) (fun k => ?_) (Ev.now _))
   ·unfold lapidaryref02_both.f
    rw [rright_eq, h1, Option.bind_some, if_pos rfl, rright_eq, h2]; rfl
   ·simp only [lapidaryref02_both.j0]; rfl
 ·have h1 : okN xn x = false := by simpa using h1
  rw [if_neg (by rw [h1]; simp)]
  refine Ev.congr (f := fun k => lapidaryref02_both.j0 k true xn x yn y) (fun k => ?_) (Ev.step (f := fun _ => some (false, [], false, [], 1)) (fun k => ?_) (Ev.now _))
  ·unfold lapidaryref02_both.f
   rw [rright_eq, h1, Option.bind_some, if_neg (by simp)]
  ·simp only [lapidaryref02_both.j0]; rfl
end Go.Proofs.Ytfjbhccapgnkiaa.P
namespace Go.Proofs.Ytfjbhccapgnkiaa.P
open Go.RowKit Go.Proofs.YtfjbhccapgnkiaaW.PrintWords Go.Proofs.YtfjbhccapgnkiaaW.PrintLast Go.Proofs.YtfjbhccapgnkiaaW.PrintMore
attribute [local go_sem] max2_int min2_int max_two min_two max_three min_three max_four min_four
set_option linter.unusedVariables false
set_option maxHeartbeats 16000000
set_option maxRecDepth 100000
set_option linter.unusedSimpArgs false
open Lap
/-- 2 to a small power. -/
@[irreducible] def P2 (m : Nat) : Int := ((2 ^ m : Nat) : Int)
theorem P2_eq (m : Nat) : P2 m = ((2 ^ m : Nat) : Int) := by unfold P2; rfl
theorem P2_succ (m : Nat) : P2 (m + 1) = P2 m * 2 := by rw [P2_eq, P2_eq, Nat.pow_succ, Int.natCast_mul]; rfl
theorem P2_pos (m : Nat) : 0 < P2 m := by rw [P2_eq]; have : 0 < 2 ^ m := Nat.pow_pos (by decide); omega
theorem shr32 (x : Int) (m : Nat) (hm : m < 32) : shr .u32 x (m : Int) = x / P2 m := by
 unfold shr
 rw [Int.toNat_natCast, show IntKind.u32.bits = 32 from rfl, Nat.min_eq_left (by omega), P2_eq]
 norm_cast
theorem P2_lt (m : Nat) (hm : m < 32) : P2 m < 4294967296 := by
 rw [P2_eq]
 have h1 : 2 ^ m < 2 ^ 32 := Nat.pow_lt_pow_right (by decide) hm
 have h2 : (2 : Nat) ^ 32 = 4294967296 := by decide
 omega
theorem shl32 (m : Nat) (hm : m < 32) : shl .u32 1 (m : Int) = P2 m := by
 have h1 := P2_lt m hm
 have h2 := P2_pos m
 unfold shl
 rw [Int.toNat_natCast, show IntKind.u32.bits = 32 from rfl, Nat.min_eq_left (by omega)]
 have e : (1 : Int) * 2 ^ m = P2 m := by rw [P2_eq, Int.one_mul]; norm_cast
 rw [e, IntKind.wrap_u32]
 omega
theorem and1 (x : Int) (h0 : 0 ≤ x) (h1 : x < 4294967296) : Go.bits .and .u32 x 1 = x % 2 := by
 have := bits_mask .u32 32 (by decide) (fun n a b => by rw [IntKind.wrap_u32]; omega) 1 (by decide) x h0 (by omega)
 simpa using this
theorem or_bit (x : Int) (m : Nat) (hm : m < 32) (h0 : 0 ≤ x) (h1 : x < 4294967296) (hd : x % P2 (m + 1) = 0) : Go.bits .or .u32 x (P2 m) = x + P2 m := by
 have hp := P2_pos m
 have hs := P2_succ m
 have hl := P2_lt m hm
 refine bits_join .u32 32 (by decide) (fun n a b => by rw [IntKind.wrap_u32]; omega) (m + 1) x (P2 m) h0 ?_ (by omega) (by omega) ?_ (by omega)
 ·rw [P2_eq] at hd; exact_mod_cast hd
 ·rw [P2_eq] at hs; have : ((2 ^ (m + 1) : Nat) : Int) = (2 : Int) ^ (m + 1) := by norm_cast
  rw [← this, hs]; omega
theorem pow32 (j : Nat) : 4294967296 ^ j = 2 ^ (32 * j) := by
 rw [Nat.pow_mul]
theorem wval_parts (a : List Int) (j : Nat) (hj : j < a.length) : wval a = wval (a.take j) + 2 ^ (32 * j) * ((a[j]).toNat + 4294967296 * wval (a.drop (j + 1))) := by
 have e : a = a.take j ++ a[j] :: a.drop (j + 1) := by rw [← List.drop_eq_getElem_cons hj, List.take_append_drop]
 have h : wval a = wval (a.take j ++ a[j] :: a.drop (j + 1)) := by rw [← e]
 rw [wval_append, List.length_take, Nat.min_eq_left (by omega), pow32] at h
 exact h
theorem bit_at (a : List Int) (ha : IsW a) (j m : Nat) (hj : j < a.length) (hm : m < 32) : wval a / 2 ^ (32 * j + m) % 2 = (a[j]).toNat / 2 ^ m % 2 := by
 have hl : wval (a.take j) < 2 ^ (32 * j) := by
  have := wval_lt (ha.take j)
  rw [List.length_take, Nat.min_eq_left (by omega), pow32] at this
  exact this
 rw [wval_parts a j hj, Nat.pow_add, ← Nat.div_div_eq_div_mul, Nat.add_mul_div_left _ _ (Nat.pow_pos (by decide)), Nat.div_eq_of_lt hl, Nat.zero_add]
 have e : (4294967296 : Nat) = 2 ^ m * (2 * 2 ^ (31 - m)) := by
  rw [← Nat.pow_succ', ← Nat.pow_add, show m + (31 - m + 1) = 32 by omega]
 rw [e, Nat.mul_assoc, Nat.add_mul_div_left _ _ (Nat.pow_pos (by decide)), Nat.mul_assoc, Nat.add_mul_mod_self_left]
theorem wval_set (l : List Int) (p : Nat) (v : Int) (h : p < l.length) (h0 : 0 ≤ v) (hl : 0 ≤ l[p]) (hv : l[p] ≤ v) : wval (l.set p v) = wval l + 2 ^ (32 * p) * (v - l[p]).toNat := by
 have := wI_set l p v h h0 hl
 rw [wI_eq, wI_eq] at this
 have e : W32 p = ((2 ^ (32 * p) : Nat) : Int) := by unfold W32; rw [pow32]
 have ev : v - l[p] = (((v - l[p]).toNat : Nat) : Int) := by omega
 rw [e, ev, ← Int.natCast_mul] at this
 omega
/-- The place of a bit: the words below it are 0, its word is a multiple of twice its weight. -/
def Clean (q : List Int) (d : Nat) : Prop := (∀ p, (h : p < q.length) → p < d / 32 → q[p] = 0) ∧ (∀ h : d / 32 < q.length, q[d / 32] % P2 (d % 32 + 1) = 0)
theorem P2_32 : P2 32 = 4294967296 := by rw [P2_eq]; decide
theorem clean_down (q : List Int) (d : Nat) (hw : IsW q) (h : Clean q (d + 1)) : Clean q d := by
 obtain ⟨h1, h2⟩ := h
 by_cases hm : (d + 1) % 32 = 0
 ·have e1 : (d + 1) / 32 = d / 32 + 1 := by omega
  have e2 : d % 32 = 31 := by omega
  refine ⟨fun p hp hlt => h1 p hp (by omega), fun hl => ?_⟩
  rw [h1 (d / 32) hl (by omega)]; simp
 ·have e1 : (d + 1) / 32 = d / 32 := by omega
  have e2 : (d + 1) % 32 = d % 32 + 1 := by omega
  refine ⟨fun p hp hlt => h1 p hp (by omega), fun hl => ?_⟩
  have := h2 (by omega)
  simp only [e1, e2] at this
  rw [P2_succ] at this
  have hd : P2 (d % 32 + 1) ∣ P2 (d % 32 + 1) * 2 := ⟨2, rfl⟩
  exact Int.emod_eq_zero_of_dvd (Int.dvd_trans hd (Int.dvd_of_emod_eq_zero this))
theorem clean_set (q : List Int) (d : Nat) (hw : IsW q) (hl : d / 32 < q.length) (h : Clean q d) (hd : 0 < d) : Clean (q.set (d / 32) (q[d / 32] + P2 (d % 32))) (d - 1) := by
 obtain ⟨h1, h2⟩ := h
 have h3 := h2 hl
 by_cases hm : d % 32 = 0
 ·have e1 : d / 32 = (d - 1) / 32 + 1 := by omega
  refine ⟨fun p hp hlt => ?_, fun a0 => ?_⟩
  ·rw [List.getElem_set_ne (by omega)]; exact h1 p (by simpa using hp) (by omega)
  ·rw [List.getElem_set_ne (by omega), h1 ((d - 1) / 32) (by simpa using a0) (by omega)]; simp
 ·have e1 : (d - 1) / 32 = d / 32 := by omega
  have e2 : (d - 1) % 32 + 1 = d % 32 := by omega
  refine ⟨fun p hp hlt => ?_, fun a0 => ?_⟩
  ·rw [List.getElem_set_ne (by omega)]; exact h1 p (by simpa using hp) (by omega)
  ·simp only [e1, e2, List.getElem_set_self]
   rw [P2_succ] at h3
   have hdv : P2 (d % 32) ∣ P2 (d % 32) * 2 := ⟨2, rfl⟩
   have := Int.dvd_trans hdv (Int.dvd_of_emod_eq_zero h3)
   exact Int.emod_eq_zero_of_dvd (Int.dvd_add this ⟨1, by omega⟩)
theorem P2_add (m n : Nat) : P2 (m + n) = P2 m * P2 n := by rw [P2_eq, P2_eq, P2_eq, Nat.pow_add, Int.natCast_mul]
theorem word_room (x : Int) (m : Nat) (hm : m < 32) (h0 : 0 ≤ x) (h1 : x < 4294967296) (hd : x % P2 (m + 1) = 0) : x + P2 m < 4294967296 := by
 obtain ⟨t, ht⟩ := Int.dvd_of_emod_eq_zero hd
 have e : P2 (m + 1) * P2 (31 - m) = 4294967296 := by rw [← P2_add, show m + 1 + (31 - m) = 32 by omega, P2_32]
 have hp := P2_pos m
 have hs := P2_succ m
 have hlt : t < P2 (31 - m) := by
  rw [ht, ← e] at h1
  exact Int.lt_of_mul_lt_mul_left h1 (by omega)
 have hle : P2 (m + 1) * (t + 1) ≤ P2 (m + 1) * P2 (31 - m) := Int.mul_le_mul_of_nonneg_left (by omega) (by omega)
 rw [e, Int.mul_add, ← ht] at hle
 omega
theorem wordsN_len_of {R k : Nat} {b : List Int} (hb : IsW b) (h : R < 2 * wval b) : (wordsN R).length ≤ b.length + 1 := by
 rw [wordsN_length_le, Nat.pow_succ]
 have := wval_lt hb
 omega
theorem split_next (a b : List Int) (ha : IsW a) (hb : CanW b) (hlb : b.length ≤ 1000) (q : List Int) (hq : q.length = a.length) (hw : IsW q) (hla : a.length ≤ 1000)
  (d r Q : Nat) (hd : d < 32 * a.length) (hc : Clean q d) (hr : r < 2 * wval b) (hv : wval q = Q * 2 ^ (d + 1)) (res : List Int × List Int)
  (h1 : wval b ≤ r → ∀ q' : List Int, q'.length = a.length → IsW q' → (0 < d → Clean q' (d - 1)) → wval q' = (2 * Q + 1) * 2 ^ d → Ev (fun k => whole_split.l0 k a b q' (wordsN (r - wval b)) ((d : Int) - 1)) res)
  (h2 : r < wval b → (0 < d → Clean q (d - 1)) → wval q = (2 * Q) * 2 ^ d → Ev (fun k => whole_split.l0 k a b q (wordsN r) ((d : Int) - 1)) res) :
  Ev (fun k => whole_split.j1 k a b q (wordsN r) (d : Int)) res := by
 have hlr : (wordsN r).length ≤ b.length + 1 := wordsN_len_of (k := 0) hb.1 hr
 have ho := order_ev (wordsN r) b (canW_wordsN r) hb (by omega) (by omega)
 rw [wval_wordsN] at ho
 have hdiv : wrap64 (Int.tdiv (d : Int) 32) = ((d / 32 : Nat) : Int) := by
  rw [Int.tdiv_eq_ediv_of_nonneg (by omega), w64 (by omega) (by omega)]; omega
 have hmod : Int.tmod (d : Int) 32 = ((d % 32 : Nat) : Int) := by
  rw [Int.tmod_eq_emod_of_nonneg (by omega)]; omega
 have hjq : d / 32 < q.length := by omega
 have hA := hw.get _ hjq
 have hm : d % 32 < 32 := Nat.mod_lt _ (by omega)
 by_cases hge : wval b ≤ r
 ·have hcl := hc.2 hjq
  have hroom := word_room _ _ hm hA.1 hA.2 hcl
  have hpp := P2_pos (d % 32)
  have hll : b.length ≤ (wordsN r).length := by
   rcases Nat.lt_or_ge (wordsN r).length b.length with h | h
   ·have := wval_len_lt (isW_wordsN r) hb h; rw [wval_wordsN] at this; omega
   ·exact h
  have hmi := minus_ev (wordsN r) b (isW_wordsN r) hb.1 (by omega) hll (by rw [wval_wordsN]; exact hge)
  rw [wval_wordsN] at hmi
  have h3 := h1 hge (q.set (d / 32) (q[d / 32] + P2 (d % 32))) (by simpa using hq) (hw.set _ _ (by omega) hroom) (fun h => clean_set q d hw hjq hc h) (by
   rw [wval_set q _ _ hjq (by omega) hA.1 (by omega), hv]
   have e : (q[d / 32] + P2 (d % 32) - q[d / 32]).toNat = 2 ^ (d % 32) := by rw [show q[d / 32] + P2 (d % 32) - q[d / 32] = P2 (d % 32) by omega, P2_eq, Int.toNat_natCast]
   rw [e, ← Nat.pow_add, Nat.div_add_mod, Nat.pow_succ]
   generalize 2 ^ d = T
   grind)
  refine Ev.step (f := fun k => (whole_order.f k (wordsN r) b).bind fun a1 => if a1 ≥ 0 then (whole_minus.f k (wordsN r) b).bind fun a0 => whole_split.l0 k a b (q.set (d / 32) (q[d / 32] + P2 (d % 32))) a0 ((d : Int) - 1) else whole_split.l0 k a b q (wordsN r) ((d : Int) - 1)) (fun k => ?_) (Ev.bind ho (Ev.congr (fun k => if_pos (by unfold cmpN; split <;> omega)) (Ev.bind hmi h3)))
  simp only [whole_split.j1]
  rw [hdiv, hmod, w64 (x := (d : Int) - 1) (by omega) (by omega)]
  simp only [if_pos (show (0 : Int) ≤ ((d / 32 : Nat) : Int) by omega), if_pos (show ((d / 32 : Nat) : Int) < (q.length : Int) by omega), if_pos (show (0 : Int) ≤ ((d % 32 : Nat) : Int) by omega), rd_lt _ _ hjq, shl32 _ hm, or_bit _ _ hm hA.1 hA.2 hcl, Int.toNat_natCast]
 ·have h3 := h2 (by omega) (fun h => by
   have := clean_down q (d - 1) hw (by rw [show d - 1 + 1 = d by omega]; exact hc)
   exact this) (by rw [hv, Nat.pow_succ]; generalize 2 ^ d = T; grind)
  refine Ev.step (f := fun k => (whole_order.f k (wordsN r) b).bind fun a1 => if a1 ≥ 0 then (whole_minus.f k (wordsN r) b).bind fun a0 => (if 0 ≤ (wrap64 (Int.tdiv (d : Int) 32)) then (if (wrap64 (Int.tdiv (d : Int) 32)) < (q.length : Int) then (if 0 ≤ (Int.tmod (d : Int) 32) then (whole_split.l0 k a b (q.set ((wrap64 (Int.tdiv (d : Int) 32)) : Int).toNat (Go.bits .or .u32 (rd q (wrap64 (Int.tdiv (d : Int) 32))) (shl .u32 1 (Int.tmod (d : Int) 32)))) a0 (wrap64 ((d : Int) - 1))) else (none)) else (none)) else (none)) else whole_split.l0 k a b q (wordsN r) ((d : Int) - 1)) (fun k => ?_) (Ev.bind ho (Ev.congr (fun k => if_neg (by unfold cmpN; rw [if_pos (by omega)]; omega)) h3))
  simp only [whole_split.j1]
  rw [w64 (x := (d : Int) - 1) (by omega) (by omega)]
theorem one_isW : IsW [1] := IsW.cons (by omega) (by omega) IsW.nil
theorem and1n (n : Nat) (h : n < 4294967296) : Go.bits .and .u32 (n : Int) 1 = ((n % 2 : Nat) : Int) := by rw [and1 _ (by omega) (by omega)]; omega
theorem split_unfold (a b q r : List Int) (d t k : Nat) (hj : d / 32 < a.length) (hla : a.length ≤ 1000) (hand : Go.bits .and .u32 (shr .u32 (rd a ((d / 32 : Nat) : Int)) ((d % 32 : Nat) : Int)) 1 = ((t % 2 : Nat) : Int)) :
  whole_split.l0 (k + 1) a b q r (d : Int) = (whole_plus.f k r r).bind fun a0 => if ((t % 2 : Nat) : Int) = 1 then (whole_plus.f k a0 [1]).bind fun a1 => whole_split.j1 k a b q a1 (d : Int) else whole_split.j1 k a b q a0 (d : Int) := by
 have hdiv : wrap64 (Int.tdiv (d : Int) 32) = ((d / 32 : Nat) : Int) := by
  rw [Int.tdiv_eq_ediv_of_nonneg (by omega), w64 (by omega) (by omega)]; omega
 have hmod : Int.tmod (d : Int) 32 = ((d % 32 : Nat) : Int) := by
  rw [Int.tmod_eq_emod_of_nonneg (by omega)]; omega
 have p1 : (0 : Int) ≤ ((d / 32 : Nat) : Int) := by omega
 have p2 : ((d / 32 : Nat) : Int) < (a.length : Int) := by omega
 have p3 : (0 : Int) ≤ ((d % 32 : Nat) : Int) := by omega
 have p4 : (d : Int) ≥ 0 := by omega
 simp only [whole_split.l0]
 rw [if_pos p4, hdiv, hmod, hand]
 simp only [if_pos p1, if_pos p2, if_pos p3]
theorem split_loop (a b : List Int) (ha : IsW a) (hb : CanW b) (hB : 0 < wval b) (hla : a.length ≤ 1000) (hlb : b.length ≤ 1000) :
  ∀ (d : Nat) (q : List Int) (R Q : Nat), d ≤ 32 * a.length → q.length = a.length → IsW q → (0 < d → Clean q (d - 1)) → R < wval b → wval q = Q * 2 ^ d → wval a / 2 ^ d = Q * wval b + R →
   Ev (fun k => whole_split.l0 k a b q (wordsN R) ((d : Int) - 1)) (wordsN (wval a / wval b), wordsN (wval a % wval b)) := by
 intro d
 induction d with
 | zero =>
  intro q R Q hd hq hw hc hR hv he
  rw [Nat.pow_zero, Nat.div_one] at he
  rw [Nat.pow_zero, Nat.mul_one] at hv
  have e1 : wval a / wval b = Q := by rw [he, Nat.mul_comm, Nat.mul_add_div hB, Nat.div_eq_of_lt hR, Nat.add_zero]
  have e2 : wval a % wval b = R := by rw [he, Nat.mul_comm, Nat.mul_add_mod, Nat.mod_eq_of_lt hR]
  rw [e1, e2, ← hv]
  refine Ev.step (f := fun k => (whole_words_trim.f k q).bind fun a1 => some (a1, wordsN R)) (fun k => ?_) (Ev.bind (trim_ev q hw (by omega)) (Ev.now _))
  simp only [whole_split.l0]
  rw [if_neg (by omega)]
 | succ d ih =>
  intro q R Q hd hq hw hc hR hv he
  have hc := hc (by omega)
  rw [Nat.add_sub_cancel] at hc
  have hj : d / 32 < a.length := by omega
  have hm : d % 32 < 32 := Nat.mod_lt _ (by omega)
  have hA := ha.get _ hj
  have hbit := bit_at a ha (d / 32) (d % 32) hj hm
  rw [Nat.div_add_mod] at hbit
  have hhalf : wval a / 2 ^ d / 2 = Q * wval b + R := by rw [Nat.div_div_eq_div_mul, ← Nat.pow_succ]; exact he
  have hlR : (wordsN R).length ≤ b.length + 1 := wordsN_len_of (k := 0) hb.1 (by omega)
  have hp := plus_ev (wordsN R) (wordsN R) (isW_wordsN R) (isW_wordsN R) (by omega) (by omega)
  rw [wval_wordsN] at hp
  have hsh : shr .u32 (rd a ((d / 32 : Nat) : Int)) ((d % 32 : Nat) : Int) = (((a[d / 32]).toNat / 2 ^ (d % 32) : Nat) : Int) := by
   rw [rd_lt _ _ hj, shr32 _ _ hm, P2_eq, Int.natCast_ediv, Int.toNat_of_nonneg hA.1]
  have hsmall : (a[d / 32]).toNat / 2 ^ (d % 32) < 4294967296 := by
   have := Nat.div_le_self (a[d / 32]).toNat (2 ^ (d % 32)); omega
  have hand : Go.bits .and .u32 (((a[d / 32]).toNat / 2 ^ (d % 32) : Nat) : Int) 1 = ((wval a / 2 ^ d % 2 : Nat) : Int) := by
   rw [and1n _ hsmall, hbit]
  obtain ⟨t, ht⟩ : ∃ t, wval a / 2 ^ d = t := ⟨_, rfl⟩
  rw [ht] at hhalf hand
  have hx8 : ((d + 1 : Nat) : Int) - 1 = (d : Int) := by omega
  have htest : ∀ k, whole_split.l0 (k + 1) a b q (wordsN R) (((d + 1 : Nat) : Int) - 1) = (whole_plus.f k (wordsN R) (wordsN R)).bind fun a0 => if ((t % 2 : Nat) : Int) = 1 then (whole_plus.f k a0 [1]).bind fun a2 => whole_split.j1 k a b q a2 (d : Int) else whole_split.j1 k a b q a0 (d : Int) := by
   intro k
   rw [hx8]
   exact split_unfold a b q (wordsN R) d t k hj hla (by rw [hsh]; exact hand)
  have hnext := split_next a b ha hb hlb q hq hw hla d (R + R + t % 2) Q (by omega) hc (by omega) hv (wordsN (wval a / wval b), wordsN (wval a % wval b))
   (fun hge q' g1 g2 g3 g4 => ih q' (R + R + t % 2 - wval b) (2 * Q + 1) (by omega) g1 g2 g3 (by omega) g4 (by
    have : (2 * Q + 1) * wval b = Q * wval b + Q * wval b + wval b := by grind
    omega))
   (fun hlt g3 g4 => ih q (R + R + t % 2) (2 * Q) (by omega) hq hw g3 hlt g4 (by
    have : (2 * Q) * wval b = Q * wval b + Q * wval b := by grind
    omega))
  by_cases hb1 : t % 2 = 1
  ·have hl2 : (wordsN (R + R)).length ≤ b.length + 1 := wordsN_len_of (k := 0) hb.1 (by omega)
   have a3 := plus_ev (wordsN (R + R)) [1] (isW_wordsN _) one_isW (by omega) (by simp)
   rw [wval_wordsN, show wval [1] = 1 from rfl] at a3
   rw [hb1] at hnext
   exact Ev.step htest (Ev.bind hp (Ev.congr (fun k => if_pos (by omega)) (Ev.bind a3 hnext)))
  ·have hb0 : t % 2 = 0 := by omega
   rw [hb0, Nat.add_zero] at hnext
   exact Ev.step htest (Ev.bind hp (Ev.congr (fun k => if_neg (by omega)) hnext))
theorem split_ev (a b : List Int) (ha : IsW a) (hb : CanW b) (hB : 0 < wval b) (hla : a.length ≤ 1000) (hlb : b.length ≤ 1000) :
  Ev (fun k => whole_split.f k a b) (wordsN (wval a / wval b), wordsN (wval a % wval b)) := by
 have h := split_loop a b ha hb hB hla hlb (32 * a.length) (List.replicate a.length 0) 0 0 (Nat.le_refl _) (by simp) (IsW.replicate _)
  (fun _ => ⟨fun p hp _ => by simp, fun hp => by simp⟩) hB (by rw [wval_replicate_zero]; simp) (by
   rw [Nat.div_eq_of_lt (by rw [← pow32]; exact wval_lt ha)]; simp)
 refine Ev.congr (fun k => ?_) h
 unfold whole_split.f
 rw [if_pos (by omega), if_pos (by omega), Int.toNat_natCast, wordsN_zero, w64 (x := (a.length : Int) * 32) (by omega) (by omega), w64 (by omega) (by omega)]
 rw [show (a.length : Int) * 32 = ((32 * a.length : Nat) : Int) by omega]
theorem wlen_pos_iff (n : Nat) : decide (((wordsN n).length : Int) > 0) = decide (n ≠ 0) := by
 have : (wordsN n).length = 0 ↔ n = 0 := by rw [List.length_eq_zero_iff]; exact wordsN_nil_iff n
 simp only [decide_eq_decide]; omega
theorem divide_good (xn yn : Bool) (x y : List Int) (hx : IsB x) (hy : IsB y) (h1 : okN xn x = true) (h2 : okN yn y = true) (hne : y ≠ []) :
  Ev (fun k => whole_divide.j0 k false xn x yn y) (divV xn (bval x) yn (bval y)) := by
 have c2 := okN_can hy h2
 have hB := CanB.pos c2.1 hne
 obtain ⟨l1, w1⟩ := words_of hx h1
 obtain ⟨l2, w2⟩ := words_of hy h2
 have hs := split_ev (wordsN (bval x)) (wordsN (bval y)) (isW_wordsN _) (canW_wordsN _) (by rw [wval_wordsN]; exact hB) (by omega) (by omega)
 rw [wval_wordsN, wval_wordsN] at hs
 generalize bval x = A at *
 generalize bval y = B at *
 have hmod : A % B < B := Nat.mod_lt _ hB
 have hyl : y.length ≠ 0 := fun e => hne (List.eq_nil_of_length_eq_zero e)
 have hql : (wordsN (A / B)).length ≤ 32 := Nat.le_trans (words_mono (Nat.div_le_self _ _)) l1
 have hrl : (wordsN (A % B)).length ≤ (wordsN B).length := words_mono (Nat.le_of_lt hmod)
 have hstep : ∀ k, whole_divide.j0 (k + 1) false xn x yn y = (whole_wordsOf.f k y).bind fun a4 => (whole_wordsOf.f k x).bind fun a7 => (whole_split.f k a7 a4).bind fun bt => if (xn != yn) = true then whole_divide.j1 k a4 bt.1 bt.2 (xn != yn) (decide ((bt.2.length : Int) > 0)) yn y else whole_divide.j1 k a4 bt.1 bt.2 (xn != yn) false yn y := by
  intro k
  simp only [whole_divide.j0]
  rw [if_neg (by simp), if_neg (by omega)]
 unfold divV
 by_cases hap : (xn != yn && decide (A % B ≠ 0)) = true
 ·rw [if_pos hap]
  have ha : (xn != yn) = true := by simp only [Bool.and_eq_true] at hap; exact hap.1
  have hr : decide (A % B ≠ 0) = true := by simp only [Bool.and_eq_true] at hap; exact hap.2
  have hp := plus_ev (wordsN (A / B)) [1] (isW_wordsN _) one_isW (by omega) (by simp)
  rw [wval_wordsN, show wval [1] = 1 from rfl] at hp
  have hmi := minus_ev (wordsN B) (wordsN (A % B)) (isW_wordsN _) (isW_wordsN _) (by omega) hrl (by rw [wval_wordsN, wval_wordsN]; omega)
  rw [wval_wordsN, wval_wordsN] at hmi
  have hlq : (wordsN (A / B + 1)).length ≤ 33 := by
   rw [wordsN_length_le] at hql ⊢
   have : (4294967296 : Nat) ^ 33 = 4294967296 ^ 32 * 4294967296 := Nat.pow_succ ..
   have hp : 0 < (4294967296 : Nat) ^ 32 := Nat.pow_pos (by omega)
   rw [this]; omega
  have hlm : (wordsN (B - A % B)).length ≤ 32 := Nat.le_trans (words_mono (Nat.sub_le _ _)) l2
  have m1 := made_ev (xn != yn) (wordsN (A / B + 1)) (isW_wordsN _) (by omega)
  have m2 := made_ev yn (wordsN (B - A % B)) (isW_wordsN _) (by omega)
  rw [wval_wordsN] at m1 m2
  refine Ev.step hstep (Ev.bind w2 (Ev.bind w1 (Ev.bind hs (Ev.congr (f := fun k => whole_divide.j1 k (wordsN B) (wordsN (A / B)) (wordsN (A % B)) (xn != yn) true yn y) (fun k => ?_) (Ev.step (f := fun k => (whole_plus.f k (wordsN (A / B)) [1]).bind fun a6 => (whole_minus.f k (wordsN B) (wordsN (A % B))).bind fun a5 => (whole_made.f k (xn != yn) a6).bind fun a1 => (whole_made.f k yn a5).bind fun a2 => some (a1.1, a1.2, a2.1, a2.2, 0)) (fun k => ?_) (Ev.bind hp (Ev.bind hmi (Ev.bind m1 (Ev.bind m2 (Ev.now _))))))))))
  ·rw [if_pos ha, wlen_pos_iff, hr]
  ·simp only [whole_divide.j1]; rw [if_pos trivial]
 ·rw [if_neg hap]
  have m1 := made_ev (xn != yn) (wordsN (A / B)) (isW_wordsN _) (by omega)
  have m2 := made_ev yn (wordsN (A % B)) (isW_wordsN _) (by omega)
  rw [wval_wordsN] at m1 m2
  refine Ev.step hstep (Ev.bind w2 (Ev.bind w1 (Ev.bind hs (Ev.congr (f := fun k => whole_divide.j1 k (wordsN B) (wordsN (A / B)) (wordsN (A % B)) (xn != yn) false yn y) (fun k => ?_) (Ev.step (f := fun k => (whole_made.f k (xn != yn) (wordsN (A / B))).bind fun a0 => (whole_made.f k yn (wordsN (A % B))).bind fun a3 => some (a0.1, a0.2, a3.1, a3.2, 0)) (fun k => ?_) (Ev.bind m1 (Ev.bind m2 (Ev.now _))))))))
  ·by_cases ha : (xn != yn) = true
   ·have hr : decide (A % B ≠ 0) = false := by
     rw [ha, Bool.true_and] at hap; simpa using hap
    rw [if_pos ha, wlen_pos_iff, hr]
   ·rw [if_neg ha]
  ·simp only [whole_divide.j1]
   rw [if_neg (by simp)]
theorem divide_ev (xn yn : Bool) (x y : List Int) (hx : IsB x) (hy : IsB y) : Ev (fun k => whole_divide.f k xn x yn y) (divS xn x yn y) := by
 unfold divS
 by_cases h1 : okN xn x = true
 ·by_cases h2 : okN yn y = true
  ·rw [if_pos (by rw [h1, h2]; rfl)]
   have hf : ∀ k, whole_divide.f k xn x yn y = whole_divide.j0 k false xn x yn y := by
    intro k
    unfold whole_divide.f
    rw [right_eq, h1, Option.bind_some, if_pos rfl, right_eq, h2]; rfl
   refine Ev.congr hf ?_
   by_cases hne : y = []
   ·rw [if_pos hne]
    refine Ev.step (f := fun _ => some (false, [], false, [], 23)) (fun k => ?_) (Ev.now _)
    simp only [whole_divide.j0]
    rw [if_neg (by simp), if_pos (by rw [hne]; rfl)]
   ·rw [if_neg hne]
    exact divide_good xn yn x y hx hy h1 h2 hne
  ·have h2 : okN yn y = false := by simpa using h2
   rw [if_neg (by rw [h1, h2]; simp)]
   refine Ev.congr (f := fun k => whole_divide.j0 k true xn x yn y) (fun k => ?_) (Ev.step (f := fun _ => some (false, [], false, [], 1)) (fun k => ?_) (Ev.now _))
   ·unfold whole_divide.f
    rw [right_eq, h1, Option.bind_some, if_pos rfl, right_eq, h2]; rfl
   ·simp only [whole_divide.j0]; rfl
 ·have h1 : okN xn x = false := by simpa using h1
  rw [if_neg (by rw [h1]; simp)]
  refine Ev.congr (f := fun k => whole_divide.j0 k true xn x yn y) (fun k => ?_) (Ev.step (f := fun _ => some (false, [], false, [], 1)) (fun k => ?_) (Ev.now _))
  ·unfold whole_divide.f
   rw [right_eq, h1, Option.bind_some, if_neg (by simp)]
  ·simp only [whole_divide.j0]; rfl
theorem mk_len {neg : Bool} {n k : Nat} (h : n < 256 ^ k) (hk : k ≤ 100000) : (mk neg n).2.length ≤ 140737488355328 := by
 have := bytes_len h
 show (bytesN n).length ≤ _
 omega
theorem divS_len (xn yn : Bool) (x y : List Int) (hx : IsB x) (hy : IsB y) : (divS xn x yn y).2.1.length ≤ 140737488355328 ∧ (divS xn x yn y).2.2.2.1.length ≤ 140737488355328 := by
 unfold divS
 split
 ·rename_i h
  simp only [Bool.and_eq_true] at h
  have a1 := bval_small hx (n := 128) (okN_can hx h.1).2
  have a2 := bval_small hy (n := 128) (okN_can hy h.2).2
  have e : (256 : Nat) ^ 129 = 256 ^ 128 * 256 := Nat.pow_succ ..
  have hdv := Nat.div_le_self (bval x) (bval y)
  have hmd := Nat.mod_le (bval x) (bval y)
  split
  ·exact ⟨by simp, by simp⟩
  ·generalize (256 : Nat) ^ 128 = T at *
   have hp : bval x / bval y + 1 < 256 ^ 129 := by omega
   have hq : bval x / bval y < 256 ^ 129 := by omega
   have hr : bval x % bval y < 256 ^ 129 := by omega
   have hs : bval y - bval x % bval y < 256 ^ 129 := by omega
   unfold divV
   split
   ·exact ⟨mk_len (neg := false) hp (by omega), mk_len (neg := false) hs (by omega)⟩
   ·exact ⟨mk_len (neg := false) hq (by omega), mk_len (neg := false) hr (by omega)⟩
 ·exact ⟨by simp, by simp⟩
end Go.Proofs.Ytfjbhccapgnkiaa.P
namespace Go.Proofs.Ytfjbhccapgnkiaa.P
open Go.RowKit Go.Proofs.YtfjbhccapgnkiaaW.PrintWords Go.Proofs.YtfjbhccapgnkiaaW.PrintLast Go.Proofs.YtfjbhccapgnkiaaW.PrintMore
attribute [local go_sem] max2_int min2_int max_two min_two max_three min_three max_four min_four
set_option linter.unusedVariables false
set_option maxHeartbeats 16000000
set_option maxRecDepth 100000
set_option linter.unusedSimpArgs false
open Lap
/-- The plain law of WholeDivs. -/
theorem divs_plain (xn yn : Bool) (x y : List Int) (hx : IsB x) (hy : IsB y) : ∃ (k1 k2 k3 k4 : Nat) (zn : Bool) (lz : List Int) (er : Int) (vn : Bool) (lv : List Int) (es : Int),
  whole_Div.f k1 xn x yn y = some (zn, lz, er) ∧ lapidaryref02_Div.f k2 xn x yn y = some (zn, lz, er) ∧ lz.length ≤ 140737488355328 ∧ whole_Mod.f k3 xn x yn y = some (vn, lv, es) ∧ lapidaryref02_Mod.f k4 xn x yn y = some (vn, lv, es) ∧ lv.length ≤ 140737488355328 := by
 obtain ⟨k1, h1⟩ := (divide_ev xn yn x y hx hy).rounds
 obtain ⟨k2, h2⟩ := (rboth_ev xn yn x y hx hy).rounds
 obtain ⟨g1, g2⟩ := divS_len xn yn x y hx hy
 refine ⟨k1, k2, k1, k2, (divS xn x yn y).1, (divS xn x yn y).2.1, (divS xn x yn y).2.2.2.2, (divS xn x yn y).2.2.1, (divS xn x yn y).2.2.2.1, (divS xn x yn y).2.2.2.2, ?_, ?_, g1, ?_, ?_, g2⟩
 ·unfold whole_Div.f; rw [h1]; rfl
 ·unfold lapidaryref02_Div.f; rw [h2]; rfl
 ·unfold whole_Mod.f; rw [h1]; rfl
 ·unfold lapidaryref02_Mod.f; rw [h2]; rfl
end Go.Proofs.Ytfjbhccapgnkiaa.P
namespace Go.Proofs.Ytfjbhccapgnkiaa.P
open Go.RowKit Go.Proofs.YtfjbhccapgnkiaaW.PrintWords Go.Proofs.YtfjbhccapgnkiaaW.PrintLast Go.Proofs.YtfjbhccapgnkiaaW.PrintMore
attribute [local go_sem] max2_int min2_int max_two min_two max_three min_three max_four min_four
set_option linter.unusedVariables false
set_option maxHeartbeats 16000000
set_option maxRecDepth 100000
set_option linter.unusedSimpArgs false
open Lap
/-- A sign and a size below 2^64 as a small number. -/
def smallV (neg : Bool) (u : Int) : Int × Bool :=
 if neg = true then (if u > 9223372036854775808 then (0, false) else (-u, true)) else (if u ≥ 9223372036854775808 then (0, false) else (u, true))
def smallS (neg : Bool) (l : List Int) : Int × Bool := if (okN neg l && decide (l.length ≤ 8)) = true then smallV neg (bI l) else (0, false)
theorem small_fin (neg : Bool) (u : Int) (h0 : 0 ≤ u) (h1 : u < 18446744073709551616) :
  (if neg = true then (if u = 0 then (some (wrap64 (-(wrap64 (u))), true)) else (if (wrap64 (-(wrap64 (u)))) = 0 then (some (0, false)) else (if ((decide ((wrap64 (-(wrap64 (u)))) < 0)) != neg) = true then (some (0, false)) else (some (wrap64 (-(wrap64 (u))), true))))) else (if u = 0 then (some (wrap64 (u), true)) else (if (wrap64 (u)) = 0 then (some (0, false)) else (if ((decide ((wrap64 (u)) < 0)) != neg) = true then (some (0, false)) else (some (wrap64 (u), true)))))) = some (smallV neg u) := by
 cases neg
 ·have e2 : smallV false u = if u ≥ 9223372036854775808 then (0, false) else (u, true) := rfl
  rw [if_neg Bool.false_ne_true, e2]
  by_cases hz : u = 0
  ·subst hz; rw [if_pos rfl, if_neg (by omega), w64 (by omega) (by omega)]
  ·rw [if_neg hz]
   by_cases hb : u ≥ 9223372036854775808
   ·have e : wrap64 u = u - 18446744073709551616 := by unfold wrap64; omega
    have hd : decide (u - 18446744073709551616 < 0) = true := decide_eq_true (by omega)
    rw [if_pos hb, e, if_neg (by omega), hd, if_pos (by decide)]
   ·have e : wrap64 u = u := w64 (by omega) (by omega)
    have hd : decide (u < 0) = false := decide_eq_false (by omega)
    rw [if_neg hb, e, if_neg hz, hd, if_neg (by decide)]
 ·have e2 : smallV true u = if u > 9223372036854775808 then (0, false) else (-u, true) := rfl
  rw [if_pos rfl, e2]
  by_cases hz : u = 0
  ·subst hz; rw [if_pos rfl, if_neg (by omega), w64 (x := 0) (by omega) (by omega), w64 (by omega) (by omega)]
  ·rw [if_neg hz]
   by_cases hb : u > 9223372036854775808
   ·have e : wrap64 (-(wrap64 u)) = 18446744073709551616 - u := by unfold wrap64; omega
    have hd : decide (18446744073709551616 - u < 0) = false := decide_eq_false (by omega)
    rw [if_pos hb, e, if_neg (by omega), hd, if_pos (by decide)]
   ·have e : wrap64 (-(wrap64 u)) = -u := by unfold wrap64; omega
    have hd : decide (-u < 0) = true := decide_eq_true (by omega)
    rw [if_neg hb, e, if_neg (by omega), hd, if_neg (by decide)]
theorem rsmall_fin (neg : Bool) (u : Int) (h0 : 0 ≤ u) (h1 : u < 18446744073709551616) :
  (if neg = true then (if u > 9223372036854775808 then (some (0, false)) else (some (wrap64 (IntKind.u64.wrap (-u)), true))) else (if u ≥ 9223372036854775808 then (some (0, false)) else (some (wrap64 (u), true)))) = some (smallV neg u) := by
 cases neg
 ·have e2 : smallV false u = if u ≥ 9223372036854775808 then (0, false) else (u, true) := rfl
  rw [if_neg Bool.false_ne_true, e2]
  by_cases hb : u ≥ 9223372036854775808
  ·rw [if_pos hb, if_pos hb]
  ·rw [if_neg hb, if_neg hb, w64 (by omega) (by omega)]
 ·have e2 : smallV true u = if u > 9223372036854775808 then (0, false) else (-u, true) := rfl
  rw [if_pos rfl, e2]
  by_cases hb : u > 9223372036854775808
  ·rw [if_pos hb, if_pos hb]
  ·have e : wrap64 (IntKind.u64.wrap (-u)) = -u := by rw [u64_mod]; unfold wrap64; omega
   rw [if_neg hb, if_neg hb, e]
theorem small_next (l : List Int) (hb : IsB l) (hl : l.length ≤ 8) (i : Nat) (hi : i < l.length) : Go.bits .or .u64 (IntKind.u64.wrap (bI (l.take i) * 256)) (IntKind.u64.wrap (rd l (i : Int))) = bI (l.take (i + 1)) := by
 have hA := hb.get i hi
 have h0 := bI_nonneg (l.take i)
 have h1 : bI (l.take i) < 72057594037927936 := by
  rw [bI_eq]
  have := bval_small (hb.take i) (n := 7) (by rw [List.length_take]; omega)
  have e : (256 : Nat) ^ 7 = 72057594037927936 := by decide
  omega
 rw [bI_take_succ l i hi hA.1, rd_lt _ _ hi, u64 (by omega) (by omega), u64 (by omega) (by omega), or64_8 h0 h1 hA.1 hA.2]
theorem bI_64 {l : List Int} (hb : IsB l) (hl : l.length ≤ 8) : 0 ≤ bI l ∧ bI l < 18446744073709551616 := by
 refine ⟨bI_nonneg l, ?_⟩
 rw [bI_eq]
 have := bval_small hb (n := 8) hl
 have e : (256 : Nat) ^ 8 = 18446744073709551616 := by decide
 omega
theorem small_loop (neg : Bool) (l : List Int) (hb : IsB l) (hl : l.length ≤ 8) : ∀ (d i : Nat), d + i = l.length → Ev (fun k => whole_Small.l0 k (bI (l.take i)) l (l.length : Int) (i : Int) neg l) (smallV neg (bI l)) := by
 intro d
 induction d with
 | zero =>
  intro i hd
  obtain rfl : i = l.length := by omega
  rw [List.take_length]
  obtain ⟨h0, h1⟩ := bI_64 hb hl
  refine Ev.step (f := fun _ => some (smallV neg (bI l))) (fun k => ?_) (Ev.now _)
  rw [← small_fin neg _ h0 h1]
  simp only [whole_Small.l0]
  rw [if_neg (by omega)]
 | succ d ih =>
  intro i hd
  have hi : i < l.length := by omega
  refine Ev.step (fun k => ?_) (ih (i + 1) (by omega))
  simp only [whole_Small.l0]
  rw [if_pos (by omega), if_pos (by omega), if_pos (by omega), small_next l hb hl i hi, w64s i (by omega)]
theorem rsmall_loop (neg : Bool) (l : List Int) (hb : IsB l) (hl : l.length ≤ 8) : ∀ (d i : Nat), d + i = l.length → Ev (fun k => lapidaryref02_Small.l0 k (bI (l.take i)) (i : Int) neg l) (smallV neg (bI l)) := by
 intro d
 induction d with
 | zero =>
  intro i hd
  obtain rfl : i = l.length := by omega
  rw [List.take_length]
  obtain ⟨h0, h1⟩ := bI_64 hb hl
  refine Ev.step (f := fun _ => some (smallV neg (bI l))) (fun k => ?_) (Ev.now _)
  rw [← rsmall_fin neg _ h0 h1]
  simp only [lapidaryref02_Small.l0]
  rw [if_neg (by omega)]
 | succ d ih =>
  intro i hd
  have hi : i < l.length := by omega
  refine Ev.step (fun k => ?_) (ih (i + 1) (by omega))
  simp only [lapidaryref02_Small.l0]
  rw [if_pos (by omega), if_pos (by omega), small_next l hb hl i hi, w64s i (by omega)]
theorem small_ev (neg : Bool) (l : List Int) (hb : IsB l) : Ev (fun k => whole_Small.f k neg l) (smallS neg l) := by
 unfold smallS
 by_cases h1 : okN neg l = true
 ·by_cases h2 : l.length ≤ 8
  ·rw [if_pos (by rw [h1]; simpa using h2)]
   have h := small_loop neg l hb h2 l.length 0 (by omega)
   rw [List.take_zero, bI_nil] at h
   refine Ev.congr (f := fun k => whole_Small.j0 k false neg l) (fun k => ?_) (Ev.step (fun k => ?_) h)
   ·unfold whole_Small.f
    rw [right_eq, h1, Option.bind_some, if_pos rfl, show decide ((l.length : Int) > 8) = false by simp; omega]
   ·simp only [whole_Small.j0]; rfl
  ·rw [if_neg (by rw [h1]; simpa using h2)]
   refine Ev.congr (f := fun k => whole_Small.j0 k true neg l) (fun k => ?_) (Ev.step (f := fun _ => some (0, false)) (fun k => ?_) (Ev.now _))
   ·unfold whole_Small.f
    rw [right_eq, h1, Option.bind_some, if_pos rfl, show decide ((l.length : Int) > 8) = true by simp; omega]
   ·simp only [whole_Small.j0]; rfl
 ·have h1 : okN neg l = false := by simpa using h1
  rw [if_neg (by rw [h1]; simp)]
  refine Ev.congr (f := fun k => whole_Small.j0 k true neg l) (fun k => ?_) (Ev.step (f := fun _ => some (0, false)) (fun k => ?_) (Ev.now _))
  ·unfold whole_Small.f
   rw [right_eq, h1, Option.bind_some, if_neg (by simp)]
  ·simp only [whole_Small.j0]; rfl
theorem rsmall_ev (neg : Bool) (l : List Int) (hb : IsB l) : Ev (fun k => lapidaryref02_Small.f k neg l) (smallS neg l) := by
 unfold smallS
 by_cases h1 : okN neg l = true
 ·by_cases h2 : l.length ≤ 8
  ·rw [if_pos (by rw [h1]; simpa using h2)]
   have h := rsmall_loop neg l hb h2 l.length 0 (by omega)
   rw [List.take_zero, bI_nil] at h
   refine Ev.congr (f := fun k => lapidaryref02_Small.j0 k false neg l) (fun k => ?_) (Ev.step (fun k => ?_) h)
   ·unfold lapidaryref02_Small.f
    rw [rright_eq, h1, Option.bind_some, if_pos rfl, show decide ((l.length : Int) > 8) = false by simp; omega]
   ·simp only [lapidaryref02_Small.j0]; rfl
  ·rw [if_neg (by rw [h1]; simpa using h2)]
   refine Ev.congr (f := fun k => lapidaryref02_Small.j0 k true neg l) (fun k => ?_) (Ev.step (f := fun _ => some (0, false)) (fun k => ?_) (Ev.now _))
   ·unfold lapidaryref02_Small.f
    rw [rright_eq, h1, Option.bind_some, if_pos rfl, show decide ((l.length : Int) > 8) = true by simp; omega]
   ·simp only [lapidaryref02_Small.j0]; rfl
 ·have h1 : okN neg l = false := by simpa using h1
  rw [if_neg (by rw [h1]; simp)]
  refine Ev.congr (f := fun k => lapidaryref02_Small.j0 k true neg l) (fun k => ?_) (Ev.step (f := fun _ => some (0, false)) (fun k => ?_) (Ev.now _))
  ·unfold lapidaryref02_Small.f
   rw [rright_eq, h1, Option.bind_some, if_neg (by simp)]
  ·simp only [lapidaryref02_Small.j0]; rfl
/-- A small number as one of any size. -/
def cmpV (xn : Bool) (a : Nat) (yn : Bool) (b : Nat) : Int := if (xn == yn) = true then (if xn = true then -cmpN a b else cmpN a b) else if xn = true then -1 else 1
def cmpS (xn : Bool) (x : List Int) (yn : Bool) (y : List Int) : Int := if (okN xn x && okN yn y) = true then cmpV xn (bval x) yn (bval y) else 0
theorem cmpN_range (a b : Nat) : -1 ≤ cmpN a b ∧ cmpN a b ≤ 1 := by unfold cmpN; split; omega; split <;> omega
theorem cmp2_ev (xn yn : Bool) (x y : List Int) (hx : IsB x) (hy : IsB y) : Ev (fun k => whole_Cmp.f k xn x yn y) (cmpS xn x yn y) := by
 unfold cmpS
 by_cases h1 : okN xn x = true
 ·by_cases h2 : okN yn y = true
  ·rw [if_pos (by rw [h1, h2]; rfl)]
   refine Ev.congr (f := fun k => whole_Cmp.j0 k false xn x yn y) (fun k => ?_) ?_
   ·unfold whole_Cmp.f
    rw [right_eq, h1, Option.bind_some, if_pos rfl, right_eq, h2]; rfl
   ·unfold cmpV
    by_cases he : (xn == yn) = true
    ·rw [if_pos he]
     obtain ⟨l1, w1⟩ := words_of hx h1
     obtain ⟨l2, w2⟩ := words_of hy h2
     have ho := order_ev (wordsN (bval x)) (wordsN (bval y)) (canW_wordsN _) (canW_wordsN _) (by omega) (by omega)
     rw [wval_wordsN, wval_wordsN] at ho
     have hr := cmpN_range (bval x) (bval y)
     refine Ev.step (f := fun k => (whole_wordsOf.f k x).bind fun a2 => ((whole_wordsOf.f k y).bind fun a1 => ((whole_order.f k a2 a1).bind fun a0 => (if xn = true then (some (wrap64 (-a0))) else (some a0))))) (fun k => ?_) (Ev.bind w1 (Ev.bind w2 (Ev.bind ho (Ev.congr (f := fun _ => some (if xn = true then -cmpN (bval x) (bval y) else cmpN (bval x) (bval y))) (fun k => ?_) (Ev.now _)))))
     ·simp only [whole_Cmp.j0]
      rw [if_neg (by simp), if_pos he]
     ·rw [w64 (by omega) (by omega)]; split <;> rfl
    ·rw [if_neg he]
     refine Ev.step (f := fun _ => some (if xn = true then -1 else 1)) (fun k => ?_) (Ev.now _)
     simp only [whole_Cmp.j0]
     rw [if_neg (by simp), if_neg he]; split <;> rfl
  ·have h2 : okN yn y = false := by simpa using h2
   rw [if_neg (by rw [h1, h2]; simp)]
   refine Ev.congr (f := fun k => whole_Cmp.j0 k true xn x yn y) (fun k => ?_) (Ev.step (f := fun _ => some 0) (fun k => ?_) (Ev.now _))
   ·unfold whole_Cmp.f
    rw [right_eq, h1, Option.bind_some, if_pos rfl, right_eq, h2]; rfl
   ·simp only [whole_Cmp.j0]; rfl
 ·have h1 : okN xn x = false := by simpa using h1
  rw [if_neg (by rw [h1]; simp)]
  refine Ev.congr (f := fun k => whole_Cmp.j0 k true xn x yn y) (fun k => ?_) (Ev.step (f := fun _ => some 0) (fun k => ?_) (Ev.now _))
  ·unfold whole_Cmp.f
   rw [right_eq, h1, Option.bind_some, if_neg (by simp)]
  ·simp only [whole_Cmp.j0]; rfl
def sgn (c : Int) : Int := if c < 0 then -1 else if c > 0 then 1 else 0
theorem j2_ev (c : Int) : Ev (fun k => lapidaryref02_Cmp.j2 k c) (sgn c) := by
 refine Ev.step (f := fun _ => some (sgn c)) (fun k => ?_) (Ev.now _)
 simp only [lapidaryref02_Cmp.j2]
 unfold sgn; split; rfl; split <;> rfl
theorem j1_ev (c : Int) (h0 : -1000000 < c) (h1 : c < 1000000) (xn : Bool) (x : List Int) : Ev (fun k => lapidaryref02_Cmp.j1 k c xn x) (sgn (if xn = true then -c else c)) := by
 cases xn
 ·rw [if_neg (by simp)]
  refine Ev.step (fun k => ?_) (j2_ev c)
  simp only [lapidaryref02_Cmp.j1]; rw [if_neg (by simp)]
 ·rw [if_pos rfl]
  refine Ev.step (fun k => ?_) (j2_ev (-c))
  simp only [lapidaryref02_Cmp.j1]; rw [if_pos trivial, w64 (by omega) (by omega)]
theorem rcmp2_ev (xn yn : Bool) (x y : List Int) (hx : IsB x) (hy : IsB y) : Ev (fun k => lapidaryref02_Cmp.f k xn x yn y) (cmpS xn x yn y) := by
 unfold cmpS
 by_cases h1 : okN xn x = true
 ·by_cases h2 : okN yn y = true
  ·rw [if_pos (by rw [h1, h2]; rfl)]
   have c1 := okN_can hx h1
   have c2 := okN_can hy h2
   obtain ⟨c, ⟨q1, q2, q3, q4⟩, q5⟩ := cmp_ev x y c1.1 c2.1 (by omega) (by omega)
   refine Ev.congr (f := fun k => lapidaryref02_Cmp.j0 k false xn x yn y) (fun k => ?_) (Ev.step (f := fun k => (lapidaryref02_cmp.f k x y).bind fun a0 => (if (xn != yn) = true then (lapidaryref02_Cmp.j1 k 1 xn x) else (lapidaryref02_Cmp.j1 k a0 xn x))) (fun k => ?_) (Ev.bind q5 ?_))
   ·unfold lapidaryref02_Cmp.f
    rw [rright_eq, h1, Option.bind_some, if_pos rfl, rright_eq, h2]; rfl
   ·simp only [lapidaryref02_Cmp.j0]; rfl
   ·unfold cmpV
    by_cases he : (xn == yn) = true
    ·have hne : ¬ (xn != yn) = true := by simpa [bne] using he
     rw [if_pos he]
     have h := j1_ev c q3 q4 xn x
     have e : sgn (if xn = true then -c else c) = (if xn = true then -cmpN (bval x) (bval y) else cmpN (bval x) (bval y)) := by
      unfold sgn cmpN
      cases xn
      ·simp only [Bool.false_eq_true, if_false]
       by_cases a1 : bval x < bval y
       ·rw [if_pos (by omega), if_pos a1]
       ·by_cases a2 : bval y < bval x
        ·rw [if_neg (by omega), if_pos (by omega), if_neg a1, if_pos a2]
        ·rw [if_neg (by omega), if_neg (by omega), if_neg a1, if_neg a2]
      ·simp only [if_true]
       by_cases a1 : bval x < bval y
       ·rw [if_neg (by omega), if_pos (by omega), if_pos a1]; rfl
       ·by_cases a2 : bval y < bval x
        ·rw [if_pos (by omega), if_neg a1, if_pos a2]
        ·rw [if_neg (by omega), if_neg (by omega), if_neg a1, if_neg a2]; rfl
     rw [e] at h
     exact Ev.congr (fun k => if_neg hne) h
    ·have hne : (xn != yn) = true := by simpa [bne] using he
     rw [if_neg he]
     have h := j1_ev 1 (by omega) (by omega) xn x
     have e : sgn (if xn = true then -1 else 1) = (if xn = true then -1 else 1) := by unfold sgn; cases xn <;> rfl
     rw [e] at h
     exact Ev.congr (fun k => if_pos hne) h
  ·have h2 : okN yn y = false := by simpa using h2
   rw [if_neg (by rw [h1, h2]; simp)]
   refine Ev.congr (f := fun k => lapidaryref02_Cmp.j0 k true xn x yn y) (fun k => ?_) (Ev.step (f := fun _ => some 0) (fun k => ?_) (Ev.now _))
   ·unfold lapidaryref02_Cmp.f
    rw [rright_eq, h1, Option.bind_some, if_pos rfl, rright_eq, h2]; rfl
   ·simp only [lapidaryref02_Cmp.j0]; rfl
 ·have h1 : okN xn x = false := by simpa using h1
  rw [if_neg (by rw [h1]; simp)]
  refine Ev.congr (f := fun k => lapidaryref02_Cmp.j0 k true xn x yn y) (fun k => ?_) (Ev.step (f := fun _ => some 0) (fun k => ?_) (Ev.now _))
  ·unfold lapidaryref02_Cmp.f
   rw [rright_eq, h1, Option.bind_some, if_neg (by simp)]
  ·simp only [lapidaryref02_Cmp.j0]; rfl
end Go.Proofs.Ytfjbhccapgnkiaa.P
