import Derived.Test.YtfjbhccapgnkiaaU1
import Derived.Test.YtfjbhccapgnkiaaC4
namespace Go.Proofs.Ytfjbhccapgnkiaa.P
open Go.RowKit Go.Proofs.YtfjbhccapgnkiaaW.PrintWords Go.Proofs.YtfjbhccapgnkiaaW.PrintLast Go.Proofs.YtfjbhccapgnkiaaW.PrintMore
attribute [local go_sem] max2_int min2_int max_two min_two max_three min_three max_four min_four
set_option linter.unusedVariables false
set_option linter.unusedSimpArgs false

open Lap


/-- The byte at a place from the last one on. -/
def atv (l : List Int) (i : Nat) : Int := if h : i < l.length then l[l.length - 1 - i] else 0
theorem atv_range {l : List Int} (h : IsB l) (i : Nat) : 0 ≤ atv l i ∧ atv l i < 256 := by
  unfold atv
  split
  · exact h.get _ _
  · omega
theorem at_eq (l : List Int) (h : IsB l) (hl : l.length ≤ 1000000) (i : Nat) (hi : i ≤ 1000000) : lapidaryref02_at.f l (i : Int) = some (atv l i) := by
  unfold lapidaryref02_at.f atv
  by_cases hlt : i < l.length
  · have e : wrap64 (wrap64 ((l.length : Int) - 1) - (i : Int)) = ((l.length - 1 - i : Nat) : Int) := by
      rw [w64 (x := (l.length : Int) - 1) (by omega) (by omega), w64 (by omega) (by omega)]; omega
    have hg := h.get (l.length - 1 - i) (by omega)
    rw [if_neg (by omega), e, if_pos (by omega), if_pos (by omega), rd_lt _ _ (by omega), dif_pos hlt, w64 (by omega) (by omega)]
  · rw [if_pos (by omega), dif_neg hlt]
/-- The last i bytes. -/
def low (l : List Int) (i : Nat) : Int := bI (l.drop (l.length - i))
theorem low_zero (l : List Int) : low l 0 = 0 := by simp [low, bI_nil]
theorem low_all (l : List Int) (i : Nat) (h : l.length ≤ i) : low l i = bI l := by
  unfold low; rw [show l.length - i = 0 by omega, List.drop_zero]
theorem low_succ (l : List Int) (hb : IsB l) (i : Nat) : low l (i + 1) = low l i + W8 i * atv l i := by
  unfold low atv
  by_cases h : i < l.length
  · rw [dif_pos h, show l.length - (i + 1) = l.length - 1 - i by omega, List.drop_eq_getElem_cons (by omega : l.length - 1 - i < l.length), bI_cons _ _ (hb.get _ (by omega)).1,
      show l.length - 1 - i + 1 = l.length - i by omega, show (l.drop (l.length - i)).length = i by rw [List.length_drop]; omega]
    grind
  · rw [dif_neg h, show l.length - (i + 1) = l.length - i by omega]; grind
theorem bI_rev_snoc (l : List Int) (v : Int) (h0 : 0 ≤ v) : bI (l ++ [v]).reverse = bI l.reverse + W8 l.length * v := by
  rw [List.reverse_append, List.reverse_singleton, List.singleton_append, bI_cons _ _ h0, List.length_reverse]; grind
theorem turned_loop (l : List Int) (hl : l.length ≤ 1000000) : ∀ (d : Nat) (out : List Int), d ≤ l.length → out = (l.drop d).reverse →
    Ev (fun k => lapidaryref02_turned.l0 k l out ((d : Int) - 1)) l.reverse := by
  intro d
  induction d with
  | zero =>
    intro out hd ho
    refine Ev.step (f := fun _ => some l.reverse) (fun k => ?_) (Ev.now _)
    simp only [lapidaryref02_turned.l0]
    rw [if_neg (by omega), ho, List.drop_zero]
  | succ d ih =>
    intro out hd ho
    have hlt : d < l.length := by omega
    have hol : out.length = l.length - (d + 1) := by rw [ho, List.length_reverse, List.length_drop]
    have h := ih (out ++ [l[d]]) (by omega) (by rw [ho, List.drop_eq_getElem_cons hlt, List.reverse_cons])
    refine Ev.step (fun k => ?_) h
    simp only [lapidaryref02_turned.l0]
    rw [show ((d + 1 : Nat) : Int) - 1 = (d : Int) by omega, if_pos (by omega), if_pos (by omega), if_pos (by omega), if_pos (by omega), rd_lt _ _ hlt, w64 (by omega) (by omega)]
theorem turned_ev (l : List Int) (hl : l.length ≤ 1000000) : Ev (fun k => lapidaryref02_turned.f k l) l.reverse := by
  have := turned_loop l hl l.length [] (Nat.le_refl _) (by simp)
  unfold lapidaryref02_turned.f
  rw [w64 (by omega) (by omega)]
  exact this
theorem sum_step {O P L1 L2 c a b v q : Int} (h : v + 256 * q = c + a + b) (he : O + P * c = L1 + L2) : (O + P * v) + (P * 256) * q = (L1 + P * a) + (L2 + P * b) := by grind
theorem sum_loop (a b : List Int) (ha : IsB a) (hb : IsB b) (hla : a.length ≤ 900000) (hlb : b.length ≤ 900000) :
    ∀ (d i : Nat) (out : List Int) (c : Int), d + i = max a.length b.length + 1 → out.length = i → IsB out → 0 ≤ c → c ≤ 1 → (d = 0 → c = 0) → bI out.reverse + W8 i * c = low a i + low b i →
      ∃ r : List Int, IsB r ∧ bI r = bI a + bI b ∧ r.length ≤ max a.length b.length + 1 ∧ Ev (fun k => lapidaryref02_sum.l0 k a b out c (i : Int)) r := by
  intro d
  induction d with
  | zero =>
    intro i out c hd ho hw h0 h1 hz he
    have hc := hz rfl
    subst hc
    refine ⟨out.reverse, hw.reverse, ?_, by rw [List.length_reverse]; omega, ?_⟩
    · rw [low_all a i (by omega), low_all b i (by omega)] at he; simpa using he
    · refine Ev.step (f := fun k => lapidaryref02_sum.j1 k a b out 0 (i : Int) false) (fun k => ?_) (Ev.step (f := fun k => (lapidaryref02_turned.f k out).bind fun t => some t) (fun k => ?_) (Ev.bind (turned_ev out (by omega)) (Ev.now _)))
      · simp only [lapidaryref02_sum.l0]
        rw [if_neg (by omega), if_neg (by omega)]; rfl
      · simp only [lapidaryref02_sum.j1]
        rw [if_neg (by simp)]
  | succ d ih =>
    intro i out c hd ho hw h0 h1 hz he
    have hA := atv_range ha i
    have hB := atv_range hb i
    by_cases hstop : a.length ≤ i ∧ b.length ≤ i ∧ c = 0
    · obtain ⟨h2, h3, rfl⟩ := hstop
      refine ⟨out.reverse, hw.reverse, ?_, by rw [List.length_reverse]; omega, ?_⟩
      · rw [low_all a i (by omega), low_all b i (by omega)] at he; simpa using he
      · refine Ev.step (f := fun k => lapidaryref02_sum.j1 k a b out 0 (i : Int) false) (fun k => ?_) (Ev.step (f := fun k => (lapidaryref02_turned.f k out).bind fun t => some t) (fun k => ?_) (Ev.bind (turned_ev out (by omega)) (Ev.now _)))
        · simp only [lapidaryref02_sum.l0]
          rw [if_neg (by omega), if_neg (by omega)]; rfl
        · simp only [lapidaryref02_sum.j1]
          rw [if_neg (by simp)]
    · have hlow1 := low_succ a ha i
      have hlow2 := low_succ b hb i
      obtain ⟨r, h2, h3, h4, h5⟩ := ih (i + 1) (out ++ [(c + atv a i + atv b i) % 256]) ((c + atv a i + atv b i) / 256) (by omega) (by simp [ho]) (hw.append (IsB.cons (by omega) (by omega) IsB.nil)) (by omega) (by omega)
        (by
          intro hd0
          have e1 : a.length ≤ i := by omega
          have e2 : b.length ≤ i := by omega
          have z1 : atv a i = 0 := by unfold atv; rw [dif_neg (by omega)]
          have z2 : atv b i = 0 := by unfold atv; rw [dif_neg (by omega)]
          rw [z1, z2]; omega)
        (by rw [bI_rev_snoc _ _ (by omega), ho, W8_succ, hlow1, hlow2]; exact sum_step (by omega) he)
      refine ⟨r, h2, h3, h4, ?_⟩
      refine Ev.step (f := fun k => lapidaryref02_sum.j1 k a b out c (i : Int) true) (fun k => ?_) (Ev.step (fun k => ?_) h5)
      · simp only [lapidaryref02_sum.l0]
        by_cases e1 : (i : Int) < a.length
        · rw [if_pos e1]
        · rw [if_neg e1]
          by_cases e2 : (i : Int) < b.length
          · rw [if_pos e2]
          · rw [if_neg e2, show decide (c > 0) = true from by simp only [decide_eq_true_eq]; omega]
      · simp only [lapidaryref02_sum.j1]
        have hw : wrap64 (wrap64 (c + atv a i) + atv b i) = c + atv a i + atv b i := by rw [w64 (x := c + atv a i) (by omega) (by omega), w64 (by omega) (by omega)]
        rw [if_pos trivial, at_eq a ha (by omega) i (by omega), Option.bind_some, at_eq b hb (by omega) i (by omega), Option.bind_some, if_pos (by omega), hw, w64s i (by omega), Int.tmod_eq_emod_of_nonneg (by omega), Int.tdiv_eq_ediv_of_nonneg (by omega), w64 (by omega) (by omega), Int.emod_emod_of_dvd _ (by decide)]
theorem bI_bval {a : List Int} {n : Nat} (h : bI a = (n : Int)) : bval a = n := by rw [bI_eq] at h; omega
theorem sum_ev (a b : List Int) (ha : IsB a) (hb : IsB b) (hla : a.length ≤ 900000) (hlb : b.length ≤ 900000) :
    ∃ r : List Int, IsB r ∧ bI r = bI a + bI b ∧ r.length ≤ max a.length b.length + 1 ∧ Ev (fun k => lapidaryref02_sum.f k a b) r :=
  sum_loop a b ha hb hla hlb (max a.length b.length + 1) 0 [] 0 (by omega) rfl IsB.nil (by omega) (by omega) (fun _ => rfl) (by rw [low_zero, low_zero]; simp [bI_nil])

theorem rtimes_step {O P c a m v q T L : Int} (h : v + 256 * q = c + a * m) (he : O + P * T * c = P * m * L) : (O + P * T * v) + (P * (T * 256)) * q = P * m * (L + T * a) := by grind
theorem byte_mul {a b : Int} (h0 : 0 ≤ a) (h1 : a < 256) (k0 : 0 ≤ b) (k1 : b < 256) : 0 ≤ a * b ∧ a * b ≤ 65025 := by
  have h2 : 0 ≤ a * b := Int.mul_nonneg h0 k0
  have h3 : a * b ≤ 255 * 255 := Int.mul_le_mul (by omega) (by omega) k0 (by decide)
  omega
theorem rtimes_loop (a : List Int) (m : Int) (n : Nat) (ha : IsB a) (hla : a.length ≤ 400000) (hn : n ≤ 400000) (m0 : 0 ≤ m) (m1 : m < 256) :
    ∀ (d i : Nat) (out : List Int) (c : Int), d + i = a.length + 1 → out.length = n + i → IsB out → 0 ≤ c → c < 256 → (d = 0 → c = 0) → bI out.reverse + W8 n * W8 i * c = W8 n * m * low a i →
      ∃ r : List Int, IsB r ∧ bI r = W8 n * m * bI a ∧ r.length ≤ n + a.length + 1 ∧ Ev (fun k => lapidaryref02_times.l0 k a m out c (i : Int)) r := by
  intro d
  induction d with
  | zero =>
    intro i out c hd ho hw h0 h1 hz he
    have hc := hz rfl
    subst hc
    refine ⟨out.reverse, hw.reverse, ?_, by rw [List.length_reverse]; omega, ?_⟩
    · rw [low_all a i (by omega)] at he; simpa using he
    · refine Ev.step (f := fun k => (lapidaryref02_turned.f k out).bind fun t => some t) (fun k => ?_) (Ev.bind (turned_ev out (by omega)) (Ev.now _))
      simp only [lapidaryref02_times.l0]
      rw [if_neg (by omega), if_neg (by omega)]
  | succ d ih =>
    intro i out c hd ho hw h0 h1 hz he
    have hA := atv_range ha i
    by_cases hstop : a.length ≤ i ∧ c = 0
    · obtain ⟨h2, rfl⟩ := hstop
      refine ⟨out.reverse, hw.reverse, ?_, by rw [List.length_reverse]; omega, ?_⟩
      · rw [low_all a i (by omega)] at he; simpa using he
      · refine Ev.step (f := fun k => (lapidaryref02_turned.f k out).bind fun t => some t) (fun k => ?_) (Ev.bind (turned_ev out (by omega)) (Ev.now _))
        simp only [lapidaryref02_times.l0]
        rw [if_neg (by omega), if_neg (by omega)]
    · have hlow1 := low_succ a ha i
      have hm := byte_mul hA.1 hA.2 m0 m1
      obtain ⟨r, h2, h3, h4, h5⟩ := ih (i + 1) (out ++ [(c + atv a i * m) % 256]) ((c + atv a i * m) / 256) (by omega) (by simp [ho]; omega) (hw.append (IsB.cons (by omega) (by omega) IsB.nil)) (by omega) (by omega)
        (by
          intro hd0
          have e1 : a.length ≤ i := by omega
          have z1 : atv a i = 0 := by unfold atv; rw [dif_neg (by omega)]
          rw [z1]; omega)
        (by rw [bI_rev_snoc _ _ (by omega), ho, W8_succ, W8_add, hlow1]; exact rtimes_step (by omega) he)
      refine ⟨r, h2, h3, h4, ?_⟩
      have hw : wrap64 (c + wrap64 (atv a i * m)) = c + atv a i * m := by rw [w64 (x := atv a i * m) (by omega) (by omega), w64 (by omega) (by omega)]
      refine Ev.step (fun k => ?_) h5
      simp only [lapidaryref02_times.l0]
      by_cases e1 : (i : Int) < a.length
      · rw [if_pos e1, at_eq a ha (by omega) i (by omega), Option.bind_some, if_pos (by omega), hw, w64s i (by omega), Int.tmod_eq_emod_of_nonneg (by omega), Int.tdiv_eq_ediv_of_nonneg (by omega), w64 (by omega) (by omega), Int.emod_emod_of_dvd _ (by decide)]
      · rw [if_neg e1, if_pos (by omega), at_eq a ha (by omega) i (by omega), Option.bind_some, if_pos (by omega), hw, w64s i (by omega), Int.tmod_eq_emod_of_nonneg (by omega), Int.tdiv_eq_ediv_of_nonneg (by omega), w64 (by omega) (by omega), Int.emod_emod_of_dvd _ (by decide)]
theorem IsB.replicate (n : Nat) : IsB (List.replicate n 0) := fun y hy => by rw [List.eq_of_mem_replicate hy]; omega
theorem bI_replicate (n : Nat) : bI (List.replicate n 0) = 0 := by
  induction n with
  | zero => exact bI_nil
  | succ n ih => rw [List.replicate_succ, bI_cons _ _ (by omega), ih]; omega
theorem rtimes_ev (a : List Int) (m : Int) (n : Nat) (ha : IsB a) (hla : a.length ≤ 400000) (hn : n ≤ 400000) (m0 : 0 ≤ m) (m1 : m < 256) :
    ∃ r : List Int, IsB r ∧ bI r = W8 n * m * bI a ∧ r.length ≤ n + a.length + 1 ∧ Ev (fun k => lapidaryref02_times.f k a m (n : Int)) r := by
  obtain ⟨r, h1, h2, h3, h4⟩ := rtimes_loop a m n ha hla hn m0 m1 (a.length + 1) 0 (List.replicate n 0) 0 (by omega) (by simp) (IsB.replicate n) (by omega) (by omega) (fun _ => rfl) (by rw [low_zero]; simp [bI_replicate])
  refine ⟨r, h1, h2, h3, Ev.congr (fun k => ?_) h4⟩
  unfold lapidaryref02_times.f
  rw [if_pos (by omega), if_pos (by omega), Int.toNat_natCast]; rfl
theorem rmade_eq (neg : Bool) (l : List Int) (h : IsB l) (hl : l.length ≤ 1000000) : lapidaryref02_made.f neg l = some (mk neg (bval l)) := by
  unfold lapidaryref02_made.f mk
  rw [if_pos (by omega), strip_bytes l h]
  have : (!(bytesN (bval l)).isEmpty) = decide (bval l ≠ 0) := by
    have := bytesN_nil_iff (bval l)
    rw [Bool.eq_iff_iff]; simp [this]
  rw [this]
theorem rfits_eq (neg : Bool) (l : List Int) (h : IsB l) (hl : l.length ≤ 1000000) : lapidaryref02_fits.f neg l = some (fit neg (bval l)) := by
  unfold lapidaryref02_fits.f
  rw [rmade_eq neg l h hl, Option.bind_some]
  show (if ((bytesN (bval l)).length : Int) > 128 then some (false, ([] : List Int), (24 : Int)) else some ((mk neg (bval l)).1, (mk neg (bval l)).2, (0 : Int))) = some (fit neg (bval l))
  unfold fit
  by_cases hb : (bytesN (bval l)).length > 128
  · rw [if_pos (by omega), if_pos hb]
  · rw [if_neg (by omega), if_neg hb]
theorem rmul_step {O X L P T a t : Int} (h1 : O = X * L) (h2 : t = P * a * X) : O + t = X * (L + P * a) := by grind
theorem rmul_loop (xn yn : Bool) (x y : List Int) (hx : IsB x) (hy : IsB y) (hlx : x.length ≤ 128) (hly : y.length ≤ 128) :
    ∀ (d i : Nat) (out : List Int), d + i = y.length → IsB out → out.length ≤ x.length + 2 * i + 1 → bI out = bI x * low y i →
      Ev (fun k => lapidaryref02_Mul.l0 k out (i : Int) xn x yn y) (fit (xn != yn) (bval x * bval y)) := by
  intro d
  induction d with
  | zero =>
    intro i out hd hw hl he
    obtain rfl : i = y.length := by omega
    have hv : bval out = bval x * bval y := by
      rw [low_all y _ (Nat.le_refl _), bI_eq x, bI_eq y, ← Int.natCast_mul] at he
      exact bI_bval he
    refine Ev.step (f := fun _ => some (fit (xn != yn) (bval x * bval y))) (fun k => ?_) (Ev.now _)
    simp only [lapidaryref02_Mul.l0]
    rw [if_neg (by omega), rfits_eq _ _ hw (by omega), hv]; rfl
  | succ d ih =>
    intro i out hd hw hl he
    have hA := atv_range hy i
    obtain ⟨t, t1, t2, t3, t4⟩ := rtimes_ev x (atv y i) i hx (by omega) (by omega) hA.1 hA.2
    obtain ⟨s, s1, s2, s3, s4⟩ := sum_ev out t hw t1 (by omega) (by omega)
    have h := ih (i + 1) s (by omega) s1 (by omega) (by rw [s2, low_succ y hy i]; exact rmul_step (T := 0) he t2)
    refine Ev.step (f := fun k => (lapidaryref02_times.f k x (atv y i) (i : Int)).bind fun t549 => (lapidaryref02_sum.f k out t549).bind fun t552 => lapidaryref02_Mul.l0 k t552 ((i + 1 : Nat) : Int) xn x yn y) (fun k => ?_) (Ev.bind t4 (Ev.bind s4 h))
    simp only [lapidaryref02_Mul.l0]
    rw [if_pos (by omega), at_eq y hy (by omega) i (by omega), Option.bind_some, w64s i (by omega)]
/-- The answer to two numbers of which one cannot be. -/
def bad : Bool × List Int × Int := (false, [], 1)
def mulS (xn : Bool) (x : List Int) (yn : Bool) (y : List Int) : Bool × List Int × Int := if okN xn x && okN yn y then fit (xn != yn) (bval x * bval y) else bad
theorem rmul_ev (xn yn : Bool) (x y : List Int) (hx : IsB x) (hy : IsB y) : Ev (fun k => lapidaryref02_Mul.f k xn x yn y) (mulS xn x yn y) := by
  unfold mulS
  by_cases h1 : okN xn x = true
  · by_cases h2 : okN yn y = true
    · rw [h1, h2]
      have c1 := okN_can hx h1
      have c2 := okN_can hy h2
      have h := rmul_loop xn yn x y hx hy c1.2 c2.2 y.length 0 [] (by omega) IsB.nil (by simp) (by rw [low_zero]; simp [bI_nil])
      refine Ev.congr (f := fun k => lapidaryref02_Mul.j0 k false xn x yn y) (fun k => ?_) (Ev.step (fun k => ?_) h)
      · unfold lapidaryref02_Mul.f
        rw [rright_eq, h1, Option.bind_some, if_pos rfl, rright_eq, h2]; rfl
      · simp only [lapidaryref02_Mul.j0]; rfl
    · have h2 : okN yn y = false := by simpa using h2
      rw [h1, h2]
      refine Ev.congr (f := fun k => lapidaryref02_Mul.j0 k true xn x yn y) (fun k => ?_) (Ev.step (f := fun _ => some bad) (fun k => ?_) (Ev.now _))
      · unfold lapidaryref02_Mul.f
        rw [rright_eq, h1, Option.bind_some, if_pos rfl, rright_eq, h2]; rfl
      · simp only [lapidaryref02_Mul.j0]; rfl
  · have h1 : okN xn x = false := by simpa using h1
    rw [h1]
    refine Ev.congr (f := fun k => lapidaryref02_Mul.j0 k true xn x yn y) (fun k => ?_) (Ev.step (f := fun _ => some bad) (fun k => ?_) (Ev.now _))
    · unfold lapidaryref02_Mul.f
      rw [rright_eq, h1, Option.bind_some, if_neg (by simp)]
    · simp only [lapidaryref02_Mul.j0]; rfl
theorem wordsN_len (n k : Nat) (h : n < 256 ^ (4 * k)) : (wordsN n).length ≤ k := by
  rw [wordsN_length_le]
  have : (256 : Nat) ^ (4 * k) = 4294967296 ^ k := by rw [Nat.pow_mul]
  omega
theorem words_of {xn : Bool} {x : List Int} (hx : IsB x) (h : okN xn x = true) : (wordsN (bval x)).length ≤ 32 ∧ Ev (fun k => whole_wordsOf.f k x) (wordsN (bval x)) := by
  have c := okN_can hx h
  exact ⟨wordsN_len _ 32 (bval_small hx (by omega)), wordsOf_ev x c.1 (by omega)⟩
theorem mul_ev (xn yn : Bool) (x y : List Int) (hx : IsB x) (hy : IsB y) : Ev (fun k => whole_Mul.f k xn x yn y) (mulS xn x yn y) := by
  unfold mulS
  by_cases h1 : okN xn x = true
  · by_cases h2 : okN yn y = true
    · rw [h1, h2]
      obtain ⟨l1, w1⟩ := words_of hx h1
      obtain ⟨l2, w2⟩ := words_of hy h2
      have ht := times_ev (wordsN (bval x)) (wordsN (bval y)) (isW_wordsN _) (isW_wordsN _) (by omega) (by omega)
      rw [wval_wordsN, wval_wordsN] at ht
      have hlt : (wordsN (bval x * bval y)).length ≤ 64 := by
        refine wordsN_len _ 64 ?_
        have a1 := bval_small hx (n := 128) (okN_can hx h1).2
        have a2 := bval_small hy (n := 128) (okN_can hy h2).2
        have : (256 : Nat) ^ (4 * 64) = 256 ^ 128 * 256 ^ 128 := by rw [← Nat.pow_add]
        rw [this]
        exact Nat.mul_lt_mul'' a1 a2
      have hf := fits_ev (xn != yn) (wordsN (bval x * bval y)) (isW_wordsN _) (by omega)
      rw [wval_wordsN] at hf
      rw [Bool.and_self, if_pos rfl]
      refine Ev.congr (f := fun k => whole_Mul.j0 k false xn x yn y) (fun k => ?_) (Ev.step (f := fun k => (whole_wordsOf.f k x).bind fun t509 => (whole_wordsOf.f k y).bind fun t512 => (whole_times.f k t509 t512).bind fun t515 => (whole_fits.f k (xn != yn) t515).bind fun bt => some (bt.1, bt.2.1, bt.2.2)) (fun k => ?_) (Ev.bind w1 (Ev.bind w2 (Ev.bind ht (Ev.bind hf (Ev.now _))))))
      · unfold whole_Mul.f
        rw [right_eq, h1, Option.bind_some, if_pos rfl, right_eq, h2]; rfl
      · simp only [whole_Mul.j0]; rfl
    · have h2 : okN yn y = false := by simpa using h2
      rw [h1, h2]
      refine Ev.congr (f := fun k => whole_Mul.j0 k true xn x yn y) (fun k => ?_) (Ev.step (f := fun _ => some bad) (fun k => ?_) (Ev.now _))
      · unfold whole_Mul.f
        rw [right_eq, h1, Option.bind_some, if_pos rfl, right_eq, h2]; rfl
      · simp only [whole_Mul.j0]; rfl
  · have h1 : okN xn x = false := by simpa using h1
    rw [h1]
    refine Ev.congr (f := fun k => whole_Mul.j0 k true xn x yn y) (fun k => ?_) (Ev.step (f := fun _ => some bad) (fun k => ?_) (Ev.now _))
    · unfold whole_Mul.f
      rw [right_eq, h1, Option.bind_some, if_neg (by simp)]
    · simp only [whole_Mul.j0]; rfl
theorem fit_len (neg : Bool) (n : Nat) : (fit neg n).2.1.length ≤ 140737488355328 := by
  unfold fit mk
  split
  · simp
  · rename_i h; simp only; omega
theorem mulS_len (xn yn : Bool) (x y : List Int) : (mulS xn x yn y).2.1.length ≤ 140737488355328 := by
  unfold mulS
  split
  · exact fit_len _ _
  · simp [bad]
/-- The plain law of WholeMuls. -/
theorem muls_plain (xn yn : Bool) (x y : List Int) (hx : IsB x) (hy : IsB y) : ∃ (k1 k2 : Nat) (zn : Bool) (lz : List Int) (er : Int), whole_Mul.f k1 xn x yn y = some (zn, lz, er) ∧ lapidaryref02_Mul.f k2 xn x yn y = some (zn, lz, er) ∧ lz.length ≤ 140737488355328 := by
  obtain ⟨k1, h1⟩ := (mul_ev xn yn x y hx hy).rounds
  obtain ⟨k2, h2⟩ := (rmul_ev xn yn x y hx hy).rounds
  exact ⟨k1, k2, _, _, _, h1, h2, mulS_len xn yn x y⟩

end Go.Proofs.Ytfjbhccapgnkiaa.P
