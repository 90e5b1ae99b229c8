import Derived.Test.YtfjbhccapgnkiaaU1
import Derived.Test.YtfjbhccapgnkiaaC4f
namespace Go.Proofs.Ytfjbhccapgnkiaa.P
open Go.RowKit Go.Proofs.YtfjbhccapgnkiaaW.PrintWords Go.Proofs.YtfjbhccapgnkiaaW.PrintLast Go.Proofs.YtfjbhccapgnkiaaW.PrintMore
attribute [local go_sem] max2_int min2_int max_two min_two max_three min_three max_four min_four
set_option linter.unusedVariables false
set_option linter.unusedSimpArgs false

open Lap


/-- The byte at a place from the last one on. -/
def atv (l : List Int) (i : Nat) : Int := if h : i < l.length then l[l.length - 1 - i] else 0
theorem atv_range {l : List Int} (h : IsB l) (i : Nat) : 0 ≤ atv l i ∧ atv l i < 256 := by
  unfold atv
  split
  · exact h.get _ _
  · omega
theorem at_eq (l : List Int) (h : IsB l) (hl : l.length ≤ 1000000) (i : Nat) (hi : i ≤ 1000000) : lapidaryref02_at.f l (i : Int) = some (atv l i) := by
  unfold lapidaryref02_at.f atv
  by_cases hlt : i < l.length
  · have e : wrap64 (wrap64 ((l.length : Int) - 1) - (i : Int)) = ((l.length - 1 - i : Nat) : Int) := by
      rw [w64 (x := (l.length : Int) - 1) (by omega) (by omega), w64 (by omega) (by omega)]; omega
    have hg := h.get (l.length - 1 - i) (by omega)
    rw [if_neg (by omega), e, if_pos (by omega), if_pos (by omega), rd_lt _ _ (by omega), dif_pos hlt, w64 (by omega) (by omega)]
  · rw [if_pos (by omega), dif_neg hlt]
/-- The last i bytes. -/
def low (l : List Int) (i : Nat) : Int := bI (l.drop (l.length - i))
theorem low_zero (l : List Int) : low l 0 = 0 := by simp [low, bI_nil]
theorem low_all (l : List Int) (i : Nat) (h : l.length ≤ i) : low l i = bI l := by
  unfold low; rw [show l.length - i = 0 by omega, List.drop_zero]
theorem low_succ (l : List Int) (hb : IsB l) (i : Nat) : low l (i + 1) = low l i + W8 i * atv l i := by
  unfold low atv
  by_cases h : i < l.length
  · rw [dif_pos h, show l.length - (i + 1) = l.length - 1 - i by omega, List.drop_eq_getElem_cons (by omega : l.length - 1 - i < l.length), bI_cons _ _ (hb.get _ (by omega)).1,
      show l.length - 1 - i + 1 = l.length - i by omega, show (l.drop (l.length - i)).length = i by rw [List.length_drop]; omega]
    grind
  · rw [dif_neg h, show l.length - (i + 1) = l.length - i by omega]; grind
theorem bI_rev_snoc (l : List Int) (v : Int) (h0 : 0 ≤ v) : bI (l ++ [v]).reverse = bI l.reverse + W8 l.length * v := by
  rw [List.reverse_append, List.reverse_singleton, List.singleton_append, bI_cons _ _ h0, List.length_reverse]; grind
theorem turned_loop (l : List Int) (hl : l.length ≤ 1000000) : ∀ (d : Nat) (out : List Int), d ≤ l.length → out = (l.drop d).reverse →
    Ev (fun k => lapidaryref02_turned.l0 k l out ((d : Int) - 1)) l.reverse := by
  intro d
  induction d with
  | zero =>
    intro out hd ho
    refine Ev.step (f := fun _ => some l.reverse) (fun k => ?_) (Ev.now _)
    simp only [lapidaryref02_turned.l0]
    rw [if_neg (by omega), ho, List.drop_zero]
  | succ d ih =>
    intro out hd ho
    have hlt : d < l.length := by omega
    have hol : out.length = l.length - (d + 1) := by rw [ho, List.length_reverse, List.length_drop]
    have h := ih (out ++ [l[d]]) (by omega) (by rw [ho, List.drop_eq_getElem_cons hlt, List.reverse_cons])
    refine Ev.step (fun k => ?_) h
    simp only [lapidaryref02_turned.l0]
    rw [show ((d + 1 : Nat) : Int) - 1 = (d : Int) by omega, if_pos (by omega), if_pos (by omega), if_pos (by omega), if_pos (by omega), rd_lt _ _ hlt, w64 (by omega) (by omega)]
theorem turned_ev (l : List Int) (hl : l.length ≤ 1000000) : Ev (fun k => lapidaryref02_turned.f k l) l.reverse := by
  have := turned_loop l hl l.length [] (Nat.le_refl _) (by simp)
  unfold lapidaryref02_turned.f
  rw [w64 (by omega) (by omega)]
  exact this
theorem sum_step {O P L1 L2 c a b v q : Int} (h : v + 256 * q = c + a + b) (he : O + P * c = L1 + L2) : (O + P * v) + (P * 256) * q = (L1 + P * a) + (L2 + P * b) := by grind
theorem sum_loop (a b : List Int) (ha : IsB a) (hb : IsB b) (hla : a.length ≤ 900000) (hlb : b.length ≤ 900000) :
    ∀ (d i : Nat) (out : List Int) (c : Int), d + i = max a.length b.length + 1 → out.length = i → IsB out → 0 ≤ c → c ≤ 1 → (d = 0 → c = 0) → bI out.reverse + W8 i * c = low a i + low b i →
      ∃ r : List Int, IsB r ∧ bI r = bI a + bI b ∧ r.length ≤ max a.length b.length + 1 ∧ Ev (fun k => lapidaryref02_sum.l0 k a b out c (i : Int)) r := by
  intro d
  induction d with
  | zero =>
    intro i out c hd ho hw h0 h1 hz he
    have hc := hz rfl
    subst hc
    refine ⟨out.reverse, hw.reverse, ?_, by rw [List.length_reverse]; omega, ?_⟩
    · rw [low_all a i (by omega), low_all b i (by omega)] at he; simpa using he
    · refine Ev.step (f := fun k => lapidaryref02_sum.j1 k a b out 0 (i : Int) false) (fun k => ?_) (Ev.step (f := fun k => (lapidaryref02_turned.f k out).bind fun t => some t) (fun k => ?_) (Ev.bind (turned_ev out (by omega)) (Ev.now _)))
      · simp only [lapidaryref02_sum.l0]
        rw [if_neg (by omega), if_neg (by omega)]; rfl
      · simp only [lapidaryref02_sum.j1]
        rw [if_neg (by simp)]
  | succ d ih =>
    intro i out c hd ho hw h0 h1 hz he
    have hA := atv_range ha i
    have hB := atv_range hb i
    by_cases hstop : a.length ≤ i ∧ b.length ≤ i ∧ c = 0
    · obtain ⟨h2, h3, rfl⟩ := hstop
      refine ⟨out.reverse, hw.reverse, ?_, by rw [List.length_reverse]; omega, ?_⟩
      · rw [low_all a i (by omega), low_all b i (by omega)] at he; simpa using he
      · refine Ev.step (f := fun k => lapidaryref02_sum.j1 k a b out 0 (i : Int) false) (fun k => ?_) (Ev.step (f := fun k => (lapidaryref02_turned.f k out).bind fun t => some t) (fun k => ?_) (Ev.bind (turned_ev out (by omega)) (Ev.now _)))
        · simp only [lapidaryref02_sum.l0]
          rw [if_neg (by omega), if_neg (by omega)]; rfl
        · simp only [lapidaryref02_sum.j1]
          rw [if_neg (by simp)]
    · have hlow1 := low_succ a ha i
      have hlow2 := low_succ b hb i
      obtain ⟨r, h2, h3, h4, h5⟩ := ih (i + 1) (out ++ [(c + atv a i + atv b i) % 256]) ((c + atv a i + atv b i) / 256) (by omega) (by simp [ho]) (hw.append (IsB.cons (by omega) (by omega) IsB.nil)) (by omega) (by omega)
        (by
          intro hd0
          have e1 : a.length ≤ i := by omega
          have e2 : b.length ≤ i := by omega
          have z1 : atv a i = 0 := by unfold atv; rw [dif_neg (by omega)]
          have z2 : atv b i = 0 := by unfold atv; rw [dif_neg (by omega)]
          rw [z1, z2]; omega)
        (by rw [bI_rev_snoc _ _ (by omega), ho, W8_succ, hlow1, hlow2]; exact sum_step (by omega) he)
      refine ⟨r, h2, h3, h4, ?_⟩
      refine Ev.step (f := fun k => lapidaryref02_sum.j1 k a b out c (i : Int) true) (fun k => ?_) (Ev.step (fun k => ?_) h5)
      · simp only [lapidaryref02_sum.l0]
        by_cases e1 : (i : Int) < a.length
        · rw [if_pos e1]
        · rw [if_neg e1]
          by_cases e2 : (i : Int) < b.length
          · rw [if_pos e2]
          · rw [if_neg e2, show decide (c > 0) = true from by simp only [decide_eq_true_eq]; omega]
      · simp only [lapidaryref02_sum.j1]
        have hw : wrap64 (wrap64 (c + atv a i) + atv b i) = c + atv a i + atv b i := by rw [w64 (x := c + atv a i) (by omega) (by omega), w64 (by omega) (by omega)]
        rw [if_pos trivial, at_eq a ha (by omega) i (by omega), Option.bind_some, at_eq b hb (by omega) i (by omega), Option.bind_some, if_pos (by omega), hw, w64s i (by omega), Int.tmod_eq_emod_of_nonneg (by omega), Int.tdiv_eq_ediv_of_nonneg (by omega), w64 (by omega) (by omega), Int.emod_emod_of_dvd _ (by decide)]
theorem bI_bval {a : List Int} {n : Nat} (h : bI a = (n : Int)) : bval a = n := by rw [bI_eq] at h; omega
theorem sum_ev (a b : List Int) (ha : IsB a) (hb : IsB b) (hla : a.length ≤ 900000) (hlb : b.length ≤ 900000) :
    ∃ r : List Int, IsB r ∧ bI r = bI a + bI b ∧ r.length ≤ max a.length b.length + 1 ∧ Ev (fun k => lapidaryref02_sum.f k a b) r :=
  sum_loop a b ha hb hla hlb (max a.length b.length + 1) 0 [] 0 (by omega) rfl IsB.nil (by omega) (by omega) (fun _ => rfl) (by rw [low_zero, low_zero]; simp [bI_nil])

theorem IsB.replicate (n : Nat) : IsB (List.replicate n 0) := fun y hy => by rw [List.eq_of_mem_replicate hy]; omega
theorem bI_replicate (n : Nat) : bI (List.replicate n 0) = 0 := by
  induction n with
  | zero => exact bI_nil
  | succ n ih => rw [List.replicate_succ, bI_cons _ _ (by omega), ih]; omega
theorem rmade_eq (neg : Bool) (l : List Int) (h : IsB l) (hl : l.length ≤ 1000000) : lapidaryref02_made.f neg l = some (mk neg (bval l)) := by
  unfold lapidaryref02_made.f mk
  rw [if_pos (by omega), strip_bytes l h]
  have : (!(bytesN (bval l)).isEmpty) = decide (bval l ≠ 0) := by
    have := bytesN_nil_iff (bval l)
    rw [Bool.eq_iff_iff]; simp [this]
  rw [this]
theorem rfits_eq (neg : Bool) (l : List Int) (h : IsB l) (hl : l.length ≤ 1000000) : lapidaryref02_fits.f neg l = some (fit neg (bval l)) := by
  unfold lapidaryref02_fits.f
  rw [rmade_eq neg l h hl, Option.bind_some]
  show (if ((bytesN (bval l)).length : Int) > 128 then some (false, ([] : List Int), (24 : Int)) else some ((mk neg (bval l)).1, (mk neg (bval l)).2, (0 : Int))) = some (fit neg (bval l))
  unfold fit
  by_cases hb : (bytesN (bval l)).length > 128
  · rw [if_pos (by omega), if_pos hb]
  · rw [if_neg (by omega), if_neg hb]
/-- The answer to two numbers of which one cannot be. -/
def bad : Bool × List Int × Int := (false, [], 1)
theorem wordsN_len (n k : Nat) (h : n < 256 ^ (4 * k)) : (wordsN n).length ≤ k := by
  rw [wordsN_length_le]
  have : (256 : Nat) ^ (4 * k) = 4294967296 ^ k := by rw [Nat.pow_mul]
  omega
theorem words_of {xn : Bool} {x : List Int} (hx : IsB x) (h : okN xn x = true) : (wordsN (bval x)).length ≤ 32 ∧ Ev (fun k => whole_wordsOf.f k x) (wordsN (bval x)) := by
  have c := okN_can hx h
  exact ⟨wordsN_len _ 32 (bval_small hx (by omega)), wordsOf_ev x c.1 (by omega)⟩
theorem fit_len (neg : Bool) (n : Nat) : (fit neg n).2.1.length ≤ 140737488355328 := by
  unfold fit mk
  split
  · simp
  · rename_i h; simp only; omega

end Go.Proofs.Ytfjbhccapgnkiaa.P
