import Derived.Test.YtfjbhccapgnkiaaU1r
import Derived.Test.YtfjbhccapgnkiaaC1b
namespace Go.Proofs.Ytfjbhccapgnkiaa.P
open Go.RowKit Go.Proofs.YtfjbhccapgnkiaaW.PrintWords Go.Proofs.YtfjbhccapgnkiaaW.PrintLast Go.Proofs.YtfjbhccapgnkiaaW.PrintMore
attribute [local go_sem] max2_int min2_int max_two min_two max_three min_three max_four min_four
set_option linter.unusedVariables false
set_option linter.unusedSimpArgs false

open Lap

theorem less_step {O P A B c a b v q : Int} (h : v - 256 * q = a - b - c) (he : O - P * c = A - B) : (O + P * v) - (P * 256) * q = (A + P * a) - (B + P * b) := by grind
theorem less_loop (a b : List Int) (ha : IsB a) (hb : IsB b) (hla : a.length ≤ 900000) (hlb : b.length ≤ a.length) (hle : bval b ≤ bval a) :
    ∀ (d i : Nat) (out : List Int) (c : Int), d + i = a.length → out.length = i → IsB out → 0 ≤ c → c ≤ 1 → bI out.reverse - W8 i * c = low a i - low b i →
      ∃ r : List Int, IsB r ∧ bI r = bI a - bI b ∧ r.length ≤ a.length ∧ Ev (fun k => lapidaryref02_less.l0 k a b out c (i : Int)) r := by
  intro d
  induction d with
  | zero =>
    intro i out c hd ho hw h0 h1 he
    obtain rfl : i = a.length := by omega
    refine ⟨out.reverse, hw.reverse, ?_, by rw [List.length_reverse]; omega, ?_⟩
    · rw [low_all a _ (Nat.le_refl _), low_all b _ hlb] at he
      have hr := bI_lt hw.reverse
      rw [List.length_reverse, ho] at hr
      have hc : c = 0 := by
        rcases (by omega : c = 0 ∨ c = 1) with e | e
        · exact e
        · subst e
          rw [bI_eq a, bI_eq b] at he
          omega
      subst hc
      simpa using he
    · refine Ev.step (f := fun k => (lapidaryref02_turned.f k out).bind fun t => some t) (fun k => ?_) (Ev.bind (turned_ev out (by omega)) (Ev.now _))
      simp only [lapidaryref02_less.l0]
      rw [if_neg (by omega)]
  | succ d ih =>
    intro i out c hd ho hw h0 h1 he
    have hA := atv_range ha i
    have hB := atv_range hb i
    have hl1 := low_succ a ha i
    have hl2 := low_succ b hb i
    have hw1 : wrap64 (wrap64 (atv a i - atv b i) - c) = atv a i - atv b i - c := by rw [w64 (x := atv a i - atv b i) (by omega) (by omega), w64 (by omega) (by omega)]
    by_cases hn : atv a i - atv b i - c < 0
    · obtain ⟨r, h2, h3, h4, h5⟩ := ih (i + 1) (out ++ [atv a i - atv b i - c + 256]) 1 (by omega) (by simp [ho]) (hw.append (IsB.cons (by omega) (by omega) IsB.nil)) (by omega) (by omega)
        (by rw [bI_rev_snoc _ _ (by omega), ho, W8_succ, hl1, hl2]; exact less_step (by omega) he)
      refine ⟨r, h2, h3, h4, Ev.step (fun k => ?_) h5⟩
      simp only [lapidaryref02_less.l0]
      rw [if_pos (by omega), at_eq a ha (by omega) i (by omega), Option.bind_some, at_eq b hb (by omega) i (by omega), Option.bind_some, hw1, if_pos hn, if_pos (by omega), w64s i (by omega), w64 (x := atv a i - atv b i - c + 256) (by omega) (by omega), Int.emod_eq_of_lt (by omega) (by omega)]
    · obtain ⟨r, h2, h3, h4, h5⟩ := ih (i + 1) (out ++ [atv a i - atv b i - c]) 0 (by omega) (by simp [ho]) (hw.append (IsB.cons (by omega) (by omega) IsB.nil)) (by omega) (by omega)
        (by rw [bI_rev_snoc _ _ (by omega), ho, W8_succ, hl1, hl2]; exact less_step (by omega) he)
      refine ⟨r, h2, h3, h4, Ev.step (fun k => ?_) h5⟩
      simp only [lapidaryref02_less.l0]
      rw [if_pos (by omega), at_eq a ha (by omega) i (by omega), Option.bind_some, at_eq b hb (by omega) i (by omega), Option.bind_some, hw1, if_neg hn, if_pos (by omega), w64s i (by omega), Int.emod_eq_of_lt (by omega) (by omega)]
theorem less_ev (a b : List Int) (ha : IsB a) (hb : IsB b) (hla : a.length ≤ 900000) (hlb : b.length ≤ a.length) (hle : bval b ≤ bval a) :
    ∃ r : List Int, IsB r ∧ bval r = bval a - bval b ∧ r.length ≤ a.length ∧ Ev (fun k => lapidaryref02_less.f k a b) r := by
  obtain ⟨r, h1, h2, h3, h4⟩ := less_loop a b ha hb hla hlb hle a.length 0 [] 0 (by omega) rfl IsB.nil (by omega) (by omega) (by rw [low_zero, low_zero]; simp [bI_nil])
  refine ⟨r, h1, ?_, h3, h4⟩
  rw [bI_eq, bI_eq, bI_eq] at h2
  omega
theorem bval_len_lt {a b : List Int} (ha : IsB a) (hb : CanB b) (hl : a.length < b.length) : bval a < bval b := by
  cases b with
  | nil => simp at hl
  | cons x r =>
    have hx : x ≠ 0 := fun e => hb.2 (by simp [e])
    have h1 := bval_ge hb.1 hx
    have h2 := bval_small ha (n := r.length) (by simp at hl; omega)
    omega
theorem lex_lt {a b : List Int} (ha : IsB a) (hb : IsB b) (hl : a.length = b.length) (i : Nat) (hi : i < a.length) (ht : a.take i = b.take i) (hlt : a[i] < b[i]'(by omega)) : bval a < bval b := by
  have ea : a = a.take i ++ a[i] :: a.drop (i + 1) := by rw [← List.drop_eq_getElem_cons hi, List.take_append_drop]
  have eb : b = b.take i ++ b[i]'(by omega) :: b.drop (i + 1) := by rw [← List.drop_eq_getElem_cons (by omega : i < b.length), List.take_append_drop]
  have va : bI a = bI (a.take i ++ a[i] :: a.drop (i + 1)) := by rw [← ea]
  have vb : bI b = bI (b.take i ++ b[i]'(by omega) :: b.drop (i + 1)) := by rw [← eb]
  rw [bI_append, bI_cons _ _ (ha.get i hi).1] at va
  rw [bI_append, bI_cons _ _ (hb.get i (by omega)).1, ← ht] at vb
  have la : (a[i] :: a.drop (i + 1)).length = (b[i]'(by omega) :: b.drop (i + 1)).length := by simp; omega
  have lb : (a.drop (i + 1)).length = (b.drop (i + 1)).length := by simp; omega
  rw [la, lb] at va
  have ra := bI_lt (ha.drop (i + 1))
  rw [lb] at ra
  have rb := bI_nonneg (b.drop (i + 1))
  have hm : (a[i] + 1) * W8 (b.drop (i + 1)).length ≤ (b[i]'(by omega)) * W8 (b.drop (i + 1)).length := Int.mul_le_mul_of_nonneg_right (by omega) (Int.le_of_lt (W8_pos _))
  rw [Int.add_mul, Int.one_mul] at hm
  have : bI a < bI b := by rw [va, vb]; omega
  rw [bI_eq, bI_eq] at this
  omega
theorem cmp_loop (a b : List Int) (ha : IsB a) (hb : IsB b) (hl : a.length = b.length) (hla : a.length ≤ 900000) :
    ∀ (d i : Nat), d + i = a.length → a.take i = b.take i → ∃ c : Int, ((c < 0 ↔ bval a < bval b) ∧ (0 < c ↔ bval b < bval a) ∧ -256 < c ∧ c < 256) ∧ Ev (fun k => lapidaryref02_cmp.l0 k a b (i : Int)) c := by
  intro d
  induction d with
  | zero =>
    intro i hd ht
    obtain rfl : i = a.length := by omega
    have hab : a = b := by rw [List.take_length] at ht; rw [ht, hl, List.take_length]
    refine ⟨0, by rw [hab]; omega, Ev.step (f := fun _ => some 0) (fun k => ?_) (Ev.now _)⟩
    simp only [lapidaryref02_cmp.l0]
    rw [if_neg (by omega)]
  | succ d ih =>
    intro i hd ht
    have hi : i < a.length := by omega
    have hib : i < b.length := by omega
    have hA := ha.get i hi
    have hB := hb.get i hib
    by_cases he : a[i] = b[i]
    · obtain ⟨c, h1, h2⟩ := ih (i + 1) (by omega) (by rw [take_succ_get a i hi, take_succ_get b i hib, ht, he])
      refine ⟨c, h1, Ev.step (fun k => ?_) h2⟩
      simp only [lapidaryref02_cmp.l0]
      rw [if_pos (by omega), if_pos (by omega), if_pos (by omega), rd_lt _ _ hi, rd_lt _ _ hib, if_pos he, w64s i (by omega)]
    · refine ⟨a[i] - b[i], ?_, Ev.step (f := fun _ => some (a[i] - b[i])) (fun k => ?_) (Ev.now _)⟩
      · rcases Int.lt_or_gt_of_ne he with hlt | hgt
        · have := lex_lt ha hb hl i hi ht hlt
          omega
        · have := lex_lt hb ha hl.symm i hib ht.symm hgt
          omega
      · simp only [lapidaryref02_cmp.l0]
        rw [if_pos (by omega), if_pos (by omega), if_pos (by omega), rd_lt _ _ hi, rd_lt _ _ hib, if_neg he, w64 (x := a[i]) (by omega) (by omega), w64 (x := b[i]) (by omega) (by omega), w64 (by omega) (by omega)]
theorem cmp_ev (a b : List Int) (ha : CanB a) (hb : CanB b) (hla : a.length ≤ 900000) (hlb : b.length ≤ 900000) :
    ∃ c : Int, ((c < 0 ↔ bval a < bval b) ∧ (0 < c ↔ bval b < bval a) ∧ -1000000 < c ∧ c < 1000000) ∧ Ev (fun k => lapidaryref02_cmp.f k a b) c := by
  by_cases hl : a.length = b.length
  · obtain ⟨c, h1, h2⟩ := cmp_loop a b ha.1 hb.1 hl hla a.length 0 (by omega) rfl
    refine ⟨c, by omega, Ev.congr (fun k => ?_) h2⟩
    unfold lapidaryref02_cmp.f
    rw [if_pos (by omega)]; rfl
  · refine ⟨(a.length : Int) - b.length, ?_, Ev.congr (f := fun _ => some ((a.length : Int) - b.length)) (fun k => ?_) (Ev.now _)⟩
    · rcases Nat.lt_or_gt_of_ne hl with hlt | hgt
      · have := bval_len_lt ha.1 hb hlt; omega
      · have := bval_len_lt hb.1 ha hgt; omega
    · unfold lapidaryref02_cmp.f
      rw [if_neg (by omega), w64 (by omega) (by omega)]

end Go.Proofs.Ytfjbhccapgnkiaa.P
