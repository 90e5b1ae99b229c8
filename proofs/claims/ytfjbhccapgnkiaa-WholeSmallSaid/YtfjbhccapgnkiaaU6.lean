import Derived.Test.YtfjbhccapgnkiaaU1r
import Derived.Test.YtfjbhccapgnkiaaB7
import Derived.Test.YtfjbhccapgnkiaaC6
namespace Go.Proofs.Ytfjbhccapgnkiaa.P
open Go.RowKit Go.Proofs.YtfjbhccapgnkiaaW.PrintWords Go.Proofs.YtfjbhccapgnkiaaW.PrintLast Go.Proofs.YtfjbhccapgnkiaaW.PrintMore
attribute [local go_sem] max2_int min2_int max_two min_two max_three min_three max_four min_four
set_option linter.unusedVariables false
set_option linter.unusedSimpArgs false

open Lap

theorem bval_len_lt {a b : List Int} (ha : IsB a) (hb : CanB b) (hl : a.length < b.length) : bval a < bval b := by
  cases b with
  | nil => simp at hl
  | cons x r =>
    have hx : x ≠ 0 := fun e => hb.2 (by simp [e])
    have h1 := bval_ge hb.1 hx
    have h2 := bval_small ha (n := r.length) (by simp at hl; omega)
    omega
theorem lex_lt {a b : List Int} (ha : IsB a) (hb : IsB b) (hl : a.length = b.length) (i : Nat) (hi : i < a.length) (ht : a.take i = b.take i) (hlt : a[i] < b[i]'(by omega)) : bval a < bval b := by
  have ea : a = a.take i ++ a[i] :: a.drop (i + 1) := by rw [← List.drop_eq_getElem_cons hi, List.take_append_drop]
  have eb : b = b.take i ++ b[i]'(by omega) :: b.drop (i + 1) := by rw [← List.drop_eq_getElem_cons (by omega : i < b.length), List.take_append_drop]
  have va : bI a = bI (a.take i ++ a[i] :: a.drop (i + 1)) := by rw [← ea]
  have vb : bI b = bI (b.take i ++ b[i]'(by omega) :: b.drop (i + 1)) := by rw [← eb]
  rw [bI_append, bI_cons _ _ (ha.get i hi).1] at va
  rw [bI_append, bI_cons _ _ (hb.get i (by omega)).1, ← ht] at vb
  have la : (a[i] :: a.drop (i + 1)).length = (b[i]'(by omega) :: b.drop (i + 1)).length := by simp; omega
  have lb : (a.drop (i + 1)).length = (b.drop (i + 1)).length := by simp; omega
  rw [la, lb] at va
  have ra := bI_lt (ha.drop (i + 1))
  rw [lb] at ra
  have rb := bI_nonneg (b.drop (i + 1))
  have hm : (a[i] + 1) * W8 (b.drop (i + 1)).length ≤ (b[i]'(by omega)) * W8 (b.drop (i + 1)).length := Int.mul_le_mul_of_nonneg_right (by omega) (Int.le_of_lt (W8_pos _))
  rw [Int.add_mul, Int.one_mul] at hm
  have : bI a < bI b := by rw [va, vb]; omega
  rw [bI_eq, bI_eq] at this
  omega
theorem cmp_loop (a b : List Int) (ha : IsB a) (hb : IsB b) (hl : a.length = b.length) (hla : a.length ≤ 900000) :
    ∀ (d i : Nat), d + i = a.length → a.take i = b.take i → ∃ c : Int, ((c < 0 ↔ bval a < bval b) ∧ (0 < c ↔ bval b < bval a) ∧ -256 < c ∧ c < 256) ∧ Ev (fun k => lapidaryref02_cmp.l0 k a b (i : Int)) c := by
  intro d
  induction d with
  | zero =>
    intro i hd ht
    obtain rfl : i = a.length := by omega
    have hab : a = b := by rw [List.take_length] at ht; rw [ht, hl, List.take_length]
    refine ⟨0, by rw [hab]; omega, Ev.step (f := fun _ => some 0) (fun k => ?_) (Ev.now _)⟩
    simp only [lapidaryref02_cmp.l0]
    rw [if_neg (by omega)]
  | succ d ih =>
    intro i hd ht
    have hi : i < a.length := by omega
    have hib : i < b.length := by omega
    have hA := ha.get i hi
    have hB := hb.get i hib
    by_cases he : a[i] = b[i]
    · obtain ⟨c, h1, h2⟩ := ih (i + 1) (by omega) (by rw [take_succ_get a i hi, take_succ_get b i hib, ht, he])
      refine ⟨c, h1, Ev.step (fun k => ?_) h2⟩
      simp only [lapidaryref02_cmp.l0]
      rw [if_pos (by omega), if_pos (by omega), if_pos (by omega), rd_lt _ _ hi, rd_lt _ _ hib, if_pos he, w64s i (by omega)]
    · refine ⟨a[i] - b[i], ?_, Ev.step (f := fun _ => some (a[i] - b[i])) (fun k => ?_) (Ev.now _)⟩
      · rcases Int.lt_or_gt_of_ne he with hlt | hgt
        · have := lex_lt ha hb hl i hi ht hlt
          omega
        · have := lex_lt hb ha hl.symm i hib ht.symm hgt
          omega
      · simp only [lapidaryref02_cmp.l0]
        rw [if_pos (by omega), if_pos (by omega), if_pos (by omega), rd_lt _ _ hi, rd_lt _ _ hib, if_neg he, w64 (x := a[i]) (by omega) (by omega), w64 (x := b[i]) (by omega) (by omega), w64 (by omega) (by omega)]
theorem cmp_ev (a b : List Int) (ha : CanB a) (hb : CanB b) (hla : a.length ≤ 900000) (hlb : b.length ≤ 900000) :
    ∃ c : Int, ((c < 0 ↔ bval a < bval b) ∧ (0 < c ↔ bval b < bval a) ∧ -1000000 < c ∧ c < 1000000) ∧ Ev (fun k => lapidaryref02_cmp.f k a b) c := by
  by_cases hl : a.length = b.length
  · obtain ⟨c, h1, h2⟩ := cmp_loop a b ha.1 hb.1 hl hla a.length 0 (by omega) rfl
    refine ⟨c, by omega, Ev.congr (fun k => ?_) h2⟩
    unfold lapidaryref02_cmp.f
    rw [if_pos (by omega)]; rfl
  · refine ⟨(a.length : Int) - b.length, ?_, Ev.congr (f := fun _ => some ((a.length : Int) - b.length)) (fun k => ?_) (Ev.now _)⟩
    · rcases Nat.lt_or_gt_of_ne hl with hlt | hgt
      · have := bval_len_lt ha.1 hb hlt; omega
      · have := bval_len_lt hb.1 ha hgt; omega
    · unfold lapidaryref02_cmp.f
      rw [if_neg (by omega), w64 (by omega) (by omega)]

/-- 2 to a small power. -/
@[irreducible] def P2 (m : Nat) : Int := ((2 ^ m : Nat) : Int)
theorem P2_eq (m : Nat) : P2 m = ((2 ^ m : Nat) : Int) := by unfold P2; rfl
theorem P2_succ (m : Nat) : P2 (m + 1) = P2 m * 2 := by rw [P2_eq, P2_eq, Nat.pow_succ, Int.natCast_mul]; rfl
theorem P2_pos (m : Nat) : 0 < P2 m := by rw [P2_eq]; have : 0 < 2 ^ m := Nat.pow_pos (by decide); omega
/-- A sign and a size below 2^64 as a small number. -/
def smallV (neg : Bool) (u : Int) : Int × Bool :=
  if neg = true then (if u > 9223372036854775808 then (0, false) else (-u, true)) else (if u ≥ 9223372036854775808 then (0, false) else (u, true))
def smallS (neg : Bool) (l : List Int) : Int × Bool := if (okN neg l && decide (l.length ≤ 8)) = true then smallV neg (bI l) else (0, false)
theorem small_fin (neg : Bool) (u : Int) (h0 : 0 ≤ u) (h1 : u < 18446744073709551616) :
    (if neg = true then (if u = 0 then (some (wrap64 (-(wrap64 (u))), true)) else (if (wrap64 (-(wrap64 (u)))) = 0 then (some (0, false)) else (if ((decide ((wrap64 (-(wrap64 (u)))) < 0)) != neg) = true then (some (0, false)) else (some (wrap64 (-(wrap64 (u))), true))))) else (if u = 0 then (some (wrap64 (u), true)) else (if (wrap64 (u)) = 0 then (some (0, false)) else (if ((decide ((wrap64 (u)) < 0)) != neg) = true then (some (0, false)) else (some (wrap64 (u), true)))))) = some (smallV neg u) := by
  cases neg
  · have e2 : smallV false u = if u ≥ 9223372036854775808 then (0, false) else (u, true) := rfl
    rw [if_neg Bool.false_ne_true, e2]
    by_cases hz : u = 0
    · subst hz; rw [if_pos rfl, if_neg (by omega), w64 (by omega) (by omega)]
    · rw [if_neg hz]
      by_cases hb : u ≥ 9223372036854775808
      · have e : wrap64 u = u - 18446744073709551616 := by unfold wrap64; omega
        have hd : decide (u - 18446744073709551616 < 0) = true := decide_eq_true (by omega)
        rw [if_pos hb, e, if_neg (by omega), hd, if_pos (by decide)]
      · have e : wrap64 u = u := w64 (by omega) (by omega)
        have hd : decide (u < 0) = false := decide_eq_false (by omega)
        rw [if_neg hb, e, if_neg hz, hd, if_neg (by decide)]
  · have e2 : smallV true u = if u > 9223372036854775808 then (0, false) else (-u, true) := rfl
    rw [if_pos rfl, e2]
    by_cases hz : u = 0
    · subst hz; rw [if_pos rfl, if_neg (by omega), w64 (x := 0) (by omega) (by omega), w64 (by omega) (by omega)]
    · rw [if_neg hz]
      by_cases hb : u > 9223372036854775808
      · have e : wrap64 (-(wrap64 u)) = 18446744073709551616 - u := by unfold wrap64; omega
        have hd : decide (18446744073709551616 - u < 0) = false := decide_eq_false (by omega)
        rw [if_pos hb, e, if_neg (by omega), hd, if_pos (by decide)]
      · have e : wrap64 (-(wrap64 u)) = -u := by unfold wrap64; omega
        have hd : decide (-u < 0) = true := decide_eq_true (by omega)
        rw [if_neg hb, e, if_neg (by omega), hd, if_neg (by decide)]
theorem rsmall_fin (neg : Bool) (u : Int) (h0 : 0 ≤ u) (h1 : u < 18446744073709551616) :
    (if neg = true then (if u > 9223372036854775808 then (some (0, false)) else (some (wrap64 (IntKind.u64.wrap (-u)), true))) else (if u ≥ 9223372036854775808 then (some (0, false)) else (some (wrap64 (u), true)))) = some (smallV neg u) := by
  cases neg
  · have e2 : smallV false u = if u ≥ 9223372036854775808 then (0, false) else (u, true) := rfl
    rw [if_neg Bool.false_ne_true, e2]
    by_cases hb : u ≥ 9223372036854775808
    · rw [if_pos hb, if_pos hb]
    · rw [if_neg hb, if_neg hb, w64 (by omega) (by omega)]
  · have e2 : smallV true u = if u > 9223372036854775808 then (0, false) else (-u, true) := rfl
    rw [if_pos rfl, e2]
    by_cases hb : u > 9223372036854775808
    · rw [if_pos hb, if_pos hb]
    · have e : wrap64 (IntKind.u64.wrap (-u)) = -u := by rw [u64_mod]; unfold wrap64; omega
      rw [if_neg hb, if_neg hb, e]
theorem small_next (l : List Int) (hb : IsB l) (hl : l.length ≤ 8) (i : Nat) (hi : i < l.length) : Go.bits .or .u64 (IntKind.u64.wrap (bI (l.take i) * 256)) (IntKind.u64.wrap (rd l (i : Int))) = bI (l.take (i + 1)) := by
  have hA := hb.get i hi
  have h0 := bI_nonneg (l.take i)
  have h1 : bI (l.take i) < 72057594037927936 := by
    rw [bI_eq]
    have := bval_small (hb.take i) (n := 7) (by rw [List.length_take]; omega)
    have e : (256 : Nat) ^ 7 = 72057594037927936 := by decide
    omega
  rw [bI_take_succ l i hi hA.1, rd_lt _ _ hi, u64 (by omega) (by omega), u64 (by omega) (by omega), or64_8 h0 h1 hA.1 hA.2]
theorem bI_64 {l : List Int} (hb : IsB l) (hl : l.length ≤ 8) : 0 ≤ bI l ∧ bI l < 18446744073709551616 := by
  refine ⟨bI_nonneg l, ?_⟩
  rw [bI_eq]
  have := bval_small hb (n := 8) hl
  have e : (256 : Nat) ^ 8 = 18446744073709551616 := by decide
  omega
theorem small_loop (neg : Bool) (l : List Int) (hb : IsB l) (hl : l.length ≤ 8) : ∀ (d i : Nat), d + i = l.length → Ev (fun k => whole_Small.l0 k (bI (l.take i)) l (l.length : Int) (i : Int) neg l) (smallV neg (bI l)) := by
  intro d
  induction d with
  | zero =>
    intro i hd
    obtain rfl : i = l.length := by omega
    rw [List.take_length]
    obtain ⟨h0, h1⟩ := bI_64 hb hl
    refine Ev.step (f := fun _ => some (smallV neg (bI l))) (fun k => ?_) (Ev.now _)
    rw [← small_fin neg _ h0 h1]
    simp only [whole_Small.l0]
    rw [if_neg (by omega)]
  | succ d ih =>
    intro i hd
    have hi : i < l.length := by omega
    refine Ev.step (fun k => ?_) (ih (i + 1) (by omega))
    simp only [whole_Small.l0]
    rw [if_pos (by omega), if_pos (by omega), if_pos (by omega), small_next l hb hl i hi, w64s i (by omega)]
theorem rsmall_loop (neg : Bool) (l : List Int) (hb : IsB l) (hl : l.length ≤ 8) : ∀ (d i : Nat), d + i = l.length → Ev (fun k => lapidaryref02_Small.l0 k (bI (l.take i)) (i : Int) neg l) (smallV neg (bI l)) := by
  intro d
  induction d with
  | zero =>
    intro i hd
    obtain rfl : i = l.length := by omega
    rw [List.take_length]
    obtain ⟨h0, h1⟩ := bI_64 hb hl
    refine Ev.step (f := fun _ => some (smallV neg (bI l))) (fun k => ?_) (Ev.now _)
    rw [← rsmall_fin neg _ h0 h1]
    simp only [lapidaryref02_Small.l0]
    rw [if_neg (by omega)]
  | succ d ih =>
    intro i hd
    have hi : i < l.length := by omega
    refine Ev.step (fun k => ?_) (ih (i + 1) (by omega))
    simp only [lapidaryref02_Small.l0]
    rw [if_pos (by omega), if_pos (by omega), small_next l hb hl i hi, w64s i (by omega)]
theorem small_ev (neg : Bool) (l : List Int) (hb : IsB l) : Ev (fun k => whole_Small.f k neg l) (smallS neg l) := by
  unfold smallS
  by_cases h1 : okN neg l = true
  · by_cases h2 : l.length ≤ 8
    · rw [if_pos (by rw [h1]; simpa using h2)]
      have h := small_loop neg l hb h2 l.length 0 (by omega)
      rw [List.take_zero, bI_nil] at h
      refine Ev.congr (f := fun k => whole_Small.j0 k false neg l) (fun k => ?_) (Ev.step (fun k => ?_) h)
      · unfold whole_Small.f
        rw [right_eq, h1, Option.bind_some, if_pos rfl, show decide ((l.length : Int) > 8) = false by simp; omega]
      · simp only [whole_Small.j0]; rfl
    · rw [if_neg (by rw [h1]; simpa using h2)]
      refine Ev.congr (f := fun k => whole_Small.j0 k true neg l) (fun k => ?_) (Ev.step (f := fun _ => some (0, false)) (fun k => ?_) (Ev.now _))
      · unfold whole_Small.f
        rw [right_eq, h1, Option.bind_some, if_pos rfl, show decide ((l.length : Int) > 8) = true by simp; omega]
      · simp only [whole_Small.j0]; rfl
  · have h1 : okN neg l = false := by simpa using h1
    rw [if_neg (by rw [h1]; simp)]
    refine Ev.congr (f := fun k => whole_Small.j0 k true neg l) (fun k => ?_) (Ev.step (f := fun _ => some (0, false)) (fun k => ?_) (Ev.now _))
    · unfold whole_Small.f
      rw [right_eq, h1, Option.bind_some, if_neg (by simp)]
    · simp only [whole_Small.j0]; rfl
theorem rsmall_ev (neg : Bool) (l : List Int) (hb : IsB l) : Ev (fun k => lapidaryref02_Small.f k neg l) (smallS neg l) := by
  unfold smallS
  by_cases h1 : okN neg l = true
  · by_cases h2 : l.length ≤ 8
    · rw [if_pos (by rw [h1]; simpa using h2)]
      have h := rsmall_loop neg l hb h2 l.length 0 (by omega)
      rw [List.take_zero, bI_nil] at h
      refine Ev.congr (f := fun k => lapidaryref02_Small.j0 k false neg l) (fun k => ?_) (Ev.step (fun k => ?_) h)
      · unfold lapidaryref02_Small.f
        rw [rright_eq, h1, Option.bind_some, if_pos rfl, show decide ((l.length : Int) > 8) = false by simp; omega]
      · simp only [lapidaryref02_Small.j0]; rfl
    · rw [if_neg (by rw [h1]; simpa using h2)]
      refine Ev.congr (f := fun k => lapidaryref02_Small.j0 k true neg l) (fun k => ?_) (Ev.step (f := fun _ => some (0, false)) (fun k => ?_) (Ev.now _))
      · unfold lapidaryref02_Small.f
        rw [rright_eq, h1, Option.bind_some, if_pos rfl, show decide ((l.length : Int) > 8) = true by simp; omega]
      · simp only [lapidaryref02_Small.j0]; rfl
  · have h1 : okN neg l = false := by simpa using h1
    rw [if_neg (by rw [h1]; simp)]
    refine Ev.congr (f := fun k => lapidaryref02_Small.j0 k true neg l) (fun k => ?_) (Ev.step (f := fun _ => some (0, false)) (fun k => ?_) (Ev.now _))
    · unfold lapidaryref02_Small.f
      rw [rright_eq, h1, Option.bind_some, if_neg (by simp)]
    · simp only [lapidaryref02_Small.j0]; rfl
/-- A small number as one of any size. -/
def ofS (n : Int) : Bool × List Int := mk (decide (n < 0)) n.natAbs
theorem of_neg (n : Int) (h0 : -9223372036854775808 ≤ n) (h : n < 0) : IntKind.u64.wrap (-(IntKind.u64.wrap n)) = (n.natAbs : Int) := by
  rw [u64_mod, u64_mod]; omega
theorem of_pos (n : Int) (h0 : 0 ≤ n) (h : n < 9223372036854775808) : IntKind.u64.wrap n = (n.natAbs : Int) := by
  rw [u64_mod]; omega
theorem two_words (u : Nat) (h : u < 18446744073709551616) : IsW [(u : Int) % 4294967296, ((u : Int) / 4294967296) % 4294967296] ∧ wval [(u : Int) % 4294967296, ((u : Int) / 4294967296) % 4294967296] = u := by
  refine ⟨IsW.cons (by omega) (by omega) (IsW.cons (by omega) (by omega) IsW.nil), ?_⟩
  simp only [wval]; omega
theorem of_ev (n : Int) (h0 : -9223372036854775808 ≤ n) (h1 : n < 9223372036854775808) : Ev (fun k => whole_Of.f k n) (ofS n) := by
  obtain ⟨hw, hv⟩ := two_words n.natAbs (by omega)
  have hm := made_ev (decide (n < 0)) _ hw (by simp)
  rw [hv] at hm
  by_cases hn : n < 0
  · refine Ev.congr (f := fun k => (whole_made.f k (decide (n < 0)) [(n.natAbs : Int) % 4294967296, ((n.natAbs : Int) / 4294967296) % 4294967296]).bind fun bt => some (bt.1, bt.2)) (fun k => ?_) (Ev.bind hm (Ev.now _))
    unfold whole_Of.f
    rw [if_pos hn, of_neg n h0 hn]
  · refine Ev.congr (f := fun k => (whole_made.f k (decide (n < 0)) [(n.natAbs : Int) % 4294967296, ((n.natAbs : Int) / 4294967296) % 4294967296]).bind fun bt => some (bt.1, bt.2)) (fun k => ?_) (Ev.bind hm (Ev.now _))
    unfold whole_Of.f
    rw [if_neg hn, of_pos n (by omega) h1]
theorem shr64 (x : Int) (m : Nat) (hm : m < 64) : shr .u64 x (m : Int) = x / P2 m := by
  unfold shr
  rw [Int.toNat_natCast, show IntKind.u64.bits = 64 from rfl, Nat.min_eq_left (by omega), P2_eq]
  norm_cast
theorem P2_sum (m n : Nat) : P2 (m + n) = P2 m * P2 n := by rw [P2_eq, P2_eq, P2_eq, Nat.pow_add, Int.natCast_mul]
theorem P2_8 : P2 8 = 256 := by rw [P2_eq]; decide
theorem P2_64 : P2 64 = 18446744073709551616 := by rw [P2_eq]; decide
theorem rof_loop (n : Int) (u : Nat) (hu : u < 18446744073709551616) : ∀ (d : Nat) (out : List Int), d ≤ 8 → out.length + d = 8 → IsB out → bI out = (u : Int) / P2 (8 * d) →
    Ev (fun k => lapidaryref02_Of.l0 k n (u : Int) out ((d : Int) - 1)) (mk (decide (n < 0)) u) := by
  intro d
  induction d with
  | zero =>
    intro out hd hl hb he
    have hv : bval out = u := by
      have : P2 (8 * 0) = 1 := by rw [P2_eq]; decide
      rw [this, Int.ediv_one] at he
      exact bI_bval he
    refine Ev.step (f := fun _ => some (mk (decide (n < 0)) u)) (fun k => ?_) (Ev.now _)
    simp only [lapidaryref02_Of.l0]
    rw [if_neg (by omega), rmade_eq _ out hb (by omega), hv]; rfl
  | succ d ih =>
    intro out hd hl hb he
    have hx : ((d + 1 : Nat) : Int) - 1 = (d : Int) := by omega
    have hsh : IntKind.u64.wrap (wrap64 (8 * (d : Int))) = ((8 * d : Nat) : Int) := by
      rw [w64 (by omega) (by omega), u64 (by omega) (by omega)]; omega
    have hp := P2_pos (8 * d)
    have hq : (u : Int) / P2 (8 * (d + 1)) = (u : Int) / P2 (8 * d) / 256 := by
      rw [show 8 * (d + 1) = 8 * d + 8 by omega, P2_sum, P2_8, Int.ediv_ediv_of_nonneg (by omega)]
    have h := ih (out ++ [(u : Int) / P2 (8 * d) % 256]) (by omega) (by simp; omega) (hb.append (IsB.cons (by omega) (by omega) IsB.nil)) (by
      rw [bI_snoc _ _ (by omega), he, hq]; omega)
    rw [hx]
    refine Ev.step (fun k => ?_) h
    simp only [lapidaryref02_Of.l0]
    rw [if_pos (by omega), hsh, if_pos (by omega), if_pos (by omega), shr64 _ _ (by omega), w64 (x := (d : Int) - 1) (by omega) (by omega)]
theorem rof_ev (n : Int) (h0 : -9223372036854775808 ≤ n) (h1 : n < 9223372036854775808) : Ev (fun k => lapidaryref02_Of.f k n) (ofS n) := by
  have hz : ((n.natAbs : Nat) : Int) / P2 (8 * 8) = 0 := by
    rw [show 8 * 8 = 64 from rfl, P2_64]; omega
  have h := rof_loop n n.natAbs (by omega) 8 [] (by omega) (by simp) IsB.nil (by rw [bI_nil, hz])
  have hs : Ev (fun k => lapidaryref02_Of.j0 k n (n.natAbs : Int)) (ofS n) := Ev.step (fun k => by simp only [lapidaryref02_Of.j0]; rfl) h
  by_cases hn : n < 0
  · refine Ev.congr (fun k => ?_) hs
    unfold lapidaryref02_Of.f
    rw [if_pos hn, of_neg n h0 hn]
  · refine Ev.congr (fun k => ?_) hs
    unfold lapidaryref02_Of.f
    rw [if_neg hn, of_pos n (by omega) h1]
theorem okN_mk (neg : Bool) (n : Nat) (h : (bytesN n).length ≤ 128) : okN (mk neg n).1 (mk neg n).2 = true := by
  unfold mk okN
  by_cases hz : n = 0
  · subst hz; simp [bytesN_zero]
  · have hne : bytesN n ≠ [] := fun e => hz ((bytesN_nil_iff n).1 e)
    have hc := (canB_bytesN n).2
    simp only [if_neg hne]
    simp [hc, h]
theorem small_back (n : Int) (h0 : -9223372036854775808 ≤ n) (h1 : n < 9223372036854775808) : smallS (ofS n).1 (ofS n).2 = (n, true) := by
  have hl : (bytesN n.natAbs).length ≤ 8 := by
    rw [bytesN_length_lt]
    have e : (256 : Nat) ^ 8 = 18446744073709551616 := by decide
    omega
  unfold smallS ofS
  rw [okN_mk _ _ (by omega)]
  have e : bI (mk (decide (n < 0)) n.natAbs).2 = (n.natAbs : Int) := by unfold mk; rw [bI_eq, bval_bytesN]
  rw [if_pos (by simpa [mk] using hl), e]
  unfold smallV mk
  by_cases hn : n < 0
  · rw [if_pos (by simp; omega), if_neg (by omega)]; congr 1; omega
  · rw [if_neg (by simp; omega), if_neg (by omega)]; congr 1; omega
/-- Which is the lesser one. -/
def cmpV (xn : Bool) (a : Nat) (yn : Bool) (b : Nat) : Int := if (xn == yn) = true then (if xn = true then -cmpN a b else cmpN a b) else if xn = true then -1 else 1
def cmpS (xn : Bool) (x : List Int) (yn : Bool) (y : List Int) : Int := if (okN xn x && okN yn y) = true then cmpV xn (bval x) yn (bval y) else 0
theorem cmpN_range (a b : Nat) : -1 ≤ cmpN a b ∧ cmpN a b ≤ 1 := by unfold cmpN; split; omega; split <;> omega
theorem cmp2_ev (xn yn : Bool) (x y : List Int) (hx : IsB x) (hy : IsB y) : Ev (fun k => whole_Cmp.f k xn x yn y) (cmpS xn x yn y) := by
  unfold cmpS
  by_cases h1 : okN xn x = true
  · by_cases h2 : okN yn y = true
    · rw [if_pos (by rw [h1, h2]; rfl)]
      refine Ev.congr (f := fun k => whole_Cmp.j0 k false xn x yn y) (fun k => ?_) ?_
      · unfold whole_Cmp.f
        rw [right_eq, h1, Option.bind_some, if_pos rfl, right_eq, h2]; rfl
      · unfold cmpV
        by_cases he : (xn == yn) = true
        · rw [if_pos he]
          obtain ⟨l1, w1⟩ := words_of hx h1
          obtain ⟨l2, w2⟩ := words_of hy h2
          have ho := order_ev (wordsN (bval x)) (wordsN (bval y)) (canW_wordsN _) (canW_wordsN _) (by omega) (by omega)
          rw [wval_wordsN, wval_wordsN] at ho
          have hr := cmpN_range (bval x) (bval y)
          refine Ev.step (f := fun k => (whole_wordsOf.f k x).bind fun t677 => ((whole_wordsOf.f k y).bind fun t680 => ((whole_order.f k t677 t680).bind fun t683 => (if xn = true then (some (wrap64 (-t683))) else (some t683))))) (fun k => ?_) (Ev.bind w1 (Ev.bind w2 (Ev.bind ho (Ev.congr (f := fun _ => some (if xn = true then -cmpN (bval x) (bval y) else cmpN (bval x) (bval y))) (fun k => ?_) (Ev.now _)))))
          · simp only [whole_Cmp.j0]
            rw [if_neg (by simp), if_pos he]
          · rw [w64 (by omega) (by omega)]; split <;> rfl
        · rw [if_neg he]
          refine Ev.step (f := fun _ => some (if xn = true then -1 else 1)) (fun k => ?_) (Ev.now _)
          simp only [whole_Cmp.j0]
          rw [if_neg (by simp), if_neg he]; split <;> rfl
    · have h2 : okN yn y = false := by simpa using h2
      rw [if_neg (by rw [h1, h2]; simp)]
      refine Ev.congr (f := fun k => whole_Cmp.j0 k true xn x yn y) (fun k => ?_) (Ev.step (f := fun _ => some 0) (fun k => ?_) (Ev.now _))
      · unfold whole_Cmp.f
        rw [right_eq, h1, Option.bind_some, if_pos rfl, right_eq, h2]; rfl
      · simp only [whole_Cmp.j0]; rfl
  · have h1 : okN xn x = false := by simpa using h1
    rw [if_neg (by rw [h1]; simp)]
    refine Ev.congr (f := fun k => whole_Cmp.j0 k true xn x yn y) (fun k => ?_) (Ev.step (f := fun _ => some 0) (fun k => ?_) (Ev.now _))
    · unfold whole_Cmp.f
      rw [right_eq, h1, Option.bind_some, if_neg (by simp)]
    · simp only [whole_Cmp.j0]; rfl
def sgn (c : Int) : Int := if c < 0 then -1 else if c > 0 then 1 else 0
theorem j2_ev (c : Int) : Ev (fun k => lapidaryref02_Cmp.j2 k c) (sgn c) := by
  refine Ev.step (f := fun _ => some (sgn c)) (fun k => ?_) (Ev.now _)
  simp only [lapidaryref02_Cmp.j2]
  unfold sgn; split; rfl; split <;> rfl
theorem j1_ev (c : Int) (h0 : -1000000 < c) (h1 : c < 1000000) (xn : Bool) (x : List Int) : Ev (fun k => lapidaryref02_Cmp.j1 k c xn x) (sgn (if xn = true then -c else c)) := by
  cases xn
  · rw [if_neg (by simp)]
    refine Ev.step (fun k => ?_) (j2_ev c)
    simp only [lapidaryref02_Cmp.j1]; rw [if_neg (by simp)]
  · rw [if_pos rfl]
    refine Ev.step (fun k => ?_) (j2_ev (-c))
    simp only [lapidaryref02_Cmp.j1]; rw [if_pos trivial, w64 (by omega) (by omega)]
theorem rcmp2_ev (xn yn : Bool) (x y : List Int) (hx : IsB x) (hy : IsB y) : Ev (fun k => lapidaryref02_Cmp.f k xn x yn y) (cmpS xn x yn y) := by
  unfold cmpS
  by_cases h1 : okN xn x = true
  · by_cases h2 : okN yn y = true
    · rw [if_pos (by rw [h1, h2]; rfl)]
      have c1 := okN_can hx h1
      have c2 := okN_can hy h2
      obtain ⟨c, ⟨q1, q2, q3, q4⟩, q5⟩ := cmp_ev x y c1.1 c2.1 (by omega) (by omega)
      refine Ev.congr (f := fun k => lapidaryref02_Cmp.j0 k false xn x yn y) (fun k => ?_) (Ev.step (f := fun k => (lapidaryref02_cmp.f k x y).bind fun t688 => (if (xn != yn) = true then (lapidaryref02_Cmp.j1 k 1 xn x) else (lapidaryref02_Cmp.j1 k t688 xn x))) (fun k => ?_) (Ev.bind q5 ?_))
      · unfold lapidaryref02_Cmp.f
        rw [rright_eq, h1, Option.bind_some, if_pos rfl, rright_eq, h2]; rfl
      · simp only [lapidaryref02_Cmp.j0]; rfl
      · unfold cmpV
        by_cases he : (xn == yn) = true
        · have hne : ¬ (xn != yn) = true := by simpa [bne] using he
          rw [if_pos he]
          have h := j1_ev c q3 q4 xn x
          have e : sgn (if xn = true then -c else c) = (if xn = true then -cmpN (bval x) (bval y) else cmpN (bval x) (bval y)) := by
            unfold sgn cmpN
            cases xn
            · simp only [Bool.false_eq_true, if_false]
              by_cases a1 : bval x < bval y
              · rw [if_pos (by omega), if_pos a1]
              · by_cases a2 : bval y < bval x
                · rw [if_neg (by omega), if_pos (by omega), if_neg a1, if_pos a2]
                · rw [if_neg (by omega), if_neg (by omega), if_neg a1, if_neg a2]
            · simp only [if_true]
              by_cases a1 : bval x < bval y
              · rw [if_neg (by omega), if_pos (by omega), if_pos a1]; rfl
              · by_cases a2 : bval y < bval x
                · rw [if_pos (by omega), if_neg a1, if_pos a2]
                · rw [if_neg (by omega), if_neg (by omega), if_neg a1, if_neg a2]; rfl
          rw [e] at h
          exact Ev.congr (fun k => if_neg hne) h
        · have hne : (xn != yn) = true := by simpa [bne] using he
          rw [if_neg he]
          have h := j1_ev 1 (by omega) (by omega) xn x
          have e : sgn (if xn = true then -1 else 1) = (if xn = true then -1 else 1) := by unfold sgn; cases xn <;> rfl
          rw [e] at h
          exact Ev.congr (fun k => if_pos hne) h
    · have h2 : okN yn y = false := by simpa using h2
      rw [if_neg (by rw [h1, h2]; simp)]
      refine Ev.congr (f := fun k => lapidaryref02_Cmp.j0 k true xn x yn y) (fun k => ?_) (Ev.step (f := fun _ => some 0) (fun k => ?_) (Ev.now _))
      · unfold lapidaryref02_Cmp.f
        rw [rright_eq, h1, Option.bind_some, if_pos rfl, rright_eq, h2]; rfl
      · simp only [lapidaryref02_Cmp.j0]; rfl
  · have h1 : okN xn x = false := by simpa using h1
    rw [if_neg (by rw [h1]; simp)]
    refine Ev.congr (f := fun k => lapidaryref02_Cmp.j0 k true xn x yn y) (fun k => ?_) (Ev.step (f := fun _ => some 0) (fun k => ?_) (Ev.now _))
    · unfold lapidaryref02_Cmp.f
      rw [rright_eq, h1, Option.bind_some, if_neg (by simp)]
    · simp only [lapidaryref02_Cmp.j0]; rfl
/-- The plain law of WholeSmall. -/
theorem small_plain (n : Int) (h0 : -9223372036854775808 ≤ n) (h1 : n < 9223372036854775808) (xn yn : Bool) (x y : List Int) (hx : IsB x) (hy : IsB y) : ∃ (k1 k2 k3 k4 k5 k6 k7 : Nat) (zn : Bool) (lz : List Int) (sv : Int) (sb : Bool) (rb : Bool) (cv : Int),
    whole_Small.f k1 xn x = some (sv, sb) ∧ lapidaryref02_Small.f k2 xn x = some (sv, sb) ∧ whole_Of.f k3 n = some (zn, lz) ∧ lapidaryref02_Of.f k4 n = some (zn, lz) ∧ lz.length ≤ 140737488355328 ∧
    whole_Right.f xn x = some rb ∧ lapidaryref02_Right.f xn x = some rb ∧ whole_Cmp.f k5 xn x yn y = some cv ∧ lapidaryref02_Cmp.f k6 xn x yn y = some cv ∧ whole_Small.f k7 zn lz = some (n, true) := by
  obtain ⟨k1, e1⟩ := (small_ev xn x hx).rounds
  obtain ⟨k2, e2⟩ := (rsmall_ev xn x hx).rounds
  obtain ⟨k3, e3⟩ := (of_ev n h0 h1).rounds
  obtain ⟨k4, e4⟩ := (rof_ev n h0 h1).rounds
  obtain ⟨k5, e5⟩ := (cmp2_ev xn yn x y hx hy).rounds
  obtain ⟨k6, e6⟩ := (rcmp2_ev xn yn x y hx hy).rounds
  have hs := small_ev (ofS n).1 (ofS n).2 (isB_bytesN _)
  rw [small_back n h0 h1] at hs
  obtain ⟨k7, e7⟩ := hs.rounds
  have hl : (ofS n).2.length ≤ 140737488355328 := by
    have hl : (bytesN n.natAbs).length ≤ 8 := by
      rw [bytesN_length_lt]
      have e : (256 : Nat) ^ 8 = 18446744073709551616 := by decide
      omega
    unfold ofS mk
    simp only; omega
  exact ⟨k1, k2, k3, k4, k5, k6, k7, _, _, _, _, _, _, e1, e2, e3, e4, hl, right_eq xn x, rright_eq xn x, e5, e6, e7⟩

end Go.Proofs.Ytfjbhccapgnkiaa.P
