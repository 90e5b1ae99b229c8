import Derived.Test.YtfjbhccapgnkiaaB1
import Derived.Test.YtfjbhccapgnkiaaC1b
import Derived.Test.YtfjbhccapgnkiaaC4t
namespace Go.Proofs.Ytfjbhccapgnkiaa.P
open Go.RowKit Go.Proofs.YtfjbhccapgnkiaaW.PrintWords Go.Proofs.YtfjbhccapgnkiaaW.PrintLast Go.Proofs.YtfjbhccapgnkiaaW.PrintMore
attribute [local go_sem] max2_int min2_int max_two min_two max_three min_three max_four min_four
set_option linter.unusedVariables false
set_option maxHeartbeats 16000000
set_option maxRecDepth 100000
set_option linter.unusedSimpArgs false
namespace Lap
def bval (l : List Int) : Nat := l.foldl (fun a x => a * 256 + x.toNat) 0
def wval : List Int → Nat
 | [] => 0
 | x :: r => x.toNat + 4294967296 * wval r
def IsB (l : List Int) : Prop := ∀ x ∈ l, 0 ≤ x ∧ x < 256
def IsW (l : List Int) : Prop := ∀ x ∈ l, 0 ≤ x ∧ x < 4294967296
/-- The bytes of a number, the lowest first. -/
def leB (n : Nat) : List Int := if h : n = 0 then [] else ((n % 256 : Nat) : Int) :: leB (n / 256)
termination_by n
decreasing_by omega
/-- A number's bytes, the highest first, no noughts ahead. -/
def bytesN (n : Nat) : List Int := (leB n).reverse
def wordsN (n : Nat) : List Int := if h : n = 0 then [] else ((n % 4294967296 : Nat) : Int) :: wordsN (n / 4294967296)
termination_by n
decreasing_by omega
theorem leB_zero : leB 0 = [] := by unfold leB; simp
theorem leB_pos {n : Nat} (h : n ≠ 0) : leB n = ((n % 256 : Nat) : Int) :: leB (n / 256) := by rw [leB]; simp [h]
theorem wordsN_zero : wordsN 0 = [] := by unfold wordsN; simp
theorem wordsN_pos {n : Nat} (h : n ≠ 0) : wordsN n = ((n % 4294967296 : Nat) : Int) :: wordsN (n / 4294967296) := by rw [wordsN]; simp [h]
theorem bytesN_zero : bytesN 0 = [] := by simp [bytesN, leB_zero]
theorem bytesN_pos {n : Nat} (h : n ≠ 0) : bytesN n = bytesN (n / 256) ++ [((n % 256 : Nat) : Int)] := by simp [bytesN, leB_pos h]
theorem bval_nil : bval [] = 0 := rfl
theorem bval_snoc (l : List Int) (x : Int) : bval (l ++ [x]) = bval l * 256 + x.toNat := by simp [bval]
theorem foldl_bval (l : List Int) : ∀ a : Nat, l.foldl (fun a x => a * 256 + x.toNat) a = a * 256 ^ l.length + bval l := by
 induction l with
 | nil => intro a; simp [bval]
 | cons x r ih =>
  intro a
  have h1 := ih (a * 256 + x.toNat)
  have h2 := ih x.toNat
  simp only [List.foldl_cons, List.length_cons, bval] at *
  rw [h1]
  simp only [Nat.zero_mul, Nat.zero_add]
  rw [h2, Nat.pow_succ]
  rw [Nat.add_mul, Nat.mul_assoc, Nat.mul_comm 256]
  omega
theorem bval_cons (x : Int) (r : List Int) : bval (x :: r) = x.toNat * 256 ^ r.length + bval r := by
 have := foldl_bval r (0 * 256 + x.toNat)
 simpa [bval] using this
theorem bval_append (l r : List Int) : bval (l ++ r) = bval l * 256 ^ r.length + bval r := by
 unfold bval; rw [List.foldl_append]; exact foldl_bval r _
theorem IsB.nil : IsB [] := fun _ h => by cases h
theorem IsB.cons {x : Int} {r : List Int} (h0 : 0 ≤ x) (h1 : x < 256) (h : IsB r) : IsB (x :: r) := fun y hy => by
 rcases List.mem_cons.1 hy with rfl | hy
 ·exact ⟨h0, h1⟩
 ·exact h y hy
theorem IsB.append {l r : List Int} (h : IsB l) (k : IsB r) : IsB (l ++ r) := fun y hy => by
 rcases List.mem_append.1 hy with hy | hy
 ·exact h y hy
 ·exact k y hy
theorem IsB.tail {x : Int} {r : List Int} (h : IsB (x :: r)) : IsB r := fun y hy => h y (List.mem_cons_of_mem _ hy)
theorem IsB.head {x : Int} {r : List Int} (h : IsB (x :: r)) : 0 ≤ x ∧ x < 256 := h x List.mem_cons_self
theorem IsB.reverse {l : List Int} (h : IsB l) : IsB l.reverse := fun y hy => h y (List.mem_reverse.1 hy)
theorem IsB.left {l r : List Int} (h : IsB (l ++ r)) : IsB l := fun y hy => h y (List.mem_append.2 (.inl hy))
theorem IsB.right {l r : List Int} (h : IsB (l ++ r)) : IsB r := fun y hy => h y (List.mem_append.2 (.inr hy))
theorem IsB.drop {l : List Int} (h : IsB l) (k : Nat) : IsB (l.drop k) := fun y hy => h y (List.mem_of_mem_drop hy)
theorem IsB.take {l : List Int} (h : IsB l) (k : Nat) : IsB (l.take k) := fun y hy => h y (List.mem_of_mem_take hy)
theorem IsW.nil : IsW [] := fun _ h => by cases h
theorem IsW.cons {x : Int} {r : List Int} (h0 : 0 ≤ x) (h1 : x < 4294967296) (h : IsW r) : IsW (x :: r) := fun y hy => by
 rcases List.mem_cons.1 hy with rfl | hy
 ·exact ⟨h0, h1⟩
 ·exact h y hy
theorem IsW.tail {x : Int} {r : List Int} (h : IsW (x :: r)) : IsW r := fun y hy => h y (List.mem_cons_of_mem _ hy)
theorem IsW.head {x : Int} {r : List Int} (h : IsW (x :: r)) : 0 ≤ x ∧ x < 4294967296 := h x List.mem_cons_self
theorem IsW.append {l r : List Int} (h : IsW l) (k : IsW r) : IsW (l ++ r) := fun y hy => by
 rcases List.mem_append.1 hy with hy | hy
 ·exact h y hy
 ·exact k y hy
theorem IsW.take {l : List Int} (h : IsW l) (k : Nat) : IsW (l.take k) := fun y hy => h y (List.mem_of_mem_take hy)
theorem IsW.left {l r : List Int} (h : IsW (l ++ r)) : IsW l := fun y hy => h y (List.mem_append.2 (.inl hy))
theorem isB_leB (n : Nat) : IsB (leB n) := by
 induction n using Nat.strongRecOn with
 | _ n ih =>
  by_cases h : n = 0
  ·subst h; rw [leB_zero]; exact IsB.nil
  ·rw [leB_pos h]; exact IsB.cons (by omega) (by omega) (ih _ (by omega))
theorem isB_bytesN (n : Nat) : IsB (bytesN n) := (isB_leB n).reverse
theorem isW_wordsN (n : Nat) : IsW (wordsN n) := by
 induction n using Nat.strongRecOn with
 | _ n ih =>
  by_cases h : n = 0
  ·subst h; rw [wordsN_zero]; exact IsW.nil
  ·rw [wordsN_pos h]; exact IsW.cons (by omega) (by omega) (ih _ (by omega))
theorem bval_bytesN (n : Nat) : bval (bytesN n) = n := by
 induction n using Nat.strongRecOn with
 | _ n ih =>
  by_cases h : n = 0
  ·subst h; rw [bytesN_zero]; rfl
  ·rw [bytesN_pos h, bval_snoc, ih _ (by omega)]; omega
theorem wval_wordsN (n : Nat) : wval (wordsN n) = n := by
 induction n using Nat.strongRecOn with
 | _ n ih =>
  by_cases h : n = 0
  ·subst h; rw [wordsN_zero]; rfl
  ·rw [wordsN_pos h, wval, ih _ (by omega)]; omega
theorem bval_lt {l : List Int} (h : IsB l) : bval l < 256 ^ l.length := by
 induction l with
 | nil => simp [bval]
 | cons x r ih =>
  rw [bval_cons, List.length_cons, Nat.pow_succ]
  have h1 := ih h.tail
  have h2 := h.head
  have h3 : x.toNat ≤ 255 := by omega
  have h4 : x.toNat * 256 ^ r.length ≤ 255 * 256 ^ r.length := Nat.mul_le_mul_right _ h3
  omega
theorem bval_ge {x : Int} {r : List Int} (h : IsB (x :: r)) (hx : x ≠ 0) : 256 ^ r.length ≤ bval (x :: r) := by
 rw [bval_cons]
 have h2 := h.head
 have : 1 * 256 ^ r.length ≤ x.toNat * 256 ^ r.length := Nat.mul_le_mul_right _ (by omega)
 omega
/-- No nought ahead. -/
def CanB (l : List Int) : Prop := IsB l ∧ l.head? ≠ some 0
theorem bytesN_bval {l : List Int} (h : CanB l) : bytesN (bval l) = l := by
 obtain ⟨hb, hh⟩ := h
 suffices H : ∀ m : List Int, IsB m.reverse → m.reverse.head? ≠ some 0 → bytesN (bval m.reverse) = m.reverse by
  have := H l.reverse (by simpa using hb) (by simpa using hh)
  simpa using this
 intro m
 induction m with
 | nil => intro _ _; simp [bval, bytesN_zero]
 | cons x r ih =>
  intro hb hh
  rw [List.reverse_cons] at hb hh ⊢
  have hx := (hb.right).head
  rw [bval_snoc]
  cases hr : r.reverse with
  | nil =>
   rw [hr] at hh
   have hx0 : x ≠ 0 := by simpa using hh
   rw [bval_nil, bytesN_pos (by omega)]
   have e1 : (0 * 256 + x.toNat) / 256 = 0 := by omega
   have e2 : (((0 * 256 + x.toNat) % 256 : Nat) : Int) = x := by omega
   rw [e1, e2, bytesN_zero]
  | cons y s =>
   have ih' := ih hb.left (by rw [hr] at hh ⊢; simpa using hh)
   rw [hr] at ih' hb hh
   have hy : y ≠ 0 := by simpa using hh
   have hge := bval_ge hb.left hy
   have hpos : 0 < 256 ^ s.length := Nat.pow_pos (by omega)
   rw [bytesN_pos (by omega)]
   have e1 : (bval (y :: s) * 256 + x.toNat) / 256 = bval (y :: s) := by omega
   have e2 : (((bval (y :: s) * 256 + x.toNat) % 256 : Nat) : Int) = x := by omega
   rw [e1, e2, ih']
theorem canB_bytesN (n : Nat) : CanB (bytesN n) := by
 refine ⟨isB_bytesN n, ?_⟩
 induction n using Nat.strongRecOn with
 | _ n ih =>
  by_cases h : n = 0
  ·subst h; rw [bytesN_zero]; simp
  ·rw [bytesN_pos h]
   by_cases h2 : n / 256 = 0
   ·rw [h2, bytesN_zero]; simp; omega
   ·have := ih _ (show n / 256 < n by omega)
    rw [bytesN_pos h2] at this ⊢
    cases hb : bytesN (n / 256 / 256) with
    | nil => rw [hb] at this; simpa using this
    | cons y s => rw [hb] at this; simpa using this
theorem bytesN_length_lt {n k : Nat} : (bytesN n).length ≤ k ↔ n < 256 ^ k := by
 constructor
 ·intro h
  have := bval_lt (isB_bytesN n)
  rw [bval_bytesN] at this
  exact Nat.lt_of_lt_of_le this (Nat.pow_le_pow_right (by omega) h)
 ·intro h
  apply Nat.le_of_not_lt
  intro hlt
  have hc := canB_bytesN n
  cases hb : bytesN n with
  | nil => rw [hb] at hlt; simp at hlt
  | cons x r =>
   rw [hb] at hlt hc
   have hge := bval_ge hc.1 (by simpa using hc.2)
   rw [← hb, bval_bytesN] at hge
   have : 256 ^ k ≤ 256 ^ r.length := Nat.pow_le_pow_right (by omega) (by simp at hlt; omega)
   omega
theorem bytesN_nil_iff (n : Nat) : bytesN n = [] ↔ n = 0 := by
 constructor
 ·intro h; have := bval_bytesN n; rw [h] at this; simpa [bval] using this.symm
 ·rintro rfl; exact bytesN_zero
theorem bytesN_len_zero (n : Nat) : (bytesN n).length = 0 ↔ n = 0 := by rw [List.length_eq_zero_iff]; exact bytesN_nil_iff n
/-! words -/
theorem wval_append (l r : List Int) : wval (l ++ r) = wval l + 4294967296 ^ l.length * wval r := by
 induction l with
 | nil => simp [wval]
 | cons x s ih =>
  simp only [List.cons_append, wval, ih, List.length_cons, Nat.pow_succ]
  rw [Nat.mul_add, Nat.mul_comm (4294967296 ^ s.length) 4294967296, Nat.mul_assoc]
  omega
theorem wval_snoc (l : List Int) (x : Int) : wval (l ++ [x]) = wval l + 4294967296 ^ l.length * x.toNat := by
 rw [wval_append]; simp [wval]
theorem wval_lt {l : List Int} (h : IsW l) : wval l < 4294967296 ^ l.length := by
 induction l with
 | nil => simp [wval]
 | cons x r ih =>
  have h1 := ih h.tail
  have h2 := h.head
  simp only [wval, List.length_cons, Nat.pow_succ]
  omega
/-- No nought at the end. -/
def CanW (l : List Int) : Prop := IsW l ∧ l.getLast? ≠ some 0
theorem wval_pos {l : List Int} (h : CanW l) (hl : l ≠ []) : 4294967296 ^ (l.length - 1) ≤ wval l := by
 obtain ⟨hw, hh⟩ := h
 rcases List.eq_nil_or_concat l with rfl | ⟨s, x, rfl⟩
 ·exact absurd rfl hl
 ·have hx := hw x (by simp)
  have hx0 : x ≠ 0 := by simpa using hh
  simp only [List.concat_eq_append] at *
  rw [wval_snoc]
  simp only [List.length_append, List.length_singleton, Nat.add_sub_cancel]
  have : 4294967296 ^ s.length * 1 ≤ 4294967296 ^ s.length * x.toNat := Nat.mul_le_mul_left _ (by omega)
  omega
theorem wordsN_wval {l : List Int} (h : CanW l) : wordsN (wval l) = l := by
 induction l with
 | nil => simp [wval, wordsN_zero]
 | cons x r ih =>
  obtain ⟨hw, hh⟩ := h
  have hx := hw.head
  have hr : CanW r := ⟨hw.tail, by
   cases r with
   | nil => simp
   | cons y s => simpa [List.getLast?_cons_cons] using hh⟩
  have hne : wval (x :: r) ≠ 0 := by
   have := wval_pos ⟨hw, hh⟩ (by simp)
   have hpos : 0 < 4294967296 ^ ((x :: r).length - 1) := Nat.pow_pos (by omega)
   omega
  rw [wordsN_pos hne]
  simp only [wval]
  have e1 : (x.toNat + 4294967296 * wval r) / 4294967296 = wval r := by omega
  have e2 : (((x.toNat + 4294967296 * wval r) % 4294967296 : Nat) : Int) = x := by omega
  rw [e1, e2, ih hr]
theorem canW_wordsN (n : Nat) : CanW (wordsN n) := by
 refine ⟨isW_wordsN n, ?_⟩
 induction n using Nat.strongRecOn with
 | _ n ih =>
  by_cases h : n = 0
  ·subst h; rw [wordsN_zero]; simp
  ·rw [wordsN_pos h]
   by_cases h2 : n / 4294967296 = 0
   ·rw [h2, wordsN_zero]; simp; omega
   ·have := ih _ (show n / 4294967296 < n by omega)
    rw [wordsN_pos h2] at this ⊢
    simpa [List.getLast?_cons_cons] using this
theorem wordsN_nil_iff (n : Nat) : wordsN n = [] ↔ n = 0 := by
 constructor
 ·intro h; have := wval_wordsN n; rw [h] at this; simpa [wval] using this.symm
 ·rintro rfl; exact wordsN_zero
theorem wordsN_length_le {n k : Nat} : (wordsN n).length ≤ k ↔ n < 4294967296 ^ k := by
 constructor
 ·intro h
  have := wval_lt (isW_wordsN n)
  rw [wval_wordsN] at this
  exact Nat.lt_of_lt_of_le this (Nat.pow_le_pow_right (by omega) h)
 ·intro h
  apply Nat.le_of_not_lt
  intro hlt
  have hne : wordsN n ≠ [] := by intro h0; rw [h0] at hlt; simp at hlt
  have hge := wval_pos (canW_wordsN n) hne
  rw [wval_wordsN] at hge
  have : 4294967296 ^ k ≤ 4294967296 ^ ((wordsN n).length - 1) := Nat.pow_le_pow_right (by omega) (by omega)
  omega
theorem wval_replicate_zero (m : Nat) : wval (List.replicate m 0) = 0 := by
 induction m with
 | zero => rfl
 | succ m ih => simp [List.replicate_succ, wval, ih]
theorem IsW.get {l : List Int} (h : IsW l) (i : Nat) (hi : i < l.length) : 0 ≤ l[i] ∧ l[i] < 4294967296 := h _ (List.getElem_mem hi)
theorem IsB.get {l : List Int} (h : IsB l) (i : Nat) (hi : i < l.length) : 0 ≤ l[i] ∧ l[i] < 256 := h _ (List.getElem_mem hi)
theorem take_set_succ (l : List Int) (i : Nat) (v : Int) (h : i < l.length) : (l.set i v).take (i + 1) = l.take i ++ [v] := by
 rw [List.take_succ_eq_append_getElem (by simpa using h)]
 simp [List.take_set]
 rw [List.set_eq_of_length_le (by simp; omega)]
theorem take_succ_get (l : List Int) (i : Nat) (h : i < l.length) : l.take (i + 1) = l.take i ++ [l[i]] := List.take_succ_eq_append_getElem h
theorem wval_take_succ (l : List Int) (i : Nat) (h : i < l.length) : wval (l.take (i + 1)) = wval (l.take i) + 4294967296 ^ i * (l[i]).toNat := by
 rw [take_succ_get l i h, wval_snoc]; simp [Nat.min_eq_left (Nat.le_of_lt h)]
theorem take_ge (l : List Int) (i : Nat) (h : l.length ≤ i) : l.take (i + 1) = l.take i := by
 rw [List.take_of_length_le h, List.take_of_length_le (by omega)]
/-- The weight of a word, behind a name that no unifier opens. -/
@[irreducible] def W32 (i : Nat) : Int := ((4294967296 ^ i : Nat) : Int)
@[irreducible] def W8 (i : Nat) : Int := ((256 ^ i : Nat) : Int)
theorem W32_zero : W32 0 = 1 := by unfold W32; rfl
theorem W32_succ (i : Nat) : W32 (i + 1) = W32 i * 4294967296 := by unfold W32; rw [Nat.pow_succ, Int.natCast_mul]; rfl
theorem W32_pos (i : Nat) : 0 < W32 i := by unfold W32; have : 0 < 4294967296 ^ i := Nat.pow_pos (by decide); omega
theorem W8_zero : W8 0 = 1 := by unfold W8; rfl
theorem W8_succ (i : Nat) : W8 (i + 1) = W8 i * 256 := by unfold W8; rw [Nat.pow_succ, Int.natCast_mul]; rfl
theorem W8_pos (i : Nat) : 0 < W8 i := by unfold W8; have : 0 < 256 ^ i := Nat.pow_pos (by decide); omega
@[irreducible] def wI (l : List Int) : Int := (wval l : Int)
@[irreducible] def bI (l : List Int) : Int := (bval l : Int)
theorem wI_eq (l : List Int) : wI l = (wval l : Int) := by unfold wI; rfl
theorem bI_eq (l : List Int) : bI l = (bval l : Int) := by unfold bI; rfl
theorem wI_nil : wI [] = 0 := by rw [wI_eq]; rfl
theorem bI_nil : bI [] = 0 := by rw [bI_eq]; rfl
theorem wI_cons (x : Int) (l : List Int) (h : 0 ≤ x) : wI (x :: l) = x + 4294967296 * wI l := by
 rw [wI_eq, wI_eq, wval, Int.natCast_add, Int.natCast_mul, Int.toNat_of_nonneg h]; rfl
theorem wI_snoc (l : List Int) (x : Int) (h : 0 ≤ x) : wI (l ++ [x]) = wI l + W32 l.length * x := by
 rw [wI_eq, wI_eq, wval_snoc, Int.natCast_add, Int.natCast_mul, Int.toNat_of_nonneg h]; unfold W32; rfl
theorem wI_append (l r : List Int) : wI (l ++ r) = wI l + W32 l.length * wI r := by
 rw [wI_eq, wI_eq, wI_eq, wval_append, Int.natCast_add, Int.natCast_mul]; unfold W32; rfl
theorem wI_replicate_zero (m : Nat) : wI (List.replicate m 0) = 0 := by rw [wI_eq, wval_replicate_zero]; rfl
theorem wI_nonneg (l : List Int) : 0 ≤ wI l := by rw [wI_eq]; omega
theorem bI_nonneg (l : List Int) : 0 ≤ bI l := by rw [bI_eq]; omega
theorem wI_lt {l : List Int} (h : IsW l) : wI l < W32 l.length := by rw [wI_eq]; unfold W32; have := wval_lt h; omega
theorem bI_lt {l : List Int} (h : IsB l) : bI l < W8 l.length := by rw [bI_eq]; unfold W8; have := bval_lt h; omega
theorem bI_snoc (l : List Int) (x : Int) (h : 0 ≤ x) : bI (l ++ [x]) = bI l * 256 + x := by
 rw [bI_eq, bI_eq, bval_snoc, Int.natCast_add, Int.natCast_mul, Int.toNat_of_nonneg h]; rfl
theorem bI_cons (x : Int) (l : List Int) (h : 0 ≤ x) : bI (x :: l) = x * W8 l.length + bI l := by
 rw [bI_eq, bI_eq, bval_cons, Int.natCast_add, Int.natCast_mul, Int.toNat_of_nonneg h]; unfold W8; rfl
theorem bI_append (l r : List Int) : bI (l ++ r) = bI l * W8 r.length + bI r := by
 rw [bI_eq, bI_eq, bI_eq, bval_append, Int.natCast_add, Int.natCast_mul]; unfold W8; rfl
theorem wI_take_succ (l : List Int) (i : Nat) (h : i < l.length) (h0 : 0 ≤ l[i]) : wI (l.take (i + 1)) = wI (l.take i) + W32 i * l[i] := by
 rw [take_succ_get l i h, wI_snoc _ _ h0, List.length_take, Nat.min_eq_left (Nat.le_of_lt h)]
theorem wI_set_succ (l : List Int) (i : Nat) (v : Int) (h : i < l.length) (h0 : 0 ≤ v) : wI ((l.set i v).take (i + 1)) = wI (l.take i) + W32 i * v := by
 rw [take_set_succ l i v h, wI_snoc _ _ h0, List.length_take, Nat.min_eq_left (Nat.le_of_lt h)]
theorem carry_step {P S A B c ai bi v q : Int} (h : v + 4294967296 * q = c + ai - bi) (he : S + P * c = A - B) : (S + P * v) + (P * 4294967296) * q = (A + P * ai) - (B + P * bi) := by grind
theorem carry_step1 {P S A B c ai v q : Int} (h : v + 4294967296 * q = c + ai) (he : S + P * c = A - B) : (S + P * v) + (P * 4294967296) * q = (A + P * ai) - B := by grind
theorem wI_set (l : List Int) (p : Nat) (v : Int) (h : p < l.length) (h0 : 0 ≤ v) (hl : 0 ≤ l[p]) : wI (l.set p v) = wI l + W32 p * (v - l[p]) := by
 have e1 : l = l.take p ++ (l[p] :: l.drop (p + 1)) := by simp
 have e2 : l.set p v = l.take p ++ (v :: l.drop (p + 1)) := by rw [List.set_eq_take_append_cons_drop, if_pos h]
 have hlen : (l.take p).length = p := by simp; omega
 have a1 : wI l = wI (l.take p) + W32 p * (l[p] + 4294967296 * wI (l.drop (p + 1))) := by
  have := wI_append (l.take p) (l[p] :: l.drop (p + 1))
  rw [← e1, hlen, wI_cons _ _ hl] at this
  exact this
 have a2 : wI (l.set p v) = wI (l.take p) + W32 p * (v + 4294967296 * wI (l.drop (p + 1))) := by
  rw [e2, wI_append, hlen, wI_cons _ _ h0]
 rw [a1, a2]
 grind
theorem IsW.set {l : List Int} (h : IsW l) (p : Nat) (v : Int) (h0 : 0 ≤ v) (h1 : v < 4294967296) : IsW (l.set p v) := fun y hy => by
 rcases List.mem_or_eq_of_mem_set hy with hy | rfl
 ·exact h y hy
 ·exact ⟨h0, h1⟩
theorem W32_add (i j : Nat) : W32 (i + j) = W32 i * W32 j := by unfold W32; rw [Nat.pow_add, Int.natCast_mul]
theorem W8_add (i j : Nat) : W8 (i + j) = W8 i * W8 j := by unfold W8; rw [Nat.pow_add, Int.natCast_mul]
theorem mul_bound {a b : Int} (h0 : 0 ≤ a) (h1 : a < 4294967296) (k0 : 0 ≤ b) (k1 : b < 4294967296) : 0 ≤ a * b ∧ a * b ≤ 18446744065119617025 := by
 refine ⟨Int.mul_nonneg h0 k0, ?_⟩
 have := Int.mul_le_mul (show a ≤ 4294967295 by omega) (show b ≤ 4294967295 by omega) k0 (by omega)
 omega
theorem IsW.replicate (n : Nat) : IsW (List.replicate n 0) := fun y hy => by
 rw [List.eq_of_mem_replicate hy]; omega
end Lap
open Lap
theorem w64 {x : Int} (h1 : -9223372036854775808 ≤ x) (h2 : x ≤ 9223372036854775807) : wrap64 x = x := by unfold wrap64; omega
theorem w64s (i : Nat) (h : i < 9223372036854775807) : wrap64 ((i : Int) + 1) = ((i + 1 : Nat) : Int) := by rw [w64 (by omega) (by omega)]; omega
theorem u64 {x : Int} (h1 : 0 ≤ x) (h2 : x < 18446744073709551616) : IntKind.u64.wrap x = x := by
 have : IntKind.u64.wrap x = x % 18446744073709551616 := by simp [IntKind.wrap, IntKind.bits, IntKind.signed]
 rw [this]; omega
theorem u64_mod (x : Int) : IntKind.u64.wrap x = x % 18446744073709551616 := by simp [IntKind.wrap, IntKind.bits, IntKind.signed]
theorem or32 {x y : Int} (h0 : 0 ≤ x) (h1 : x < 16777216) (k0 : 0 ≤ y) (k1 : y < 256) : Go.bits .or .u32 (x * 256) y = x * 256 + y :=
 bits_join .u32 32 (by decide) (fun n a b => by rw [IntKind.wrap_u32]; omega) 8 (x * 256) y (by omega) (by omega) (by omega) k0 (by omega) (by omega)
theorem or64_8 {x y : Int} (h0 : 0 ≤ x) (h1 : x < 72057594037927936) (k0 : 0 ≤ y) (k1 : y < 256) : Go.bits .or .u64 (x * 256) y = x * 256 + y :=
 bits_join .u64 64 (by decide) (fun n a b => u64 a b) 8 (x * 256) y (by omega) (by omega) (by omega) k0 (by omega) (by omega)
theorem or64_32 {x y : Int} (h0 : 0 ≤ x) (h1 : x < 4294967296) (k0 : 0 ≤ y) (k1 : y < 4294967296) : Go.bits .or .u64 (x * 4294967296) y = x * 4294967296 + y :=
 bits_join .u64 64 (by decide) (fun n a b => u64 a b) 32 (x * 4294967296) y (by omega) (by omega) (by omega) k0 (by omega) (by omega)
theorem rd_snoc (s : List Int) (x : Int) (i : Int) (h : i = s.length) : rd (s ++ [x]) i = x := by
 unfold rd; subst h; simp
theorem rd_lt (l : List Int) (i : Nat) (h : i < l.length) : rd l (i : Int) = l[i] := by
 unfold rd; simp [h]
theorem trim_ev (l : List Int) (hw : IsW l) (hl : l.length ≤ 9223372036854775807) : Ev (fun k => whole_words_trim.f k l) (wordsN (wval l)) := by
 suffices H : ∀ n l, l.length = n → IsW l → l.length ≤ 9223372036854775807 → Ev (fun k => whole_words_trim.l0 k l) (wordsN (wval l)) by
  exact H _ l rfl hw hl
 intro n
 induction n with
 | zero =>
  intro l h0 hw hl
  obtain rfl := List.eq_nil_of_length_eq_zero h0
  simp only [wval, wordsN_zero]
  exact Ev.step (f := fun _ => some []) (fun k => by simp only [whole_words_trim.l0]; rw [if_neg (by simp)]) (Ev.now _)
 | succ n ih =>
  intro l h0 hw hl
  rcases List.eq_nil_or_concat l with rfl | ⟨s, x, rfl⟩
  ·simp at h0
  ·rw [List.concat_eq_append] at *
   have hlen : (s ++ [x]).length = s.length + 1 := by simp
   rw [hlen] at h0 hl
   have e1 : wrap64 (((s ++ [x]).length : Int) - 1) = s.length := by rw [hlen, w64 (by omega) (by omega)]; omega
   by_cases hx : x = 0
   ·subst hx
    have hv : wval (s ++ [0]) = wval s := by rw [wval_snoc]; simp
    rw [hv]
    refine Ev.step (f := fun k => whole_words_trim.l0 k s) (fun k => ?_) (ih s (by omega) hw.left (by omega))
    simp only [whole_words_trim.l0]
    rw [e1, hlen, if_pos (by omega), if_pos (by omega), if_pos (by omega), rd_snoc _ _ _ rfl, if_pos rfl, if_pos (by omega)]
    simp
   ·have hc : CanW (s ++ [x]) := ⟨hw, by simpa using hx⟩
    rw [wordsN_wval hc]
    refine Ev.step (f := fun _ => some (s ++ [x])) (fun k => ?_) (Ev.now _)
    simp only [whole_words_trim.l0]
    rw [e1, hlen, if_pos (by omega), if_pos (by omega), if_pos (by omega), rd_snoc _ _ _ rfl, if_neg hx]
theorem minus_loop (a b : List Int) (ha : IsW a) (hb : IsW b) (hla : a.length ≤ 1000000) :
  ∀ (d i : Nat) (out : List Int) (c : Int), d = a.length - i → i ≤ a.length → out.length = a.length → IsW (out.take i) → (c = 0 ∨ c = -1) →
   wI (out.take i) + W32 i * c = wI (a.take i) - wI (b.take i) →
   ∃ out' : List Int, ∃ c' : Int, out'.length = a.length ∧ IsW out' ∧ (c' = 0 ∨ c' = -1) ∧
    wI out' + W32 a.length * c' = wI a - wI (b.take a.length) ∧
    Ev (fun k => whole_minus.l0 k a b out c a.length i) (wordsN (wval out')) := by
 intro d
 induction d with
 | zero =>
  intro i out c hd hi ho hw hc he
  obtain rfl : i = a.length := by omega
  refine ⟨out, c, ho, ?_, hc, ?_, ?_⟩
  ·rw [← ho] at hw; simpa using hw
  ·rw [← ho] at he ⊢; simp only [List.take_length] at he; rw [ho] at he ⊢; simpa using he
  ·refine Ev.step (f := fun k => (whole_words_trim.f k out).bind fun t => some t) (fun k => ?_) ?_
   ·simp only [whole_minus.l0]; rw [if_neg (by omega)]
   ·rw [← ho] at hw
    exact Ev.bind (trim_ev out (by simpa using hw) (by omega)) (Ev.now _)
 | succ d ih =>
  intro i out c hd hi ho hw hc he
  have hlt : i < a.length := by omega
  have hA := ha.get i hlt
  have hta := wI_take_succ a i hlt hA.1
  have a1 : wrap64 (a[i] : Int) = a[i] := w64 (by omega) (by omega)
  by_cases hbl : i < b.length
  ·have hB := hb.get i hbl
   have htb := wI_take_succ b i hbl hB.1
   have hw3 : wrap64 (b[i] : Int) = b[i] := w64 (by omega) (by omega)
   have a0 : wrap64 (wrap64 (c + a[i]) - b[i]) = c + a[i] - b[i] := by rw [w64 (x := c + a[i]) (by omega) (by omega), w64 (by omega) (by omega)]
   obtain ⟨out', c', h1, h2, h3, h4, h5⟩ := ih (i + 1) (out.set i ((c + a[i] - b[i]) % 4294967296)) ((c + a[i] - b[i]) / 4294967296) (by omega) (by omega) (by simpa using ho)
    (by rw [take_set_succ _ _ _ (by omega)]; exact hw.append (IsW.cons (by omega) (by omega) IsW.nil)) (by omega)
    (by rw [wI_set_succ _ _ _ (by omega) (by omega), hta, htb, W32_succ]; exact carry_step (by omega) he)
   refine ⟨out', c', h1, h2, h3, h4, Ev.step (fun k => ?_) h5⟩
   simp only [whole_minus.l0]
   rw [if_pos (by omega), if_pos (by omega), if_pos (by omega), if_pos (by omega), if_pos (by omega), rd_lt _ _ hlt, rd_lt _ _ hbl, a1, hw3, a0, w64s i (by omega)]
   simp
  ·have htb := take_ge b i (by omega)
   have a0 : wrap64 (c + a[i]) = c + a[i] := w64 (by omega) (by omega)
   obtain ⟨out', c', h1, h2, h3, h4, h5⟩ := ih (i + 1) (out.set i ((c + a[i]) % 4294967296)) ((c + a[i]) / 4294967296) (by omega) (by omega) (by simpa using ho)
    (by rw [take_set_succ _ _ _ (by omega)]; exact hw.append (IsW.cons (by omega) (by omega) IsW.nil)) (by omega)
    (by rw [wI_set_succ _ _ _ (by omega) (by omega), hta, htb, W32_succ]; exact carry_step1 (by omega) he)
   refine ⟨out', c', h1, h2, h3, h4, Ev.step (fun k => ?_) h5⟩
   simp only [whole_minus.l0]
   rw [if_pos (by omega), if_pos (by omega), if_pos (by omega), if_neg (by omega), if_pos (by omega), rd_lt _ _ hlt, a1, a0, w64s i (by omega)]
   simp
theorem minus_ev (a b : List Int) (ha : IsW a) (hb : IsW b) (hla : a.length ≤ 1000000) (hlb : b.length ≤ a.length) (hle : wval b ≤ wval a) :
  Ev (fun k => whole_minus.f k a b) (wordsN (wval a - wval b)) := by
 obtain ⟨out', c', h1, h2, h3, h4, h5⟩ := minus_loop a b ha hb hla a.length 0 (List.replicate a.length 0) 0 (by omega) (by omega) (by simp) (by simpa using IsW.nil) (.inl rfl) (by simp [wI_nil])
 have hlt := wI_lt h2
 rw [h1] at hlt
 have h0 := wI_nonneg out'
 rw [List.take_of_length_le hlb, wI_eq a, wI_eq b] at h4
 have hv : wval out' = wval a - wval b := by
  rw [wI_eq] at h4 hlt
  rcases h3 with rfl | rfl
  ·omega
  ·omega
 rw [hv] at h5
 refine Ev.congr (fun k => ?_) h5
 unfold whole_minus.f
 rw [if_pos (by omega), if_pos (by omega)]
 simp
def cmpN (a b : Nat) : Int := if a < b then -1 else if b < a then 1 else 0
theorem compare_int (a b : Int) : cmp_Compare_int.f a b = some (if a < b then -1 else if a > b then 1 else 0) := by
 simp only [cmp_Compare_int.f, cmp_isNaN_int.f, Option.bind_some]
 simp
 split
 ·rfl
 ·split <;> rfl
theorem compare_u32 (a b : Int) : cmp_Compare_uint32.f a b = some (if a < b then -1 else if a > b then 1 else 0) := by
 simp only [cmp_Compare_uint32.f, cmp_isNaN_uint32.f, Option.bind_some]
 simp
 split
 ·rfl
 ·split <;> rfl
theorem wI_parts (l : List Int) (i : Nat) (h : i < l.length) (h0 : 0 ≤ l[i]) : wI l = wI (l.take i) + W32 i * (l[i] + 4294967296 * wI (l.drop (i + 1))) := by
 have e1 : l = l.take i ++ (l[i] :: l.drop (i + 1)) := by simp
 have hlen : (l.take i).length = i := by simp; omega
 have := wI_append (l.take i) (l[i] :: l.drop (i + 1))
 rw [← e1, hlen, wI_cons _ _ h0] at this
 exact this
theorem lt_of_high {a b : List Int} (ha : IsW a) (hb : IsW b) (i : Nat) (hia : i < a.length) (hib : i < b.length) (hd : a.drop (i + 1) = b.drop (i + 1)) (hlt : a[i] < b[i]) : wI a < wI b := by
 rw [wI_parts a i hia (ha.get i hia).1, wI_parts b i hib (hb.get i hib).1, hd]
 have h1 := wI_lt (ha.take i)
 rw [List.length_take, Nat.min_eq_left (by omega)] at h1
 have h2 := wI_nonneg (b.take i)
 have h3 := Int.mul_le_mul_of_nonneg_left (show a[i] + 4294967296 * wI (b.drop (i + 1)) + 1 ≤ b[i] + 4294967296 * wI (b.drop (i + 1)) by omega) (Int.le_of_lt (W32_pos i))
 rw [Int.mul_add] at h3
 omega
theorem order_loop (a b : List Int) (ha : IsW a) (hb : IsW b) (hl : a.length = b.length) (hle : a.length ≤ 1000000) :
  ∀ i : Nat, i ≤ a.length → a.drop i = b.drop i → Ev (fun k => whole_order.l0 k a b ((i : Int) - 1)) (cmpN (wval a) (wval b)) := by
 intro i
 induction i with
 | zero =>
  intro _ hd
  rw [List.drop_zero, List.drop_zero] at hd
  subst hd
  refine Ev.step (f := fun _ => some 0) (fun k => by simp only [whole_order.l0]; rw [if_neg (by omega)]) ?_
  have : cmpN (wval a) (wval a) = 0 := by simp [cmpN]
  rw [this]; exact Ev.now _
 | succ i ih =>
  intro hi hd
  have hia : i < a.length := by omega
  have hib : i < b.length := by omega
  have e0 : ((i + 1 : Nat) : Int) - 1 = (i : Int) := by omega
  rw [e0]
  by_cases heq : a[i] = b[i]
  ·refine Ev.step (fun k => ?_) (ih (by omega) (by rw [List.drop_eq_getElem_cons hia, List.drop_eq_getElem_cons hib, heq, hd]))
   simp only [whole_order.l0]
   rw [if_pos (by omega), if_pos (by omega), if_pos (by omega), if_pos (by omega), rd_lt _ _ hia, rd_lt _ _ hib, if_pos heq, w64 (by omega) (by omega)]
  ·refine Ev.step (f := fun _ => (cmp_Compare_uint32.f a[i] b[i]).bind fun t => some t) (fun k => ?_) ?_
   ·simp only [whole_order.l0]
    rw [if_pos (by omega), if_pos (by omega), if_pos (by omega), if_pos (by omega), rd_lt _ _ hia, rd_lt _ _ hib, if_neg heq]
   ·rw [compare_u32]
    have : cmpN (wval a) (wval b) = (if a[i] < b[i] then -1 else if a[i] > b[i] then 1 else 0) := by
     unfold cmpN
     by_cases h : a[i] < b[i]
     ·have := lt_of_high ha hb i hia hib hd h
      rw [wI_eq, wI_eq] at this
      rw [if_pos (by omega), if_pos h]
     ·have hgt : b[i] < a[i] := by omega
      have := lt_of_high hb ha i hib hia hd.symm hgt
      rw [wI_eq, wI_eq] at this
      rw [if_neg (by omega), if_pos (by omega), if_neg h, if_pos (by omega)]
    rw [this]
    exact Ev.now _
theorem wval_len_lt {a b : List Int} (ha : IsW a) (hb : CanW b) (hl : a.length < b.length) : wval a < wval b := by
 have h1 := wval_lt ha
 have h2 := wval_pos hb (by intro h; rw [h] at hl; simp at hl)
 have h3 : 4294967296 ^ a.length ≤ 4294967296 ^ (b.length - 1) := Nat.pow_le_pow_right (by omega) (by omega)
 omega
theorem order_ev (a b : List Int) (ha : CanW a) (hb : CanW b) (hla : a.length ≤ 1000000) (hlb : b.length ≤ 1000000) :
  Ev (fun k => whole_order.f k a b) (cmpN (wval a) (wval b)) := by
 rcases Nat.lt_trichotomy a.length b.length with h | h | h
 ·have := wval_len_lt ha.1 hb h
  refine Ev.congr (f := fun _ => some (-1)) (fun k => ?_) (by rw [show cmpN (wval a) (wval b) = -1 by unfold cmpN; rw [if_pos this]]; exact Ev.now _)
  unfold whole_order.f
  rw [compare_int, if_pos (by omega)]
  rfl
 ·refine Ev.congr (fun k => ?_) (order_loop a b ha.1 hb.1 h hla a.length (Nat.le_refl _) (by rw [List.drop_of_length_le (Nat.le_refl _), List.drop_of_length_le (by omega)]))
  unfold whole_order.f
  rw [compare_int, if_neg (by omega), if_neg (by omega)]
  simp only [Option.bind_some, if_true]
  rw [w64 (by omega) (by omega)]
 ·have := wval_len_lt hb.1 ha h
  refine Ev.congr (f := fun _ => some 1) (fun k => ?_) (by rw [show cmpN (wval a) (wval b) = 1 by unfold cmpN; rw [if_neg (by omega), if_pos this]]; exact Ev.now _)
  unfold whole_order.f
  rw [compare_int, if_neg (by omega), if_pos (by omega)]
  rfl
/-! plus -/
theorem plus_step {P S A B c ai bi v q : Int} (h : v + 4294967296 * q = c + ai + bi) (he : S + P * c = A + B) : (S + P * v) + (P * 4294967296) * q = (A + P * ai) + (B + P * bi) := by grind
theorem plus_step1 {P S A B c ai v q : Int} (h : v + 4294967296 * q = c + ai) (he : S + P * c = A + B) : (S + P * v) + (P * 4294967296) * q = (A + P * ai) + B := by grind
theorem plus_loop (a b : List Int) (ha : IsW a) (hb : IsW b) (hla : a.length ≤ 1000000) (hlb : b.length ≤ a.length) :
  ∀ (d i : Nat) (out : List Int) (c : Int), d = a.length - i → i ≤ a.length → out.length = a.length + 1 → IsW out → 0 ≤ c → c < 4294967296 → (∀ p (hp : p < out.length), i ≤ p → out[p] = 0) →
   wI out + W32 i * c = wI (a.take i) + wI (b.take i) → Ev (fun k => whole_plus1.l0 k a b out c a.length i) (wordsN (wval a + wval b)) := by
 intro d
 induction d with
 | zero =>
  intro i out c hd hi ho hw c0 c1 hz he
  obtain rfl : i = a.length := by omega
  have hpos : a.length < out.length := by omega
  have a0 := hz a.length hpos (Nat.le_refl _)
  have hs := wI_set out a.length c hpos c0 (by omega)
  rw [a0, List.take_length, List.take_of_length_le hlb] at *
  have hv : wval (out.set a.length c) = wval a + wval b := by
   have : wI (out.set a.length c) = wI a + wI b := by rw [hs]; rw [← he]; simp
   rw [wI_eq, wI_eq, wI_eq] at this
   omega
  refine Ev.step (f := fun k => (whole_words_trim.f k (out.set a.length c)).bind fun t => some t) (fun k => ?_) ?_
  ·simp only [whole_plus1.l0]
   rw [if_neg (by omega), if_pos (by omega), if_pos (by omega), Int.toNat_natCast, Int.emod_eq_of_lt c0 (by omega)]
  ·rw [← hv]
   exact Ev.bind (trim_ev _ (hw.set _ _ c0 c1) (by simp; omega)) (Ev.now _)
 | succ d ih =>
  intro i out c hd hi ho hw c0 c1 hz he
  have hlt : i < a.length := by omega
  have hpos : i < out.length := by omega
  have hA := ha.get i hlt
  have a0 := hz i hpos (Nat.le_refl _)
  have hta := wI_take_succ a i hlt hA.1
  by_cases hbl : i < b.length
  ·have hB := hb.get i hbl
   have htb := wI_take_succ b i hbl hB.1
   refine Ev.step (fun k => ?_) (ih (i + 1) (out.set i ((c + a[i] + b[i]) % 4294967296)) ((c + a[i] + b[i]) / 4294967296) (by omega) (by omega) (by simpa using ho) (hw.set _ _ (by omega) (by omega)) (by omega) (by omega)
    (fun p hp hge => by rw [List.getElem_set_ne (by omega)]; exact hz p (by simpa using hp) (by omega)) ?_)
   ·simp only [whole_plus1.l0]
    rw [if_pos (by omega), if_pos (by omega), if_pos (by omega), if_pos (by omega), if_pos (by omega), rd_lt _ _ hlt, rd_lt _ _ hbl, u64 (x := a[i]) (by omega) (by omega), u64 (x := b[i]) (by omega) (by omega),
     u64 (x := c + a[i]) (by omega) (by omega), u64 (x := c + a[i] + b[i]) (by omega) (by omega), w64s i (by omega)]
    simp
   ·rw [wI_set out i _ hpos (by omega) (by omega), a0, hta, htb, W32_succ, Int.sub_zero]
    exact plus_step (by omega) he
  ·have htb := take_ge b i (by omega)
   refine Ev.step (fun k => ?_) (ih (i + 1) (out.set i ((c + a[i]) % 4294967296)) ((c + a[i]) / 4294967296) (by omega) (by omega) (by simpa using ho) (hw.set _ _ (by omega) (by omega)) (by omega) (by omega)
    (fun p hp hge => by rw [List.getElem_set_ne (by omega)]; exact hz p (by simpa using hp) (by omega)) ?_)
   ·simp only [whole_plus1.l0]
    rw [if_pos (by omega), if_pos (by omega), if_pos (by omega), if_neg (by omega), if_pos (by omega), rd_lt _ _ hlt, u64 (x := a[i]) (by omega) (by omega), u64 (x := c + a[i]) (by omega) (by omega), w64s i (by omega)]
    simp
   ·rw [wI_set out i _ hpos (by omega) (by omega), a0, hta, htb, W32_succ, Int.sub_zero]
    exact plus_step1 (by omega) he
theorem plus1_ev (a b : List Int) (ha : IsW a) (hb : IsW b) (hla : a.length ≤ 1000000) (hlb : b.length ≤ a.length) : Ev (fun k => whole_plus1.f k a b) (wordsN (wval a + wval b)) := by
 refine Ev.congr (fun k => ?_) (plus_loop a b ha hb hla hlb a.length 0 (List.replicate (a.length + 1) 0) 0 (by omega) (by omega) (by simp) (IsW.replicate _) (by omega) (by omega) (fun p hp _ => by simp) (by simp [wI_nil, wI_replicate_zero]))
 unfold whole_plus1.f
 rw [w64 (x := (a.length : Int) + 1) (by omega) (by omega), if_pos (by omega), if_pos (by omega), show ((a.length : Int) + 1).toNat = a.length + 1 by omega]
 rfl
theorem plus_ev (a b : List Int) (ha : IsW a) (hb : IsW b) (hla : a.length ≤ 1000000) (hlb : b.length ≤ 1000000) : Ev (fun k => whole_plus.f k a b) (wordsN (wval a + wval b)) := by
 by_cases h : a.length < b.length
 ·refine Ev.congr (fun k => ?_) (Nat.add_comm (wval b) (wval a) ▸ plus1_ev b a hb ha hlb (by omega))
  unfold whole_plus.f; rw [if_pos h]
 ·refine Ev.congr (fun k => ?_) (plus1_ev a b ha hb hla (by omega))
  unfold whole_plus.f; rw [if_neg h]
theorem bI_take_succ (l : List Int) (i : Nat) (h : i < l.length) (h0 : 0 ≤ l[i]) : bI (l.take (i + 1)) = bI (l.take i) * 256 + l[i] := by
 rw [take_succ_get l i h, bI_snoc _ _ h0]
theorem bval_small {l : List Int} (h : IsB l) {n : Nat} (hn : l.length ≤ n) : bval l < 256 ^ n :=
 Nat.lt_of_lt_of_le (bval_lt h) (Nat.pow_le_pow_right (by decide) hn)
theorem wordsOf_inner (x0 x3 : List Int) (x4 : Int) (ys : List Int) (hy : IsB ys) (hl : ys.length ≤ 4) (r : List Int)
  (h : Ev (fun k => whole_wordsOf.l1 k x0 x3 x4 (bI ys) ys ys.length (ys.length : Nat)) r) :
  ∀ (d i : Nat), d = ys.length - i → i ≤ ys.length → Ev (fun k => whole_wordsOf.l1 k x0 x3 x4 (bI (ys.take i)) ys ys.length (i : Nat)) r := by
 intro d
 induction d with
 | zero =>
  intro i hd hi
  obtain rfl : i = ys.length := by omega
  rw [List.take_length]; exact h
 | succ d ih =>
  intro i hd hi
  have hlt : i < ys.length := by omega
  have hA := hy.get i hlt
  have h1 := ih (i + 1) (by omega) (by omega)
  rw [bI_take_succ ys i hlt hA.1] at h1
  have hb : bI (ys.take i) < 16777216 := by
   rw [bI_eq]
   have := bval_small (hy.take i) (n := 3) (by rw [List.length_take]; omega)
   have e : (256 : Nat) ^ 3 = 16777216 := by decide
   omega
  have hb0 := bI_nonneg (ys.take i)
  refine Ev.step (fun k => ?_) h1
  simp only [whole_wordsOf.l1]
  rw [if_pos (by omega), if_pos (by omega), if_pos (by omega), rd_lt _ _ hlt, w64s i (by omega), Int.emod_eq_of_lt (by omega) (by omega : bI (ys.take i) * 256 < 4294967296), Int.emod_eq_of_lt hA.1 (by omega), or32 hb0 hb hA.1 hA.2]
theorem CanB.take {l : List Int} (h : CanB l) (m : Nat) (hm : 0 < m) : CanB (l.take m) := by
 refine ⟨h.1.take m, ?_⟩
 rw [List.head?_take]
 have := h.2
 simp only [show m ≠ 0 by omega, if_false]
 exact this
theorem CanB.pos {l : List Int} (h : CanB l) (hl : l ≠ []) : 0 < bval l := by
 cases l with
 | nil => exact absurd rfl hl
 | cons x r =>
  have hx : x ≠ 0 := fun e => h.2 (by simp [e])
  have := bval_ge h.1 hx
  have : 0 < 256 ^ r.length := Nat.pow_pos (by decide)
  omega
theorem wordsOf_loop : ∀ (n : Nat) (x0 x3 : List Int), x0.length ≤ n → IsB x0 → x3.length + x0.length ≤ 1000000 →
  ∃ ws : List Int, IsW ws ∧ wval ws = bval x0 ∧ (CanB x0 → CanW ws) ∧ ws.length ≤ x0.length ∧ Ev (fun k => whole_wordsOf.l0 k x0 x3) (x3 ++ ws) := by
 intro n
 induction n with
 | zero =>
  intro x0 x3 hn hb hl
  obtain rfl : x0 = [] := List.eq_nil_of_length_eq_zero (by omega)
  refine ⟨[], IsW.nil, rfl, fun _ => ⟨IsW.nil, by simp⟩, by simp, Ev.step (f := fun _ => some x3) (fun k => ?_) (by simpa using Ev.now _)⟩
  simp only [whole_wordsOf.l0]; rw [if_neg (by simp)]
 | succ n ih =>
  intro x0 x3 hn hb hl
  by_cases h0 : x0.length = 0
  ·obtain rfl : x0 = [] := List.eq_nil_of_length_eq_zero h0
   refine ⟨[], IsW.nil, rfl, fun _ => ⟨IsW.nil, by simp⟩, by simp, Ev.step (f := fun _ => some x3) (fun k => ?_) (by simpa using Ev.now _)⟩
   simp only [whole_wordsOf.l0]; rw [if_neg (by simp)]
  ·have hmx : mx 0 (wrap64 ((x0.length : Int) - 4)) = ((x0.length - 4 : Nat) : Int) := by
    rw [w64 (by omega) (by omega)]; unfold mx; split <;> omega
   generalize hm : x0.length - 4 = m at hmx
   have hyl : (x0.drop m).length ≤ 4 := by rw [List.length_drop]; omega
   have hyB := hb.drop m
   have a1 := bI_nonneg (x0.drop m)
   have a0 : bI (x0.drop m) < 4294967296 := by
    rw [bI_eq]
    have := bval_small hyB (n := 4) hyl
    have e : (256 : Nat) ^ 4 = 4294967296 := by decide
    omega
   have htl : (x0.take m).length = m := by rw [List.length_take]; omega
   obtain ⟨ws, h1, h2, h3, h4, h5⟩ := ih (x0.take m) (x3 ++ [bI (x0.drop m)]) (by omega) (hb.take m) (by rw [List.length_append, htl]; simp; omega)
   refine ⟨bI (x0.drop m) :: ws, IsW.cons a1 a0 h1, ?_, ?_, by simp only [List.length_cons]; omega, ?_⟩
   ·have hs := bval_append (x0.take m) (x0.drop m)
    rw [List.take_append_drop] at hs
    show (bI (x0.drop m)).toNat + 4294967296 * wval ws = bval x0
    rw [hs, h2, bI_eq, Int.toNat_natCast]
    by_cases a2 : m = 0
    ·subst a2; simp [bval_nil]
    ·have : (x0.drop m).length = 4 := by rw [List.length_drop]; omega
     rw [this, show (256 : Nat) ^ 4 = 4294967296 by decide]; omega
   ·intro hc
    refine ⟨IsW.cons a1 a0 h1, ?_⟩
    by_cases a2 : m = 0
    ·have hw : ws = [] := by
      apply List.eq_nil_of_length_eq_zero; omega
     subst hw a2
     rw [List.drop_zero]
     have := CanB.pos hc (fun e => h0 (by rw [e]; rfl))
     simp [bI_eq]; omega
    ·have hct := CanB.take hc m (by omega)
     have hcw := h3 hct
     have hne : ws ≠ [] := by
      intro e
      rw [e] at h2
      have := CanB.pos hct (fun e => by rw [e] at htl; simp at htl; omega)
      simp [wval] at h2; omega
     obtain ⟨z, zs, rfl⟩ := List.exists_cons_of_ne_nil hne
     rw [List.getLast?_cons_cons]
     exact hcw.2
   ·refine Ev.step (f := fun k => whole_wordsOf.l1 k x0 x3 (m : Int) 0 (x0.drop m) ((x0.drop m).length : Int) 0) (fun k => ?_) ?_
    ·simp only [whole_wordsOf.l0]
     rw [if_pos (by omega), hmx, if_pos (by omega), if_pos (by omega), Option.bind_some, Int.toNat_natCast]
    ·have := wordsOf_inner x0 x3 (m : Int) (x0.drop m) hyB hyl (x3 ++ bI (x0.drop m) :: ws) ?_ (x0.drop m).length 0 (by omega) (by omega)
     ·simpa [bI_nil] using this
     ·refine Ev.step (f := fun k => whole_wordsOf.l0 k (x0.take m) (x3 ++ [bI (x0.drop m)])) (fun k => ?_) (by simpa using h5)
      simp only [whole_wordsOf.l1]
      rw [if_neg (by omega), if_pos (by omega), if_pos (by omega), if_pos (by omega), Int.toNat_natCast]
theorem wordsOf_ev (l : List Int) (h : CanB l) (hl : l.length ≤ 1000000) : Ev (fun k => whole_wordsOf.f k l) (wordsN (bval l)) := by
 obtain ⟨ws, h1, h2, h3, h4, h5⟩ := wordsOf_loop l.length l [] (Nat.le_refl _) h.1 (by simpa using hl)
 rw [← h2, wordsN_wval (h3 h)]
 rw [List.nil_append] at h5
 exact h5
theorem strip_bytes : ∀ (l : List Int), IsB l → strip l = bytesN (bval l)
 | [], _ => by rw [bval_nil, bytesN_zero]; rfl
 | x :: r, h => by
  by_cases hx : x = 0
  ·subst hx
   have e : strip (0 :: r) = strip r := by simp [strip]
   rw [e, strip_bytes r h.tail, bval_cons]
   simp
  ·have e : strip (x :: r) = x :: r := by simp [strip, hx]
   rw [e, bytesN_bval ⟨h, by simp [hx]⟩]
theorem four_isB (n : Int) : IsB (four n) := by
 intro y hy
 simp only [four, List.mem_cons, List.not_mem_nil, or_false] at hy
 rcases hy with rfl | rfl | rfl | rfl <;> omega
theorem four_bval (n : Int) (h0 : 0 ≤ n) (h1 : n < 4294967296) : bval (four n) = n.toNat := by
 simp only [four, bval, List.foldl_cons, List.foldl_nil]
 omega
theorem flat_cons (z : Int) (zs : List Int) : flat (upto (fromLast (z :: zs)) (zs.length + 1)) = flat (upto (fromLast zs) zs.length) ++ four z := by
 unfold flat upto
 rw [List.range_succ, List.map_append, List.flatMap_append]
 congr 1
 ·rw [List.flatMap_map, List.flatMap_map]
  rw [List.flatMap_def, List.flatMap_def]
  congr 1
  apply List.map_congr_left
  intro j hj
  have hj := List.mem_range.1 hj
  simp only [fromLast, List.length_cons]
  congr 1
  have e1 : ((zs.length + 1 : Nat) : Int) - 1 - (j : Int) = ((zs.length - j : Nat) : Int) := by omega
  have e2 : ((zs.length : Nat) : Int) - 1 - (j : Int) = ((zs.length - 1 - j : Nat) : Int) := by omega
  rw [e1, e2, rd_lt _ _ (by simp; omega), rd_lt _ _ (by omega)]
  have e3 : zs.length - j = (zs.length - 1 - j) + 1 := by omega
  simp only [e3, List.getElem_cons_succ]
 ·have e1 : (((z :: zs).length : Nat) : Int) - 1 - (zs.length : Int) = ((0 : Nat) : Int) := by simp
  simp only [List.map_cons, List.map_nil, fromLast, List.flatMap_cons, List.flatMap_nil, List.append_nil]
  rw [e1, rd_lt _ _ (by simp)]
  rfl
theorem flat_spec : ∀ (zs : List Int), IsW zs → IsB (flat (upto (fromLast zs) zs.length)) ∧ bval (flat (upto (fromLast zs) zs.length)) = wval zs
 | [], _ => ⟨by simpa [flat, upto] using IsB.nil, by simp [flat, upto, bval_nil, wval]⟩
 | z :: zs, h => by
  obtain ⟨h1, h2⟩ := flat_spec zs h.tail
  rw [List.length_cons, flat_cons]
  refine ⟨h1.append (four_isB z), ?_⟩
  rw [bval_append, h2, four_bval z h.head.1 h.head.2]
  show wval zs * 256 ^ 4 + z.toNat = z.toNat + 4294967296 * wval zs
  rw [show (256 : Nat) ^ 4 = 4294967296 by decide]; omega
theorem bytes_ev (l : List Int) (h : IsW l) (hl : l.length ≤ 100000) : Ev (fun k => whole_words_bytes.f k l) (bytesN (wval l)) := by
 unfold whole_words_bytes.f
 refine Ev.bind (trim_ev l h (by omega)) ?_
 have hc := canW_wordsN (wval l)
 have hlen : (wordsN (wval l)).length ≤ 100000 := Nat.le_trans (wordsN_length_le.2 (wval_lt h)) hl
 refine Ev.congr (f := fun _ => some (bytesN (wval l))) (fun k => ?_) (Ev.now _)
 obtain ⟨h1, h2⟩ := flat_spec (wordsN (wval l)) hc.1
 rw [if_pos hlen, strip_bytes _ h1, h2, wval_wordsN]
/-- A number of a sign and a size. -/
def mk (neg : Bool) (n : Nat) : Bool × List Int := (neg && decide (n ≠ 0), bytesN n)
theorem made_ev (neg : Bool) (l : List Int) (h : IsW l) (hl : l.length ≤ 100000) : Ev (fun k => whole_made.f k neg l) (mk neg (wval l)) := by
 unfold whole_made.f
 refine Ev.bind (bytes_ev l h hl) ?_
 refine Ev.congr (f := fun _ => some (mk neg (wval l))) (fun k => ?_) (Ev.now _)
 have hz : decide (0 < (bytesN (wval l)).length) = decide (wval l ≠ 0) := by
  have := bytesN_len_zero (wval l)
  simp only [decide_eq_decide]; omega
 cases neg <;> simp [mk, hz]
/-- What is handed back: a number that fits, or none. -/
def fit (neg : Bool) (n : Nat) : Bool × List Int × Int := if (bytesN n).length > 128 then (false, [], 24) else ((mk neg n).1, (mk neg n).2, 0)
theorem fits_ev (neg : Bool) (l : List Int) (h : IsW l) (hl : l.length ≤ 100000) : Ev (fun k => whole_fits.f k neg l) (fit neg (wval l)) := by
 unfold whole_fits.f
 refine Ev.bind (made_ev neg l h hl) ?_
 refine Ev.congr (f := fun _ => some (fit neg (wval l))) (fun k => ?_) (Ev.now _)
 show (if ((bytesN (wval l)).length : Int) > 128 then some (false, ([] : List Int), (24 : Int)) else some ((mk neg (wval l)).1, (mk neg (wval l)).2, (0 : Int))) = some (fit neg (wval l))
 unfold fit
 by_cases hb : (bytesN (wval l)).length > 128
 ·rw [if_pos (by omega), if_pos hb]
 ·rw [if_neg (by omega), if_neg hb]
/-- Can it be? -/
def okN (neg : Bool) (l : List Int) : Bool := if l = [] then !neg else decide (l.head? ≠ some 0) && decide (l.length ≤ 128)
theorem right_eq (neg : Bool) (l : List Int) : whole_Right.f neg l = some (okN neg l) := by
 unfold whole_Right.f okN
 cases l with
 | nil => simp
 | cons x r =>
  have e : rd (x :: r) 0 = x := by have := rd_lt (x :: r) 0 (by simp); simpa using this
  rw [if_neg (by simp only [List.length_cons]; omega), if_pos (by simp only [List.length_cons]; omega), e]
  by_cases hx : x = 0
  ·simp [hx]
  ·simp [hx]; omega
theorem rright_eq (neg : Bool) (l : List Int) : lapidaryref02_Right.f neg l = some (okN neg l) := by
 unfold lapidaryref02_Right.f okN
 cases l with
 | nil => cases neg <;> simp
 | cons x r =>
  have e : rd (x :: r) 0 = x := by have := rd_lt (x :: r) 0 (by simp); simpa using this
  by_cases hl : ((x :: r).length : Int) ≤ 128
  ·rw [if_pos hl, if_neg (by simp only [List.length_cons]; omega), if_pos (by simp only [List.length_cons]; omega), if_pos (by simp only [List.length_cons]; omega), e]
   by_cases hx : x = 0
   ·simp [hx]
   ·have hr : r.length + 1 ≤ 128 := by simp only [List.length_cons] at hl; omega
    have h1 : (x != 0) = true := by simpa using hx
    have h2 : decide ((x :: r).length ≤ 128) = true := by simp only [List.length_cons, decide_eq_true_eq]; exact hr
    rw [h1, h2, if_neg (by simp)]
    simp [hx]
  ·rw [if_neg hl]; simp at hl ⊢; intro; omega
theorem okN_can {neg : Bool} {l : List Int} (hb : IsB l) (h : okN neg l = true) : CanB l ∧ l.length ≤ 128 := by
 unfold okN at h
 split at h
 case isTrue e => subst e; exact ⟨⟨hb, by simp⟩, by simp⟩
 case isFalse e => simp at h; exact ⟨⟨hb, by simpa using h.1⟩, h.2⟩
end Go.Proofs.Ytfjbhccapgnkiaa.P
namespace Go.Proofs.Ytfjbhccapgnkiaa.P
open Go.RowKit Go.Proofs.YtfjbhccapgnkiaaW.PrintWords Go.Proofs.YtfjbhccapgnkiaaW.PrintLast Go.Proofs.YtfjbhccapgnkiaaW.PrintMore
attribute [local go_sem] max2_int min2_int max_two min_two max_three min_three max_four min_four
set_option linter.unusedVariables false
set_option maxHeartbeats 16000000
set_option maxRecDepth 100000
set_option linter.unusedSimpArgs false
open Lap
/-- The byte at a place from the last one on. -/
def atv (l : List Int) (i : Nat) : Int := if h : i < l.length then l[l.length - 1 - i] else 0
theorem atv_range {l : List Int} (h : IsB l) (i : Nat) : 0 ≤ atv l i ∧ atv l i < 256 := by
 unfold atv
 split
 ·exact h.get _ _
 ·omega
theorem at_eq (l : List Int) (h : IsB l) (hl : l.length ≤ 1000000) (i : Nat) (hi : i ≤ 1000000) : lapidaryref02_at.f l (i : Int) = some (atv l i) := by
 unfold lapidaryref02_at.f atv
 by_cases hlt : i < l.length
 ·have e : wrap64 (wrap64 ((l.length : Int) - 1) - (i : Int)) = ((l.length - 1 - i : Nat) : Int) := by
   rw [w64 (x := (l.length : Int) - 1) (by omega) (by omega), w64 (by omega) (by omega)]; omega
  have hg := h.get (l.length - 1 - i) (by omega)
  rw [if_neg (by omega), e, if_pos (by omega), if_pos (by omega), rd_lt _ _ (by omega), dif_pos hlt, w64 (by omega) (by omega)]
 ·rw [if_pos (by omega), dif_neg hlt]
/-- The last i bytes. -/
def low (l : List Int) (i : Nat) : Int := bI (l.drop (l.length - i))
theorem low_zero (l : List Int) : low l 0 = 0 := by simp [low, bI_nil]
theorem low_all (l : List Int) (i : Nat) (h : l.length ≤ i) : low l i = bI l := by
 unfold low; rw [show l.length - i = 0 by omega, List.drop_zero]
theorem low_succ (l : List Int) (hb : IsB l) (i : Nat) : low l (i + 1) = low l i + W8 i * atv l i := by
 unfold low atv
 by_cases h : i < l.length
 ·rw [dif_pos h, show l.length - (i + 1) = l.length - 1 - i by omega, List.drop_eq_getElem_cons (by omega : l.length - 1 - i < l.length), bI_cons _ _ (hb.get _ (by omega)).1,
   show l.length - 1 - i + 1 = l.length - i by omega, show (l.drop (l.length - i)).length = i by rw [List.length_drop]; omega]
  grind
 ·rw [dif_neg h, show l.length - (i + 1) = l.length - i by omega]; grind
theorem bI_rev_snoc (l : List Int) (v : Int) (h0 : 0 ≤ v) : bI (l ++ [v]).reverse = bI l.reverse + W8 l.length * v := by
 rw [List.reverse_append, List.reverse_singleton, List.singleton_append, bI_cons _ _ h0, List.length_reverse]; grind
theorem turned_loop (l : List Int) (hl : l.length ≤ 1000000) : ∀ (d : Nat) (out : List Int), d ≤ l.length → out = (l.drop d).reverse →
  Ev (fun k => lapidaryref02_turned.l0 k l out ((d : Int) - 1)) l.reverse := by
 intro d
 induction d with
 | zero =>
  intro out hd ho
  refine Ev.step (f := fun _ => some l.reverse) (fun k => ?_) (Ev.now _)
  simp only [lapidaryref02_turned.l0]
  rw [if_neg (by omega), ho, List.drop_zero]
 | succ d ih =>
  intro out hd ho
  have hlt : d < l.length := by omega
  have hol : out.length = l.length - (d + 1) := by rw [ho, List.length_reverse, List.length_drop]
  have h := ih (out ++ [l[d]]) (by omega) (by rw [ho, List.drop_eq_getElem_cons hlt, List.reverse_cons])
  refine Ev.step (fun k => ?_) h
  simp only [lapidaryref02_turned.l0]
  rw [show ((d + 1 : Nat) : Int) - 1 = (d : Int) by omega, if_pos (by omega), if_pos (by omega), if_pos (by omega), if_pos (by omega), rd_lt _ _ hlt, w64 (by omega) (by omega)]
theorem turned_ev (l : List Int) (hl : l.length ≤ 1000000) : Ev (fun k => lapidaryref02_turned.f k l) l.reverse := by
 have := turned_loop l hl l.length [] (Nat.le_refl _) (by simp)
 unfold lapidaryref02_turned.f
 rw [w64 (by omega) (by omega)]
 exact this
theorem sum_step {O P L1 L2 c a b v q : Int} (h : v + 256 * q = c + a + b) (he : O + P * c = L1 + L2) : (O + P * v) + (P * 256) * q = (L1 + P * a) + (L2 + P * b) := by grind
theorem sum_loop (a b : List Int) (ha : IsB a) (hb : IsB b) (hla : a.length ≤ 900000) (hlb : b.length ≤ 900000) :
  ∀ (d i : Nat) (out : List Int) (c : Int), d + i = max a.length b.length + 1 → out.length = i → IsB out → 0 ≤ c → c ≤ 1 → (d = 0 → c = 0) → bI out.reverse + W8 i * c = low a i + low b i →
   ∃ r : List Int, IsB r ∧ bI r = bI a + bI b ∧ r.length ≤ max a.length b.length + 1 ∧ Ev (fun k => lapidaryref02_sum.l0 k a b out c (i : Int)) r := by
 intro d
 induction d with
 | zero =>
  intro i out c hd ho hw h0 h1 hz he
  have hc := hz rfl
  subst hc
  refine ⟨out.reverse, hw.reverse, ?_, by rw [List.length_reverse]; omega, ?_⟩
  ·rw [low_all a i (by omega), low_all b i (by omega)] at he; simpa using he
  ·refine Ev.step (f := fun k => lapidaryref02_sum.j1 k a b out 0 (i : Int) false) (fun k => ?_) (Ev.step (f := fun k => (lapidaryref02_turned.f k out).bind fun t => some t) (fun k => ?_) (Ev.bind (turned_ev out (by omega)) (Ev.now _)))
   ·simp only [lapidaryref02_sum.l0]
    rw [if_neg (by omega), if_neg (by omega)]; rfl
   ·simp only [lapidaryref02_sum.j1]
    rw [if_neg (by simp)]
 | succ d ih =>
  intro i out c hd ho hw h0 h1 hz he
  have hA := atv_range ha i
  have hB := atv_range hb i
  by_cases hstop : a.length ≤ i ∧ b.length ≤ i ∧ c = 0
  ·obtain ⟨h2, h3, rfl⟩ := hstop
   refine ⟨out.reverse, hw.reverse, ?_, by rw [List.length_reverse]; omega, ?_⟩
   ·rw [low_all a i (by omega), low_all b i (by omega)] at he; simpa using he
   ·refine Ev.step (f := fun k => lapidaryref02_sum.j1 k a b out 0 (i : Int) false) (fun k => ?_) (Ev.step (f := fun k => (lapidaryref02_turned.f k out).bind fun t => some t) (fun k => ?_) (Ev.bind (turned_ev out (by omega)) (Ev.now _)))
    ·simp only [lapidaryref02_sum.l0]
     rw [if_neg (by omega), if_neg (by omega)]; rfl
    ·simp only [lapidaryref02_sum.j1]
     rw [if_neg (by simp)]
  ·have a0 := low_succ a ha i
   have a1 := low_succ b hb i
   obtain ⟨r, h2, h3, h4, h5⟩ := ih (i + 1) (out ++ [(c + atv a i + atv b i) % 256]) ((c + atv a i + atv b i) / 256) (by omega) (by simp [ho]) (hw.append (IsB.cons (by omega) (by omega) IsB.nil)) (by omega) (by omega)
    (by
     intro hd0
     have e1 : a.length ≤ i := by omega
     have e2 : b.length ≤ i := by omega
     have z1 : atv a i = 0 := by unfold atv; rw [dif_neg (by omega)]
     have z2 : atv b i = 0 := by unfold atv; rw [dif_neg (by omega)]
     rw [z1, z2]; omega)
    (by rw [bI_rev_snoc _ _ (by omega), ho, W8_succ, a0, a1]; exact sum_step (by omega) he)
   refine ⟨r, h2, h3, h4, ?_⟩
   refine Ev.step (f := fun k => lapidaryref02_sum.j1 k a b out c (i : Int) true) (fun k => ?_) (Ev.step (fun k => ?_) h5)
   ·simp only [lapidaryref02_sum.l0]
    by_cases e1 : (i : Int) < a.length
    ·rw [if_pos e1]
    ·rw [if_neg e1]
     by_cases e2 : (i : Int) < b.length
     ·rw [if_pos e2]
     ·rw [if_neg e2, show decide (c > 0) = true from by simp only [decide_eq_true_eq]; omega]
   ·simp only [lapidaryref02_sum.j1]
    have hw : wrap64 (wrap64 (c + atv a i) + atv b i) = c + atv a i + atv b i := by rw [w64 (x := c + atv a i) (by omega) (by omega), w64 (by omega) (by omega)]
    rw [if_pos trivial, at_eq a ha (by omega) i (by omega), Option.bind_some, at_eq b hb (by omega) i (by omega), Option.bind_some, if_pos (by omega), hw, w64s i (by omega), Int.tmod_eq_emod_of_nonneg (by omega), Int.tdiv_eq_ediv_of_nonneg (by omega), w64 (by omega) (by omega), Int.emod_emod_of_dvd _ (by decide)]
theorem bI_bval {a : List Int} {n : Nat} (h : bI a = (n : Int)) : bval a = n := by rw [bI_eq] at h; omega
theorem sum_ev (a b : List Int) (ha : IsB a) (hb : IsB b) (hla : a.length ≤ 900000) (hlb : b.length ≤ 900000) :
  ∃ r : List Int, IsB r ∧ bI r = bI a + bI b ∧ r.length ≤ max a.length b.length + 1 ∧ Ev (fun k => lapidaryref02_sum.f k a b) r :=
 sum_loop a b ha hb hla hlb (max a.length b.length + 1) 0 [] 0 (by omega) rfl IsB.nil (by omega) (by omega) (fun _ => rfl) (by rw [low_zero, low_zero]; simp [bI_nil])
theorem IsB.replicate (n : Nat) : IsB (List.replicate n 0) := fun y hy => by rw [List.eq_of_mem_replicate hy]; omega
theorem bI_replicate (n : Nat) : bI (List.replicate n 0) = 0 := by
 induction n with
 | zero => exact bI_nil
 | succ n ih => rw [List.replicate_succ, bI_cons _ _ (by omega), ih]; omega
theorem rmade_eq (neg : Bool) (l : List Int) (h : IsB l) (hl : l.length ≤ 1000000) : lapidaryref02_made.f neg l = some (mk neg (bval l)) := by
 unfold lapidaryref02_made.f mk
 rw [if_pos (by omega), strip_bytes l h]
 have : (!(bytesN (bval l)).isEmpty) = decide (bval l ≠ 0) := by
  have := bytesN_nil_iff (bval l)
  rw [Bool.eq_iff_iff]; simp [this]
 rw [this]
theorem rfits_eq (neg : Bool) (l : List Int) (h : IsB l) (hl : l.length ≤ 1000000) : lapidaryref02_fits.f neg l = some (fit neg (bval l)) := by
 unfold lapidaryref02_fits.f
 rw [rmade_eq neg l h hl, Option.bind_some]
 show (if ((bytesN (bval l)).length : Int) > 128 then some (false, ([] : List Int), (24 : Int)) else some ((mk neg (bval l)).1, (mk neg (bval l)).2, (0 : Int))) = some (fit neg (bval l))
 unfold fit
 by_cases hb : (bytesN (bval l)).length > 128
 ·rw [if_pos (by omega), if_pos hb]
 ·rw [if_neg (by omega), if_neg hb]
/-- The answer to two numbers of which one cannot be. -/
def bad : Bool × List Int × Int := (false, [], 1)
theorem wordsN_len (n k : Nat) (h : n < 256 ^ (4 * k)) : (wordsN n).length ≤ k := by
 rw [wordsN_length_le]
 have : (256 : Nat) ^ (4 * k) = 4294967296 ^ k := by rw [Nat.pow_mul]
 omega
theorem words_of {xn : Bool} {x : List Int} (hx : IsB x) (h : okN xn x = true) : (wordsN (bval x)).length ≤ 32 ∧ Ev (fun k => whole_wordsOf.f k x) (wordsN (bval x)) := by
 have c := okN_can hx h
 exact ⟨wordsN_len _ 32 (bval_small hx (by omega)), wordsOf_ev x c.1 (by omega)⟩
theorem fit_len (neg : Bool) (n : Nat) : (fit neg n).2.1.length ≤ 140737488355328 := by
 unfold fit mk
 split
 ·simp
 ·rename_i h; simp only; omega
end Go.Proofs.Ytfjbhccapgnkiaa.P
namespace Go.Proofs.Ytfjbhccapgnkiaa.P
open Go.RowKit Go.Proofs.YtfjbhccapgnkiaaW.PrintWords Go.Proofs.YtfjbhccapgnkiaaW.PrintLast Go.Proofs.YtfjbhccapgnkiaaW.PrintMore
attribute [local go_sem] max2_int min2_int max_two min_two max_three min_three max_four min_four
set_option linter.unusedVariables false
set_option maxHeartbeats 16000000
set_option maxRecDepth 100000
set_option linter.unusedSimpArgs false
open Lap
theorem less_step {O P A B c a b v q : Int} (h : v - 256 * q = a - b - c) (he : O - P * c = A - B) : (O + P * v) - (P * 256) * q = (A + P * a) - (B + P * b) := by grind
theorem less_loop (a b : List Int) (ha : IsB a) (hb : IsB b) (hla : a.length ≤ 900000) (hlb : b.length ≤ a.length) (hle : bval b ≤ bval a) :
  ∀ (d i : Nat) (out : List Int) (c : Int), d + i = a.length → out.length = i → IsB out → 0 ≤ c → c ≤ 1 → bI out.reverse - W8 i * c = low a i - low b i →
   ∃ r : List Int, IsB r ∧ bI r = bI a - bI b ∧ r.length ≤ a.length ∧ Ev (fun k => lapidaryref02_less.l0 k a b out c (i : Int)) r := by
 intro d
 induction d with
 | zero =>
  intro i out c hd ho hw h0 h1 he
  obtain rfl : i = a.length := by omega
  refine ⟨out.reverse, hw.reverse, ?_, by rw [List.length_reverse]; omega, ?_⟩
  ·rw [low_all a _ (Nat.le_refl _), low_all b _ hlb] at he
   have hr := bI_lt hw.reverse
   rw [List.length_reverse, ho] at hr
   have hc : c = 0 := by
    rcases (by omega : c = 0 ∨ c = 1) with e | e
    ·exact e
    ·subst e
     rw [bI_eq a, bI_eq b] at he
     omega
   subst hc
   simpa using he
  ·refine Ev.step (f := fun k => (lapidaryref02_turned.f k out).bind fun t => some t) (fun k => ?_) (Ev.bind (turned_ev out (by omega)) (Ev.now _))
   simp only [lapidaryref02_less.l0]
   rw [if_neg (by omega)]
 | succ d ih =>
  intro i out c hd ho hw h0 h1 he
  have hA := atv_range ha i
  have hB := atv_range hb i
  have a0 := low_succ a ha i
  have a2 := low_succ b hb i
  have a1 : wrap64 (wrap64 (atv a i - atv b i) - c) = atv a i - atv b i - c := by rw [w64 (x := atv a i - atv b i) (by omega) (by omega), w64 (by omega) (by omega)]
  by_cases hn : atv a i - atv b i - c < 0
  ·obtain ⟨r, h2, h3, h4, h5⟩ := ih (i + 1) (out ++ [atv a i - atv b i - c + 256]) 1 (by omega) (by simp [ho]) (hw.append (IsB.cons (by omega) (by omega) IsB.nil)) (by omega) (by omega)
    (by rw [bI_rev_snoc _ _ (by omega), ho, W8_succ, a0, a2]; exact less_step (by omega) he)
   refine ⟨r, h2, h3, h4, Ev.step (fun k => ?_) h5⟩
   simp only [lapidaryref02_less.l0]
   rw [if_pos (by omega), at_eq a ha (by omega) i (by omega), Option.bind_some, at_eq b hb (by omega) i (by omega), Option.bind_some, a1, if_pos hn, if_pos (by omega), w64s i (by omega), w64 (x := atv a i - atv b i - c + 256) (by omega) (by omega), Int.emod_eq_of_lt (by omega) (by omega)]
  ·obtain ⟨r, h2, h3, h4, h5⟩ := ih (i + 1) (out ++ [atv a i - atv b i - c]) 0 (by omega) (by simp [ho]) (hw.append (IsB.cons (by omega) (by omega) IsB.nil)) (by omega) (by omega)
    (by rw [bI_rev_snoc _ _ (by omega), ho, W8_succ, a0, a2]; exact less_step (by omega) he)
   refine ⟨r, h2, h3, h4, Ev.step (fun k => ?_) h5⟩
   simp only [lapidaryref02_less.l0]
   rw [if_pos (by omega), at_eq a ha (by omega) i (by omega), Option.bind_some, at_eq b hb (by omega) i (by omega), Option.bind_some, a1, if_neg hn, if_pos (by omega), w64s i (by omega), Int.emod_eq_of_lt (by omega) (by omega)]
theorem less_ev (a b : List Int) (ha : IsB a) (hb : IsB b) (hla : a.length ≤ 900000) (hlb : b.length ≤ a.length) (hle : bval b ≤ bval a) :
  ∃ r : List Int, IsB r ∧ bval r = bval a - bval b ∧ r.length ≤ a.length ∧ Ev (fun k => lapidaryref02_less.f k a b) r := by
 obtain ⟨r, h1, h2, h3, h4⟩ := less_loop a b ha hb hla hlb hle a.length 0 [] 0 (by omega) rfl IsB.nil (by omega) (by omega) (by rw [low_zero, low_zero]; simp [bI_nil])
 refine ⟨r, h1, ?_, h3, h4⟩
 rw [bI_eq, bI_eq, bI_eq] at h2
 omega
theorem bval_len_lt {a b : List Int} (ha : IsB a) (hb : CanB b) (hl : a.length < b.length) : bval a < bval b := by
 cases b with
 | nil => simp at hl
 | cons x r =>
  have hx : x ≠ 0 := fun e => hb.2 (by simp [e])
  have h1 := bval_ge hb.1 hx
  have h2 := bval_small ha (n := r.length) (by simp at hl; omega)
  omega
theorem lex_lt {a b : List Int} (ha : IsB a) (hb : IsB b) (hl : a.length = b.length) (i : Nat) (hi : i < a.length) (ht : a.take i = b.take i) (hlt : a[i] < b[i]'(by omega)) : bval a < bval b := by
 have ea : a = a.take i ++ a[i] :: a.drop (i + 1) := by rw [← List.drop_eq_getElem_cons hi, List.take_append_drop]
 have eb : b = b.take i ++ b[i]'(by omega) :: b.drop (i + 1) := by rw [← List.drop_eq_getElem_cons (by omega : i < b.length), List.take_append_drop]
 have va : bI a = bI (a.take i ++ a[i] :: a.drop (i + 1)) := by rw [← ea]
 have vb : bI b = bI (b.take i ++ b[i]'(by omega) :: b.drop (i + 1)) := by rw [← eb]
 rw [bI_append, bI_cons _ _ (ha.get i hi).1] at va
 rw [bI_append, bI_cons _ _ (hb.get i (by omega)).1, ← ht] at vb
 have la : (a[i] :: a.drop (i + 1)).length = (b[i]'(by omega) :: b.drop (i + 1)).length := by simp; omega
 have lb : (a.drop (i + 1)).length = (b.drop (i + 1)).length := by simp; omega
 rw [la, lb] at va
 have ra := bI_lt (ha.drop (i + 1))
 rw [lb] at ra
 have rb := bI_nonneg (b.drop (i + 1))
 have hm : (a[i] + 1) * W8 (b.drop (i + 1)).length ≤ (b[i]'(by omega)) * W8 (b.drop (i + 1)).length := Int.mul_le_mul_of_nonneg_right (by omega) (Int.le_of_lt (W8_pos _))
 rw [Int.add_mul, Int.one_mul] at hm
 have : bI a < bI b := by rw [va, vb]; omega
 rw [bI_eq, bI_eq] at this
 omega
theorem cmp_loop (a b : List Int) (ha : IsB a) (hb : IsB b) (hl : a.length = b.length) (hla : a.length ≤ 900000) :
  ∀ (d i : Nat), d + i = a.length → a.take i = b.take i → ∃ c : Int, ((c < 0 ↔ bval a < bval b) ∧ (0 < c ↔ bval b < bval a) ∧ -256 < c ∧ c < 256) ∧ Ev (fun k => lapidaryref02_cmp.l0 k a b (i : Int)) c := by
 intro d
 induction d with
 | zero =>
  intro i hd ht
  obtain rfl : i = a.length := by omega
  have hab : a = b := by rw [List.take_length] at ht; rw [ht, hl, List.take_length]
  refine ⟨0, by rw [hab]; omega, Ev.step (f := fun _ => some 0) (fun k => ?_) (Ev.now _)⟩
  simp only [lapidaryref02_cmp.l0]
  rw [if_neg (by omega)]
 | succ d ih =>
  intro i hd ht
  have hi : i < a.length := by omega
  have hib : i < b.length := by omega
  have hA := ha.get i hi
  have hB := hb.get i hib
  by_cases he : a[i] = b[i]
  ·obtain ⟨c, h1, h2⟩ := ih (i + 1) (by omega) (by rw [take_succ_get a i hi, take_succ_get b i hib, ht, he])
   refine ⟨c, h1, Ev.step (fun k => ?_) h2⟩
   simp only [lapidaryref02_cmp.l0]
   rw [if_pos (by omega), if_pos (by omega), if_pos (by omega), rd_lt _ _ hi, rd_lt _ _ hib, if_pos he, w64s i (by omega)]
  ·refine ⟨a[i] - b[i], ?_, Ev.step (f := fun _ => some (a[i] - b[i])) (fun k => ?_) (Ev.now _)⟩
   ·rcases Int.lt_or_gt_of_ne he with hlt | hgt
    ·have := lex_lt ha hb hl i hi ht hlt
     omega
    ·have := lex_lt hb ha hl.symm i hib ht.symm hgt
     omega
   ·simp only [lapidaryref02_cmp.l0]
    rw [if_pos (by omega), if_pos (by omega), if_pos (by omega), rd_lt _ _ hi, rd_lt _ _ hib, if_neg he, w64 (x := a[i]) (by omega) (by omega), w64 (x := b[i]) (by omega) (by omega), w64 (by omega) (by omega)]
theorem cmp_ev (a b : List Int) (ha : CanB a) (hb : CanB b) (hla : a.length ≤ 900000) (hlb : b.length ≤ 900000) :
  ∃ c : Int, ((c < 0 ↔ bval a < bval b) ∧ (0 < c ↔ bval b < bval a) ∧ -1000000 < c ∧ c < 1000000) ∧ Ev (fun k => lapidaryref02_cmp.f k a b) c := by
 by_cases hl : a.length = b.length
 ·obtain ⟨c, h1, h2⟩ := cmp_loop a b ha.1 hb.1 hl hla a.length 0 (by omega) rfl
  refine ⟨c, by omega, Ev.congr (fun k => ?_) h2⟩
  unfold lapidaryref02_cmp.f
  rw [if_pos (by omega)]; rfl
 ·refine ⟨(a.length : Int) - b.length, ?_, Ev.congr (f := fun _ => some ((a.length : Int) - b.length)) (fun k => ?_) (Ev.now _)⟩
  ·rcases Nat.lt_or_gt_of_ne hl with hlt | hgt
   ·have := bval_len_lt ha.1 hb hlt; omega
   ·have := bval_len_lt hb.1 ha hgt; omega
  ·unfold lapidaryref02_cmp.f
   rw [if_neg (by omega), w64 (by omega) (by omega)]
end Go.Proofs.Ytfjbhccapgnkiaa.P
namespace Go.Proofs.Ytfjbhccapgnkiaa.P
open Go.RowKit Go.Proofs.YtfjbhccapgnkiaaW.PrintWords Go.Proofs.YtfjbhccapgnkiaaW.PrintLast Go.Proofs.YtfjbhccapgnkiaaW.PrintMore
attribute [local go_sem] max2_int min2_int max_two min_two max_three min_three max_four min_four
set_option linter.unusedVariables false
set_option maxHeartbeats 16000000
set_option maxRecDepth 100000
set_option linter.unusedSimpArgs false
open Lap
theorem words_mono {n m : Nat} (h : n ≤ m) : (wordsN n).length ≤ (wordsN m).length := by
 rw [wordsN_length_le]
 exact Nat.lt_of_le_of_lt h (wordsN_length_le.1 (Nat.le_refl _))
theorem bytes_len {n k : Nat} (h : n < 256 ^ k) : (bytesN n).length ≤ k := bytesN_length_lt.2 h
/-- How often, and what is left. -/
def divV (xn : Bool) (a : Nat) (yn : Bool) (b : Nat) : Bool × List Int × Bool × List Int × Int :=
 if (xn != yn && decide (a % b ≠ 0)) = true then ((mk (xn != yn) (a / b + 1)).1, (mk (xn != yn) (a / b + 1)).2, (mk yn (b - a % b)).1, (mk yn (b - a % b)).2, 0)
 else ((mk (xn != yn) (a / b)).1, (mk (xn != yn) (a / b)).2, (mk yn (a % b)).1, (mk yn (a % b)).2, 0)
def divS (xn : Bool) (x : List Int) (yn : Bool) (y : List Int) : Bool × List Int × Bool × List Int × Int :=
 if (okN xn x && okN yn y) = true then (if y = [] then (false, [], false, [], 23) else divV xn (bval x) yn (bval y)) else (false, [], false, [], 1)
theorem one_isB : IsB [1] := IsB.cons (by omega) (by omega) IsB.nil
end Go.Proofs.Ytfjbhccapgnkiaa.P
