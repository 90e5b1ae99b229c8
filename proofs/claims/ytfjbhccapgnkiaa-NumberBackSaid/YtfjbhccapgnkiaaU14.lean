import Derived.Test.YtfjbhccapgnkiaaU13
namespace Go.Proofs.Ytfjbhccapgnkiaa.P
open Go.RowKit Go.Proofs.YtfjbhccapgnkiaaW.PrintWords Go.Proofs.YtfjbhccapgnkiaaW.PrintLast Go.Proofs.YtfjbhccapgnkiaaW.PrintMore
attribute [local go_sem] max2_int min2_int max_two min_two max_three min_three max_four min_four
set_option linter.unusedVariables false
set_option linter.unusedSimpArgs false

open Lap

/-- A small number as one of any size. -/
def ofS (n : Int) : Bool × List Int := mk (decide (n < 0)) n.natAbs
theorem of_neg (n : Int) (h0 : -9223372036854775808 ≤ n) (h : n < 0) : IntKind.u64.wrap (-(IntKind.u64.wrap n)) = (n.natAbs : Int) := by
  rw [u64_mod, u64_mod]; omega
theorem of_pos (n : Int) (h0 : 0 ≤ n) (h : n < 9223372036854775808) : IntKind.u64.wrap n = (n.natAbs : Int) := by
  rw [u64_mod]; omega
theorem two_words (u : Nat) (h : u < 18446744073709551616) : IsW [(u : Int) % 4294967296, ((u : Int) / 4294967296) % 4294967296] ∧ wval [(u : Int) % 4294967296, ((u : Int) / 4294967296) % 4294967296] = u := by
  refine ⟨IsW.cons (by omega) (by omega) (IsW.cons (by omega) (by omega) IsW.nil), ?_⟩
  simp only [wval]; omega
theorem of_ev (n : Int) (h0 : -9223372036854775808 ≤ n) (h1 : n < 9223372036854775808) : Ev (fun k => whole_Of.f k n) (ofS n) := by
  obtain ⟨hw, hv⟩ := two_words n.natAbs (by omega)
  have hm := made_ev (decide (n < 0)) _ hw (by simp)
  rw [hv] at hm
  by_cases hn : n < 0
  · refine Ev.congr (f := fun k => (whole_made.f k (decide (n < 0)) [(n.natAbs : Int) % 4294967296, ((n.natAbs : Int) / 4294967296) % 4294967296]).bind fun bt => some (bt.1, bt.2)) (fun k => ?_) (Ev.bind hm (Ev.now _))
    unfold whole_Of.f
    rw [if_pos hn, of_neg n h0 hn]
  · refine Ev.congr (f := fun k => (whole_made.f k (decide (n < 0)) [(n.natAbs : Int) % 4294967296, ((n.natAbs : Int) / 4294967296) % 4294967296]).bind fun bt => some (bt.1, bt.2)) (fun k => ?_) (Ev.bind hm (Ev.now _))
    unfold whole_Of.f
    rw [if_neg hn, of_pos n (by omega) h1]

theorem small_back (n : Int) (h0 : -9223372036854775808 ≤ n) (h1 : n < 9223372036854775808) : smallS (ofS n).1 (ofS n).2 = (n, true) := by
  have hl : (bytesN n.natAbs).length ≤ 8 := by
    rw [bytesN_length_lt]
    have e : (256 : Nat) ^ 8 = 18446744073709551616 := by decide
    omega
  unfold smallS ofS
  rw [okN_mk _ _ (by omega)]
  have e : bI (mk (decide (n < 0)) n.natAbs).2 = (n.natAbs : Int) := by unfold mk; rw [bI_eq, bval_bytesN]
  rw [if_pos (by simpa [mk] using hl), e]
  unfold smallV mk
  by_cases hn : n < 0
  · rw [if_pos (by simp; omega), if_neg (by omega)]; congr 1; omega
  · rw [if_neg (by simp; omega), if_neg (by omega)]; congr 1; omega
theorem isB_of (n : Int) : IsB (ofS n).2 := isB_bytesN _
/-- A small whole number: what the program's functions make of it. -/
theorem small_all (n : Int) (h0 : -9223372036854775808 ≤ n) (h1 : n < 9223372036854775808) : ∃ (k j : Nat) (s : Bool) (l : List Int), whole_Of.f k n = some (s, l) ∧ whole_Right.f s l = some true ∧ whole_Small.f j s l = some (n, true) := by
  obtain ⟨k, hk⟩ := (of_ev n h0 h1).rounds
  have hs := small_ev (ofS n).1 (ofS n).2 (isB_of n)
  rw [small_back n h0 h1] at hs
  obtain ⟨j, hj⟩ := hs.rounds
  have hl : (bytesN n.natAbs).length ≤ 128 := by
    have h8 : (bytesN n.natAbs).length ≤ 8 := by
      rw [bytesN_length_lt]
      have e : (256 : Nat) ^ 8 = 18446744073709551616 := by decide
      omega
    omega
  exact ⟨k, j, (ofS n).1, (ofS n).2, hk, by rw [right_eq, show okN (ofS n).1 (ofS n).2 = true from okN_mk _ _ hl], hj⟩

end Go.Proofs.Ytfjbhccapgnkiaa.P
