/-
lex.Read, PlainName, PlainSymbol: what they answer, as plain functions.
-/
import Derived.Test.YtfjbhccapgnkiaaDoorL10
import Derived.Test.YtfjbhccapgnkiaaDoorRN
namespace Go.Proofs.YtfjbhccapgnkiaaDoor.P
open Go.RowKit Go.Proofs.YtfjbhccapgnkiaaDoorW.PrintWords Go.Proofs.YtfjbhccapgnkiaaDoorW.PrintLast Go.Proofs.YtfjbhccapgnkiaaDoorW.PrintMore
set_option linter.unusedVariables false
set_option linter.unusedSimpArgs false
noncomputable def lex_Read.f (a0 : ByteArray) : Option ((List (S28)) × Int × Int) := some (readS okNum a0)
theorem lex_Read.calls (a0 : ByteArray) (r1 : List (S28)) (r2 : Int) (r3 : Int) (w : World) (h : lex_Read.f a0 = some (r1, r2, r3)) :
    Calls Tryd.prog 8 #[.string a0] w fun e w' => ∃ v0_ : Value, e = .returned (.tuple #[v0_, .int .i64 r2, .int .i64 r3]) ∧ Kd.R k28 28 w' w.heap.size (fun _ => True) v0_ r1 ∧ Below w.heap.size w w' := by
  unfold lex_Read.f at h
  injection h with h
  have h1 : r1 = (readS okNum a0).1 := by rw [h]
  have h2 : r2 = (readS okNum a0).2.1 := by rw [h]
  have h3 : r3 = (readS okNum a0).2.2 := by rw [h]
  subst h1 h2 h3
  by_cases hs : a0.size ≤ 4096
  · exact lex_Read.small reads_number a0 hs w
  · exact lex_Read.big a0 hs w
theorem toList_dat (s : ByteArray) : s.toList = s.data.toList := Lib.toList_data s
theorem plain_step {s t : ByteArray} {ok b : Bool} {j : Nat} (hS : Symboled s 0 t ok j) (hb : b = (match PL.symbolL (LL s 0) with
    | some x => x.1 == s.data.toList
    | none => false)) : (ok && (t.toList == s.toList)) = b := by
  obtain ⟨h1, h2⟩ := Symboled_is hS (Nat.zero_le _)
  rw [toList_dat, toList_dat]
  subst hb
  cases hx : PL.symbolL (LL s 0) with
  | none =>
    rw [hx] at h1
    obtain rfl : ok = false := h1
    rfl
  | some x =>
    rw [hx] at h1
    obtain ⟨rfl, rfl, _⟩ := h1
    rfl
/-- Is a text a name? -/
def plainNameS (s : ByteArray) : Bool := hit isLetter s 0 && decide (nameEnd s 0 = s.size)
def lex_PlainName.f (a0 : ByteArray) : Option Bool := if a0.size ≤ 140737488351232 then some (plainNameS a0) else none
set_option maxHeartbeats 4000000 in
theorem lex_PlainName.calls (a0 : ByteArray) (r : Bool) (w : World) (h : lex_PlainName.f a0 = some r) :
    Calls Tryd.prog 13 #[.string a0] w fun e w' => e = .returned (.bool r) ∧ Below w.heap.size w w' := by
  unfold lex_PlainName.f at h
  split at h
  case isFalse => cases h
  case isTrue hs =>
    injection h with h
    subst h
    have hn1 := nameEnd_le a0 0 (Nat.zero_le _)
    obtain ⟨k, hk⟩ : ∃ k, nameEnd a0 0 = k := ⟨_, rfl⟩
    rw [hk] at hn1
    have e1 : plainNameS a0 = (hit isLetter a0 0 && decide (k = a0.size)) := by unfold plainNameS; rw [hk]
    rw [e1]
    replace hk := Aside0.mk hk
    clear e1
    cases hh : hit isLetter a0 0
    · go_enter Tryd.func13, Tryd.ntmps13
      go_wp2_with (first | ((with_reducible refine gate_dst (N := 6) rfl ?_); (try (refine gate_guard (by rfl) ?_; dsimp only)); refine box_event ?hg (N := 6) ?hd (cs := #[.string a0, .int .i64 0]) (t := 37) ?hr ?_; (case hd => rfl); (case hg => rfl); (case hr => first | (go_simp; done) | (go_simp; rfl)); intro g hg0 wa hbox hba; have hg := Aside0.mk hg0; clear hg0) | (go_at_call 25; refine (lex_name.calls g a0 0 (Nat.zero_le _) hs w _ ⟨hbox, Nat.le_of_eq hg.out.symm⟩ hba).mono ?_; rintro e w1 ⟨rfl, hI1, hB1, hK1⟩; rw [hh]))
      go_ret
      exact ⟨by simp, hB1⟩
    · have hck : ((k : Int) == (a0.size : Int)) = decide (k = a0.size) := by
        rw [Bool.eq_iff_iff]; simp only [beq_iff_eq, decide_eq_true_eq]; omega
      go_enter Tryd.func13, Tryd.ntmps13
      go_wp2_with (first | ((with_reducible refine gate_dst (N := 6) rfl ?_); (try (refine gate_guard (by rfl) ?_; dsimp only)); refine box_event ?hg (N := 6) ?hd (cs := #[.string a0, .int .i64 0]) (t := 37) ?hr ?_; (case hd => rfl); (case hg => rfl); (case hr => first | (go_simp; done) | (go_simp; rfl)); intro g hg0 wa hbox hba; have hg := Aside0.mk hg0; clear hg0) | (go_at_call 25; refine (lex_name.calls g a0 0 (Nat.zero_le _) hs w _ ⟨hbox, Nat.le_of_eq hg.out.symm⟩ hba).mono ?_; rintro e w1 ⟨rfl, hI1, hB1, hK1⟩; rw [hh]; rw [hk.out] at hI1; have hc1 := cellS37_1 hI1.1))
      go_ret
      exact ⟨by simp [hck], hB1⟩
def lex_PlainSymbol.f (a0 : ByteArray) : Option Bool := if a0.size ≤ 140737488351232 then some (PL.plainSym a0.data.toList) else none
set_option maxHeartbeats 4000000 in
theorem lex_PlainSymbol.calls (a0 : ByteArray) (r : Bool) (w : World) (h : lex_PlainSymbol.f a0 = some r) :
    Calls Tryd.prog 15 #[.string a0] w fun e w' => e = .returned (.bool r) ∧ Below w.heap.size w w' := by
  unfold lex_PlainSymbol.f at h
  split at h
  case isFalse => cases h
  case isTrue hs =>
    injection h with h
    subst h
    rcases Nat.eq_zero_or_pos a0.size with h0 | h0
    · have hl : a0.data.toList = [] := by apply List.length_eq_zero_iff.1; simpa using h0
      have he : a0.toList.isEmpty = true := by rw [toList_dat, hl]; rfl
      rw [hl]
      go_enter Tryd.func15, Tryd.ntmps15
      go_wp2_with (first | ((with_reducible refine gate_dst (N := 8) rfl ?_); (try (refine gate_guard (by rfl) ?_; dsimp only)); refine box_event ?hg (N := 8) ?hd (cs := #[.string a0, .int .i64 0]) (t := 37) ?hr ?_; (case hd => rfl); (case hg => rfl); (case hr => first | (go_simp; done) | (go_simp; rfl)); intro g hg0 wa hbox hba; have hg := Aside0.mk hg0; clear hg0))
      go_ret
      exact ⟨rfl, hba⟩
    · have hne : ¬ a0.data.toList = [] := by intro h; have := congrArg List.length h; rw [show a0.data.toList.length = a0.size by simp] at this; exact absurd this (Nat.ne_of_gt h0)
      have he : a0.toList.isEmpty = false := by rw [toList_dat]; simpa using hne
      have hls : a0.data.toList.isEmpty = false := by simpa using hne
      have p6 := eq_true (show (0 : Int) ≤ 0 from Int.le_refl _)
      have q6 := eq_true (show (0 : Int) < (a0.size : Int) from by omega)
      by_cases hq : a0[0]'h0 = 39
      · have hqb : (((a0[0]'h0).toNat : Int) == 39) = true := by rw [hq]; rfl
        have hps : PL.plainSym a0.data.toList = false := by
          unfold PL.plainSym
          rw [← LL_zero, LL_lt h0, hq]; rfl
        rw [hps]
        clear hq hls hps hne
        go_enter Tryd.func15, Tryd.ntmps15
        go_wp2_with (first | ((with_reducible refine gate_dst (N := 8) rfl ?_); (try (refine gate_guard (by rfl) ?_; dsimp only)); refine box_event ?hg (N := 8) ?hd (cs := #[.string a0, .int .i64 0]) (t := 37) ?hr ?_; (case hd => rfl); (case hg => rfl); (case hr => first | (go_simp; done) | (go_simp; rfl)); intro g hg0 wa hbox hba; have hg := Aside0.mk hg0; clear hg0))
        go_ret
        exact ⟨rfl, hba⟩
      · have hqb : (((a0[0]'h0).toNat : Int) == 39) = false := beq_eq_false_iff_ne.2 fun h => hq (UInt8.toNat_inj.1 (by simpa using (by omega : (a0[0]'h0).toNat = 39)))
        have hh : PL.hd (· == 39) (LL a0 0) = false := by rw [LL_lt h0]; simpa [PL.hd] using hq
        obtain ⟨b, hb⟩ : ∃ b, PL.plainSym a0.data.toList = b := ⟨_, rfl⟩
        rw [hb]
        have hps := Aside0.mk (show b = (match PL.symbolL (LL a0 0) with
            | some x => x.1 == a0.data.toList
            | none => false) from by
          rw [← hb]
          unfold PL.plainSym
          rw [hls, ← LL_zero, hh]
          rfl)
        clear hb
        clear hq hls hne hh
        go_enter Tryd.func15, Tryd.ntmps15
        go_wp2_with (first | ((with_reducible refine gate_dst (N := 8) rfl ?_); (try (refine gate_guard (by rfl) ?_; dsimp only)); refine box_event ?hg (N := 8) ?hd (cs := #[.string a0, .int .i64 0]) (t := 37) ?hr ?_; (case hd => rfl); (case hg => rfl); (case hr => first | (go_simp; done) | (go_simp; rfl)); intro g hg0 wa hbox hba; have hg := Aside0.mk hg0; clear hg0) | (go_at_call 27; refine (lex_symbol.calls g a0 0 (Nat.zero_le _) hs w _ ⟨hbox, Nat.le_of_eq hg.out.symm⟩ hba).mono ?_; rintro e w1 ⟨t, ok, j, rfl, hS, hI1, hB1, hK1⟩; have hE := plain_step hS hps.out))
        all_goals (go_ret; exact ⟨by rw [← hE]; first | rfl | (simp [*]; done) | (simp; done), hB1⟩)
end Go.Proofs.YtfjbhccapgnkiaaDoor.P
