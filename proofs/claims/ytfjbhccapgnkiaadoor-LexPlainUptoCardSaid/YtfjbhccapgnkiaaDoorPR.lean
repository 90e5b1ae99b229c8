/-
Texts in quotes, names, symbols: the program's answers and the reference's, in plain Lean (a condition: the text has at most 1048576 bytes).
-/
import Derived.Test.YtfjbhccapgnkiaaDoorT7
import Derived.Test.YtfjbhccapgnkiaaDoorPC
namespace Go.Proofs.YtfjbhccapgnkiaaDoor.P
open Go.RowKit Go.Proofs.YtfjbhccapgnkiaaDoorW.PrintWords Go.Proofs.YtfjbhccapgnkiaaDoorW.PrintLast Go.Proofs.YtfjbhccapgnkiaaDoorW.PrintMore
set_option linter.unusedVariables false
set_option linter.unusedSimpArgs false
theorem bt_get (s : ByteArray) (i : Nat) (h : i < s.size) : bt s (i : Int) = ((s[i]'h).toNat : Int) := by
  unfold bt
  simp only [Int.toNat_natCast, dif_pos h]
theorem bt_byteAt (s : ByteArray) (i : Nat) : bt s (i : Int) = byteAt s i := by
  unfold bt byteAt
  simp only [Int.toNat_natCast]
theorem letter_f : ∀ c : UInt8, lapidaryref07_letter.f (c.toNat : Int) = some (PL.letC c) := all8 (by decide +kernel)
theorem digit_f : ∀ c : UInt8, lapidaryref07_digit.f (c.toNat : Int) = some (PL.digC c) := all8 (by decide +kernel)
theorem sign_f : ∀ c : UInt8, lapidaryref07_sign.f 20 (c.toNat : Int) = some (PL.sigC c) := all8 (by decide +kernel)
theorem sign_ev (c : UInt8) : Ev (fun k => lapidaryref07_sign.f k (c.toNat : Int)) (PL.sigC c) := Ev.of (fun k => lapidaryref07_sign.mono _ k) (sign_f c)
theorem name_loop (s : ByteArray) (hs : s.size ≤ 4194304) : ∀ (d i : Nat), d + i = s.size → Ev (fun k => lapidaryref07_name.l0 k s (i : Int)) ((ends isWord s i : Nat) : Int)
  | 0, i, h => by
    have e : ends isWord s i = i := by rw [ends, dif_neg (by omega)]
    rw [e]
    refine Ev.step (f := fun _ => some (i : Int)) (fun k => ?_) (Ev.now _)
    simp only [lapidaryref07_name.l0]
    rw [if_neg (by omega)]
  | d + 1, i, h => by
    have hi : i < s.size := by omega
    have hnext := name_loop s hs d (i + 1) (by omega)
    have hw : isWord (s[i]'hi) = (PL.letC (s[i]'hi) || PL.digC (s[i]'hi) || (s[i]'hi) == 95) := by rw [isWord_is]; rfl
    by_cases hword : isWord (s[i]'hi) = true
    · have e : ends isWord s i = ends isWord s (i + 1) := by rw [ends, dif_pos hi, if_pos hword]
      rw [e]
      refine Ev.step (fun k => ?_) hnext
      simp only [lapidaryref07_name.l0]
      rw [if_pos (by omega), if_pos (by omega), bt_get s i hi, letter_f, Option.bind_some, digit_f, Option.bind_some, wrap_succ i (by omega)]
      rw [hw] at hword
      split
      · rfl
      · rename_i h1
        split
        · rfl
        · rename_i h2
          rw [if_pos]
          have h3 : (s[i]'hi == 95) = true := by
            cases h4 : PL.letC (s[i]'hi)
            · cases h5 : PL.digC (s[i]'hi)
              · rw [h4, h5] at hword; simpa using hword
              · exact absurd h5 h2
            · exact absurd h4 h1
          rw [beq_iff_eq.1 h3]
          rfl
    · have e : ends isWord s i = i := by rw [ends, dif_pos hi, if_neg hword]
      rw [e]
      refine Ev.step (f := fun _ => some (i : Int)) (fun k => ?_) (Ev.now _)
      simp only [lapidaryref07_name.l0]
      rw [hw] at hword
      simp only [Bool.or_eq_true, not_or, Bool.not_eq_true] at hword
      obtain ⟨⟨h1, h2⟩, h3⟩ := hword
      rw [if_pos (by omega), if_pos (by omega), bt_get s i hi, letter_f, Option.bind_some, digit_f, Option.bind_some, h1, h2, if_neg (by simp), if_neg (by simp), if_neg]
      intro hc
      have h4 : s[i]'hi = 95 := UInt8.toNat_inj.1 (by simpa using (by omega : (s[i]'hi).toNat = 95))
      rw [h4] at h3
      simp at h3
theorem name_ev (s : ByteArray) (hs : s.size ≤ 4194304) (i : Nat) (hi : i ≤ s.size) : Ev (fun k => lapidaryref07_name.f k s (i : Int)) ((nameEnd s i : Nat) : Int) := by
  by_cases h : i < s.size
  · by_cases hl : isLetter (s[i]'h) = true
    · have e : nameEnd s i = ends isWord s i := by
        unfold nameEnd hit
        rw [dif_pos h, if_pos hl]
      rw [e]
      refine Ev.congr (f := fun k => lapidaryref07_name.j0 k s (i : Int) false) (fun k => ?_) (Ev.step (fun k => ?_) (name_loop s hs (s.size - i) i (by omega)))
      · unfold lapidaryref07_name.f
        rw [isLetter_is] at hl
        rw [if_neg (by omega), if_pos (by omega), if_pos (by omega), bt_get s i h, letter_f, Option.bind_some, hl]
        rfl
      · simp only [lapidaryref07_name.j0]
        rw [if_neg (by simp)]
    · have e : nameEnd s i = i := by
        unfold nameEnd hit
        rw [dif_pos h, if_neg hl]
      rw [e]
      refine Ev.congr (f := fun k => lapidaryref07_name.j0 k s (i : Int) true) (fun k => ?_) (Ev.step (f := fun _ => some (i : Int)) (fun k => ?_) (Ev.now _))
      · unfold lapidaryref07_name.f
        rw [isLetter_is] at hl
        rw [if_neg (by omega), if_pos (by omega), if_pos (by omega), bt_get s i h, letter_f, Option.bind_some, show PL.letC (s[i]'h) = false from by simpa using hl]
        rfl
      · simp only [lapidaryref07_name.j0]
        rw [if_pos trivial]
  · have e : nameEnd s i = i := by
      unfold nameEnd hit
      rw [dif_neg h]
      rfl
    rw [e]
    refine Ev.congr (f := fun k => lapidaryref07_name.j0 k s (i : Int) true) (fun k => ?_) (Ev.step (f := fun _ => some (i : Int)) (fun k => ?_) (Ev.now _))
    · unfold lapidaryref07_name.f
      rw [if_pos (by omega)]
    · simp only [lapidaryref07_name.j0]
      rw [if_pos trivial]
theorem at_f (s : ByteArray) (i : Nat) : lapidaryref07_at.f s (i : Int) = some (byteAt s i) := by
  unfold lapidaryref07_at.f
  split
  · rw [if_pos (by omega), bt_byteAt]
  · unfold byteAt
    rw [dif_neg (by omega)]
theorem colon_f (s : ByteArray) (hs : s.size ≤ 4194304) (i : Nat) (hi : i ≤ s.size) : lapidaryref07_colon.f s (i : Int) = some (colonAt s i) := by
  unfold lapidaryref07_colon.f colonAt
  rw [at_f, Option.bind_some, wrap_succ i (by omega), at_f, Option.bind_some]
  split
  · rename_i h; rw [h]; rfl
  · rename_i h
    have : (byteAt s i == 58) = false := by simpa using h
    rw [this]; rfl
theorem signs_ev (s : ByteArray) (hs : s.size ≤ 4194304) (i : Nat) (hi : i ≤ s.size) : Ev (fun k => lapidaryref07_signs.f k s (i : Int)) ((signEnd s i : Nat) : Int) := by
  have stop : ∀ (j : Nat) (x5 : Nat), (hit isSign s j = false ∨ 2 ≤ x5) → x5 ≤ 2 → Ev (fun k => lapidaryref07_signs.l0 k s (j : Int) (x5 : Int)) (j : Int) := by
    intro j x5 h h2
    by_cases h5 : (x5 : Int) < 2
    · have hh : hit isSign s j = false := h.resolve_right (by omega)
      by_cases hj : j < s.size
      · have hc : PL.sigC (s[j]'hj) = false := by
          unfold hit at hh
          rw [dif_pos hj, isSign_is] at hh
          exact hh
        have := sign_ev (s[j]'hj)
        rw [hc] at this
        refine Ev.step (fun k => ?_) (Ev.bind (f := fun k t268 => if t268 = true then lapidaryref07_signs.l0 k s (wrap64 ((j : Int) + 1)) (wrap64 ((x5 : Int) + 1)) else some (j : Int)) this (Ev.now _))
        simp only [lapidaryref07_signs.l0]
        rw [if_pos h5, if_pos (by omega), if_pos (by omega), bt_get s j hj]
      · refine Ev.step (f := fun _ => some (j : Int)) (fun k => ?_) (Ev.now _)
        simp only [lapidaryref07_signs.l0]
        rw [if_pos h5, if_neg (by omega)]
    · refine Ev.step (f := fun _ => some (j : Int)) (fun k => ?_) (Ev.now _)
      simp only [lapidaryref07_signs.l0]
      rw [if_neg h5]
  have go : ∀ (j : Nat) (x5 : Nat) (r : Int), hit isSign s j = true → x5 < 2 → Ev (fun k => lapidaryref07_signs.l0 k s ((j + 1 : Nat) : Int) ((x5 + 1 : Nat) : Int)) r → Ev (fun k => lapidaryref07_signs.l0 k s (j : Int) (x5 : Int)) r := by
    intro j x5 r h h2 hn
    have hj := hit_lt h
    have hc : PL.sigC (s[j]'hj) = true := by
      unfold hit at h
      rw [dif_pos hj, isSign_is] at h
      exact h
    have := sign_ev (s[j]'hj)
    rw [hc] at this
    refine Ev.step (fun k => ?_) (Ev.bind (f := fun k t268 => if t268 = true then lapidaryref07_signs.l0 k s (wrap64 ((j : Int) + 1)) (wrap64 ((x5 : Int) + 1)) else some (j : Int)) this (Ev.congr (fun k => ?_) hn))
    · simp only [lapidaryref07_signs.l0]
      rw [if_pos (by omega), if_pos (by omega), if_pos (by omega), bt_get s j hj]
    · rw [if_pos rfl, wrap_succ j (by omega), wrap_succ x5 (by omega)]
  have e0 : (fun k => lapidaryref07_signs.f k s (i : Int)) = fun k => lapidaryref07_signs.l0 k s (i : Int) ((0 : Nat) : Int) := rfl
  rw [e0]
  unfold signEnd
  cases h1 : hit isSign s i
  · exact stop i 0 (.inl h1) (by omega)
  · cases h2 : hit isSign s (i + 1)
    · exact go i 0 _ h1 (by omega) (stop (i + 1) 1 (.inl h2) (by omega))
    · exact go i 0 _ h1 (by omega) (go (i + 1) 1 _ h2 (by omega) (stop (i + 2) 2 (.inr (by omega)) (by omega)))
/-- What symbol answers behind names or signs that end at E. -/
def symR (s : ByteArray) (E : Nat) : ByteArray × Int := if E > 1024 then (⟨#[]⟩, -1) else (s.extract 0 E, (E : Int))
theorem sym_end (s : ByteArray) (hs : s.size ≤ 4194304) (E : Nat) (h0 : 0 < E) (hE : E ≤ s.size) : Ev (fun k => lapidaryref07_symbol.j1 k s 0 (E : Int)) (symR s E) := by
  have hw := Aside0.mk (wrap_in ((E : Int) - 0) (by omega) (by omega)).1
  refine Ev.step (f := fun _ => some (symR s E)) (fun k => ?_) (Ev.now _)
  simp only [lapidaryref07_symbol.j1]
  rw [if_pos (by omega), hw.out]
  unfold symR
  by_cases h : E > 1024
  · rw [if_pos (by omega), if_pos h]
  · rw [if_neg (by omega), if_neg h, if_pos (by omega), if_pos (by omega), if_pos (by omega)]
    rfl
theorem sym_loop (s : ByteArray) (hs : s.size ≤ 4194304) (x : Nat) (h0 : 0 < x) (hx : x ≤ s.size) : Ev (fun k => lapidaryref07_symbol.l0 k s 0 (x : Int)) (symR s (symEnd s x)) := by
  induction hn : s.size - x using Nat.strongRecOn generalizing x with
  | ind n ih =>
    cases hc : colonAt s x
    · have e : symEnd s x = x := by rw [symEnd, dif_neg (by rw [hc]; simp)]
      rw [e]
      refine Ev.step (fun k => ?_) (sym_end s hs x h0 hx)
      simp only [lapidaryref07_symbol.l0]
      rw [colon_f s hs x hx, Option.bind_some, hc, if_neg (by simp)]
    · have hlt := colonAt_lt hc
      have e : symEnd s x = symEnd s (nameEnd s (x + 1)) := by rw [symEnd, dif_pos hc]
      have h1 := nameEnd_ge s (x + 1)
      have h2 := nameEnd_le s (x + 1) hlt
      have hnx := name_ev s hs (x + 1) hlt
      obtain ⟨y, hy⟩ : ∃ y, nameEnd s (x + 1) = y := ⟨_, rfl⟩
      rw [hy] at h1 h2 hnx e
      rw [e]
      replace e := Aside0.mk e
      refine Ev.step (fun k => ?_) (Ev.bind (f := fun k t279 => lapidaryref07_symbol.l0 k s 0 t279) hnx (ih (s.size - y) (by omega) y (by omega) h2 rfl))
      simp only [lapidaryref07_symbol.l0]
      rw [colon_f s hs x hx, Option.bind_some, hc, if_pos rfl, wrap_succ x (by omega)]
theorem symR_ok (s : ByteArray) (E : Nat) (hE : E ≤ s.size) : (if (symR s E).2 = (s.size : Int) then some ((symR s E).1.toList == s.toList) else some false) = some (decide (E ≤ 1024) && decide (E = s.size)) := by
  unfold symR
  by_cases h : E > 1024
  · rw [if_pos h, if_neg (by omega), decide_eq_false (by omega)]
    rfl
  · rw [if_neg h, decide_eq_true (show E ≤ 1024 by omega)]
    by_cases h2 : E = s.size
    · subst h2
      rw [if_pos rfl]
      have : s.extract 0 s.size = s := by
        apply ByteArray.ext
        simp
      rw [this]
      simp
    · rw [if_neg (by simp only; omega), decide_eq_false h2]
      rfl
theorem take_eq (l : List UInt8) (n : Nat) (h : n ≤ l.length) : (l.take n == l) = decide (n = l.length) := by
  rw [Bool.eq_iff_iff, beq_iff_eq, decide_eq_true_eq]
  constructor
  · intro e; exact PL.take_all e h
  · rintro rfl; simp
theorem plainSymbol_ev (s : ByteArray) (hs : s.size ≤ 4194304) : Ev (fun k => lapidaryref07_PlainSymbol.f k s) (PL.plainSym s.data.toList) := by
  rcases Nat.eq_zero_or_pos s.size with h0 | h0
  · have hl : s.data.toList = [] := List.length_eq_zero_iff.1 (by rw [slen]; exact h0)
    rw [hl]
    refine Ev.congr (f := fun _ => some false) (fun k => ?_) (Ev.now _)
    unfold lapidaryref07_PlainSymbol.f
    rw [if_pos (by omega)]
  have hne : s.data.toList.isEmpty = false := by
    cases hl : s.data.toList with
    | nil => have := slen s; rw [hl] at this; simp at this; omega
    | cons c l => rfl
  have hb := bt_get s 0 h0
  rw [show ((0 : Nat) : Int) = 0 from rfl] at hb
  by_cases hq : s[0]'h0 = 39
  · have hh : PL.plainSym s.data.toList = false := by
      unfold PL.plainSym
      rw [← LL_zero, LL_lt h0, hq]; rfl
    rw [hh]
    refine Ev.congr (f := fun _ => some false) (fun k => ?_) (Ev.now _)
    unfold lapidaryref07_PlainSymbol.f
    rw [if_neg (by omega), if_pos (by omega), hb, hq, if_pos (by rfl)]
  · have hq2 : ¬ (((s[0]'h0).toNat : Nat) : Int) = 39 := fun h => hq (UInt8.toNat_inj.1 (by simpa using (by omega : (s[0]'h0).toNat = 39)))
    have hh : PL.hd (· == 39) (LL s 0) = false := by rw [LL_lt h0]; simpa [PL.hd] using hq
    have hps : PL.plainSym s.data.toList = (match PL.symbolL (LL s 0) with
        | some x => x.1 == s.data.toList
        | none => false) := by
      unfold PL.plainSym
      rw [hne, ← LL_zero, hh]
      rfl
    have start : ∀ (x : ByteArray × Int), Ev (fun k => lapidaryref07_symbol.f k s 0) x → (if x.2 = (s.size : Int) then some (x.1.toList == s.toList) else some false) = some (PL.plainSym s.data.toList) → Ev (fun k => lapidaryref07_PlainSymbol.f k s) (PL.plainSym s.data.toList) := by
      intro x hx he
      refine Ev.congr (fun k => ?_) (Ev.bind (f := fun _ bt283 => if bt283.2 = (s.size : Int) then some (bt283.1.toList == s.toList) else some false) hx (by rw [he]; exact Ev.now _))
      unfold lapidaryref07_PlainSymbol.f
      rw [if_neg (by omega), if_pos (by omega), hb, if_neg hq2]
    have hn := name_ev s hs 0 (Nat.zero_le _)
    rw [show ((0 : Nat) : Int) = 0 from rfl] at hn
    by_cases hl : isLetter (s[0]'h0) = true
    · have hpos : 0 < nameEnd s 0 := by
        unfold nameEnd hit
        rw [dif_pos h0, if_pos hl, ends, dif_pos h0, if_pos (by rw [isWord_is]; rw [isLetter_is] at hl; exact PL.letC_worC hl)]
        have := ends_ge isWord s (0 + 1)
        omega
      have hle := nameEnd_le s 0 (Nat.zero_le _)
      have hE := symEnd_le s (nameEnd s 0) hle
      refine start _ (Ev.congr (fun k => ?_) (Ev.bind (f := fun k t277 => if t277 > 0 then lapidaryref07_symbol.l0 k s 0 t277 else (lapidaryref07_signs.f k s 0).bind fun t280 => lapidaryref07_symbol.j1 k s 0 t280) hn (Ev.congr (fun k => ?_) (sym_loop s hs _ hpos hle)))) ?_
      · rfl
      · rw [if_pos (by omega)]
      · rw [symR_ok s _ hE, hps]
        have e : symEnd s (nameEnd s 0) = PL.symE (LL s 0) := by have := symEnd_name s 0; simpa using this
        rw [e] at hE ⊢
        unfold PL.symbolL
        rw [if_pos (show PL.hd PL.letC (LL s 0) = true from by rw [LL_lt h0]; rw [isLetter_is] at hl; exact hl)]
        by_cases h1 : PL.symE (LL s 0) ≤ 1024
        · rw [if_pos h1, decide_eq_true h1]
          show some (true && _) = some ((LL s 0).take _ == s.data.toList)
          rw [show s.data.toList = LL s 0 from rfl, take_eq _ _ (PL.symE_le _), LL_len]
          rfl
        · rw [if_neg h1, decide_eq_false h1]
          rfl
    · have he0 : nameEnd s 0 = 0 := by
        unfold nameEnd hit
        rw [dif_pos h0, if_neg hl]
      have hlf : PL.hd PL.letC (LL s 0) = false := by rw [LL_lt h0]; rw [isLetter_is] at hl; simpa [PL.hd] using hl
      have hsg := signs_ev s hs 0 (Nat.zero_le _)
      rw [show ((0 : Nat) : Int) = 0 from rfl] at hsg
      have toSigns : ∀ (x : ByteArray × Int), Ev (fun k => lapidaryref07_symbol.j1 k s 0 ((signEnd s 0 : Nat) : Int)) x → Ev (fun k => lapidaryref07_symbol.f k s 0) x := by
        intro x hx
        refine Ev.congr (fun k => ?_) (Ev.bind (f := fun k t277 => if t277 > 0 then lapidaryref07_symbol.l0 k s 0 t277 else (lapidaryref07_signs.f k s 0).bind fun t280 => lapidaryref07_symbol.j1 k s 0 t280) hn (Ev.congr (fun k => ?_) (Ev.bind (f := fun k t280 => lapidaryref07_symbol.j1 k s 0 t280) hsg hx)))
        · rfl
        · rw [he0, if_neg (by omega)]
      cases hg : hit isSign s 0
      · have e2 : signEnd s 0 = 0 := by unfold signEnd; rw [hg]; rfl
        refine start (⟨#[]⟩, -1) (toSigns _ (Ev.step (f := fun _ => some (⟨#[]⟩, -1)) (fun k => ?_) (Ev.now _))) ?_
        · rw [e2]
          simp only [lapidaryref07_symbol.j1]
          rw [if_neg (by omega)]
          unfold lapidaryref07_quoted.f
          have := at_f s 0
          rw [show ((0 : Nat) : Int) = 0 from rfl] at this
          have hb2 : byteAt s 0 = ((s[0]'h0).toNat : Int) := by unfold byteAt; rw [dif_pos h0]
          rw [this, Option.bind_some, hb2, if_neg hq2]
          rfl
        · rw [if_neg (by simp only; omega), hps]
          rw [hit_is, isSign_is] at hg
          unfold PL.symbolL PL.quotedL
          rw [hlf, hg, hh]
          rfl
      · have hpos : 0 < signEnd s 0 := by unfold signEnd; rw [hg]; simp only [if_true]; split <;> omega
        have hle := signEnd_le s 0 (Nat.zero_le _)
        refine start _ (toSigns _ (sym_end s hs _ hpos hle)) ?_
        rw [symR_ok s _ hle, hps]
        have e : signEnd s 0 = PL.signN (LL s 0) := by have := signEnd_is s 0; simpa using this
        rw [e] at hle ⊢
        have h2 : PL.signN (LL s 0) ≤ 2 := by unfold PL.signN; split <;> (try split) <;> omega
        rw [hit_is, isSign_is] at hg
        unfold PL.symbolL
        rw [hlf, hg, decide_eq_true (show PL.signN (LL s 0) ≤ 1024 by omega)]
        show some (true && _) = some ((LL s 0).take _ == s.data.toList)
        rw [show s.data.toList = LL s 0 from rfl, take_eq _ _ (PL.signN_le _), LL_len]
        rfl
theorem plainName_ev (s : ByteArray) (hs : s.size ≤ 4194304) : Ev (fun k => lapidaryref07_PlainName.f k s) (plainNameS s) := by
  rcases Nat.eq_zero_or_pos s.size with h0 | h0
  · have e : plainNameS s = false := by
      unfold plainNameS hit
      rw [dif_neg (by omega)]
      rfl
    rw [e]
    refine Ev.congr (f := fun _ => some false) (fun k => ?_) (Ev.now _)
    unfold lapidaryref07_PlainName.f
    rw [if_neg (by omega)]
  · have hn := name_ev s hs 0 (Nat.zero_le _)
    have e : plainNameS s = (((nameEnd s 0 : Nat) : Int) == (s.size : Int)) := by
      unfold plainNameS
      rw [Bool.eq_iff_iff]
      simp only [Bool.and_eq_true, decide_eq_true_eq, beq_iff_eq]
      constructor
      · rintro ⟨_, h⟩; rw [h]
      · intro h
        refine ⟨?_, Int.ofNat.inj h⟩
        cases hh : hit isLetter s 0
        · have : nameEnd s 0 = 0 := by unfold nameEnd; rw [hh]; rfl
          rw [this] at h
          omega
        · rfl
    rw [e]
    refine Ev.congr (fun k => ?_) (Ev.bind (f := fun _ t264 => some (t264 == (s.size : Int))) hn (Ev.now _))
    unfold lapidaryref07_PlainName.f
    rw [if_pos (by omega)]
    rfl
theorem esc_append (a b : List UInt8) : PL.escL (a ++ b) = PL.escL a ++ PL.escL b := by
  induction a with
  | nil => rfl
  | cons c a ih => simp only [List.cons_append, PL.escL]; split <;> simp [ih]
def numsQ (l : List UInt8) : List Int := l.map fun b => (b.toNat : Int)
theorem numsQ_str (l : List UInt8) : strOfNums (numsQ l) = ⟨l.toArray⟩ := by
  unfold strOfNums numsQ
  congr 1
  simp [List.map_map, Function.comp_def]
theorem quote_loop (s : ByteArray) (hs : s.size ≤ 4194304) : ∀ (d i : Nat), d + i = s.size → Ev (fun k => lapidaryref07_Quote.l0 k s (numsQ (39 :: PL.escL (s.data.toList.take i))) (i : Int)) (quoteS s)
  | 0, i, h => by
    have hl : (numsQ (39 :: PL.escL (s.data.toList.take i))).length ≤ 8388609 := by
      have h1 := esc_len (s.data.toList.take i)
      have h2 := List.count_le_length (a := (39 : UInt8)) (l := s.data.toList.take i)
      have h3 := List.length_take_le i s.data.toList
      have h4 := slen s
      simp only [numsQ, List.length_map, List.length_cons]
      have h5 : (s.data.toList.take i).length ≤ s.size := by rw [List.length_take]; omega
      omega
    refine Ev.step (f := fun _ => some (quoteS s)) (fun k => ?_) (Ev.now _)
    simp only [lapidaryref07_Quote.l0]
    rw [if_neg (by omega), if_pos (by omega), List.take_of_length_le (by rw [slen]; omega)]
    congr 1
    have e : numsQ (39 :: PL.escL s.data.toList) ++ [39] = numsQ (PL.quoteL s.data.toList) := by
      unfold numsQ PL.quoteL
      simp
    rw [e, numsQ_str]
    rfl
  | d + 1, i, h => by
    have hi : i < s.size := by omega
    have hl : (numsQ (39 :: PL.escL (s.data.toList.take i))).length ≤ 8388609 := by
      have h1 := esc_len (s.data.toList.take i)
      have h2 := List.count_le_length (a := (39 : UInt8)) (l := s.data.toList.take i)
      have h5 : (s.data.toList.take i).length ≤ s.size := by rw [List.length_take, slen]; omega
      simp only [numsQ, List.length_map, List.length_cons]
      omega
    have hnext := quote_loop s hs d (i + 1) (by omega)
    have ht : s.data.toList.take (i + 1) = s.data.toList.take i ++ [s[i]'hi] := by
      rw [List.take_add_one, List.getElem?_eq_getElem (by rw [slen]; exact hi)]
      rfl
    rw [ht, esc_append] at hnext
    by_cases hc : s[i]'hi = 39
    · have e : numsQ (39 :: (PL.escL (s.data.toList.take i) ++ PL.escL [s[i]'hi])) = numsQ (39 :: PL.escL (s.data.toList.take i)) ++ [((s[i]'hi).toNat : Int)] ++ [39] := by
        rw [hc]
        simp [numsQ, PL.escL]
      rw [e] at hnext
      refine Ev.step (fun k => ?_) hnext
      simp only [lapidaryref07_Quote.l0]
      rw [if_pos (by omega), if_pos (by omega), if_pos (by omega), bt_get s i hi, Option.bind_some, if_pos (by rw [hc]; rfl), if_pos (by rw [List.length_append, List.length_singleton]; omega), wrap_succ i (by omega)]
    · have e : numsQ (39 :: (PL.escL (s.data.toList.take i) ++ PL.escL [s[i]'hi])) = numsQ (39 :: PL.escL (s.data.toList.take i)) ++ [((s[i]'hi).toNat : Int)] := by
        simp [numsQ, PL.escL, hc]
      rw [e] at hnext
      have hq2 : ¬ (((s[i]'hi).toNat : Nat) : Int) = 39 := fun h => hc (UInt8.toNat_inj.1 (by simpa using (by omega : (s[i]'hi).toNat = 39)))
      refine Ev.step (fun k => ?_) hnext
      simp only [lapidaryref07_Quote.l0]
      rw [if_pos (by omega), if_pos (by omega), if_pos (by omega), bt_get s i hi, Option.bind_some, if_neg hq2, wrap_succ i (by omega)]
theorem quote_ev (s : ByteArray) (hs : s.size ≤ 4194304) : Ev (fun k => lapidaryref07_Quote.f k s) (quoteS s) := by
  have := quote_loop s hs s.size 0 (by omega)
  exact this
theorem lexPlain_end (s : ByteArray) (hs : s.size ≤ 4194304) : Ev (fun k => lapidarylaw07_LexPlain.j0 k s (quoteS s) false) true := by
  by_cases hb : (s.size : Int) > 1024
  · refine Ev.step (fun k => ?_) known_then
    simp only [lapidarylaw07_LexPlain.j0]
    rw [if_neg (by simp), if_pos hb]
  · have hl := slen s
    have hsz : (quoteS s).size ≤ 4096 := by
      unfold quoteS
      rw [mk_size]
      unfold PL.quoteL
      have h1 := esc_len s.data.toList
      have h2 := List.count_le_length (a := (39 : UInt8)) (l := s.data.toList)
      simp only [List.length_cons, List.length_append, List.length_nil]
      omega
    have hr : readS okNum (quoteS s) = (([⟨5, s.data.toList, 0⟩, ⟨0, [], (PL.quoteL s.data.toList).length⟩] : List PL.Tk).map tk, 0, 0) := readS_ok hsz (PL.read_quote s.data.toList (by omega))
    refine Ev.step (fun k => ?_) known_then
    simp only [lapidarylaw07_LexPlain.j0]
    rw [if_neg (by simp), if_neg hb]
    unfold lex_Read.f
    rw [hr, Option.bind_some]
    simp only
    rw [if_pos trivial, if_pos (by rfl), if_pos (by rw [List.length_map]; simp)]
    have e := tk_at [⟨5, s.data.toList, 0⟩, ⟨0, [], (PL.quoteL s.data.toList).length⟩] 0 (by simp)
    rw [show ((0 : Nat) : Int) = 0 from rfl] at e
    rw [e, if_pos (by rfl), if_pos]
    rw [toList_dat s]
    exact mk_toList _
theorem lexPlain_plain (s : ByteArray) (hs : s.size ≤ 1048576) : ∃ k, lapidarylaw07_LexPlain.f k s = some true := by
  refine Ev.rounds ?_
  have hq : lex_Quote.f s = some (quoteS s) := by unfold lex_Quote.f; rw [if_pos (by omega)]
  have hn : lex_PlainName.f s = some (plainNameS s) := by unfold lex_PlainName.f; rw [if_pos (by omega)]
  have hp : lex_PlainSymbol.f s = some (PL.plainSym s.data.toList) := by unfold lex_PlainSymbol.f; rw [if_pos (by omega)]
  have h1 := quote_ev s (by omega)
  have h2 := plainName_ev s (by omega)
  have h3 := plainSymbol_ev s (by omega)
  have h4 := lexPlain_end s (by omega)
  refine Ev.congr (fun k => ?_) (Ev.bind (f := fun k t286 => if (quoteS s).toList = t286.toList then (lapidaryref07_PlainName.f k s).bind fun t288 => (if (plainNameS s != t288) = true then lapidarylaw07_LexPlain.j0 k s (quoteS s) true else (lapidaryref07_PlainSymbol.f k s).bind fun t290 => lapidarylaw07_LexPlain.j0 k s (quoteS s) (PL.plainSym s.data.toList != t290)) else lapidarylaw07_LexPlain.j0 k s (quoteS s) true) h1 ?_)
  · unfold lapidarylaw07_LexPlain.f
    rw [hq, hn, hp, Option.bind_some, Option.bind_some, Option.bind_some]
  · refine Ev.congr (fun k => if_pos rfl) ?_
    refine Ev.bind (f := fun k t288 => if (plainNameS s != t288) = true then lapidarylaw07_LexPlain.j0 k s (quoteS s) true else (lapidaryref07_PlainSymbol.f k s).bind fun t290 => lapidarylaw07_LexPlain.j0 k s (quoteS s) (PL.plainSym s.data.toList != t290)) h2 ?_
    refine Ev.congr (fun k => if_neg (by simp)) ?_
    refine Ev.bind (f := fun k t290 => lapidarylaw07_LexPlain.j0 k s (quoteS s) (PL.plainSym s.data.toList != t290)) h3 ?_
    refine Ev.congr (fun k => ?_) h4
    rw [show (PL.plainSym s.data.toList != PL.plainSym s.data.toList) = false from by simp]
end Go.Proofs.YtfjbhccapgnkiaaDoor.P
