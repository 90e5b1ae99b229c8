import Derived.Test.YtpodpmjlkbbkoaaQCL7
import Derived.Test.YtpodpmjlkbbkoaaQCPL
set_option linter.all false
namespace Go.Proofs.Ytpodpmjlkbbkoaa.P
theorem all8 {p : UInt8 → Prop} (h : ∀ n, n < 256 → p (UInt8.ofNat n)) (c : UInt8) : p c := by
 have := h c.toNat (UInt8.toNat_lt c)
 simpa using this
theorem isLetter_is : isLetter = PL.letC := funext (all8 (by decide +kernel))
theorem isDigit_is : isDigit = PL.digC := funext (all8 (by decide +kernel))
theorem isSign_is : isSign = PL.sigC := funext (all8 (by decide +kernel))
theorem isBlank_is : isBlank = PL.blaC := funext (all8 (by decide +kernel))
theorem isWord_is : isWord = PL.worC := by funext c; unfold isWord PL.worC; rw [isLetter_is, isDigit_is]
def LL (s : ByteArray) (i : Nat) : List UInt8 := s.data.toList.drop i
theorem LL_lt {s : ByteArray} {i : Nat} (h : i < s.size) : LL s i = s[i]'h :: LL s (i + 1) := by
 unfold LL
 rw [List.drop_eq_getElem_cons (by simpa using h)]
 congr 1
theorem LL_end {s : ByteArray} {i : Nat} (h : ¬ i < s.size) : LL s i = [] := by
 unfold LL
 rw [List.drop_eq_nil_iff]
 simpa using h
theorem LL_drop (s : ByteArray) (i n : Nat) : (LL s i).drop n = LL s (i + n) := by unfold LL; rw [List.drop_drop]
theorem LL_len (s : ByteArray) (i : Nat) : (LL s i).length = s.size - i := by simp [LL]
theorem hit_is (p : UInt8 → Bool) (s : ByteArray) (i : Nat) : hit p s i = PL.hd p (LL s i) := by
 unfold hit
 split
 ·rename_i h; rw [LL_lt h]; rfl
 ·rename_i h; rw [LL_end h]; rfl
theorem ends_is (p : UInt8 → Bool) (s : ByteArray) (i : Nat) : ends p s i = i + PL.run p (LL s i) := by
 induction hn : s.size - i generalizing i with
 | zero => rw [ends, dif_neg (by omega), LL_end (by omega)]; rfl
 | succ n ih =>
  have h : i < s.size := by omega
  rw [ends, dif_pos h, LL_lt h]
  unfold PL.run
  split
  ·rename_i hp
   rw [ih (i + 1) (by omega)]
   simp [List.takeWhile, hp, PL.run]
   omega
  ·rename_i hp
   simp [List.takeWhile, hp]
theorem nameEnd_is (s : ByteArray) (i : Nat) : nameEnd s i = i + PL.nameN (LL s i) := by
 unfold nameEnd PL.nameN
 rw [hit_is, isLetter_is]
 split
 ·rw [ends_is, isWord_is]
 ·rfl
theorem signEnd_is (s : ByteArray) (i : Nat) : signEnd s i = i + PL.signN (LL s i) := by
 unfold signEnd PL.signN
 rw [hit_is, hit_is, isSign_is, LL_drop]
 split
 ·split <;> rfl
 ·rfl
theorem colonAt_is (s : ByteArray) (i : Nat) : colonAt s i = PL.colonL (LL s i) := by
 unfold colonAt PL.colonL
 have h1 := byteAt_is s i 58 (by decide)
 have h2 := byteAt_is s (i + 1) 61 (by decide)
 rw [hit_is] at h1 h2
 rw [LL_drop, ← h1, ← h2]
 rfl
theorem symEnd_is (f : Nat) (s : ByteArray) (k : Nat) (hf : (LL s k).length ≤ f) : symEnd s k = k + PL.symN f (LL s k) := by
 induction f generalizing k with
 | zero =>
  have : LL s k = [] := List.length_eq_zero_iff.1 (by omega)
  rw [symEnd, dif_neg]
  ·rfl
  ·rw [colonAt_is, this]; decide
 | succ f ih =>
  rw [symEnd]
  unfold PL.symN
  rw [← colonAt_is]
  split
  ·rename_i h
   have h1 := colonAt_lt h
   rw [LL_len] at hf
   rw [LL_drop, nameEnd_is, ih _ (by rw [LL_len]; omega), LL_drop, ← Nat.add_assoc k 1, ]
   omega
  ·rfl
theorem symEnd_name (s : ByteArray) (i : Nat) : symEnd s (nameEnd s i) = i + PL.symE (LL s i) := by
 unfold PL.symE
 rw [symEnd_is (LL s i).length s _ (by rw [LL_len, LL_len]; have := nameEnd_ge s i; omega), nameEnd_is, LL_drop]
 omega
theorem quoL_is (s : ByteArray) (i : Nat) (acc : List UInt8) : quoL s i acc = (PL.quoLL (LL s i)).map (fun x => (acc ++ x.1, i + x.2)) := by
 induction hn : s.size - i using Nat.strongRecOn generalizing i acc with
 | ind n ih =>
  rw [quoL]
  split
  ·rename_i h
   rw [LL_lt h]
   split
   ·rename_i hc
    rw [hc]
    split
    ·rename_i hh
     have h1 : i + 1 < s.size := by
      unfold hit at hh
      split at hh
      ·assumption
      ·cases hh
     have hd39 : s[i + 1]'h1 = 39 := by
      unfold hit at hh
      rw [dif_pos h1] at hh
      simpa using hh
     rw [LL_lt h1, hd39, PL.quoLL_two, ih _ (by omega) (i + 2) _ rfl]
     cases PL.quoLL (LL s (i + 1 + 1)) with
     | none => rfl
     | some x =>
      simp
      omega
    ·rename_i hh
     rw [PL.quoLL_end (by rw [← hit_is]; simpa using hh)]
     simp
   ·rename_i hc
    rw [PL.quoLL_ne hc, ih _ (by omega) (i + 1) _ rfl]
    cases PL.quoLL (LL s (i + 1)) with
    | none => rfl
    | some x =>
     simp
     omega
  ·rename_i h
   rw [LL_end h]
   rfl
theorem Quoted_is {s : ByteArray} {i : Nat} {t : ByteArray} {ok : Bool} {j : Nat} (h : Quoted s i t ok j) (hi : i ≤ s.size) : (match PL.quotedL (LL s i) with
  | some x => ok = true ∧ t = ⟨x.1.toArray⟩ ∧ j = i + x.2
  | none => ok = false) ∧ j ≤ s.size := by
 unfold Quoted quo at h
 unfold PL.quotedL
 rw [hit_is] at h
 cases hh : PL.hd (· == (39 : UInt8)) (LL s i)
 ·rw [hh] at h
  simp only [Bool.false_eq_true, if_false] at h ⊢
  exact ⟨h.2.1, h.2.2⟩
 ·rw [hh] at h
  simp only [if_true] at h ⊢
  rw [quoL_is] at h
  rw [LL_drop]
  cases hq : PL.quoLL (LL s (i + 1)) with
  | none =>
   rw [hq] at h
   exact ⟨h.2.1, h.2.2⟩
  | some x =>
   have hle := PL.quoLL_le hq
   rw [LL_len] at hle
   rw [hq] at h
   obtain ⟨h1, h2, h3⟩ := h
   simp only [List.nil_append] at h1 h2
   simp only [Option.bind_some]
   by_cases hl : x.1.length ≤ 1024
   ·rw [if_pos hl]
    refine ⟨⟨?_, h1, ?_⟩, ?_⟩
    ·rw [h2]; exact decide_eq_true hl
    ·rw [h3]; show i + 1 + x.2 = i + (x.2 + 1); omega
    ·rw [h3]; show i + 1 + x.2 ≤ s.size; omega
   ·rw [if_neg hl]
    refine ⟨?_, ?_⟩
    ·rw [h2]; exact decide_eq_false hl
    ·rw [h3]; show i + 1 + x.2 ≤ s.size; omega
theorem extract_is (s : ByteArray) (i n : Nat) (h : i + n ≤ s.size) : s.extract i (i + n) = ⟨((LL s i).take n).toArray⟩ := by
 have : (s.extract i (i + n)).data.toList = (LL s i).take n := by
  unfold LL
  simp [ByteArray.data_extract, List.extract_eq_take_drop]
 rw [← this]
theorem Symboled_is {s : ByteArray} {i : Nat} {t : ByteArray} {ok : Bool} {j : Nat} (h : Symboled s i t ok j) (hi : i ≤ s.size) : (match PL.symbolL (LL s i) with
  | some x => ok = true ∧ t = ⟨x.1.toArray⟩ ∧ j = i + x.2
  | none => ok = false) ∧ j ≤ s.size := by
 unfold Symboled at h
 unfold PL.symbolL
 rw [hit_is, hit_is, isLetter_is, isSign_is] at h
 have hL := LL_len s i
 split at h
 ·rename_i h1
  rw [if_pos h1]
  rw [symEnd_name] at h
  have h2 := PL.symE_le (LL s i)
  rw [hL] at h2
  obtain ⟨g1, g2, g3⟩ := h
  rw [extract_is s i _ (by omega)] at g1
  rw [Nat.add_sub_cancel_left] at g2
  by_cases h3 : PL.symE (LL s i) ≤ 1024
  ·rw [if_pos h3]
   exact ⟨⟨by rw [g2]; exact decide_eq_true h3, g1, g3⟩, by omega⟩
  ·rw [if_neg h3]
   exact ⟨by rw [g2]; exact decide_eq_false h3, by omega⟩
 ·rename_i h1
  rw [if_neg h1]
  split at h
  ·rename_i h2
   rw [if_pos h2]
   rw [signEnd_is] at h
   have h3 := PL.signN_le (LL s i)
   rw [hL] at h3
   have h4 : PL.signN (LL s i) ≤ 2 := by unfold PL.signN; split <;> (try split) <;> omega
   obtain ⟨g1, g2, g3⟩ := h
   rw [extract_is s i _ (by omega)] at g1
   rw [Nat.add_sub_cancel_left] at g2
   exact ⟨⟨by rw [g2]; exact decide_eq_true (by omega), g1, g3⟩, by omega⟩
  ·rename_i h2
   rw [if_neg h2]
   exact Quoted_is h hi
def okL (okN : ByteArray → Bool) (l : List UInt8) : Bool := okN ⟨l.toArray⟩
def WordIs (okN : ByteArray → Bool) (s : ByteArray) (i : Nat) (k : Int) (t : ByteArray) (ok : Bool) (j : Nat) : Prop :=
 (match PL.wordL (okL okN) (LL s i) with
  | some x => ok = true ∧ k = (x.1 : Int) ∧ t = ⟨x.2.1.toArray⟩ ∧ j = i + x.2.2
  | none => ok = false) ∧ j ≤ s.size
section
variable {okN : ByteArray → Bool} {s : ByteArray} {i : Nat}
theorem WordIs.of {x : Nat × List UInt8 × Nat} (h : PL.wordL (okL okN) (LL s i) = some x) (hi : i ≤ s.size) {k : Int} {t : ByteArray} {j : Nat} (hk : k = (x.1 : Int)) (ht : t = ⟨x.2.1.toArray⟩) (hj : j = i + x.2.2) : WordIs okN s i k t true j := by
 have hl := (PL.wordL_le h).2.1
 rw [LL_len] at hl
 unfold WordIs
 rw [h]
 exact ⟨⟨rfl, hk, ht, hj⟩, by omega⟩
theorem WordIs.no (h : PL.wordL (okL okN) (LL s i) = none) {k : Int} {t : ByteArray} {j : Nat} (hj : j ≤ s.size) : WordIs okN s i k t false j := by
 unfold WordIs
 rw [h]
 exact ⟨rfl, hj⟩
theorem not_b {c : UInt8} {p : UInt8 → Bool} (h : p c = false) : ¬ p c = true := by rw [h]; simp
theorem wordIs_name (hi : i < s.size) (hl : isLetter (s[i]'hi) = true) (hcl : colonAt s (nameEnd s i) = false) : WordIs okN s i 1 (s.extract i (nameEnd s i)) true (nameEnd s i) := by
 have hn := PL.nameN_le (LL s i)
 rw [LL_len] at hn
 have h : PL.wordL (okL okN) (LL s i) = some (1, (LL s i).take (PL.nameN (LL s i)), PL.nameN (LL s i)) := by
  rw [nameEnd_is, colonAt_is, ← LL_drop] at hcl
  rw [isLetter_is] at hl
  rw [LL_lt hi] at hcl ⊢
  rw [PL.wordL_cons, if_pos hl, if_neg (by rw [hcl]; simp)]
 rw [nameEnd_is]
 exact WordIs.of h (Nat.le_of_lt hi) rfl (extract_is s i _ (by omega)) rfl
theorem wordIs_key (hi : i < s.size) (hl : isLetter (s[i]'hi) = true) (hcl : colonAt s (nameEnd s i) = true) : WordIs okN s i 2 (s.extract i (nameEnd s i + 1)) true (nameEnd s i + 1) := by
 have hlt := colonAt_lt hcl
 rw [nameEnd_is] at hlt
 have h : PL.wordL (okL okN) (LL s i) = some (2, (LL s i).take (PL.nameN (LL s i) + 1), PL.nameN (LL s i) + 1) := by
  rw [nameEnd_is, colonAt_is, ← LL_drop] at hcl
  rw [isLetter_is] at hl
  rw [LL_lt hi] at hcl ⊢
  rw [PL.wordL_cons, if_pos hl, if_pos hcl]
 rw [nameEnd_is, Nat.add_assoc]
 exact WordIs.of h (Nat.le_of_lt hi) rfl (extract_is s i _ (by omega)) rfl
theorem wordIs_number (hi : i < s.size) (hl : isLetter (s[i]'hi) = false) (hd : isDigit (s[i]'hi) = true) : WordIs okN s i 4 (s.extract i (ends isDigit s i)) (okN (s.extract i (ends isDigit s i))) (ends isDigit s i) := by
 have hn := PL.run_le PL.digC (LL s i)
 rw [LL_len] at hn
 rw [isLetter_is] at hl
 have hd' := hd
 rw [isDigit_is] at hd
 have he : s.extract i (ends isDigit s i) = ⟨((LL s i).take (PL.run PL.digC (LL s i))).toArray⟩ := by
  rw [ends_is, isDigit_is]; exact extract_is s i _ (by omega)
 cases ho : okN (s.extract i (ends isDigit s i))
 ·refine WordIs.no ?_ (by rw [ends_is, isDigit_is]; omega)
  rw [he] at ho
  rw [LL_lt hi] at ho ⊢
  rw [PL.wordL_cons, if_neg (not_b hl), if_pos hd, if_neg]
  rw [show okL okN _ = _ from ho]; simp
 ·have ho' := ho
  rw [he] at ho
  have h : PL.wordL (okL okN) (LL s i) = some (4, (LL s i).take (PL.run PL.digC (LL s i)), PL.run PL.digC (LL s i)) := by
   rw [LL_lt hi] at ho ⊢
   rw [PL.wordL_cons, if_neg (not_b hl), if_pos hd, if_pos]
   exact ho
  exact WordIs.of h (Nat.le_of_lt hi) rfl he (by rw [ends_is, isDigit_is])
theorem wordIs_text (hi : i < s.size) (hl : isLetter (s[i]'hi) = false) (hd : isDigit (s[i]'hi) = false) (hc : s[i]'hi = 39) {t : ByteArray} {ok : Bool} {j : Nat} (h : Quoted s i t ok j) : WordIs okN s i 5 t ok j := by
 obtain ⟨h1, h2⟩ := Quoted_is h (Nat.le_of_lt hi)
 rw [isLetter_is] at hl
 rw [isDigit_is] at hd
 have e : PL.wordL (okL okN) (LL s i) = (PL.quotedL (LL s i)).map (fun x => (5, x.1, x.2)) := by
  rw [LL_lt hi, PL.wordL_cons, if_neg (not_b hl), if_neg (not_b hd), if_pos hc]
 cases hq : PL.quotedL (LL s i) with
 | none =>
  rw [hq] at h1 e
  obtain rfl : ok = false := h1
  exact WordIs.no e h2
 | some x =>
  rw [hq] at h1 e
  obtain ⟨rfl, h3, h4⟩ : ok = true ∧ t = ⟨x.1.toArray⟩ ∧ j = i + x.2 := h1
  exact WordIs.of e (Nat.le_of_lt hi) rfl h3 h4
theorem wordIs_list (hi : i < s.size) (hl : isLetter (s[i]'hi) = false) (hd : isDigit (s[i]'hi) = false) (hc : s[i]'hi = 35) (hp : byteAt s (i + 1) = 40) : WordIs okN s i 17 (s.extract i (i + 2)) true (i + 2) := by
 rw [isLetter_is] at hl
 rw [isDigit_is] at hd
 have hlt : i + 1 < s.size := by unfold byteAt at hp; split at hp; assumption; cases hp
 have h : PL.wordL (okL okN) (LL s i) = some (17, (LL s i).take 2, 2) := by
  rw [LL_lt hi, PL.wordL_cons, if_neg (not_b hl), if_neg (not_b hd), if_neg (by rw [hc]; decide), if_pos hc, if_pos]
  rw [← hit_is, ← byteAt_is s (i + 1) 40 (by decide), hp]; rfl
 exact WordIs.of h (Nat.le_of_lt hi) rfl (extract_is s i 2 (by omega)) rfl
theorem wordIs_symbol (hi : i < s.size) (hl : isLetter (s[i]'hi) = false) (hd : isDigit (s[i]'hi) = false) (hc : s[i]'hi = 35) (hp : ¬ byteAt s (i + 1) = 40) {t : ByteArray} {ok : Bool} {j : Nat} (h : Symboled s (i + 1) t ok j) : WordIs okN s i 6 t ok j := by
 obtain ⟨h1, h2⟩ := Symboled_is h hi
 rw [isLetter_is] at hl
 rw [isDigit_is] at hd
 have e : PL.wordL (okL okN) (LL s i) = (PL.symbolL (LL s (i + 1))).map (fun x => (6, x.1, x.2 + 1)) := by
  rw [LL_lt hi, PL.wordL_cons, if_neg (not_b hl), if_neg (not_b hd), if_neg (by rw [hc]; decide), if_pos hc, if_neg]
  rw [← hit_is, ← byteAt_is s (i + 1) 40 (by decide)]
  simpa using hp
 cases hq : PL.symbolL (LL s (i + 1)) with
 | none =>
  rw [hq] at h1 e
  obtain rfl : ok = false := h1
  exact WordIs.no e h2
 | some x =>
  rw [hq] at h1 e
  obtain ⟨rfl, h3, h4⟩ : ok = true ∧ t = ⟨x.1.toArray⟩ ∧ j = i + 1 + x.2 := h1
  exact WordIs.of e (Nat.le_of_lt hi) rfl h3 (by rw [h4]; show i + 1 + x.2 = i + (x.2 + 1); omega)
theorem wordIs_assign (hi : i < s.size) (hl : isLetter (s[i]'hi) = false) (hd : isDigit (s[i]'hi) = false) (hc : s[i]'hi = 58) (hp : byteAt s (i + 1) = 61) : WordIs okN s i 7 (s.extract i (i + 2)) true (i + 2) := by
 rw [isLetter_is] at hl
 rw [isDigit_is] at hd
 have hlt : i + 1 < s.size := by unfold byteAt at hp; split at hp; assumption; cases hp
 have h : PL.wordL (okL okN) (LL s i) = some (7, (LL s i).take 2, 2) := by
  rw [LL_lt hi, PL.wordL_cons, if_neg (not_b hl), if_neg (not_b hd), if_neg (by rw [hc]; decide), if_neg (by rw [hc]; decide), if_pos hc, if_pos]
  rw [← hit_is, ← byteAt_is s (i + 1) 61 (by decide), hp]; rfl
 exact WordIs.of h (Nat.le_of_lt hi) rfl (extract_is s i 2 (by omega)) rfl
theorem wordIs_colon (hi : i < s.size) (hl : isLetter (s[i]'hi) = false) (hd : isDigit (s[i]'hi) = false) (hc : s[i]'hi = 58) (hp : ¬ byteAt s (i + 1) = 61) : WordIs okN s i 16 (s.extract i (i + 1)) true (i + 1) := by
 rw [isLetter_is] at hl
 rw [isDigit_is] at hd
 have h : PL.wordL (okL okN) (LL s i) = some (16, (LL s i).take 1, 1) := by
  rw [LL_lt hi, PL.wordL_cons, if_neg (not_b hl), if_neg (not_b hd), if_neg (by rw [hc]; decide), if_neg (by rw [hc]; decide), if_pos hc, if_neg]
  rw [← hit_is, ← byteAt_is s (i + 1) 61 (by decide)]
  simpa using hp
 exact WordIs.of h (Nat.le_of_lt hi) rfl (extract_is s i 1 (by omega)) rfl
theorem wordIs_sign (hi : i < s.size) (hl : isLetter (s[i]'hi) = false) (hd : isDigit (s[i]'hi) = false) (hn39 : ¬ s[i]'hi = 39) (hn35 : ¬ s[i]'hi = 35) (hn58 : ¬ s[i]'hi = 58) (hg : hit isSign s i = true) : WordIs okN s i 3 (s.extract i (signEnd s i)) true (signEnd s i) := by
 rw [isLetter_is] at hl
 rw [isDigit_is] at hd
 have hn := PL.signN_le (LL s i)
 rw [LL_len] at hn
 have h : PL.wordL (okL okN) (LL s i) = some (3, (LL s i).take (PL.signN (LL s i)), PL.signN (LL s i)) := by
  rw [hit_is, isSign_is] at hg
  rw [LL_lt hi] at hg ⊢
  rw [PL.wordL_cons, if_neg (not_b hl), if_neg (not_b hd), if_neg hn39, if_neg hn35, if_neg hn58, if_pos (show PL.sigC (s[i]'hi) = true from hg)]
 rw [signEnd_is]
 exact WordIs.of h (Nat.le_of_lt hi) rfl (extract_is s i _ (by omega)) rfl
theorem wordIs_single (hi : i < s.size) (hl : isLetter (s[i]'hi) = false) (hd : isDigit (s[i]'hi) = false) (hn39 : ¬ s[i]'hi = 39) (hn35 : ¬ s[i]'hi = 35) (hn58 : ¬ s[i]'hi = 58) (hg : hit isSign s i = false) (hp : 0 ≤ plc singles (s[i]'hi)) : WordIs okN s i (8 + plc singles (s[i]'hi)) (s.extract i (i + 1)) true (i + 1) := by
 rw [isLetter_is] at hl
 rw [isDigit_is] at hd
 rw [show plc singles (s[i]'hi) = match singles.idxOf? (s[i]'hi) with
  | some i => (i : Int)
  | none => -1 from rfl] at hp ⊢
 cases hx : singles.idxOf? (s[i]'hi) with
 | none => rw [hx] at hp; exact absurd hp (by decide)
 | some p =>
  have h : PL.wordL (okL okN) (LL s i) = some (8 + p, (LL s i).take 1, 1) := by
   rw [hit_is, isSign_is] at hg
   rw [LL_lt hi] at hg ⊢
   rw [PL.wordL_cons, if_neg (not_b hl), if_neg (not_b hd), if_neg hn39, if_neg hn35, if_neg hn58, if_neg (by rw [show PL.sigC (s[i]'hi) = false from hg]; simp)]
   rw [show PL.oneL.idxOf? (s[i]'hi) = some p from hx]
  exact WordIs.of h (Nat.le_of_lt hi) (by simp) (extract_is s i 1 (by omega)) rfl
theorem wordIs_nothing (hi : i < s.size) (hl : isLetter (s[i]'hi) = false) (hd : isDigit (s[i]'hi) = false) (hn39 : ¬ s[i]'hi = 39) (hn35 : ¬ s[i]'hi = 35) (hn58 : ¬ s[i]'hi = 58) (hg : hit isSign s i = false) (hp : plc singles (s[i]'hi) < 0) {k : Int} {t : ByteArray} : WordIs okN s i k t false (i + 1) := by
 rw [isLetter_is] at hl
 rw [isDigit_is] at hd
 refine WordIs.no ?_ hi
 rw [show plc singles (s[i]'hi) = match singles.idxOf? (s[i]'hi) with
  | some i => (i : Int)
  | none => -1 from rfl] at hp
 cases hx : singles.idxOf? (s[i]'hi) with
 | some p => rw [hx] at hp; simp at hp; omega
 | none =>
  rw [hit_is, isSign_is] at hg
  rw [LL_lt hi] at hg ⊢
  rw [PL.wordL_cons, if_neg (not_b hl), if_neg (not_b hd), if_neg hn39, if_neg hn35, if_neg hn58, if_neg (by rw [show PL.sigC (s[i]'hi) = false from hg]; simp)]
  rw [show PL.oneL.idxOf? (s[i]'hi) = none from hx]
end
end Go.Proofs.Ytpodpmjlkbbkoaa.P
