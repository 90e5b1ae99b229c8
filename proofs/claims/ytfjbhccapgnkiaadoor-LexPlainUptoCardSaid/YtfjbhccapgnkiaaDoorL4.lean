/-
What the reader's name and sign do: where a name ends, where signs end.
-/
import Derived.Test.YtfjbhccapgnkiaaDoorL1
import Derived.Test.YtfjbhccapgnkiaaDoorSh
import Derived.Laws.RangeString
import Derived.LoopTactic
import Derived.StillTailTactics
import Derived.Outline
namespace Go.Proofs.YtfjbhccapgnkiaaDoor.P
open Go.RowKit Go.Proofs.YtfjbhccapgnkiaaDoorW.PrintWords Go.Proofs.YtfjbhccapgnkiaaDoorW.PrintLast Go.Proofs.YtfjbhccapgnkiaaDoorW.PrintMore
set_option linter.unusedVariables false
set_option linter.unusedSimpArgs false

/-- The first place of a byte in a text, or -1. -/
def plc (l : List UInt8) (c : UInt8) : Int := match l.findIdx? (· == c) with
  | some i => (i : Int)
  | none => -1

theorem plc_hit (s : ByteArray) (c : UInt8) (i : Nat) (h : i < s.size) (hc : s[i] = c) (hn : ∀ j (hj : j < i), s[j]'(by omega) ≠ c) : plc s.data.toList c = (i : Int) := by
  have : s.data.toList.findIdx? (· == c) = some i := by
    rw [List.findIdx?_eq_some_iff_getElem]
    refine ⟨by simpa using h, by simpa [ByteArray.getElem_eq_getElem_data] using hc, fun j hj => ?_⟩
    simpa [ByteArray.getElem_eq_getElem_data] using hn j hj
  simp [plc, this]
theorem plc_miss (s : ByteArray) (c : UInt8) (hn : ∀ j (hj : j < s.size), s[j] ≠ c) : plc s.data.toList c = -1 := by
  have : s.data.toList.findIdx? (· == c) = none := by
    rw [List.findIdx?_eq_none_iff]
    intro x hx
    obtain ⟨j, hj, rfl⟩ := List.mem_iff_getElem.1 hx
    have hj' : j < s.size := by simpa using hj
    have := hn j hj'
    simpa [ByteArray.getElem_eq_getElem_data] using this
  simp [plc, this]

set_option maxHeartbeats 4000000 in
set_option maxRecDepth 100000 in
theorem lex_place.calls (c : UInt8) (s : ByteArray) (ha : ∀ j (h : j < s.size), (s[j]'h).toNat < 128) (w : World) :
    Calls Tryd.prog 19 #[.int .u8 c.toNat, .string s] w fun e w' => e = .returned (.int .i64 (plc s.data.toList c)) ∧ Below w.heap.size w w' := by
  go_enter Tryd.func19, Tryd.ntmps19
  go_wp2
  go_loopw [5] (fun i w' => ∃ pos : Nat, w' = w.iter s pos ∧ pos ≤ s.size ∧ Aside0 (∀ j (hj : j < s.size), j < pos → s[j] ≠ c)) (fun _ w' => s.size - w'.iterPos w.heap.size)
  case atStart => exact ⟨0, rfl, Nat.zero_le _, ⟨fun j _ h => absurd h (Nat.not_lt_zero _)⟩⟩
  case round =>
    obtain ⟨pos, rfl, hle, hno⟩ := hrel
    by_cases hp : pos < s.size
    · have hnx := fun ty => run_next_ascii (P := Tryd.prog) w s pos ty hp (ha pos hp)
      have h8 : (((s[pos]'hp).toNat : Int) % 256) = ((s[pos]'hp).toNat : Int) := by have := ha pos hp; omega
      by_cases hc : s[pos]'hp = c
      · have hb : (((s[pos]'hp).toNat : Int) == (c.toNat : Int)) = true := by rw [hc]; exact beq_self_eq_true _
        go_wp2
        go_ret
        refine ⟨?_, (Below.refl _ _).alloc (Nat.le_refl _) _⟩
        rw [plc_hit s c pos hp hc (fun j hj => hno.out j _ hj)]; rfl
      · have hb : (((s[pos]'hp).toNat : Int) == (c.toNat : Int)) = false := by
          refine beq_eq_false_iff_ne.2 fun h => hc ?_
          exact UInt8.toNat_inj.1 (by omega)
        go_wp2
        go_roundw
        case rel =>
          refine ⟨pos + 1, rfl, hp, ⟨fun j hj h => ?_⟩⟩
          rcases Nat.lt_succ_iff_lt_or_eq.1 h with h | rfl
          · exact hno.out j hj h
          · exact hc
        case measure =>
          simp
          omega
    · have hnx := fun ty => run_next_end (P := Tryd.prog) w s pos ty hp
      go_wp2
      go_ret
      refine ⟨?_, (Below.refl _ _).alloc (Nat.le_refl _) _⟩
      rw [plc_miss s c (fun j hj => hno.out j hj (by omega))]; rfl

/-! ### the tests of a byte -/
def isBlank (c : UInt8) : Bool := decide (0 ≤ plc [32, 9, 10, 13] c)
def isSign (c : UInt8) : Bool := decide (0 ≤ plc [43, 45, 42, 47, 92, 60, 62, 61, 126, 44, 64, 37, 38, 63] c)
def isLetter (c : UInt8) : Bool := (lex_letter.f c.toNat).getD false
def isDigit (c : UInt8) : Bool := (lex_digit.f c.toNat).getD false
def isWord (c : UInt8) : Bool := isLetter c || isDigit c || c == 95

theorem lex_letter.is (c : UInt8) : lex_letter.f c.toNat = some (isLetter c) := by
  unfold isLetter lex_letter.f
  split <;> rfl
theorem lex_digit.is (c : UInt8) : lex_digit.f c.toNat = some (isDigit c) := by
  unfold isDigit lex_digit.f
  split <;> rfl

theorem bS {w w1 w2 : World} (h : Below w.heap.size w w1) (k : Below w1.heap.size w1 w2) : Below w.heap.size w w2 := h.trans (k.mono h.size)
/-- A function of the program that tests a byte. -/
def Tests (f : Nat) (p : UInt8 → Bool) : Prop := ∀ (c : UInt8) (w : World), Calls Tryd.prog f #[.int .u8 c.toNat] w fun e w' => e = .returned (.bool (p c)) ∧ Below w.heap.size w w'

theorem tests_letter : Tests 31 isLetter := fun c w => (lex_letter.calls c.toNat _ w (lex_letter.is c)).mono fun e w' h => ⟨h.1, h.2.below⟩
theorem tests_digit : Tests 33 isDigit := fun c w => (lex_digit.calls c.toNat _ w (lex_digit.is c)).mono fun e w' h => ⟨h.1, h.2.below⟩
set_option maxHeartbeats 4000000 in
theorem tests_blank : Tests 18 isBlank := by
  intro c w
  go_enter Tryd.func18, Tryd.ntmps18
  go_wp2_with (go_at_call 19; refine (lex_place.calls c _ (by decide) _).mono ?_; rintro e w1 ⟨rfl, hb⟩)
  go_ret
  exact ⟨rfl, hb⟩
set_option maxHeartbeats 4000000 in
theorem tests_sign : Tests 56 isSign := by
  intro c w
  go_enter Tryd.func56, Tryd.ntmps56
  go_wp2_with (go_at_call 19; refine (lex_place.calls c _ (by decide) _).mono ?_; rintro e w1 ⟨rfl, hb⟩)
  go_ret
  exact ⟨rfl, hb⟩
set_option maxHeartbeats 4000000 in
theorem tests_word : Tests 39 isWord := by
  intro c w
  have hl := lex_letter.is c
  have hd := lex_digit.is c
  cases h1 : isLetter c
  · rw [h1] at hl
    cases h2 : isDigit c
    · rw [h2] at hd
      have h3 : ((c.toNat : Int) == 95) = (c == 95) := by
        rw [Bool.eq_iff_iff]
        simp only [beq_iff_eq]
        constructor
        · intro h; exact UInt8.toNat_inj.1 (by simpa using (by omega : c.toNat = 95))
        · rintro rfl; rfl
      go_enter Tryd.func39, Tryd.ntmps39
      go_wp2_with (first | (go_at_call 31; refine (lex_letter.calls c.toNat _ _ hl).mono ?_; rintro e w1 ⟨rfl, hb1⟩) | (go_at_call 33; refine (lex_digit.calls c.toNat _ _ hd).mono ?_; rintro e w2 ⟨rfl, hb2⟩))
      go_ret
      exact ⟨by simp [isWord, h1, h2], bS hb1.below hb2.below⟩
    · rw [h2] at hd
      go_enter Tryd.func39, Tryd.ntmps39
      go_wp2_with (first | (go_at_call 31; refine (lex_letter.calls c.toNat _ _ hl).mono ?_; rintro e w1 ⟨rfl, hb1⟩) | (go_at_call 33; refine (lex_digit.calls c.toNat _ _ hd).mono ?_; rintro e w2 ⟨rfl, hb2⟩))
      go_ret
      exact ⟨by simp [isWord, h1, h2], bS hb1.below hb2.below⟩
  · rw [h1] at hl
    go_enter Tryd.func39, Tryd.ntmps39
    go_wp2_with (go_at_call 31; refine (lex_letter.calls c.toNat _ _ hl).mono ?_; rintro e w1 ⟨rfl, hb1⟩)
    go_ret
    exact ⟨by simp [isWord, h1], hb1.below⟩
end Go.Proofs.YtfjbhccapgnkiaaDoor.P
namespace Go.Proofs.YtfjbhccapgnkiaaDoor.P
open Go.RowKit Go.Proofs.YtfjbhccapgnkiaaDoorW.PrintWords Go.Proofs.YtfjbhccapgnkiaaDoorW.PrintLast Go.Proofs.YtfjbhccapgnkiaaDoorW.PrintMore
set_option linter.unusedVariables false
set_option linter.unusedSimpArgs false
/-- Is there a byte of this kind at the place? -/
def hit (p : UInt8 → Bool) (s : ByteArray) (i : Nat) : Bool := if h : i < s.size then p (s[i]'h) else false
theorem still_letter {P : Program} {id : Nat} {Q : Exit → Act → World → Prop} {a : Act} {w : World} {l : List Oper} (n : Nat) (hm : P.follows .mixedOrders = true) (hB : Region.lexTailB .any l.toArray n = true)
    (h : ∀ wd : World, wd.heap = w.heap → Below w.heap.size w wd → wpStill P l.toArray wd (fun a' => wpList P l.toArray Q (l.drop n) a' wd) (l.take n) a) : (Code.region id l.toArray true).wp P Q a w :=
  wp_region_still_tail n hm hB (h w.drew rfl (Below.refl _ _).drew)
/-- A function value of the program that tests a byte. -/
def Tester (f : Nat) (p : UInt8 → Bool) : Prop := (∀ args w, (callFunc f args).run Tryd.prog w = .ok (.enter f args) w) ∧ Tests f p
theorem tester_letter : Tester 31 isLetter := ⟨enters_of Tryd.func31 (by kernel_rfl) rfl, tests_letter⟩
theorem tester_digit : Tester 33 isDigit := ⟨enters_of Tryd.func33 (by kernel_rfl) rfl, tests_digit⟩
theorem tester_blank : Tester 18 isBlank := ⟨enters_of Tryd.func18 (by kernel_rfl) rfl, tests_blank⟩
theorem tester_sign : Tester 56 isSign := ⟨enters_of Tryd.func56 (by kernel_rfl) rfl, tests_sign⟩
theorem tester_word : Tester 39 isWord := ⟨enters_of Tryd.func39 (by kernel_rfl) rfl, tests_word⟩
set_option maxHeartbeats 4000000 in
set_option maxRecDepth 100000 in
theorem lex_more.calls {f : Nat} {p : UInt8 → Bool} (hf : Tester f p) (g : Nat) (s : ByteArray) (i : Nat) (w0 w : World) (hI : IsS37 w0 w g s i) :
    Calls Tryd.prog 29 #[.pointer (some ⟨g, 0, none⟩), .func (.func f) #[] #[]] w fun e w' => e = .returned (.bool (hit p s i)) ∧ Below w.heap.size w w' := by
  by_cases h : i < s.size
  · have c0 : decide ((i : Int) < (s.size : Int)) = true := decide_eq_true (by omega)
    have hent := hf.1
    go_enter Tryd.func29, Tryd.ntmps29
    go_wp2
    refine still_letter 21 (by kernel_rfl) (by kernel_rfl) ?_
    intro wd hwd hbd
    simp only [List.take_succ_cons, List.take_zero, List.drop_succ_cons, List.drop_zero]
    have hc0 := cellS37_0 (hI.below hbd).1
    have hc1 := cellS37_1 (hI.below hbd).1
    repeat still_step
    refine wpStill_nil ?_
    clear hc0 hc1
    go_wp2_with (go_at_fn f; refine (hf.2 _ _).mono ?_; rintro e w1 ⟨rfl, hb1⟩)
    go_ret
    exact ⟨by simp [hit, h], bS hbd hb1⟩
  · have c0 : decide ((i : Int) < (s.size : Int)) = false := decide_eq_false (by omega)
    have hc0 := cellS37_0 hI.1
    have hc1 := cellS37_1 hI.1
    go_enter Tryd.func29, Tryd.ntmps29
    go_wp2
    repeat (go_quiet (fail); try go_wp2)
    go_ret
    exact ⟨by simp [hit, h], by repeat (first | exact Below.refl _ _ | apply pw_below_drewN)⟩
/-- Where a run of bytes of a kind ends. -/
def ends (p : UInt8 → Bool) (s : ByteArray) (i : Nat) : Nat := if h : i < s.size then (if p (s[i]'h) then ends p s (i + 1) else i) else i
  termination_by s.size - i
theorem ends_hit {p : UInt8 → Bool} {s : ByteArray} {i : Nat} (h : hit p s i = true) : ends p s i = ends p s (i + 1) := by
  unfold hit at h
  split at h
  case isTrue hi => rw [ends, dif_pos hi, if_pos h]
  case isFalse => cases h
theorem ends_miss {p : UInt8 → Bool} {s : ByteArray} {i : Nat} (h : hit p s i = false) : ends p s i = i := by
  unfold hit at h
  rw [ends]
  split at h
  case isTrue hi => rw [dif_pos hi, if_neg (by simp [h])]
  case isFalse hi => rw [dif_neg hi]
theorem hit_lt {p : UInt8 → Bool} {s : ByteArray} {i : Nat} (h : hit p s i = true) : i < s.size := by
  unfold hit at h
  split at h
  case isTrue hi => exact hi
  case isFalse => cases h
/-- Where the reader at block g stands. -/
def atOf (w : World) (g : Nat) : Nat := match w.heap[g]? with
  | some (.cells cs _ _) => (intOf (cs.getD 1 undef)).toNat
  | _ => 0
theorem atOf_is {w0 w : World} {g : Nat} {s : ByteArray} {i : Nat} (h : IsS37 w0 w g s i) : atOf w g = i := by
  unfold atOf
  rw [h.1]
  rfl
theorem wrap_in (n : Int) (h0 : 0 ≤ n) (h1 : n ≤ 4611686018427387904) : wrap64 n = n ∧ IntKind.i64.wrap n = n := by
  have h : wrap64 n = n := by unfold wrap64; omega
  exact ⟨h, (i64_w n).trans h⟩
theorem keepB {w w1 w2 : World} {g : Nat} (h : KeepBut w w1 g none) (k : Below w1.heap.size w1 w2) : KeepBut w w2 g none := h.trans (KeepBut.of_below k g none) (.inl rfl)
theorem bS0 {w0 w1 w2 : World} (h : Below w0.heap.size w0 w1) (k : Below w1.heap.size w1 w2) : Below w0.heap.size w0 w2 := below_step h k
set_option maxHeartbeats 4000000 in
set_option maxRecDepth 100000 in
theorem lex_skip.calls {f : Nat} {p : UInt8 → Bool} (hf : Tester f p) (g : Nat) (s : ByteArray) (i : Nat) (hi : i ≤ s.size) (hs : s.size ≤ 140737488351232) (w0 w : World) (hI : IsS37 w0 w g s i) (hB : Below w0.heap.size w0 w) :
    Calls Tryd.prog 17 #[.pointer (some ⟨g, 0, none⟩), .func (.func f) #[] #[]] w fun e w' => e = .returned (.tuple #[]) ∧ IsS37 w0 w' g s (ends p s i : Nat) ∧ Below w0.heap.size w0 w' ∧ KeepBut w w' g none := by
  go_enter Tryd.func17, Tryd.ntmps17
  go_wp2
  go_loopw [] (fun w' => ∃ j : Nat, Aside0 (IsS37 w0 w' g s (j : Int) ∧ Below w0.heap.size w0 w' ∧ KeepBut w w' g none) ∧ Aside0 (j ≤ s.size ∧ ends p s j = ends p s i)) (fun w' => s.size - atOf w' g)
  case atStart => exact ⟨i, ⟨hI, hB, KeepBut.refl _ _ _⟩, ⟨hi, rfl⟩⟩
  case round =>
    obtain ⟨j, ⟨hIj, hBj, hKj⟩, ⟨hj, hej⟩⟩ := hrel
    have hm0 := Aside0.mk (atOf_is hIj)
    cases hh : hit p s j
    · go_wp2_with (go_at_call 29; refine (lex_more.calls hf g s j w0 _ hIj).mono ?_; rintro e w1 ⟨rfl, hb1⟩; rw [hh])
      go_end0
      rw [ends_miss hh] at hej
      exact ⟨rfl, hej ▸ hIj.below hb1, bS0 hBj hb1, keepB hKj hb1⟩
    · have hlt := hit_lt hh
      have hw := wrap_in ((j : Int) + 1) (by omega) (by omega)
      have hw1 := hw.1
      have hw2 := hw.2
      clear hw
      have hlt2 := Aside0.mk hlt
      clear hlt
      go_wp2_with (go_at_call 29; refine (lex_more.calls hf g s j w0 _ hIj).mono ?_; rintro e w1 ⟨rfl, hb1⟩; rw [hh]; have hI1 := hIj.below hb1; have hc1 := cellS37_1 hI1.1; have hf1 := blk_frozen hI1.1 1)
      go_roundw
      case rel =>
        refine ⟨j + 1, ⟨?_, ?_, ?_⟩, ⟨hlt2.out, ?_⟩⟩
        · have := hI1.set_1 ((j : Int) + 1)
          simpa using this
        · exact below_set (bS0 hBj hb1) (IsS37.ge hI1)
        · exact (keepB hKj hb1).set_ _ _
        · rw [← hej]; exact (ends_hit hh).symm
      case measure =>
        rw [hm0.out, atOf_is (i := j + 1) (w0 := w0) (s := s) (by have := hI1.set_1 ((j : Int) + 1); simpa using this)]
        have := hlt2.out
        omega
end Go.Proofs.YtfjbhccapgnkiaaDoor.P
namespace Go.Proofs.YtfjbhccapgnkiaaDoor.P
open Go.RowKit Go.Proofs.YtfjbhccapgnkiaaDoorW.PrintWords Go.Proofs.YtfjbhccapgnkiaaDoorW.PrintLast Go.Proofs.YtfjbhccapgnkiaaDoorW.PrintMore
set_option linter.unusedVariables false
set_option linter.unusedSimpArgs false
theorem ends_le (p : UInt8 → Bool) (s : ByteArray) (i : Nat) (h : i ≤ s.size) : ends p s i ≤ s.size := by
  induction hn : s.size - i generalizing i with
  | zero => rw [ends, dif_neg (by omega)]; exact h
  | succ n ih =>
    rw [ends]
    split
    · split
      · exact ih (i + 1) (by omega) (by omega)
      · exact h
    · exact h
theorem ends_ge (p : UInt8 → Bool) (s : ByteArray) (i : Nat) : i ≤ ends p s i := by
  induction hn : s.size - i generalizing i with
  | zero => rw [ends, dif_neg (by omega)]; exact Nat.le_refl _
  | succ n ih =>
    rw [ends]
    split
    · split
      · exact Nat.le_trans (Nat.le_succ _) (ih (i + 1) (by omega))
      · exact Nat.le_refl _
    · exact Nat.le_refl _
/-- Where a name that begins at a place ends (the place itself: there is none). -/
def nameEnd (s : ByteArray) (i : Nat) : Nat := if hit isLetter s i then ends isWord s i else i
theorem nameEnd_le (s : ByteArray) (i : Nat) (h : i ≤ s.size) : nameEnd s i ≤ s.size := by unfold nameEnd; split; exact ends_le _ _ _ h; exact h
theorem nameEnd_ge (s : ByteArray) (i : Nat) : i ≤ nameEnd s i := by unfold nameEnd; split; exact ends_ge _ _ _; exact Nat.le_refl _
/-- Where signs that begin at a place end: two at most. -/
def signEnd (s : ByteArray) (i : Nat) : Nat := if hit isSign s i then (if hit isSign s (i + 1) then i + 2 else i + 1) else i
theorem signEnd_le (s : ByteArray) (i : Nat) (h : i ≤ s.size) : signEnd s i ≤ s.size := by
  unfold signEnd
  split
  case isTrue h1 =>
    split
    case isTrue h2 => have := hit_lt h2; omega
    case isFalse => have := hit_lt h1; omega
  case isFalse => exact h

set_option maxHeartbeats 4000000 in
set_option maxRecDepth 100000 in
theorem lex_name.calls (g : Nat) (s : ByteArray) (i : Nat) (hi : i ≤ s.size) (hs : s.size ≤ 140737488351232) (w0 w : World) (hI : IsS37 w0 w g s i) (hB : Below w0.heap.size w0 w) :
    Calls Tryd.prog 25 #[.pointer (some ⟨g, 0, none⟩)] w fun e w' => e = .returned (.bool (hit isLetter s i)) ∧ IsS37 w0 w' g s (nameEnd s i : Nat) ∧ Below w0.heap.size w0 w' ∧ KeepBut w w' g none := by
  cases hh : hit isLetter s i
  · go_enter Tryd.func25, Tryd.ntmps25
    go_wp2_with (go_at_call 29; refine (lex_more.calls tester_letter g s i w0 _ hI).mono ?_; rintro e w1 ⟨rfl, hb1⟩; rw [hh])
    go_ret
    refine ⟨rfl, ?_, bS0 hB hb1, KeepBut.of_below hb1 _ _⟩
    unfold nameEnd
    rw [hh]
    exact hI.below hb1
  · go_enter Tryd.func25, Tryd.ntmps25
    go_wp2_with (first | (go_at_call 29; refine (lex_more.calls tester_letter g s i w0 _ hI).mono ?_; rintro e w1 ⟨rfl, hb1⟩; rw [hh]) | (go_at_call 17; refine (lex_skip.calls tester_word g s i hi hs w0 _ (hI.below hb1) (bS0 hB hb1)).mono ?_; rintro e w2 ⟨rfl, hI2, hB2, hK2⟩))
    go_ret
    refine ⟨rfl, ?_, hB2, (KeepBut.of_below hb1 g none).trans hK2 (.inl rfl)⟩
    unfold nameEnd
    rw [hh]
    exact hI2
theorem sign_out {s : ByteArray} {i j : Nat} (h : j = i ∨ j = i + 1 ∧ hit isSign s i = true ∨ j = i + 2 ∧ hit isSign s i = true ∧ hit isSign s (i + 1) = true) (k : hit isSign s j = false ∨ i + 2 ≤ j) : decide (i < j) = hit isSign s i ∧ signEnd s i = j := by
  unfold signEnd
  rcases h with rfl | ⟨rfl, h1⟩ | ⟨rfl, h1, h2⟩
  · rcases k with k | k
    · rw [k]; exact ⟨by simp, by simp⟩
    · omega
  · rcases k with k | k
    · rw [h1, k]; exact ⟨by simp, by simp⟩
    · omega
  · rw [h1, h2]; exact ⟨by simp, by simp⟩
set_option maxHeartbeats 4000000 in
set_option maxRecDepth 100000 in
theorem lex_sign.calls (g : Nat) (s : ByteArray) (i : Nat) (hi : i ≤ s.size) (hs : s.size ≤ 140737488351232) (w0 w : World) (hI : IsS37 w0 w g s i) (hB : Below w0.heap.size w0 w) :
    Calls Tryd.prog 37 #[.pointer (some ⟨g, 0, none⟩)] w fun e w' => e = .returned (.bool (hit isSign s i)) ∧ IsS37 w0 w' g s (signEnd s i : Nat) ∧ Below w0.heap.size w0 w' ∧ KeepBut w w' g none := by
  have hc0 := cellS37_1 hI.1
  have hw := wrap_in ((i : Int) + 2) (by omega) (by omega)
  have hw1 := hw.1
  have hw2 := hw.2
  clear hw
  go_enter Tryd.func37, Tryd.ntmps37
  go_wp2
  clear hc0
  go_loopw [] (fun w' => ∃ j : Nat, Aside0 (IsS37 w0 w' g s (j : Int) ∧ Below w0.heap.size w0 w' ∧ KeepBut w w' g none) ∧ Aside0 (j ≤ s.size ∧ (j = i ∨ (j = i + 1 ∧ hit isSign s i = true) ∨ (j = i + 2 ∧ hit isSign s i = true ∧ hit isSign s (i + 1) = true)))) (fun w' => s.size - atOf w' g)
  case atStart => exact ⟨i, ⟨hI, hB, KeepBut.refl _ _ _⟩, ⟨hi, .inl rfl⟩⟩
  case round =>
    obtain ⟨j, ⟨hIj, hBj, hKj⟩, ⟨hj, hej⟩⟩ := hrel
    have hm0 := Aside0.mk (atOf_is hIj)
    have hcj := cellS37_1 hIj.1
    by_cases h2 : j < i + 2
    · have c2 : decide ((j : Int) < (i : Int) + 2) = true := decide_eq_true (by omega)
      have h2a := Aside0.mk h2
      clear h2
      cases hh : hit isSign s j
      · go_wp2_with (go_at_call 29; refine (lex_more.calls tester_sign g s j w0 _ hIj).mono ?_; rintro e w1 ⟨rfl, hb1⟩; rw [hh]; have hI1 := hIj.below hb1; clear hcj; have hc1 := cellS37_1 hI1.1)
        go_ret
        obtain ⟨r1, r2⟩ := sign_out hej (.inl hh)
        refine ⟨?_, r2 ▸ hI1, bS0 hBj hb1, keepB hKj hb1⟩
        rw [← r1]
        rfl
      · have hlt2 := Aside0.mk (hit_lt hh)
        have hwj := wrap_in ((j : Int) + 1) (by have := hit_lt hh; omega) (by have := hit_lt hh; omega)
        have hwj1 := hwj.1
        have hwj2 := hwj.2
        clear hwj
        go_wp2_with (go_at_call 29; refine (lex_more.calls tester_sign g s j w0 _ hIj).mono ?_; rintro e w1 ⟨rfl, hb1⟩; rw [hh]; have hI1 := hIj.below hb1; clear hcj; have hc1 := cellS37_1 hI1.1; have hf1 := blk_frozen hI1.1 1)
        go_roundw
        case rel =>
          refine ⟨j + 1, ⟨?_, ?_, ?_⟩, ⟨hlt2.out, ?_⟩⟩
          · have := hI1.set_1 ((j : Int) + 1)
            simpa using this
          · exact below_set (bS0 hBj hb1) (IsS37.ge hI1)
          · exact (keepB hKj hb1).set_ _ _
          · have := h2a.out
            rcases hej with rfl | ⟨rfl, h⟩ | ⟨rfl, _, _⟩
            · exact .inr (.inl ⟨rfl, hh⟩)
            · exact .inr (.inr ⟨rfl, h, hh⟩)
            · omega
        case measure =>
          rw [hm0.out, atOf_is (i := j + 1) (w0 := w0) (s := s) (by have := hI1.set_1 ((j : Int) + 1); simpa using this)]
          have := hlt2.out
          omega
    · have c2 : decide ((j : Int) < (i : Int) + 2) = false := decide_eq_false (by omega)
      obtain ⟨r1, r2⟩ := sign_out hej (.inr (by omega))
      clear h2
      go_wp2
      go_ret
      refine ⟨?_, r2 ▸ hIj, hBj, hKj⟩
      rw [← r1]
      rfl
end Go.Proofs.YtfjbhccapgnkiaaDoor.P
