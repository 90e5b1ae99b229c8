/-
What strings.ReplaceAll does where each quote is doubled (a condition: the text takes at most 2^46 bytes).
-/
import Derived.Test.YtfjbhccapgnkiaaDoorL10
namespace Go.Proofs.YtfjbhccapgnkiaaDoor.P
open Go.RowKit Go.Proofs.YtfjbhccapgnkiaaDoorW.PrintWords Go.Proofs.YtfjbhccapgnkiaaDoorW.PrintLast Go.Proofs.YtfjbhccapgnkiaaDoorW.PrintMore
set_option linter.unusedVariables false
set_option linter.unusedSimpArgs false
theorem esc_none (l : List UInt8) (h : l.count 39 = 0) : PL.escL l = l := by
  induction l with
  | nil => rfl
  | cons c l ih =>
    rw [List.count_cons] at h
    have hc : ¬ c = 39 := by rintro rfl; simp at h
    unfold PL.escL
    rw [if_neg hc, ih (by omega)]
theorem esc_hit (l : List UInt8) (h : 0 < l.count 39) : ∃ j : Nat, Lib.indexByte l 39 = j ∧ j < l.length ∧ PL.escL l = l.take j ++ [39, 39] ++ PL.escL (l.drop (j + 1)) ∧ l.count 39 = (l.drop (j + 1)).count 39 + 1 := by
  induction l with
  | nil => simp at h
  | cons c l ih =>
    by_cases hc : c = 39
    · subst hc
      refine ⟨0, by simp [Lib.indexByte], by simp, by simp [PL.escL], by simp⟩
    · have hb : (c == 39) = false := by simpa using hc
      rw [List.count_cons, hb] at h
      simp only [Bool.false_eq_true, if_false, Nat.add_zero] at h
      obtain ⟨j, h1, h2, h3, h4⟩ := ih h
      refine ⟨j + 1, ?_, by simp; omega, ?_, ?_⟩
      · unfold Lib.indexByte
        rw [hb, h1]
        have : ((j : Int) == -1) = false := beq_eq_false_iff_ne.2 (by omega)
        rw [this]
        simp
      · rw [PL.escL, if_neg hc, h3]; simp
      · rw [List.count_cons, hb, h4]; simp
theorem esc_len (l : List UInt8) : (PL.escL l).length = l.length + l.count 39 := by
  induction l with
  | nil => rfl
  | cons c l ih =>
    unfold PL.escL
    rw [List.count_cons]
    split
    · rename_i hc; subst hc; simp [ih]; omega
    · rename_i hc; have hb : (c == 39) = false := by simpa using hc
      simp [ih, hb]; omega
set_option maxHeartbeats 16000000 in
set_option maxRecDepth 100000 in
theorem strings_Replace_q (s : ByteArray) (hs : s.size ≤ 70368744177664) (w : World) :
    Calls Tryd.prog 38 #[.string s, .string ⟨#[39]⟩, .string ⟨#[39, 39]⟩, .int .i64 (-1)] w fun e w' => e = .returned (.string ⟨(PL.escL s.data.toList).toArray⟩) ∧ Below w.heap.size w w' := by
  have hlenL : s.data.toList.length = s.size := by simp
  obtain ⟨K, hK⟩ : ∃ K : Nat, s.data.toList.count 39 = K := ⟨_, rfl⟩
  have hC : Lib.countByte s.data.toList 39 = K := hK
  have hKl : K ≤ s.size := by rw [← hK, ← hlenL]; exact List.count_le_length
  by_cases h0 : K = 0
  · subst h0
    have hc0 : (((0 : Nat) : Int) == 0) = true := rfl
    go_enter Tryd.func38, Tryd.ntmps38
    go_wp2_with (first | (go_at_call 57; refine (Tryd.strings_Count_one s 39 _).mono ?_; rintro e w' ⟨rfl, rfl⟩; rw [hC]))
    go_ret
    exact ⟨by rw [esc_none _ hK]; rfl, Below.refl _ _⟩
  · have hc0 : ((K : Int) == 0) = false := beq_eq_false_iff_ne.2 (by omega)
    have hu72 := Tryd.underlying72
    have hM := Aside0.mk (show (s.size : Int) + (K : Int) = ((s.size + K : Nat) : Int) from by omega)
    have hod : decide ((0 : Int) < 1) = true := rfl
    go_enter Tryd.func38, Tryd.ntmps38
    go_wp2_with (first | (go_at_call 57; refine (Tryd.strings_Count_one s 39 _).mono ?_; rintro e w' ⟨rfl, rfl⟩; rw [hC]))
    rw [hM.out]
    refine (Any.Builder_Grow_fresh Tryd.lays165 Tryd.Builder_Extra_165 w'.heap.size w'.heap.size (s.size + K) _ (Nat.le_refl _) (heap_alloc_new w' _) (by simp) (by omega)).mono ?_
    rintro e w1 ⟨rfl, hb0, hb1⟩
    have H1 := Aside0.mk (Or.inr hb0 : Lib.IsBuilder 72 5 w'.heap.size w'.heap.size (Lib.byteCells []) w1)
    have Hb1 := Aside0.mk (((Below.refl w'.heap.size w').alloc (Nat.le_refl _) _).trans hb1)
    clear hb0 hb1 hM
    go_wp2_with fail
    go_loopg [11, 53] K (fun g s11 s53 wx => ∃ (i start : Nat) (acc : List UInt8), s53 = .int .i64 i ∧ s11 = .int .i64 start ∧ i + g = K ∧ start ≤ s.size ∧
      Aside0 (Lib.IsBuilder 72 5 w'.heap.size w'.heap.size (Lib.byteCells acc) wx) ∧ Aside0 (Below w'.heap.size w' wx) ∧ Aside0 (acc ++ PL.escL (s.data.toList.drop start) = PL.escL s.data.toList) ∧
      Aside0 ((s.data.toList.drop start).count 39 = g) ∧ acc.length + (s.size - start) + g ≤ s.size + K)
    case atStart => exact ⟨0, 0, [], rfl, rfl, by omega, Nat.zero_le _, H1, Hb1, ⟨by simp⟩, ⟨by simpa using hK⟩, by simp⟩
    case round =>
      clear H1 Hb1
      obtain ⟨i, start, acc, rfl, rfl, hig, hst, HB, HW, HR, HG, hbd⟩ := hrel
      have hBw : w'.heap.size ≤ wr.heap.size := HW.out.size
      have c1 : (0 : Int) ≤ (start : Int) := by omega
      have c2 : (start : Int) ≤ (s.size : Int) := by omega
      cases gk with
      | zero =>
        have hiK : ¬ ((i : Int) < (K : Int)) := by omega
        have hg0 : (s.data.toList.drop start).count 39 = 0 := HG.out
        go_wp2_with fail
        refine (Any.Builder_WriteString Tryd.lays166 Tryd.Builder_Extra_166 w'.heap.size w'.heap.size _ _ wr HB.out (by rw [Lib.byteCells_length, ByteArray.size_extract]; omega) hBw).mono ?_
        rintro e w3 ⟨rfl, h3, hb3⟩
        rw [Lib.strCells_eq, Lib.extract_to_end, ← Lib.byteCells_append] at h3
        have hfin : acc ++ s.data.toList.drop start = PL.escL s.data.toList := by rw [← HR.out, esc_none _ hg0]
        rw [hfin] at h3
        have H3 := Aside0.mk (Or.inr h3 : Lib.IsBuilder 72 5 w'.heap.size w'.heap.size _ w3)
        have Hb3 := Aside0.mk (HW.out.trans hb3)
        have hBw3 : w'.heap.size ≤ w3.heap.size := Hb3.out.size
        clear h3 hb3 hfin
        go_wp2_with fail
        refine (Any.Builder_String_any Tryd.lays169 Tryd.Builder_Extra_169 w'.heap.size w'.heap.size _ w3 H3.out hBw3).mono ?_
        rintro e w5 ⟨rfl, hb5⟩
        have Hb5 := Aside0.mk (Hb3.out.trans hb5)
        clear hb5
        go_wp2
        go_ret
        exact ⟨rfl, Hb5.out⟩
      | succ g =>
        have hiK : (i : Int) < (K : Int) := by omega
        obtain ⟨j, hj1, hj2, hj3, hj4⟩ := esc_hit (s.data.toList.drop start) (by rw [HG.out]; omega)
        rw [List.length_drop, hlenL] at hj2
        have c3 : (start : Int) ≤ (start : Int) + (j : Int) := by omega
        have c4 : (start : Int) + (j : Int) ≤ (s.size : Int) := by omega
        have hnext : Lib.byteCells acc ++ Lib.strCells (s.extract start (start + j)) ++ Lib.strCells ⟨#[39, 39]⟩ = Lib.byteCells (acc ++ (s.data.toList.drop start).take j ++ [39, 39]) := by
          rw [Lib.strCells_eq, Lib.strCells_eq, Lib.extract_data, Nat.add_sub_cancel_left, ← Lib.byteCells_append, ← Lib.byteCells_append]
        have htl : ((s.data.toList.drop start).take j).length = j := by rw [List.length_take, List.length_drop, hlenL]; omega
        have hal : (acc ++ (s.data.toList.drop start).take j ++ [39, 39]).length = acc.length + j + 2 := by simp only [List.length_append, htl]; rfl
        have Hn := Aside0.mk hnext
        have Hrep := Aside0.mk (show (acc ++ (s.data.toList.drop start).take j ++ [39, 39]) ++ PL.escL (s.data.toList.drop (start + j + 1)) = PL.escL s.data.toList from by
          rw [← HR.out, hj3, List.drop_drop]
          simp only [List.append_assoc, Nat.add_assoc])
        have Hcnt := Aside0.mk (show (s.data.toList.drop (start + j + 1)).count 39 = g from by
          have h := HG.out
          rw [hj4, List.drop_drop] at h
          rw [show start + j + 1 = start + (j + 1) by omega]
          omega)
        have Hj1 := Aside0.mk (show Lib.indexByte (s.extract start s.size).data.toList 39 = j from by rw [Lib.extract_to_end]; exact hj1)
        clear hnext HR hj1 hj3 hj4 htl
        go_wp2_with fail
        refine (Tryd.strings_Index_one (s.extract start s.size) 39 wr).mono ?_
        rintro e w2 ⟨he, rfl⟩
        rw [Hj1.out] at he
        subst he
        go_wp2_with fail
        refine (Any.Builder_WriteString Tryd.lays166 Tryd.Builder_Extra_166 w'.heap.size w'.heap.size _ (s.extract start (start + j)) w2 HB.out (by rw [Lib.byteCells_length, ByteArray.size_extract]; omega) hBw).mono ?_
        rintro e w3 ⟨rfl, h3, hb3⟩
        have hBw3 : w'.heap.size ≤ w3.heap.size := Nat.le_trans hBw hb3.size
        have H3 := Aside0.mk h3
        have Hb3 := Aside0.mk hb3
        clear h3 hb3
        go_wp2_with fail
        refine (Any.Builder_WriteString Tryd.lays166 Tryd.Builder_Extra_166 w'.heap.size w'.heap.size _ ⟨#[39, 39]⟩ w3 (Or.inr H3.out) (by rw [List.length_append, Lib.byteCells_length, Lib.strCells_length, ByteArray.size_extract, show ByteArray.size ⟨#[39, 39]⟩ = 2 from rfl]; omega) hBw3).mono ?_
        rintro e w4 ⟨rfl, h4, hb4⟩
        rw [Hn.out] at h4
        have H4 := Aside0.mk (Or.inr h4 : Lib.IsBuilder 72 5 w'.heap.size w'.heap.size _ w4)
        have Hb4 := Aside0.mk ((HW.out.trans Hb3.out).trans hb4)
        clear h4 hb4
        go_wp2
        go_roundg g
        case measure => omega
        case rel => exact ⟨i + 1, start + j + 1, _, by first | rfl | (simp; unfold wrap64; omega), by first | rfl | simp | (simp; unfold wrap64; omega), by omega, by omega, H4, Hb4, Hrep, Hcnt, by rw [hal]; omega⟩
/-- What a text in quotes is. -/
def quoteS (s : ByteArray) : ByteArray := ⟨(PL.quoteL s.data.toList).toArray⟩
set_option maxHeartbeats 4000000 in
theorem strings_ReplaceAll_q (s : ByteArray) (hs : s.size ≤ 70368744177664) (w : World) :
    Calls Tryd.prog 24 #[.string s, .string ⟨#[39]⟩, .string ⟨#[39, 39]⟩] w fun e w' => e = .returned (.string ⟨(PL.escL s.data.toList).toArray⟩) ∧ Below w.heap.size w w' := by
  go_enter Tryd.func24, Tryd.ntmps24
  go_wp2_with (go_at_call 38; refine (strings_Replace_q s hs _).mono ?_; rintro e w' ⟨rfl, hw⟩)
  go_ret
  exact ⟨rfl, hw⟩
def lex_Quote.f (a0 : ByteArray) : Option ByteArray := if a0.size ≤ 70368744177664 then some (quoteS a0) else none
set_option maxHeartbeats 4000000 in
theorem lex_Quote.calls (a0 : ByteArray) (r : ByteArray) (w : World) (h : lex_Quote.f a0 = some r) :
    Calls Tryd.prog 11 #[.string a0] w fun e w' => e = .returned (.string r) ∧ Below w.heap.size w w' := by
  unfold lex_Quote.f at h
  split at h
  case isFalse => cases h
  case isTrue hs =>
    injection h with h
    subst h
    have hl := esc_len a0.data.toList
    have hc : a0.data.toList.count 39 ≤ a0.size := by
      have := List.count_le_length (a := (39 : UInt8)) (l := a0.data.toList)
      simpa using this
    have hl2 : (PL.escL a0.data.toList).length ≤ 140737488355328 := by
      have : a0.data.toList.length = a0.size := by simp
      omega
    obtain ⟨L, hL⟩ : ∃ L, PL.escL a0.data.toList = L := ⟨_, rfl⟩
    have e2 : quoteS a0 = ⟨#[39]⟩ ++ ⟨L.toArray⟩ ++ ⟨#[39]⟩ := by
      unfold quoteS PL.quoteL
      rw [hL]
      apply ByteArray.ext
      simp [ByteArray.data_append]
    rw [e2]
    rw [hL] at hl2
    have hsz : (ByteArray.mk L.toArray).size = L.length := by simp [ByteArray.size]
    clear hl hc
    go_enter Tryd.func11, Tryd.ntmps11
    go_wp2_with (go_at_call 24; refine (strings_ReplaceAll_q a0 hs _).mono ?_; rintro e w' ⟨rfl, hw⟩; rw [hL])
    go_ret
    exact ⟨rfl, hw⟩
end Go.Proofs.YtfjbhccapgnkiaaDoor.P
