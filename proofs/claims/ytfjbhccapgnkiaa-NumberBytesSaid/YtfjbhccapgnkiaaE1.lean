import Derived.Test.YtfjbhccapgnkiaaC1
namespace Go.Proofs.Ytfjbhccapgnkiaa.P
open Go.RowKit Go.Proofs.YtfjbhccapgnkiaaW.PrintWords Go.Proofs.YtfjbhccapgnkiaaW.PrintLast Go.Proofs.YtfjbhccapgnkiaaW.PrintMore
attribute [local go_sem] max2_int min2_int max_two min_two max_three min_three max_four min_four
set_option linter.unusedVariables false
set_option linter.unusedSimpArgs false

/-! ### lapidaryref01.Lent: bytes in new memory, with eight of a known kind behind -/
def pad8 : List Int := [165, 165, 165, 165, 165, 165, 165, 165]
/-- The block of a slice that was lent: its bytes, and those behind. -/
def Lnt (w : World) (g : Nat) (l : List Int) : Prop := w.heap[g]? = some (.cells ((l ++ pad8).map (Value.int .u8)).toArray 5 (0, 0))
theorem wrap_len8 (n : Nat) (h : n ≤ 140737488351232) : wrap64 ((n : Int) + 8) = ((n + 8 : Nat) : Int) := by
  unfold wrap64; omega
theorem cells_of_C {w : World} {ad : Addr} {l : List Int} (h : Kd.C (Kd.int .u8) w (some ad) l.length l) : ∀ j u, (l.map (Value.int .u8))[j]? = some u → w.cell? (ad.add j) = some u := by
  intro j u hu
  obtain ⟨hj, rfl⟩ := List.getElem?_eq_some_iff.1 hu
  have hj' : j < l.length := by simpa using hj
  obtain ⟨ad', e, hc⟩ := Kd.at_int h (j : Int) (by omega) (by omega)
  cases e
  rw [Int.toNat_natCast] at hc
  rw [hc]
  simp [rd, List.getD, hj']
theorem pad_cells (W : World) : ∀ j u, (pad8.map (Value.int .u8))[j]? = some u → (W.alloc (.cells #[.int .u8 165, .int .u8 165, .int .u8 165, .int .u8 165, .int .u8 165, .int .u8 165, .int .u8 165, .int .u8 165] 5)).cell? ((⟨W.heap.size, 0, none⟩ : Addr).add j) = some u := by
  intro j u hu
  obtain ⟨hj, rfl⟩ := List.getElem?_eq_some_iff.1 hu
  have hj8 : j < 8 := by simpa [pad8] using hj
  have hb := heap_alloc_new W (.cells #[.int .u8 165, .int .u8 165, .int .u8 165, .int .u8 165, .int .u8 165, .int .u8 165, .int .u8 165, .int .u8 165] 5)
  have h8 : j = 0 ∨ j = 1 ∨ j = 2 ∨ j = 3 ∨ j = 4 ∨ j = 5 ∨ j = 6 ∨ j = 7 := by omega
  rcases h8 with rfl | rfl | rfl | rfl | rfl | rfl | rfl | rfl <;> exact (blk_cell hb _).trans rfl
theorem full_of_own {w : World} {base e g n : Nat} {xs : List Value} (h : w.ownsRow base e 1 (.slice (some ⟨g, 0, none⟩) n n) n xs) (hn : 0 < n) : w.heap[g]? = some (.cells xs.toArray e (0, 0)) := by
  obtain ⟨hl, h⟩ := h
  rcases h with ⟨h, _⟩ | ⟨g', cap, cur, hv, _, hb, _, _, hs, ht⟩
  · cases h
  · cases hv
    rw [hb, ← ht, List.take_of_length_le (by rw [Array.length_toList]; omega)]
set_option maxHeartbeats 2000000 in
set_option maxRecDepth 100000 in
theorem lapidaryref01_Lent.calls (A : Option Addr) (c : Nat) (l : List Int) (w : World) (hr : Kd.C (Kd.int .u8) w A l.length l) (hc : l.length ≤ c) (hA : A = none → c = 0) (hl : l.length ≤ 140737488351232) :
    Calls Try.prog 61 #[.slice A l.length c] w fun e w' => ∃ g, e = .returned (.slice (some ⟨g, 0, none⟩) l.length (l.length + 8)) ∧ w.heap.size ≤ g ∧ Lnt w' g l ∧ Below w.heap.size w w' := by
  obtain ⟨i0, hi, hz0, hz1, hz2⟩ := info_parts info5
  have hw8 := wrap_len8 l.length hl
  have HR := Aside0.mk hr
  have HC := Aside0.mk hc
  clear hr hc
  go_enter Try.func61, Try.ntmps61
  go_wp2_with (first
    | (at_make; refine wpList_make_own _ rfl _ _ 22 rfl w.heap.size 5 i0 (.int .u8 0) 1 Try.underlying22 hi hz0 hz1 _ _ _ (l.length + 8) rfl rfl (by first | exact hw8 | omega) ?b2 ?b3 (Nat.le_refl _) ?_; (case b2 => rw [hz2]; omega); (case b3 => unfold maxLen; omega); intro w1 hown1 hgrow1)
    | (at_builtin; (refine wpList_append_fits_any _ rfl (.tmp 8) (.tmp 9) 22 rfl w.heap.size 5 i0 1 Try.underlying22 hi hz1 w.heap.size 0 (l.length + 8) [] rfl hown1 A l.length c (l.map (Value.int .u8)) rfl (by simp) ?hn ?hcc (ints_oneCell _ _) (by omega) ?_; (case hn => exact fun h => ⟨by rw [h] at HR; exact Nat.eq_zero_of_not_pos (fun hp => by obtain ⟨_, e, _⟩ := HR.out.2.2 hp; cases e), hA h⟩); (case hcc => exact fun ad e => cells_of_C (by rw [← e]; exact Kd.C_below HR.out ((Below.refl _ _).grown hgrow1 (Nat.le_refl _) (fun k h => by cases h)))); intro w2 hown2 hgrow2; simp only [Nat.zero_add, List.nil_append] at hown2))
    | (at_builtin; go_loud (refine wpList_append_fits _ rfl (.tmp 11) (.tmp 12) 22 rfl w.heap.size 5 i0 1 Try.underlying22 hi hz1 w.heap.size l.length (l.length + 8) _ rfl (hown2.alloc _) ⟨w2.heap.size, 0, none⟩ 8 8 (pad8.map (Value.int .u8)) rfl rfl ?hp (ints_oneCell _ _) (by omega) ?_; (case hp => exact pad_cells w2); intro w3 hown3 hgrow3)))
  go_ret
  have hb1 := (Below.refl w.heap.size w).grown hgrow1 (Nat.le_refl _) (fun k h => by cases h)
  have hb2 := hb1.grown hgrow2 hgrow1.size (fun k h => by cases h; exact Nat.le_refl _)
  have hb3 := (below_alloc hb2 (.cells #[.int .u8 165, .int .u8 165, .int .u8 165, .int .u8 165, .int .u8 165, .int .u8 165, .int .u8 165, .int .u8 165] 5)).grown hgrow3 (by have h1 := hgrow1.size; have h2 := hgrow2.size; simp; omega) (fun k h => by cases h; exact Nat.le_refl _)
  refine ⟨w.heap.size, rfl, Nat.le_refl _, ?_, hb3⟩
  have := full_of_own hown3 (by omega)
  rw [← List.map_append] at this
  exact this

end Go.Proofs.Ytfjbhccapgnkiaa.P
