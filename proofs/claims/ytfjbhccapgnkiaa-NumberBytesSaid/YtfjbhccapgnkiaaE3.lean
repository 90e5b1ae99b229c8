import Derived.Test.YtfjbhccapgnkiaaE2
namespace Go.Proofs.Ytfjbhccapgnkiaa.P
open Go.RowKit Go.Proofs.YtfjbhccapgnkiaaW.PrintWords Go.Proofs.YtfjbhccapgnkiaaW.PrintLast Go.Proofs.YtfjbhccapgnkiaaW.PrintMore
attribute [local go_sem] max2_int min2_int max_two min_two max_three min_three max_four min_four
set_option linter.unusedVariables false
set_option linter.unusedSimpArgs false

/-! ### lapidaryref01.Kept, where it is as it was -/
theorem Lnt.all {w : World} {g : Nat} {l : List Int} (h : Lnt w g l) (hl : l.length ≤ 140737488351232) : Kd.C (Kd.int .u8) w (some ⟨g, 0, none⟩) (l ++ pad8).length (l ++ pad8) := by
  refine Kd.C_of_reads (d := (0 : Int)) (h1 := fun _ => rfl) ⟨rfl, by simp [pad8]; omega, fun _ => ⟨_, rfl, fun j hj => ?_⟩⟩
  have hc := blk_cell h j
  rw [Addr.add_lit, Nat.zero_add, hc]
  simp only [List.getElem?_toArray, List.getElem?_map, List.getElem?_eq_getElem hj, List.getD, Option.map_some, Option.getD_some]
theorem Lnt.read {w : World} {g : Nat} {l : List Int} (h : Lnt w g l) (hl : l.length ≤ 140737488351232) : Kd.C (Kd.int .u8) w (some ⟨g, 0, none⟩) l.length l := by
  have := Kd.C_take (h.all hl) (m := l.length) (by simp)
  rw [List.take_left] at this
  exact this
theorem str_pad (l : List Int) : strOfNums (l ++ pad8) = strOfNums l ++ ⟨#[165, 165, 165, 165, 165, 165, 165, 165]⟩ := by
  unfold strOfNums
  apply ByteArray.ext
  simp [ByteArray.data_append, pad8]
theorem str_size (l : List Int) : (strOfNums l).size = l.length := by
  simp [strOfNums, ByteArray.size]
theorem slice_over (g n : Nat) (W : World) : (Instr.slice 22 (.slice (some ⟨g, 0, none⟩) n (n + 8)) none (some (.int .i64 ((n : Int) + 8))) none).run Try.prog W = .ok (.slice (some ⟨g, 0, none⟩) (n + 8) (n + 8)) W := by
  obtain ⟨i5, hi5, _, hz5, _⟩ := info_parts info5
  have hel : Try.prog.elem 22 = 5 := by simp [Program.elem, Try.underlying22]
  have hu : Try.prog.underlying 22 = some (.slice (Try.prog.elem 22)) := by rw [hel]; exact Try.underlying22
  rw [run_slice_h W 22 (some ⟨g, 0, none⟩) n (n + 8) hu .i64 ((n : Int) + 8) (by omega) (by omega), hel]
  have : ((n : Int) + 8).toNat = n + 8 := by omega
  simp [sizeOf, typeInfo, hi5, hz5, sliced, Result.andThen, this, Addr.add_lit]
set_option maxHeartbeats 4000000 in
set_option maxRecDepth 100000 in
theorem lapidaryref01_Kept.calls (g : Nat) (A : Option Addr) (c : Nat) (l : List Int) (w : World) (hL : Lnt w g l) (hr : Kd.C (Kd.int .u8) w A l.length l) (hc : l.length ≤ c) (hl : l.length ≤ 140737488351232) :
    Calls Try.prog 28 #[.slice (some ⟨g, 0, none⟩) l.length (l.length + 8), .slice A l.length c] w fun e w' => e = .returned (.bool true) ∧ Below w.heap.size w w' := by
  have hw8 := wrap_len8 l.length hl
  have hcv1 := Kd.C_string (P := Try.prog) (c := l.length + 8) Try.underlying22 Try.underlying5 Try.underlying9 (hL.read hl)
  have hcv2 := Kd.C_string (P := Try.prog) (c := c) Try.underlying22 Try.underlying5 Try.underlying9 hr
  have HR := Aside0.mk hr
  have HL := Aside0.mk hL
  have hsl := slice_over g l.length
  have hw9 : IntKind.i64.wrap ((l.length : Int) + 8) = (l.length : Int) + 8 := (i64_w _).trans (hw8.trans (Int.natCast_add _ _))
  have hsl2 : ∀ W : World, (Instr.slice 22 (.slice (some ⟨g, 0, none⟩) l.length (l.length + 8)) none (some (.int .i64 ((l.length + 8 : Nat) : Int))) none).run Try.prog W = .ok (.slice (some ⟨g, 0, none⟩) (l.length + 8) (l.length + 8)) W := fun W => by rw [Int.natCast_add]; exact hsl W
  clear hr hL
  go_enter Try.func28, Try.ntmps28
  go_wp2
  refine still_letter 10 (by kernel_rfl) (by kernel_rfl) ?_
  intro wd hwd hbd
  simp only [List.take_succ_cons, List.take_zero, List.drop_succ_cons, List.drop_zero]
  have HLd := blk_below HL.out hbd
  have hcv3 := Kd.C_string (P := Try.prog) (c := l.length + 8) Try.underlying22 Try.underlying5 Try.underlying9 (Lnt.all HLd hl)
  rw [str_pad, List.length_append, show pad8.length = 8 from rfl] at hcv3
  have hcv4 := Kd.C_string (P := Try.prog) (c := c) Try.underlying22 Try.underlying5 Try.underlying9 (Kd.C_below HR.out hbd)
  have hsum := run_string_add_sum (P := Try.prog) wd (strOfNums l) ⟨#[165, 165, 165, 165, 165, 165, 165, 165]⟩ (by rw [str_size]; show l.length + 8 ≤ _; omega)
  have HBd := Aside0.mk hbd
  clear hcv1 hcv2 hwd hbd HLd
  repeat still_step
  refine wpStill_nil ?_
  go_wp2
  go_ret
  exact ⟨rfl, HBd.out⟩

end Go.Proofs.Ytfjbhccapgnkiaa.P
