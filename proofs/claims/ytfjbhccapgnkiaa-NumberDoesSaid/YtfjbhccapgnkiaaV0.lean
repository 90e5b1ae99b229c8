import Derived.Test.YtfjbhccapgnkiaaC1b
import Derived.Deep.RegionHeld3
namespace Go.Proofs.Ytfjbhccapgnkiaa.P
open Go.RowKit Go.Proofs.YtfjbhccapgnkiaaW.PrintWords Go.Proofs.YtfjbhccapgnkiaaW.PrintLast Go.Proofs.YtfjbhccapgnkiaaW.PrintMore
attribute [local go_sem] max2_int min2_int max_two min_two max_three min_three max_four min_four
set_option linter.unusedVariables false
set_option maxHeartbeats 16000000
set_option maxRecDepth 100000
set_option linter.unusedSimpArgs false
/-! ### lapidaryref01.Lent: bytes in new memory, with eight of a known kind behind -/
def pad8 : List Int := [165, 165, 165, 165, 165, 165, 165, 165]
/-- The block of a slice that was lent: its bytes, and those behind. -/
def Lnt (w : World) (g : Nat) (l : List Int) : Prop := w.heap[g]? = some (.cells ((l ++ pad8).map (Value.int .u8)).toArray 5 (0, 0))
theorem wrap_len8 (n : Nat) (h : n ≤ 140737488351232) : wrap64 ((n : Int) + 8) = ((n + 8 : Nat) : Int) := by
 unfold wrap64; omega
theorem cells_of_C {w : World} {ad : Addr} {l : List Int} (h : Kd.C (Kd.int .u8) w (some ad) l.length l) : ∀ j u, (l.map (Value.int .u8))[j]? = some u → w.cell? (ad.add j) = some u := by
 intro j u hu
 obtain ⟨hj, rfl⟩ := List.getElem?_eq_some_iff.1 hu
 have hj' : j < l.length := by simpa using hj
 obtain ⟨ad', e, hc⟩ := Kd.at_int h (j : Int) (by omega) (by omega)
 cases e
 rw [Int.toNat_natCast] at hc
 rw [hc]
 simp [rd, List.getD, hj']
theorem pad_cells (W : World) : ∀ j u, (pad8.map (Value.int .u8))[j]? = some u → (W.alloc (.cells #[.int .u8 165, .int .u8 165, .int .u8 165, .int .u8 165, .int .u8 165, .int .u8 165, .int .u8 165, .int .u8 165] 5)).cell? ((⟨W.heap.size, 0, none⟩ : Addr).add j) = some u := by
 intro j u hu
 obtain ⟨hj, rfl⟩ := List.getElem?_eq_some_iff.1 hu
 have hj8 : j < 8 := by simpa [pad8] using hj
 have hb := heap_alloc_new W (.cells #[.int .u8 165, .int .u8 165, .int .u8 165, .int .u8 165, .int .u8 165, .int .u8 165, .int .u8 165, .int .u8 165] 5)
 have h8 : j = 0 ∨ j = 1 ∨ j = 2 ∨ j = 3 ∨ j = 4 ∨ j = 5 ∨ j = 6 ∨ j = 7 := by omega
 rcases h8 with rfl | rfl | rfl | rfl | rfl | rfl | rfl | rfl <;> exact (blk_cell hb _).trans rfl
theorem full_of_own {w : World} {base e g n : Nat} {xs : List Value} (h : w.ownsRow base e 1 (.slice (some ⟨g, 0, none⟩) n n) n xs) (hn : 0 < n) : w.heap[g]? = some (.cells xs.toArray e (0, 0)) := by
 obtain ⟨hl, h⟩ := h
 rcases h with ⟨h, _⟩ | ⟨g', cap, cur, hv, _, hb, _, _, hs, ht⟩
 ·cases h
 ·cases hv
  rw [hb, ← ht, List.take_of_length_le (by rw [Array.length_toList]; omega)]
theorem lapidaryref01_Lent.calls (A : Option Addr) (c : Nat) (l : List Int) (w : World) (hr : Kd.C (Kd.int .u8) w A l.length l) (hc : l.length ≤ c) (hA : A = none → c = 0) (hl : l.length ≤ 140737488351232) :
  Calls Try.prog 61 #[.slice A l.length c] w fun e w' => ∃ g, e = .returned (.slice (some ⟨g, 0, none⟩) l.length (l.length + 8)) ∧ w.heap.size ≤ g ∧ Lnt w' g l ∧ Below w.heap.size w w' := by
 obtain ⟨i0, hi, hz0, a6, hz2⟩ := info_parts info5
 have hw8 := wrap_len8 l.length hl
 have HR := Aside0.mk hr
 have HC := Aside0.mk hc
 clear hr hc
 go_enter Try.func61, Try.ntmps61
 go_wp2_with (first
  | (at_make; refine wpList_make_own _ rfl _ _ 22 rfl w.heap.size 5 i0 (.int .u8 0) 1 Try.underlying22 hi hz0 a6 _ _ _ (l.length + 8) rfl rfl (by first | exact hw8 | omega) ?b2 ?b3 (Nat.le_refl _) ?_; (case b2 => rw [hz2]; omega); (case b3 => unfold maxLen; omega); intro w1 a4 a0)
  | (at_builtin; (refine wpList_append_fits_any _ rfl (.tmp 8) (.tmp 9) 22 rfl w.heap.size 5 i0 1 Try.underlying22 hi a6 w.heap.size 0 (l.length + 8) [] rfl a4 A l.length c (l.map (Value.int .u8)) rfl (by simp) ?hn ?hcc (ints_oneCell _ _) (by omega) ?_; (case hn => exact fun h => ⟨by rw [h] at HR; exact Nat.eq_zero_of_not_pos (fun hp => by obtain ⟨_, e, _⟩ := HR.out.2.2 hp; cases e), hA h⟩); (case hcc => exact fun ad e => cells_of_C (by rw [← e]; exact Kd.C_below HR.out ((Below.refl _ _).grown a0 (Nat.le_refl _) (fun k h => by cases h)))); intro w2 a2 a1; simp only [Nat.zero_add, List.nil_append] at a2))
  | (at_builtin; go_loud (refine wpList_append_fits _ rfl (.tmp 11) (.tmp 12) 22 rfl w.heap.size 5 i0 1 Try.underlying22 hi a6 w.heap.size l.length (l.length + 8) _ rfl (a2.alloc _) ⟨w2.heap.size, 0, none⟩ 8 8 (pad8.map (Value.int .u8)) rfl rfl ?hp (ints_oneCell _ _) (by omega) ?_; (case hp => exact pad_cells w2); intro w3 a5 a3)))
 go_ret
 have hb1 := (Below.refl w.heap.size w).grown a0 (Nat.le_refl _) (fun k h => by cases h)
 have hb2 := hb1.grown a1 a0.size (fun k h => by cases h; exact Nat.le_refl _)
 have hb3 := (below_alloc hb2 (.cells #[.int .u8 165, .int .u8 165, .int .u8 165, .int .u8 165, .int .u8 165, .int .u8 165, .int .u8 165, .int .u8 165] 5)).grown a3 (by have h1 := a0.size; have h2 := a1.size; simp; omega) (fun k h => by cases h; exact Nat.le_refl _)
 refine ⟨w.heap.size, rfl, Nat.le_refl _, ?_, hb3⟩
 have := full_of_own a5 (by omega)
 rw [← List.map_append] at this
 exact this
end Go.Proofs.Ytfjbhccapgnkiaa.P
namespace Go.Proofs.Ytfjbhccapgnkiaa.P
open Go.RowKit Go.Proofs.YtfjbhccapgnkiaaW.PrintWords Go.Proofs.YtfjbhccapgnkiaaW.PrintLast Go.Proofs.YtfjbhccapgnkiaaW.PrintMore
attribute [local go_sem] max2_int min2_int max_two min_two max_three min_three max_four min_four
set_option linter.unusedVariables false
set_option maxHeartbeats 16000000
set_option maxRecDepth 100000
set_option linter.unusedSimpArgs false
/-! ### lapidarylaw02.given -/
theorem Lnt.below {w w' : World} {g : Nat} {l : List Int} (h : Lnt w g l) (hb : Below w.heap.size w w') : Lnt w' g l := blk_below h hb
theorem Lnt.far {w : World} {g g2 : Nat} {l : List Int} (h : Lnt w g l) (hg : g ≠ g2) (o : Nat) (u : Value) : Lnt (w.setCell ⟨g2, o, none⟩ u) g l := (Below.heap_setCell w ⟨g2, o, none⟩ u g hg).trans h
theorem lapidarylaw02_given.calls (a0 : Bool) (A : Option Addr) (c : Nat) (l : List Int) (w : World) (hr : Kd.C (Kd.int .u8) w A l.length l) (hc : l.length ≤ c) (hA : A = none → c = 0) (hl : l.length ≤ 140737488351232) :
  Calls Try.prog 19 #[.agg #[.bool a0, .slice A l.length c]] w fun e w' => ∃ g, e = .returned (.agg #[.bool a0, .slice (some ⟨g, 0, none⟩) l.length (l.length + 8)]) ∧ w.heap.size ≤ g ∧ Lnt w' g l ∧ Below w.heap.size w w' := by
 have hu24 := Try.underlying24
 have hu25 := Try.underlying25
 have HR := Aside0.mk hr
 have HC := Aside0.mk hc
 have HA := Aside0.mk hA
 have HL := Aside0.mk hl
 clear hr hc hA hl
 go_enter Try.func19, Try.ntmps19
 go_wp2_with (first
  | ((with_reducible refine gd 1 rfl ?_); refine bE (N := 1) (cs := #[.bool a0, .slice A l.length c]) (t := 24) ?_; intro g1 hg w1 hbox hb; have a7 := Aside0.mk hbox; have a8 := Aside0.mk hb; have GE1 := Aside0.mk (Nat.le_of_eq hg.symm); clear hb hbox hg)
  | ((with_reducible refine gd 2 rfl ?_); refine bE (N := 2) (cs := #[.bool false, .slice none 0 0]) (t := 25) ?_; intro g2 hg w2 hbox hb; have BK2 := Aside0.mk hbox; have BK1' := Aside0.mk (blk_below a7.out hb); have HB2 := Aside0.mk (below_step a8.out hb); have a6 := Aside0.mk (Nat.le_trans (below_size a8.out) (Nat.le_of_eq hg.symm)); have NE := Aside0.mk (show g1 ≠ g2 from by rw [hg]; exact Nat.ne_of_lt (Array.getElem?_eq_some_iff.1 a7.out).1); clear hb hbox hg))
 have a1 := Aside0.mk (Below.drew HB2.out)
 have a2 := Aside0.mk (show w2.drew.heap[g1]? = _ from BK1'.out)
 have a5 := Aside0.mk (show w2.drew.heap[g2]? = _ from BK2.out)
 go_region_held3 (fun w' => w'.cell? ⟨g1, 0, none⟩ = some (.bool a0) ∧ w'.cell? ⟨g1, 1, none⟩ = some (.slice A l.length c))
  (first | exact ⟨bc a2 0, bc a2 1⟩ | exact ⟨bc a3 0, bc a3 1⟩ | (simp [*]; done) | go_keep)
  (first | (go_at_call 61; refine (lapidaryref01_Lent.calls _ _ l _ (Kd.C_below HR.out a1.out) HC.out HA.out HL.out).mono ?_; rintro e w3 ⟨g, rfl, hg, hLn, hb⟩; have a3 := Aside0.mk (blk_below a2.out hb); have a4 := Aside0.mk (blk_below a5.out hb); have HB3 := Aside0.mk (below_step a1.out hb); have GG := Aside0.mk (Nat.le_trans (below_size a1.out) hg); have NG := Aside0.mk (show g ≠ g2 from fun e => by have h1 := (Array.getElem?_eq_some_iff.1 a5.out).1; omega); have LN := Aside0.mk hLn; clear hLn hb hg; have hne := NE.out; have hne' := NE.out.symm; have hy := z2 a3; have hz := zf2 a4))
 go_wp2
 refine bodyPost_ret (results_cell_row rfl _ _ g2 25 #[.bool a0, .slice (some ⟨g, 0, none⟩) l.length (l.length + 8)] (0, 0) _ rfl (bp a4) Try.underlying25 rfl (by kernel_rfl)) rfl ?_
 exact ⟨g, rfl, GG.out, ((LN.out).far NG.out _ _).far NG.out _ _, below_set (below_set HB3.out a6.out) a6.out⟩
end Go.Proofs.Ytfjbhccapgnkiaa.P
namespace Go.Proofs.Ytfjbhccapgnkiaa.P
open Go.RowKit Go.Proofs.YtfjbhccapgnkiaaW.PrintWords Go.Proofs.YtfjbhccapgnkiaaW.PrintLast Go.Proofs.YtfjbhccapgnkiaaW.PrintMore
attribute [local go_sem] max2_int min2_int max_two min_two max_three min_three max_four min_four
set_option linter.unusedVariables false
set_option maxHeartbeats 16000000
set_option maxRecDepth 100000
set_option linter.unusedSimpArgs false
/-! ### lapidaryref01.Kept, where it is as it was -/
theorem Lnt.all {w : World} {g : Nat} {l : List Int} (h : Lnt w g l) (hl : l.length ≤ 140737488351232) : Kd.C (Kd.int .u8) w (some ⟨g, 0, none⟩) (l ++ pad8).length (l ++ pad8) := by
 refine Kd.C_of_reads (d := (0 : Int)) (h1 := fun _ => rfl) ⟨rfl, by simp [pad8]; omega, fun _ => ⟨_, rfl, fun j hj => ?_⟩⟩
 have hc := blk_cell h j
 rw [Addr.add_lit, Nat.zero_add, hc]
 simp only [List.getElem?_toArray, List.getElem?_map, List.getElem?_eq_getElem hj, List.getD, Option.map_some, Option.getD_some]
theorem Lnt.read {w : World} {g : Nat} {l : List Int} (h : Lnt w g l) (hl : l.length ≤ 140737488351232) : Kd.C (Kd.int .u8) w (some ⟨g, 0, none⟩) l.length l := by
 have := Kd.C_take (h.all hl) (m := l.length) (by simp)
 rw [List.take_left] at this
 exact this
theorem str_pad (l : List Int) : strOfNums (l ++ pad8) = strOfNums l ++ ⟨#[165, 165, 165, 165, 165, 165, 165, 165]⟩ := by
 unfold strOfNums
 apply ByteArray.ext
 simp [ByteArray.data_append, pad8]
theorem str_size (l : List Int) : (strOfNums l).size = l.length := by
 simp [strOfNums, ByteArray.size]
theorem slice_over (g n : Nat) (W : World) : (Instr.slice 22 (.slice (some ⟨g, 0, none⟩) n (n + 8)) none (some (.int .i64 ((n : Int) + 8))) none).run Try.prog W = .ok (.slice (some ⟨g, 0, none⟩) (n + 8) (n + 8)) W := by
 obtain ⟨i5, hi5, _, hz5, _⟩ := info_parts info5
 have hel : Try.prog.elem 22 = 5 := by simp [Program.elem, Try.underlying22]
 have hu : Try.prog.underlying 22 = some (.slice (Try.prog.elem 22)) := by rw [hel]; exact Try.underlying22
 rw [run_slice_h W 22 (some ⟨g, 0, none⟩) n (n + 8) hu .i64 ((n : Int) + 8) (by omega) (by omega), hel]
 have : ((n : Int) + 8).toNat = n + 8 := by omega
 simp [sizeOf, typeInfo, hi5, hz5, sliced, Result.andThen, this, Addr.add_lit]
theorem lapidaryref01_Kept.calls (g : Nat) (A : Option Addr) (c : Nat) (l : List Int) (w : World) (hL : Lnt w g l) (hr : Kd.C (Kd.int .u8) w A l.length l) (hc : l.length ≤ c) (hl : l.length ≤ 140737488351232) :
  Calls Try.prog 28 #[.slice (some ⟨g, 0, none⟩) l.length (l.length + 8), .slice A l.length c] w fun e w' => e = .returned (.bool true) ∧ Below w.heap.size w w' := by
 have hw8 := wrap_len8 l.length hl
 have a1 := Kd.C_string (P := Try.prog) (c := l.length + 8) Try.underlying22 Try.underlying5 Try.underlying9 (hL.read hl)
 have a0 := Kd.C_string (P := Try.prog) (c := c) Try.underlying22 Try.underlying5 Try.underlying9 hr
 have HR := Aside0.mk hr
 have HL := Aside0.mk hL
 have hsl := slice_over g l.length
 have hw9 : IntKind.i64.wrap ((l.length : Int) + 8) = (l.length : Int) + 8 := (i64_w _).trans (hw8.trans (Int.natCast_add _ _))
 have hsl2 : ∀ W : World, (Instr.slice 22 (.slice (some ⟨g, 0, none⟩) l.length (l.length + 8)) none (some (.int .i64 ((l.length + 8 : Nat) : Int))) none).run Try.prog W = .ok (.slice (some ⟨g, 0, none⟩) (l.length + 8) (l.length + 8)) W := fun W => by rw [Int.natCast_add]; exact hsl W
 clear hr hL
 go_enter Try.func28, Try.ntmps28
 go_wp2
 refine still_letter 10 (by kernel_rfl) (by kernel_rfl) ?_
 intro wd hwd hbd
 simp only [List.take_succ_cons, List.take_zero, List.drop_succ_cons, List.drop_zero]
 have HLd := blk_below HL.out hbd
 have a2 := Kd.C_string (P := Try.prog) (c := l.length + 8) Try.underlying22 Try.underlying5 Try.underlying9 (Lnt.all HLd hl)
 rw [str_pad, List.length_append, show pad8.length = 8 from rfl] at a2
 have hcv4 := Kd.C_string (P := Try.prog) (c := c) Try.underlying22 Try.underlying5 Try.underlying9 (Kd.C_below HR.out hbd)
 have hsum := run_string_add_sum (P := Try.prog) wd (strOfNums l) ⟨#[165, 165, 165, 165, 165, 165, 165, 165]⟩ (by rw [str_size]; show l.length + 8 ≤ _; omega)
 have HBd := Aside0.mk hbd
 clear a1 a0 hwd hbd HLd
 repeat still_step
 refine wpStill_nil ?_
 go_wp2
 go_ret
 exact ⟨rfl, HBd.out⟩
end Go.Proofs.Ytfjbhccapgnkiaa.P
namespace Go.Proofs.Ytfjbhccapgnkiaa.P
open Go.RowKit Go.Proofs.YtfjbhccapgnkiaaW.PrintWords Go.Proofs.YtfjbhccapgnkiaaW.PrintLast Go.Proofs.YtfjbhccapgnkiaaW.PrintMore
attribute [local go_sem] max2_int min2_int max_two min_two max_three min_three max_four min_four
set_option linter.unusedVariables false
set_option maxHeartbeats 16000000
set_option maxRecDepth 100000
set_option linter.unusedSimpArgs false
/-! ### lapidaryref01_Spoil: function 56 -/
def lapidaryref01_Spoil.l0 : Nat → List Int → Int → Option (List Int)
 | 0, _, _ => none
 | k + 1, x0, x2 => if x2 < (x0.length : Int) then (if 0 ≤ x2 then (lapidaryref01_Spoil.l0 k (x0.set (x2 : Int).toNat 90) (wrap64 (x2 + 1))) else (none)) else (some x0)
def lapidaryref01_Spoil.f (k : Nat) (l0 : List Int) : Option (List Int) := lapidaryref01_Spoil.l0 k l0 0
theorem lapidaryref01_Spoil.mono_l : ∀ k, (∀ y0 y1, LeO (lapidaryref01_Spoil.l0 k y0 y1) (lapidaryref01_Spoil.l0 (k + 1) y0 y1))
 | 0 => fun _ _ r h => by simp [lapidaryref01_Spoil.l0] at h
 | k + 1 => by
  have a0 := lapidaryref01_Spoil.mono_l k
  ·intro y0 y1
   unfold lapidaryref01_Spoil.l0
   repeat' first | with_reducible exact a0 _ _ | with_reducible exact LeO.refl _ | with_reducible exact LeO.none _ | with_reducible refine LeO.ite ?_ ?_ | with_reducible refine LeO.bind ?_ (fun _ => ?_) | exact a0 _ _ | exact LeO.none _ | refine LeO.ite ?_ ?_ | refine LeO.bind ?_ (fun _ => ?_)
theorem lapidaryref01_Spoil.mono : ∀ a0 k, LeO (lapidaryref01_Spoil.f k a0) (lapidaryref01_Spoil.f (k + 1) a0) := by
 intro a0 k
 have a1 := lapidaryref01_Spoil.mono_l k
 unfold lapidaryref01_Spoil.f
 repeat' first | with_reducible exact a1 _ _ | with_reducible exact LeO.refl _ | with_reducible exact LeO.none _ | with_reducible refine LeO.ite ?_ ?_ | with_reducible refine LeO.bind ?_ (fun _ => ?_) | exact a1 _ _ | exact LeO.none _ | refine LeO.ite ?_ ?_ | refine LeO.bind ?_ (fun _ => ?_)
theorem lapidaryref01_Spoil.calls (k : Nat) (a4 : Nat → Prop) (a1 : Value) (l0 : List Int) (r : List Int) (w0 w : World) (hB : Below w0.heap.size w0 w) (ho0 : Kd.R (Kd.int .u8) 5 w w0.heap.size a4 a1 l0) (h : lapidaryref01_Spoil.f k l0 = some r) :
  Calls Try.prog 56 #[a1] w fun e w' => e = .returned (.tuple #[]) ∧ Kd.R (Kd.int .u8) 5 w' w0.heap.size (fun k_ => (a4 k_ ∨ w.heap.size ≤ k_)) a1 r ∧ Below w0.heap.size w0 w' ∧ Kept w w' (fun k_ => a4 k_) := by
 have HO0 := Aside0.mk (show Kd.R (Kd.int .u8) 5 w w0.heap.size (fun k_ => (a4 k_ ∨ w.heap.size ≤ k_)) a1 l0 from Kd.R_mono ho0 (fun k_ hk => (.inl hk)))
 have HK := Aside0.mk (Kept.refl w (fun k_ => a4 k_))
 have HW0 := Aside0.mk hB.size
 have HB := Aside0.mk hB
 clear hB
 have H : (lapidaryref01_Spoil.l0 k l0 0) = some r := h
 clear h
 have H' := Aside0.mk H
 clear H
 go_enter Try.func56, Try.ntmps56
 go_wp2
 go_loopg [2] k (fun kq v2 w' => ∃ (a3 : List Int) (a0 : Int), v2 = .int .i64 a0 ∧ Aside0 (lapidaryref01_Spoil.l0 kq a3 a0 = some r) ∧ Aside0 (kq ≤ k) ∧ Aside0 (Kd.R (Kd.int .u8) 5 w' w0.heap.size (fun k_ => (a4 k_ ∨ w.heap.size ≤ k_)) a1 a3) ∧ Aside0 (Kept w w' (fun k_ => a4 k_)) ∧ Aside0 (Below w0.heap.size w0 w'))
 case atStart => exact ⟨(l0), (0), sd, H', ⟨Nat.le_refl _⟩, ⟨rb HO0⟩, ⟨by repeat (first | (with_reducible first | exact HK.out | apply Kept.alloc | apply Kept.drewN | apply Kept.drew) | exact HK.out)⟩, ⟨bw⟩⟩
 case round =>
  clear H'
  obtain ⟨a3, a0, rfl, HA, ab, a2, HK, HB⟩ := hrel
  cases gk with
  | zero => exact absurd HA.out (by simp [lapidaryref01_Spoil.l0])
  | succ k1 =>
   have H := HA.out
   clear HA
   simp only [lapidaryref01_Spoil.l0] at H
   by_cases c2 : a0 < (a3.length : Int)
   ·rw [if_pos c2] at H
    have a7 : decide (a0 < (a3.length : Int)) = true := decide_eq_true c2
    clear c2
    by_cases c3 : 0 ≤ a0
    ·rw [if_pos c3] at H
     have c3b0 : decide (0 ≤ a0) = true := decide_eq_true c3
     clear c3
     obtain ⟨y392, hy392⟩ : ∃ y_ : List Int, y_ = (a3.set (a0 : Int).toNat 90) := ⟨_, rfl⟩
     replace H : (lapidaryref01_Spoil.l0 k1 y392 (wrap64 (a0 + 1))) = some r := by first | (rw [hy392]; with_reducible exact H) | (have a9 := (Option.bind_some _ _).symm.trans H; rw [hy392]; with_reducible exact a9) | (have a9 := (Option.bind_some _ _).symm.trans H; with_reducible exact a9) | with_reducible exact H | (rw [hy392]; exact H) | exact H
     have a5 := Aside0.mk hy392
     clear hy392
     have H' := Aside0.mk H
     clear H
     obtain ⟨Ao5, co5, eo5⟩ := sl a2; cases eo5
     have p4 : 0 ≤ (a0 : Int) := of_decide_eq_true asm
     have q4 : (a0 : Int) < ((a3.length : Int) : Int) := of_decide_eq_true asm
     obtain ⟨a6, co4, ah, ae, gl4, cl4, ag⟩ := Kd.R_form a2.out (by omega)
     (first | cases ah | (injection ah with ea_ en_ ec_; (first | subst ea_ | (injection ea_ with ea_; subst ea_)); subst ec_; clear en_))
     have GB4 := Aside0.mk ae
     have GG4 := Aside0.mk ag
     clear ae gl4 ag
     have af := Aside0.mk (show (a4 a6 ∨ w.heap.size ≤ a6) from (a2.out.1 _ rfl))
     obtain ⟨ac, ad⟩ := Kd.R_celln 0 a2.out (a0 : Int) p4 q4
     replace p4 := eq_true p4
     replace q4 := eq_true q4
     have a8 := Kd.R_putg a2.out (a0 : Int) 90
     go_wp2_with (first | ((with_reducible refine gate_store (t := 5) (p := 11) rfl ?_); refine store_event (t := 5) (p := 11) (v := ?vo_w7) (w1 := (wr.setCell ⟨a6, (a0 : Int).toNat, none⟩ (.int .u8 90))) ?hg ?ho ?hn ?hr ?_; (case ho => rfl); (case hg => rfl); (case hn => rfl); (case hr => first | (go_simp; done) | (go_simp; rfl)); intro w7 hw; have hg : wr.grownBy w7 (some a6) := (by rw [hw]; exact a8.2); have aa : Kd.R (Kd.int .u8) 5 w7 w0.heap.size (fun k_ => (a4 k_ ∨ w.heap.size ≤ k_)) (.slice (some ⟨a6, 0, none⟩) a3.length co5) y392 := (by rw [hw, a5.out]; exact a8.1); clear a8; replace a2 := Aside0.mk aa; replace HK := Aside0.mk (Kept.of_grown (S := (fun k_ => a4 k_)) hg (by repeat (first | (with_reducible first | exact HK.out | apply Kept.alloc | apply Kept.drewN | apply Kept.drew) | exact HK.out)) (fun k_ e_ => (a2.out.1 k_ e_))); replace HB := Aside0.mk ((by rw [hw]; exact below_set (HB.out) GB4.out : Below w0.heap.size w0 w7)); clear hg hw aa))
     go_roundg k1
     case measure => have := ab.out; omega
     case rel => exact ⟨(y392), (wrap64 (a0 + 1)), sd, H', ⟨by have := ab.out; omega⟩, ⟨rb a2⟩, ⟨by repeat (first | (with_reducible first | exact HK.out | apply Kept.alloc | apply Kept.drewN | apply Kept.drew) | exact HK.out)⟩, ⟨bw⟩⟩
    ·rw [if_neg c3] at H
     exact absurd H (by simp)
   ·rw [if_neg c2] at H
    have a7 : decide (a0 < (a3.length : Int)) = false := decide_eq_false c2
    clear c2
    obtain rfl := Option.some.inj H
    obtain ⟨Ao8, co8, eo8⟩ := sl a2; cases eo8
    go_wp2
    first | go_end0 | ((try simp only [Exit.inBlock, Exit.then]); refine bodyPost_ret (results_none rfl _ _ _) rfl ?_)
    exact ⟨er, rb a2, bw, by repeat (first | (with_reducible first | exact HK.out | apply Kept.alloc | apply Kept.drewN | apply Kept.drew) | exact HK.out)⟩
end Go.Proofs.Ytfjbhccapgnkiaa.P
namespace Go.Proofs.Ytfjbhccapgnkiaa.P
open Go.RowKit Go.Proofs.YtfjbhccapgnkiaaW.PrintWords Go.Proofs.YtfjbhccapgnkiaaW.PrintLast Go.Proofs.YtfjbhccapgnkiaaW.PrintMore
attribute [local go_sem] max2_int min2_int max_two min_two max_three min_three max_four min_four
set_option linter.unusedVariables false
set_option maxHeartbeats 16000000
set_option maxRecDepth 100000
set_option linter.unusedSimpArgs false
/-! ### lapidarylaw02.taken: the same value in the other type -/
theorem law_taken (a0 : Bool) (A : Option Addr) (n c : Nat) (w : World) :
  Calls Try.prog 36 #[.agg #[.bool a0, .slice A n c]] w fun e w' => e = .returned (.agg #[.bool a0, .slice A n c]) ∧ Below w.heap.size w w' := by
 have hu24 := Try.underlying24
 have hu25 := Try.underlying25
 have HB := Aside0.mk (Below.refl w.heap.size w)
 go_enter Try.func36, Try.ntmps36
 go_wp2_with (first
  | ((with_reducible refine gd 1 rfl ?_); refine bE (N := 1) (cs := #[.bool a0, .slice A n c]) (t := 25) ?_; intro g1 hg w1 hbox hb; have a2 := Aside0.mk hbox; have GEg1 := Aside0.mk (Nat.le_trans (below_size HB.out) (Nat.le_of_eq hg.symm)); have n_ := Aside0.mk (below_step HB.out hb); clear HB; have HB := n_; clear n_; clear hb hbox hg)
  | ((with_reducible refine gd 2 rfl ?_); refine bE (N := 2) (cs := #[.bool false, .slice none 0 0]) (t := 24) ?_; intro g2 hg w2 hbox hb; have a1 := Aside0.mk hbox; have a4 := Aside0.mk (Nat.le_trans (below_size HB.out) (Nat.le_of_eq hg.symm)); have a8 := Aside0.mk (show g2 ≠ g1 from by rw [hg]; exact (Nat.ne_of_lt (blk_lt a2.out)).symm); have n_ := Aside0.mk (blk_below a2.out hb); clear a2; have a2 := n_; clear n_; have n_ := Aside0.mk (below_step HB.out hb); clear HB; have HB := n_; clear n_; clear hb hbox hg; have a9 := z2 a2; have a6 : w2.cell? ⟨g2, 0, none⟩ = some (.bool false) := bc a1 0; have a5 : w2.frozen? ⟨g2, 0, none⟩ = false := blk_frozen a1.out 0; have a7 : w2.cell? ⟨g2, 1, none⟩ = some (.slice none 0 0) := bc a1 1; have a3 : w2.frozen? ⟨g2, 1, none⟩ = false := blk_frozen a1.out 1))
 refine bodyPost_ret (results_cell_row rfl _ _ g2 24 #[.bool a0, .slice A n c] (0, 0) _ rfl (bp a1) Try.underlying24 rfl (by kernel_rfl)) rfl ?_
 exact ⟨rfl, below_set (below_set HB.out a4.out) a4.out⟩
/-! ### lapidarylaw02.one, where the answers are alike -/
theorem spoil_ends (l : List Int) : ∀ (n : Nat) (i : Nat) (l' : List Int), l'.length = l.length → l.length ≤ 140737488355328 → i + n = l.length → ∃ k r, lapidaryref01_Spoil.l0 k l' (i : Int) = some r
 | 0, i, l', hl, hm, h => ⟨1, l', by simp only [lapidaryref01_Spoil.l0]; rw [if_neg (by omega)]⟩
 | n + 1, i, l', hl, hm, h => by
  obtain ⟨k, r, hk⟩ := spoil_ends l n (i + 1) (l'.set i 90) (by simpa using hl) hm (by omega)
  refine ⟨k + 1, r, ?_⟩
  simp only [lapidaryref01_Spoil.l0]
  rw [if_pos (by omega), if_pos (by omega), show wrap64 ((i : Int) + 1) = ((i + 1 : Nat) : Int) from by unfold wrap64; omega, Int.toNat_natCast]
  exact hk
theorem spoil_some (l : List Int) (h : l.length ≤ 140737488355328) : ∃ k r, lapidaryref01_Spoil.f k l = some r := spoil_ends l l.length 0 l rfl h (by omega)
theorem law_one (an on xn : Bool) (Aa Ab Ax : Option Addr) (ca cb cx g : Nat) (la lx : List Int) (er : Int) (P0 : Nat → Prop) (w0 w : World) (ag : Below w0.heap.size w0 w) (ha : Kd.R (Kd.int .u8) 5 w w0.heap.size P0 (.slice Aa la.length ca) la) (hla : la.length ≤ 140737488355328)
  (hb : Kd.C (Kd.int .u8) w Ab la.length la) (hcb : la.length ≤ cb) (hL : Lnt w g lx) (hP : ¬ P0 g) (hx : Kd.C (Kd.int .u8) w0 Ax lx.length lx) (hcx : lx.length ≤ cx) (hlx : lx.length ≤ 140737488351232) :
  Calls Try.prog 24 #[.agg #[.bool an, .slice Aa la.length ca], .int .i64 er, .agg #[.bool an, .slice Ab la.length cb], .int .i64 er, .agg #[.bool on, .slice (some ⟨g, 0, none⟩) lx.length (lx.length + 8)], .agg #[.bool xn, .slice Ax lx.length cx]] w fun e w' => e = .returned (.bool true) ∧ Below w0.heap.size w0 w' ∧ Kept w w' (fun k => P0 k ∧ k < w.heap.size) := by
 have hu24 := Try.underlying24
 have hu25 := Try.underlying25
 obtain ⟨ks, rs, hsp⟩ := spoil_some la hla
 have SP := Aside0.mk hsp
 have B0 := Aside0.mk ag
 have HA := Aside0.mk ha
 have HC := Aside0.mk hb
 have HL := Aside0.mk hL
 have HP := Aside0.mk hP
 have HX := Aside0.mk hx
 have CX := Aside0.mk hcx
 have CB := Aside0.mk hcb
 have LX := Aside0.mk hlx
 have CA := Aside0.mk (Kd.R_reads' ha).2.1
 clear hsp ag ha hb hL hP hx hcx hcb hlx
 have HB := Aside0.mk (Below.refl w.heap.size w)
 have hsame : lapidaryref02_Same.f an la an la = some true := by simp [lapidaryref02_Same.f]
 have HS := Aside0.mk hsame
 clear hsame
 go_enter Try.func24, Try.ntmps24
 go_wp2_with (first
  | ((with_reducible refine gd 6 rfl ?_); refine bE (N := 6) (cs := #[.bool an, .slice Aa la.length ca]) (t := 25) ?_; intro g6 hg w1 hbox hb; have a0 := Aside0.mk hbox; have GEg6 := Aside0.mk (Nat.le_trans (below_size HB.out) (Nat.le_of_eq hg.symm)); have n_ := Aside0.mk (below_step HB.out hb); clear HB; have HB := n_; clear n_; clear hb hbox hg)
  | ((with_reducible refine gd 8 rfl ?_); refine bE (N := 8) (cs := #[.bool an, .slice Ab la.length cb]) (t := 24) ?_; intro g8 hg w2 hbox hb; have a1 := Aside0.mk hbox; have GEg8 := Aside0.mk (Nat.le_trans (below_size HB.out) (Nat.le_of_eq hg.symm)); have a9 := Aside0.mk (show g8 ≠ g6 from by rw [hg]; exact (Nat.ne_of_lt (blk_lt a0.out)).symm); have n_ := Aside0.mk (blk_below a0.out hb); clear a0; have a0 := n_; clear n_; have n_ := Aside0.mk (below_step HB.out hb); clear HB; have HB := n_; clear n_; clear hb hbox hg)
  | ((with_reducible refine gd 10 rfl ?_); refine bE (N := 10) (cs := #[.bool on, .slice (some ⟨g, 0, none⟩) lx.length (lx.length + 8)]) (t := 25) ?_; intro gO hg w3 hbox hb; have BKgO := Aside0.mk hbox; have GEgO := Aside0.mk (Nat.le_trans (below_size HB.out) (Nat.le_of_eq hg.symm)); have ac := Aside0.mk (show gO ≠ g6 from by rw [hg]; exact (Nat.ne_of_lt (blk_lt a0.out)).symm); have n_ := Aside0.mk (blk_below a0.out hb); clear a0; have a0 := n_; clear n_; have aa := Aside0.mk (show gO ≠ g8 from by rw [hg]; exact (Nat.ne_of_lt (blk_lt a1.out)).symm); have n_ := Aside0.mk (blk_below a1.out hb); clear a1; have a1 := n_; clear n_; have n_ := Aside0.mk (below_step HB.out hb); clear HB; have HB := n_; clear n_; clear hb hbox hg)
  | ((with_reducible refine gd 11 rfl ?_); refine bE (N := 11) (cs := #[.bool xn, .slice Ax lx.length cx]) (t := 24) ?_; intro gX hg w4 hbox hb; have BKgX := Aside0.mk hbox; have GEgX := Aside0.mk (Nat.le_trans (below_size HB.out) (Nat.le_of_eq hg.symm)); have a8 := Aside0.mk (show gX ≠ g6 from by rw [hg]; exact (Nat.ne_of_lt (blk_lt a0.out)).symm); have n_ := Aside0.mk (blk_below a0.out hb); clear a0; have a0 := n_; clear n_; have ab := Aside0.mk (show gX ≠ g8 from by rw [hg]; exact (Nat.ne_of_lt (blk_lt a1.out)).symm); have n_ := Aside0.mk (blk_below a1.out hb); clear a1; have a1 := n_; clear n_; have ad := Aside0.mk (show gX ≠ gO from by rw [hg]; exact (Nat.ne_of_lt (blk_lt BKgO.out)).symm); have n_ := Aside0.mk (blk_below BKgO.out hb); clear BKgO; have BKgO := n_; clear n_; have n_ := Aside0.mk (below_step HB.out hb); clear HB; have HB := n_; clear n_; clear hb hbox hg))
 have WD := Aside0.mk (Below.refl w4.heap.size w4).drew
 have a6 := Aside0.mk (show w4.drew.heap[g6]? = _ from a0.out)
 have a3 := Aside0.mk (show w4.drew.heap[g8]? = _ from a1.out)
 have HA4 := Aside0.mk (Kd.C_below (Kd.R_reads' HA.out).2.2 HB.out)
 go_region_held3 (fun w' => w'.cell? ⟨g6, 0, none⟩ = some (.bool an) ∧ w'.cell? ⟨g6, 1, none⟩ = some (.slice Aa la.length ca) ∧ w'.cell? ⟨g8, 0, none⟩ = some (.bool an) ∧ w'.cell? ⟨g8, 1, none⟩ = some (.slice Ab la.length cb))
  (first | exact ⟨bc a6 0, bc a6 1, bc a3 0, bc a3 1⟩ | exact ⟨bc a4 0, bc a4 1, bc a7 0, bc a7 1⟩ | exact ⟨bc a5 0, bc a5 1, bc a2 0, bc a2 1⟩)
  (first | (go_at_call 36; refine (law_taken an Aa la.length ca _).mono ?_; rintro e w5 ⟨rfl, hb⟩; have a5 := Aside0.mk (blk_below a6.out hb); have a2 := Aside0.mk (blk_below a3.out hb); have WE := Aside0.mk (below_step WD.out hb); clear hb)
         | (go_at_call 35; refine (lapidaryref02_Same.calls an Aa ca la an Ab cb la true _ (Kd.C_below HA4.out WE.out) CA.out (Kd.C_below (Kd.C_below HC.out HB.out) WE.out) CB.out HS.out).mono ?_; rintro e w6 ⟨rfl, hb⟩; have a4 := Aside0.mk (blk_below a5.out hb); have a7 := Aside0.mk (blk_below a2.out hb); have WF := Aside0.mk (below_step WE.out hb); clear hb))
 have W6 := Aside0.mk (below_step HB.out WF.out)
 have BO6 := Aside0.mk (blk_below BKgO.out WF.out)
 have BX6 := Aside0.mk (blk_below BKgX.out WF.out)
 have HR6 := Aside0.mk (Kd.R_mono (ok' := fun k => P0 k ∧ k < w.heap.size) (Kd.R_below (Kd.R_bound HA.out) W6.out) (fun k hk => ⟨hk.1, hk.2.2.1⟩))
 have L6 := Aside0.mk (Lnt.below HL.out W6.out)
 have HB6 := Aside0.mk (below_step B0.out W6.out)
 have hc6 : w6.cell? ⟨g6, 1, none⟩ = some (.slice Aa la.length ca) := bc a4 1
 go_wp2_with (first
  | ((with_reducible refine gate_callee (f := 56) rfl ?_); (try (refine gate_guard (by rfl) ?_; dsimp only)); refine gL (some 25) Try.func56 #[.slice Aa la.length ca] ?_; (refine (lapidaryref01_Spoil.calls ks _ (.slice Aa la.length ca) la rs w0 _ HB6.out HR6.out SP.out).mono ?_); rintro e w7 ⟨rfl, hR, hb, hK⟩; refine ⟨_, rfl, ?_⟩; have af := Aside0.mk hb; have HK7 := Aside0.mk hK; have L7 := Aside0.mk (show Lnt w7 g lx from blk_kept L6.out hK (fun h => HP.out h.1)); have BO7 := Aside0.mk (blk_kept BO6.out hK (fun h => Nat.lt_irrefl _ (Nat.lt_of_lt_of_le h.2 GEgO.out))); have BX7 := Aside0.mk (blk_kept BX6.out hK (fun h => Nat.lt_irrefl _ (Nat.lt_of_lt_of_le h.2 GEgX.out))); have hcO1 : w7.cell? ⟨gO, 1, none⟩ = some (.slice (some ⟨g, 0, none⟩) lx.length (lx.length + 8)) := bc BO7 1; have hcX1 : w7.cell? ⟨gX, 1, none⟩ = some (.slice Ax lx.length cx) := bc BX7 1; clear hR hb hK)
  | ((with_reducible refine gate_callee (f := 28) rfl ?_); (try (refine gate_guard (by rfl) ?_; dsimp only)); refine gL (some 32) Try.func28 #[.slice (some ⟨g, 0, none⟩) lx.length (lx.length + 8), .slice Ax lx.length cx] ?_; (refine (lapidaryref01_Kept.calls g Ax cx lx _ L7.out (Kd.C_below HX.out af.out) CX.out LX.out).mono ?_); rintro e w8 ⟨rfl, hb⟩; refine ⟨_, rfl, ?_⟩; have ae := Aside0.mk hb; clear hb))
 go_ret
 refine ⟨rfl, below_step af.out ae.out, ?_⟩
 exact ((Kept.of_below W6.out _).then_ HK7.out (fun k hk => .inl hk)).below ae.out
end Go.Proofs.Ytfjbhccapgnkiaa.P
namespace Go.Proofs.Ytfjbhccapgnkiaa.P
open Go.RowKit Go.Proofs.YtfjbhccapgnkiaaW.PrintWords Go.Proofs.YtfjbhccapgnkiaaW.PrintLast Go.Proofs.YtfjbhccapgnkiaaW.PrintMore
attribute [local go_sem] max2_int min2_int max_two min_two max_three min_three max_four min_four
set_option linter.unusedVariables false
set_option maxHeartbeats 16000000
set_option maxRecDepth 100000
set_option linter.unusedSimpArgs false
/-! ### lapidarylaw02.same -/
theorem same_true (n : Bool) (l : List Int) : lapidaryref02_Same.f n l n l = some true := by simp [lapidaryref02_Same.f]
theorem law_same (xn yn : Bool) (Ax Ay : Option Addr) (cx cy : Nat) (lx ly : List Int) (r : Bool) (w : World) (hrx : Kd.C (Kd.int .u8) w Ax lx.length lx) (hcx : lx.length ≤ cx) (hry : Kd.C (Kd.int .u8) w Ay ly.length ly) (hcy : ly.length ≤ cy) (h : lapidaryref02_Same.f xn lx yn ly = some r) :
  Calls Try.prog 46 #[.agg #[.bool xn, .slice Ax lx.length cx], .agg #[.bool yn, .slice Ay ly.length cy]] w fun e w' => e = .returned (.bool r) ∧ Below w.heap.size w w' := by
 have hu24 := Try.underlying24
 have hu25 := Try.underlying25
 have Hx := Aside0.mk hrx
 have Cx := Aside0.mk hcx
 clear hrx hcx
 have Hy := Aside0.mk hry
 have Cy := Aside0.mk hcy
 clear hry hcy
 have n_ := Aside0.mk h
 clear h
 have h := n_
 clear n_
 have HBW := Aside0.mk (Below.refl w.heap.size w)
 have Z := Aside0.mk (show w.heap.size ≤ w.heap.size from Nat.le_refl _)
 go_enter Try.func46, Try.ntmps46
 go_wp2_with (first
  | ((with_reducible refine gd 2 rfl ?_); refine bY 2 rfl #[.bool xn, .slice Ax lx.length cx] 25 ?_; intro b2 hg wa1 hbox hb K_; have n_ := Aside0.mk (And.intro (K_.1) Z.out); clear Z; have Z := n_; clear n_; have n_ := Aside0.mk (And.intro (Nat.le_of_eq hg.symm) Z.out); clear Z; have Z := n_; clear n_; have n_ := Aside0.mk (And.intro (Nat.le_of_eq hg) Z.out); clear Z; have Z := n_; clear n_; have n_ := Aside0.mk (And.intro (blk_lt hbox) Z.out); clear Z; have Z := n_; clear n_; have n_ := Aside0.mk (below_step HBW.out hb); clear HBW; have HBW := n_; clear n_; have a0 := Aside0.mk hbox; clear hb hbox hg K_; have a3 := z2 a0)
  | ((with_reducible refine gd 3 rfl ?_); refine bY 3 rfl #[.bool yn, .slice Ay ly.length cy] 25 ?_; intro b3 hg a5 hbox hb K_; have n_ := Aside0.mk ((blk_kept a0.out K_ (fun h => h))); clear a0; have a0 := n_; clear n_; have n_ := Aside0.mk (And.intro (K_.1) Z.out); clear Z; have Z := n_; clear n_; have n_ := Aside0.mk (And.intro (Nat.le_of_eq hg.symm) Z.out); clear Z; have Z := n_; clear n_; have n_ := Aside0.mk (And.intro (Nat.le_of_eq hg) Z.out); clear Z; have Z := n_; clear n_; have n_ := Aside0.mk (And.intro (blk_lt hbox) Z.out); clear Z; have Z := n_; clear n_; have n_ := Aside0.mk (below_step HBW.out hb); clear HBW; have HBW := n_; clear n_; have a2 := Aside0.mk hbox; clear hb hbox hg K_; replace a3 := z2 a0; have a4 := z2 a2))
 have a1 := Aside0.mk (Below.refl a5.heap.size a5).drew
 go_region_held3 (fun w' => w'.cell? ⟨b2, 0, none⟩ = some (.bool xn) ∧ w'.cell? ⟨b2, 1, none⟩ = some (.slice Ax lx.length cx) ∧ w'.cell? ⟨b3, 0, none⟩ = some (.bool yn) ∧ w'.cell? ⟨b3, 1, none⟩ = some (.slice Ay ly.length cy))
  (exact ⟨(blk_cell (blk_below a0.out a1.out) 0).trans rfl, (blk_cell (blk_below a0.out a1.out) 1).trans rfl, (blk_cell (blk_below a2.out a1.out) 0).trans rfl, (blk_cell (blk_below a2.out a1.out) 1).trans rfl⟩)
  (first | (go_at_call 36; refine (law_taken _ _ _ _ _).mono ?_; rintro e wr ⟨rfl, hb⟩; have n_ := Aside0.mk (below_step a1.out hb); clear a1; have a1 := n_; clear n_; clear hb)
         | (go_at_call 35; refine (lapidaryref02_Same.calls xn Ax cx lx yn Ay cy ly r _ (Kd.C_below (Kd.C_below Hx.out HBW.out) a1.out) Cx.out (Kd.C_below (Kd.C_below Hy.out HBW.out) a1.out) Cy.out h.out).mono ?_; rintro e wr ⟨rfl, hb⟩; have n_ := Aside0.mk (below_step a1.out hb); clear a1; have a1 := n_; clear n_; clear hb))
 all_goals go_wp2
 all_goals go_ret
 all_goals exact ⟨rfl, below_step HBW.out a1.out⟩
/-! ### Facts carried from world to world, in few words -/
theorem mvB {w w' : World} {g : Nat} {o : Obj} (h : Aside0 (w.heap[g]? = some o)) (k : Kept w w' (fun _ => False)) : Aside0 (w'.heap[g]? = some o) := ⟨blk_kept h.out k (fun h => h)⟩
theorem mvL {w w' : World} {g : Nat} {l : List Int} (h : Aside0 (Lnt w g l)) (k : Kept w w' (fun _ => False)) : Aside0 (Lnt w' g l) := ⟨blk_kept h.out k (fun h => h)⟩
theorem mvR {w w' : World} {n : Nat} {p : Nat → Prop} {v : Value} {l : List Int} (h : Aside0 (Kd.R (Kd.int .u8) 5 w n p v l)) (k : Kept w w' (fun _ => False)) : Aside0 (Kd.R (Kd.int .u8) 5 w' n p v l) := ⟨Kd.R_kept h.out k (fun _ _ h => h)⟩
theorem sB {w w' : World} {g x : Nat} {o : Obj} (h : Aside0 (w.heap[g]? = some o)) (k : Kept w w' (fun k => k = x)) (n : g ≠ x) : Aside0 (w'.heap[g]? = some o) := ⟨blk_kept h.out k n⟩
theorem bS {w a b : World} (h : Aside0 (Below w.heap.size w a)) (hb : Below a.heap.size a b) : Aside0 (Below w.heap.size w b) := ⟨below_step h.out hb⟩
theorem zA {p q : Prop} (z : Aside0 p) (h : q) : Aside0 (q ∧ p) := ⟨⟨h, z.out⟩⟩
theorem cz2 {w : World} {g : Nat} {a b : Value} {t : TypeId} (h : Aside0 (w.heap[g]? = some (.cells #[a, b] t (0, 0)))) : w.cell? ⟨g, 0, none⟩ = some a ∧ w.cell? ⟨g, 1, none⟩ = some b := ⟨bc h 0, bc h 1⟩
theorem fz2 {w : World} {g : Nat} {a b : Value} {t : TypeId} (h : Aside0 (w.heap[g]? = some (.cells #[a, b] t (0, 0)))) : w.frozen? ⟨g, 0, none⟩ = false ∧ w.frozen? ⟨g, 1, none⟩ = false := ⟨blk_frozen h.out 0, blk_frozen h.out 1⟩
theorem put2 {w : World} {g : Nat} {a b a' b' : Value} {t : TypeId} (h : Aside0 (w.heap[g]? = some (.cells #[a, b] t (0, 0)))) : Aside0 ((World.setCell (World.setCell w ⟨g, 0, none⟩ a') ⟨g, 1, none⟩ b').heap[g]? = some (.cells #[a', b'] t (0, 0))) := ⟨blk_put (blk_put h.out 0 _ rfl) 1 _ rfl⟩
theorem kp2 {w : World} {g : Nat} {a b : Value} : Kept w (World.setCell (World.setCell w ⟨g, 0, none⟩ a) ⟨g, 1, none⟩ b) (fun k => k = g) := Kept.setCell (S := fun k => k = g) (Kept.setCell (S := fun k => k = g) (Kept.refl _ _) (p := ⟨g, 0, none⟩) (.inl rfl) _) (p := ⟨g, 1, none⟩) (.inl rfl) _
theorem bw2 {v w : World} {g : Nat} {a b : Value} (h : Below v.heap.size v w) (hg : v.heap.size ≤ g) : Below v.heap.size v (World.setCell (World.setCell w ⟨g, 0, none⟩ a) ⟨g, 1, none⟩ b) := below_set (below_set h hg) hg
theorem rN {w w' w0 : World} {v : Value} {l : List Int} (h : Kd.R (Kd.int .u8) 5 w' w.heap.size (fun _ => True) v l) (hb : Aside0 (Below w0.heap.size w0 w)) : ∃ A c, v = .slice A l.length c ∧ Aside0 (Kd.R (Kd.int .u8) 5 w' w0.heap.size (fun k => w.heap.size ≤ k ∧ k < w'.heap.size) (.slice A l.length c) l) := by
 obtain ⟨A, c, rfl⟩ := Kd.R_slice h
 exact ⟨A, c, rfl, ⟨Kd.R_lower (Kd.R_mono (ok' := fun k => w.heap.size ≤ k ∧ k < w'.heap.size) (Kd.R_bound h) (fun k hk => ⟨hk.2.1, hk.2.2.1⟩)) hb.out.size⟩⟩
end Go.Proofs.Ytfjbhccapgnkiaa.P
