import Derived.Test.YtfjbhccapgnkiaaA2
namespace Go.Proofs.Ytfjbhccapgnkiaa.P
open Go.RowKit Go.Proofs.YtfjbhccapgnkiaaW.PrintWords Go.Proofs.YtfjbhccapgnkiaaW.PrintLast Go.Proofs.YtfjbhccapgnkiaaW.PrintMore
attribute [local go_sem] max2_int min2_int max_two min_two max_three min_three max_four min_four
set_option linter.unusedVariables false
set_option maxHeartbeats 16000000
set_option maxRecDepth 100000
set_option linter.unusedSimpArgs false
/-! ### whole_split: function 111 -/
mutual
def whole_split.l0 : Nat → List Int → List Int → List Int → List Int → Int → Option (List Int × List Int)
 | 0, _, _, _, _, _ => none
 | k + 1, x0, x1, x6, x7, x8 => if x8 ≥ 0 then ((whole_plus.f k x7 x7).bind fun a0 => (if 0 ≤ (wrap64 (Int.tdiv x8 32)) then (if (wrap64 (Int.tdiv x8 32)) < (x0.length : Int) then (if 0 ≤ (Int.tmod x8 32) then (if (Go.bits .and .u32 (shr .u32 (rd x0 (wrap64 (Int.tdiv x8 32))) (Int.tmod x8 32)) 1) = 1 then ((whole_plus.f k a0 (([1] : List Int))).bind fun a2 => (whole_split.j1 k x0 x1 x6 a2 x8)) else (whole_split.j1 k x0 x1 x6 a0 x8)) else (none)) else (none)) else (none))) else ((whole_words_trim.f k x6).bind fun a1 => (some (a1, x7)))
def whole_split.j1 : Nat → List Int → List Int → List Int → List Int → Int → Option (List Int × List Int)
 | 0, _, _, _, _, _ => none
 | k + 1, x0, x1, x6, x7, x8 => (whole_order.f k x7 x1).bind fun a0 => (if a0 ≥ 0 then ((whole_minus.f k x7 x1).bind fun a1 => (if 0 ≤ (wrap64 (Int.tdiv x8 32)) then (if (wrap64 (Int.tdiv x8 32)) < (x6.length : Int) then (if 0 ≤ (Int.tmod x8 32) then (whole_split.l0 k x0 x1 (x6.set ((wrap64 (Int.tdiv x8 32)) : Int).toNat (Go.bits .or .u32 (rd x6 (wrap64 (Int.tdiv x8 32))) (shl .u32 1 (Int.tmod x8 32)))) a1 (wrap64 (x8 - 1))) else (none)) else (none)) else (none))) else (whole_split.l0 k x0 x1 x6 x7 (wrap64 (x8 - 1))))
end
def whole_split.f (k : Nat) (l0 : List Int) (l1 : List Int) : Option (List Int × List Int) := if 0 ≤ (l0.length : Int) then (if ((l0.length : Int) : Int).toNat ≤ 70368744177664 then (whole_split.l0 k l0 l1 (List.replicate ((l0.length : Int) : Int).toNat 0) ([] : List Int) (wrap64 ((wrap64 ((l0.length : Int) * 32)) - 1))) else (none)) else (none)
theorem whole_split.mono_l : ∀ k, (∀ y0 y1 y2 y3 y4, LeO (whole_split.l0 k y0 y1 y2 y3 y4) (whole_split.l0 (k + 1) y0 y1 y2 y3 y4)) ∧ (∀ y0 y1 y2 y3 y4, LeO (whole_split.j1 k y0 y1 y2 y3 y4) (whole_split.j1 (k + 1) y0 y1 y2 y3 y4))
 | 0 => ⟨fun _ _ _ _ _ r h => by simp [whole_split.l0] at h, fun _ _ _ _ _ r h => by simp [whole_split.j1] at h⟩
 | k + 1 => by
  obtain ⟨a0, a1⟩ := whole_split.mono_l k
  refine ⟨?_, ?_⟩
  ·intro y0 y1 y2 y3 y4
   unfold whole_split.l0
   repeat' first | with_reducible exact a0 _ _ _ _ _ | with_reducible exact a1 _ _ _ _ _ | with_reducible exact whole_minus.mono _ _ _ | with_reducible exact whole_order.mono _ _ _ | with_reducible exact whole_plus.mono _ _ _ | with_reducible exact whole_words_trim.mono _ _ | with_reducible exact LeO.refl _ | with_reducible exact LeO.none _ | with_reducible refine LeO.ite ?_ ?_ | with_reducible refine LeO.bind ?_ (fun _ => ?_) | exact a0 _ _ _ _ _ | exact a1 _ _ _ _ _ | exact whole_minus.mono _ _ _ | exact whole_order.mono _ _ _ | exact whole_plus.mono _ _ _ | exact whole_words_trim.mono _ _ | exact LeO.none _ | refine LeO.ite ?_ ?_ | refine LeO.bind ?_ (fun _ => ?_)
  ·intro y0 y1 y2 y3 y4
   unfold whole_split.j1
   repeat' first | with_reducible exact a0 _ _ _ _ _ | with_reducible exact a1 _ _ _ _ _ | with_reducible exact whole_minus.mono _ _ _ | with_reducible exact whole_order.mono _ _ _ | with_reducible exact whole_plus.mono _ _ _ | with_reducible exact whole_words_trim.mono _ _ | with_reducible exact LeO.refl _ | with_reducible exact LeO.none _ | with_reducible refine LeO.ite ?_ ?_ | with_reducible refine LeO.bind ?_ (fun _ => ?_) | exact a0 _ _ _ _ _ | exact a1 _ _ _ _ _ | exact whole_minus.mono _ _ _ | exact whole_order.mono _ _ _ | exact whole_plus.mono _ _ _ | exact whole_words_trim.mono _ _ | exact LeO.none _ | refine LeO.ite ?_ ?_ | refine LeO.bind ?_ (fun _ => ?_)
theorem whole_split.mono : ∀ a0 a1 k, LeO (whole_split.f k a0 a1) (whole_split.f (k + 1) a0 a1) := by
 intro a0 a1 k
 obtain ⟨a2, a3⟩ := whole_split.mono_l k
 unfold whole_split.f
 repeat' first | with_reducible exact a2 _ _ _ _ _ | with_reducible exact a3 _ _ _ _ _ | with_reducible exact whole_minus.mono _ _ _ | with_reducible exact whole_order.mono _ _ _ | with_reducible exact whole_plus.mono _ _ _ | with_reducible exact whole_words_trim.mono _ _ | with_reducible exact LeO.refl _ | with_reducible exact LeO.none _ | with_reducible refine LeO.ite ?_ ?_ | with_reducible refine LeO.bind ?_ (fun _ => ?_) | exact a2 _ _ _ _ _ | exact a3 _ _ _ _ _ | exact whole_minus.mono _ _ _ | exact whole_order.mono _ _ _ | exact whole_plus.mono _ _ _ | exact whole_words_trim.mono _ _ | exact LeO.none _ | refine LeO.ite ?_ ?_ | refine LeO.bind ?_ (fun _ => ?_)
def whole_split.T11 : Bool × List (List Nat × List Nat) := (true, [([], []), ([], []), ([1], [1]), ([0, 2], [0, 2]), ([3], [3]), ([], []), ([5], [5]), ([6], [6]), ([4, 7], [4, 7]), ([0, 2, 0, 1, 2, 3, 4, 5, 6, 7, 8], [0, 2]), ([9, 8, 0, 1, 2, 3, 4, 5, 6, 7, 8], [8, 9])])
def whole_split.B11 : List Nat := [0, 0, 2, 7, 15, 0, 32, 96, 255, 511, 1023]
theorem whole_split.tab11 : rtab .any (opsOf Try.f111 11) = whole_split.T11 := by kernel_rfl
theorem whole_split.bits11 : waitsOk whole_split.T11.2 whole_split.B11 = true := by kernel_rfl
theorem whole_split.calls (k : Nat) (A0 : Option Addr) (c0 : Nat) (l0 : List Int) (A1 : Option Addr) (c1 : Nat) (l1 : List Int) (r1 : List Int) (r2 : List Int) (w : World) (cj : Kd.C (Kd.int .u32) w A0 l0.length l0) (ch : l0.length ≤ c0) (bU : Kd.C (Kd.int .u32) w A1 l1.length l1) (bZ : l1.length ≤ c1) (h : whole_split.f k l0 l1 = some (r1, r2)) :
  Calls Try.prog 111 #[.slice A0 l0.length c0, .slice A1 l1.length c1] w fun e w' => ∃ ci bQ : Value, e = .returned (.tuple #[ci, bQ]) ∧ Kd.V (Kd.int .u32) 118 w' w.heap.size (fun k_ => (w.heap.size ≤ k_)) ci r1 ∧ Kd.V (Kd.int .u32) 118 w' w.heap.size (fun k_ => (w.heap.size ≤ k_)) bQ r2 ∧ Below w.heap.size w w' := by
 have HR0 := Aside0.mk cj
 have HC0 := Aside0.mk ch
 clear cj ch
 have bO := Aside0.mk bU
 have br := Aside0.mk bZ
 clear bU bZ
 have HB := Aside0.mk (Below.refl w.heap.size w)
 have H : (if 0 ≤ (l0.length : Int) then (if ((l0.length : Int) : Int).toNat ≤ 70368744177664 then (whole_split.l0 k l0 l1 (List.replicate ((l0.length : Int) : Int).toNat 0) ([] : List Int) (wrap64 ((wrap64 ((l0.length : Int) * 32)) - 1))) else (none)) else (none)) = some (r1, r2) := h
 clear h
 by_cases c3 : 0 ≤ (l0.length : Int)
 ·rw [if_pos c3] at H
  have ba := eq_true c3
  have aQ : decide (0 ≤ (l0.length : Int)) = true := decide_eq_true c3
  clear c3
  by_cases c4 : ((l0.length : Int) : Int).toNat ≤ 70368744177664
  ·rw [if_pos c4] at H
   have aW := eq_true c4
   have b1 : decide (((l0.length : Int) : Int).toNat ≤ 70368744177664) = true := decide_eq_true c4
   clear c4
   obtain ⟨y166, hy166⟩ : ∃ y_ : List Int, y_ = (List.replicate ((l0.length : Int) : Int).toNat 0) := ⟨_, rfl⟩
   replace H : (whole_split.l0 k l0 l1 y166 ([] : List Int) (wrap64 ((wrap64 ((l0.length : Int) * 32)) - 1))) = some (r1, r2) := by first | (rw [hy166]; with_reducible exact H) | (have ak := (Option.bind_some _ _).symm.trans H; rw [hy166]; with_reducible exact ak) | (have ak := (Option.bind_some _ _).symm.trans H; with_reducible exact ak) | with_reducible exact H | (rw [hy166]; exact H) | exact H
   have ap := Aside0.mk hy166
   clear hy166
   have H' := Aside0.mk H
   clear H
   go_enter Try.func111, Try.ntmps111
   go_wp2_with (first | ((with_reducible refine gd 11 rfl ?_); refine Kd.R_make (Kd.int .u32) _ 118 rfl (N := 11) rfl 106 _ _ rfl (l0.length : Int) rfl rfl Try.underlying106 (.int .u32 0) 4 info118 rfl (by decide) (by omega) 0 (ok := fun _ => True) (okp := fun _ => True) rfl (fun _ hk => hk) trivial (of_decide_eq_true asm) (Nat.le_trans (Nat.mul_le_mul_right _ (of_decide_eq_true asm : (l0.length : Int).toNat ≤ 70368744177664)) (by omega)) (Below.refl _ _) (Nat.le_refl _) ?_; intro a9 w5 b4 hb bA aj; clear bA aj; (first | rw [← ap.out] at b4 | (simp only [Int.reduceToNat] at b4; rw [← ap.out] at b4)); have aX := rL HB (Kd.R_newM (M := fun k_ => (w.heap.size ≤ k_)) b4 (sz HB) (fun k_ h_ => h_)); replace HB := hB HB hb; clear hb b4))
   go_loopg [7, 8] k (fun kq v7 v8 w' => ∃ (a0 : List Int) (ae : List Int) (a3 : Int), v8 = .int .i64 a3 ∧ Aside0 (whole_split.l0 kq l0 l1 a0 ae a3 = some (r1, r2)) ∧ Aside0 (kq ≤ k) ∧ Aside0 (Kd.R (Kd.int .u32) 118 w' w.heap.size (fun k_ => (w.heap.size ≤ k_)) a9 a0) ∧ Aside0 (Kd.V (Kd.int .u32) 118 w' w.heap.size (fun k_ => (w.heap.size ≤ k_) ∧ some k_ ≠ (a9 : Value).ownBlock) v7 ae) ∧ Aside0 (Below w.heap.size w w'))
   case atStart => exact ⟨(y166), (([] : List Int)), (wrap64 ((wrap64 ((l0.length : Int) * 32)) - 1)), sd, H', ⟨Nat.le_refl _⟩, ⟨by (with_reducible repeat (first | apply Kd.R_alloc | apply Kd.R_drewN | apply Kd.R_drew)); exact Kd.R_mono aX.out (fun _ hk => hk.1)⟩, ⟨Kd.R_V (by first | exact Kd.R_nil _ _ _ w.heap.size _ | exact Kd.N_nil _ _ _ _ _ | exact Kd.V_nil _ _ _ _ _ | exact Kd.Q_nil _ _ _ _ _ | exact Kd.S_nil _ _ _ _ _)⟩, ⟨bw⟩⟩
   case round =>
    clear H'
    try clear c1
    try clear c3
    try clear ba
    try clear aQ
    try clear c4
    try clear aW
    try clear b1
    obtain ⟨a0, ae, a3, rfl, HA, aI, a1, a2, HB⟩ := hrel
    cases gk with
    | zero => exact absurd HA.out (by simp [whole_split.l0])
    | succ k1 =>
     have H := HA.out
     clear HA
     simp only [whole_split.l0] at H
     by_cases c7 : a3 ≥ 0
     ·rw [if_pos c7] at H
      have aZ : decide (0 ≤ a3) = true := decide_eq_true c7
      clear c7
      obtain ⟨a6, A8, H⟩ := bs H
      obtain ⟨ji9, hji9⟩ : ∃ j_ : Int, (wrap64 (Int.tdiv a3 32)) = j_ := ⟨_, rfl⟩
      replace H : (if 0 ≤ (ji9) then (if (ji9) < (l0.length : Int) then (if 0 ≤ (Int.tmod a3 32) then (if (Go.bits .and .u32 (shr .u32 (rd l0 (ji9)) (Int.tmod a3 32)) 1) = 1 then ((whole_plus.f k1 a6 (([1] : List Int))).bind fun a7 => (whole_split.j1 k1 l0 l1 a0 a7 a3)) else (whole_split.j1 k1 l0 l1 a0 a6 a3)) else (none)) else (none)) else (none)) = some (r1, r2) := by first | (rw [hji9] at H; exact H) | (simp only [hji9] at H ⊢; exact H)
      (try rw [hji9] at A8)
      have bb : (IntKind.i64.wrap (Int.tdiv a3 32)) = ji9 := (i64_w _).trans hji9
      by_cases c10 : 0 ≤ (ji9)
      ·rw [if_pos c10] at H
       have aO : decide (0 ≤ (ji9)) = true := decide_eq_true c10
       clear c10
       by_cases aT : (ji9) < (l0.length : Int)
       ·rw [if_pos aT] at H
        have aS : decide ((ji9) < (l0.length : Int)) = true := decide_eq_true aT
        clear aT
        obtain ⟨ji12, hji12⟩ : ∃ j_ : Int, (Int.tmod a3 32) = j_ := ⟨_, rfl⟩
        replace H : (if 0 ≤ (ji12) then (if (Go.bits .and .u32 (shr .u32 (rd l0 (ji9)) (ji12)) 1) = 1 then ((whole_plus.f k1 a6 (([1] : List Int))).bind fun a7 => (whole_split.j1 k1 l0 l1 a0 a7 a3)) else (whole_split.j1 k1 l0 l1 a0 a6 a3)) else (none)) = some (r1, r2) := by first | (rw [hji12] at H; exact H) | (simp only [hji12] at H ⊢; exact H)
        (try rw [hji12] at A8)
        by_cases aJ : 0 ≤ (ji12)
        ·rw [if_pos aJ] at H
         have aL := eq_true aJ
         have aU : decide (0 ≤ (ji12)) = true := decide_eq_true aJ
         clear aJ
         obtain ⟨ji14, hji14⟩ : ∃ j_ : Int, (shr .u32 (rd l0 (ji9)) (ji12)) = j_ := ⟨_, rfl⟩
         replace H : (if (Go.bits .and .u32 (ji14) 1) = 1 then ((whole_plus.f k1 a6 (([1] : List Int))).bind fun a7 => (whole_split.j1 k1 l0 l1 a0 a7 a3)) else (whole_split.j1 k1 l0 l1 a0 a6 a3)) = some (r1, r2) := by first | (rw [hji14] at H; exact H) | (simp only [hji14] at H ⊢; exact H)
         (try rw [hji14] at A8)
         have aw : ((rd l0 (ji9)) / 2 ^ min (ji12).toNat 32) = ji14 := hji14
         have aq : (ji12) ≤ 32 → ((rd l0 (ji9)) / 2 ^ (ji12).toNat) = ji14 := shr_small hji14
         have av := Aside0.mk H
         clear H
         obtain ⟨b5, bd, bo⟩ := vl a2; cases bo
         go_upto_if 32 with (first | ((with_reducible refine ga 80 rfl ?_); refine gc (some 22) Try.func80 #[.slice b5 ae.length bd, .slice b5 ae.length bd] (whole_plus.calls k1 _ _ ae _ _ ae a6 _ (cv a2) ((Kd.V_reads' a2.out).2.1) (cv a2) ((Kd.V_reads' a2.out).2.1) A8.out) ?_; rintro e w17 ⟨v173, rfl, al, hb⟩; refine ⟨_, rfl, ?_⟩; have a5 := Aside0.mk (Kd.V_lower (Kd.V_mono (ok' := fun k_ => (w.heap.size ≤ k_) ∧ some k_ ≠ (a9 : Value).ownBlock) al (fun k_ am => ⟨(Nat.le_trans (sz HB) am), (Kd.fresh' (Kd.R_lt (rb a1)) k_ am)⟩)) (sz HB)); replace a1 := rB a1 hb; replace a2 := vB a2 hb; replace HB := hB HB hb; clear hb al; have aC : 0 ≤ ((ji9) : Int) := of_decide_eq_true asm; have aB : (ji9) < (l0.length : Int) := of_decide_eq_true asm; obtain ⟨bR, bz, ab⟩ := Kd.at_int HR0.out (ji9) aC aB; cases bz; replace ab := (HB.out.cell (World.block_lt_of_cell? w _ ab)).trans ab; replace aC := eq_true aC; replace aB := eq_true aB))
         (try simp only [Act.put, List.setIfInBounds_toArray, List.set_cons_zero, List.set_cons_succ])
         go_cut [7] (fun v7 wc => ∃ (kq : Nat) (a4 : List Int), Aside0 (whole_split.j1 kq l0 l1 a0 a4 a3 = some (r1, r2)) ∧ Aside0 (kq ≤ k1) ∧ Aside0 (Kd.R (Kd.int .u32) 118 wc w.heap.size (fun k_ => (w.heap.size ≤ k_)) a9 a0) ∧ Aside0 (Kd.V (Kd.int .u32) 118 wc w.heap.size (fun k_ => (w.heap.size ≤ k_) ∧ some k_ ≠ (a9 : Value).ownBlock) v7 a4) ∧ Aside0 (Below w.heap.size w wc))
         case first =>
          have H := av.out
          clear av
          by_cases au : (Go.bits .and .u32 (ji14) 1) = 1
          ·rw [if_pos au] at H
           have ac : ((Go.bits .and .u32 (ji14) 1) == 1) = true := beq_iff_eq.mpr au
           have aV : ((Go.bits .and .u32 (ji14) 1) != 1) = false := bne_eq_false_iff_eq.mpr au
           clear au
           (first | rw [ac] | (simp only [i64_w, i32_w]; rw [ac]) | skip)
           obtain ⟨y176, hy176⟩ : ∃ y_ : List Int, y_ = (([1] : List Int)) := ⟨_, rfl⟩
           replace H : ((whole_plus.f k1 a6 y176).bind fun a7 => (whole_split.j1 k1 l0 l1 a0 a7 a3)) = some (r1, r2) := by first | (rw [hy176]; with_reducible exact H) | (have ak := (Option.bind_some _ _).symm.trans H; rw [hy176]; with_reducible exact ak) | (have ak := (Option.bind_some _ _).symm.trans H; with_reducible exact ak) | with_reducible exact H | (rw [hy176]; exact H) | exact H
           have ao := Aside0.mk hy176
           clear hy176
           obtain ⟨a7, A19, H⟩ := bs H
           have H' := Aside0.mk H
           clear H
           go_wp2_with (first | ((with_reducible refine gd 34 rfl ?_); refine Kd.R_lit (Kd.int .u32) _ 118 ?hg (N := 34) ?hd (xs := ([1] : List Int)) (inner := [.int .u32 1]) (ok := fun _ => True) (okp := fun _ => True) ?hr ?hp (fun _ hk => hk) trivial (Below.refl _ _) (Nat.le_refl _) (by simp) ?_; (case hd => rfl); (case hg => rfl); (case hr => first | (go_simp; done) | (go_simp; rfl)); (case hp => exact (Reps.one (show Kd.M (Kd.int .u32) _ _ _ 1 [.int .u32 1] from rfl) (Reps.none _ _))); intro v177 w20 ad hb bA aj; clear bA aj; (first | rw [← ao.out] at ad | (simp only [Int.reduceToNat] at ad; rw [← ao.out] at ad)); have a8 := rL HB (Kd.R_new' (Kd.R_newM (M := fun k_ => (w.heap.size ≤ k_)) ad (sz HB) (fun k_ h_ => h_)) (Kd.R_lt (rb a1))); replace a1 := rE a1 ad hb; replace a2 := vE a2 ad hb; replace a5 := vE a5 ad hb; replace HB := hB HB hb; clear hb ad; obtain ⟨bH, bN, bv⟩ := vl a5; cases bv; obtain ⟨aY, be, bF⟩ := sl a8; cases bF) | ((with_reducible refine ga 80 rfl ?_); refine gc (some 35) Try.func80 #[.slice bH a6.length bN, .slice aY y176.length be] (whole_plus.calls k1 _ _ a6 _ _ y176 a7 _ (cv a5) ((Kd.V_reads' a5.out).2.1) (cr a8) (rl a8) A19.out) ?_; rintro e w24 ⟨v180, rfl, al, hb⟩; refine ⟨_, rfl, ?_⟩; have bf := Aside0.mk (Kd.V_lower (Kd.V_mono (ok' := fun k_ => (w.heap.size ≤ k_) ∧ some k_ ≠ (a9 : Value).ownBlock ∧ some k_ ≠ (.slice aY y176.length be : Value).ownBlock) al (fun k_ am => ⟨(Nat.le_trans (sz HB) am), (Kd.fresh' (Kd.R_lt (rb a1)) k_ am), (Kd.fresh' (Kd.R_lt (rb a8)) k_ am)⟩)) (sz HB)); replace a1 := rB a1 hb; replace a2 := vB a2 hb; replace a5 := vB a5 hb; replace a8 := rB a8 hb; replace HB := hB HB hb; clear hb al))
           go_meet
           case rel => exact ⟨_, (a7), H', ⟨by have := aI.out; first | omega | exact Nat.le_refl _⟩, ⟨by (with_reducible repeat (first | apply Kd.R_alloc | apply Kd.R_drewN | apply Kd.R_drew)); exact Kd.R_mono a1.out (fun _ hk => hk.1)⟩, ⟨by (with_reducible repeat (first | apply Kd.V_alloc | apply Kd.V_drewN | apply Kd.V_drew)); exact Kd.V_mono bf.out (fun _ hk => ⟨hk.1, hk.2.1⟩)⟩, ⟨bw⟩⟩
          ·rw [if_neg au] at H
           have ac : ((Go.bits .and .u32 (ji14) 1) == 1) = false := beq_eq_false_iff_ne.mpr au
           have aV : ((Go.bits .and .u32 (ji14) 1) != 1) = true := bne_iff_ne.mpr au
           (first | rw [ac] | (simp only [i64_w, i32_w]; rw [ac]) | skip)
           have H' := Aside0.mk H
           clear H
           go_wp2
           go_meet
           case rel => exact ⟨_, (a6), H', ⟨by have := aI.out; first | omega | exact Nat.le_refl _⟩, ⟨rb a1⟩, ⟨vb a5⟩, ⟨bw⟩⟩
         case rest =>
          try clear bb
          try clear hji9
          try clear aq
          try clear aw
          try clear hji14
          try clear hji12
          clear av
          try clear c1
          try clear c3
          try clear ba
          try clear aQ
          try clear c4
          try clear aW
          try clear b1
          try clear c7
          try clear aZ
          try clear c10
          try clear aO
          try clear aT
          try clear aS
          try clear aJ
          try clear aL
          try clear aU
          obtain ⟨kq, a4, HA, an, a1, a2, HB⟩ := hcut
          cases kq with
          | zero => exact absurd HA.out (by simp [whole_split.j1])
          | succ kj14 =>
           have H := HA.out
           clear HA
           simp only [whole_split.j1] at H
           obtain ⟨ai, b2, H⟩ := bs H
           by_cases aK : ai ≥ 0
           ·rw [if_pos aK] at H
            have b8 : decide (0 ≤ ai) = true := decide_eq_true aK
            clear aK
            obtain ⟨ag, bh, H⟩ := bs H
            obtain ⟨ji28, hji28⟩ : ∃ j_ : Int, (wrap64 (Int.tdiv a3 32)) = j_ := ⟨_, rfl⟩
            replace H : (if 0 ≤ (ji28) then (if (ji28) < (a0.length : Int) then (if 0 ≤ (Int.tmod a3 32) then (whole_split.l0 kj14 l0 l1 (a0.set ((ji28) : Int).toNat (Go.bits .or .u32 (rd a0 (ji28)) (shl .u32 1 (Int.tmod a3 32)))) ag (wrap64 (a3 - 1))) else (none)) else (none)) else (none)) = some (r1, r2) := by first | (rw [hji28] at H; exact H) | (simp only [hji28] at H ⊢; exact H)
            (try rw [hji28] at b2)
            (try rw [hji28] at bh)
            have bD : (IntKind.i64.wrap (Int.tdiv a3 32)) = ji28 := (i64_w _).trans hji28
            by_cases bg : 0 ≤ (ji28)
            ·rw [if_pos bg] at H
             have ca : decide (0 ≤ (ji28)) = true := decide_eq_true bg
             clear bg
             by_cases bi : (ji28) < (a0.length : Int)
             ·rw [if_pos bi] at H
              have cc : decide ((ji28) < (a0.length : Int)) = true := decide_eq_true bi
              clear bi
              obtain ⟨ji31, hji31⟩ : ∃ j_ : Int, (Int.tmod a3 32) = j_ := ⟨_, rfl⟩
              replace H : (if 0 ≤ (ji31) then (whole_split.l0 kj14 l0 l1 (a0.set ((ji28) : Int).toNat (Go.bits .or .u32 (rd a0 (ji28)) (shl .u32 1 (ji31)))) ag (wrap64 (a3 - 1))) else (none)) = some (r1, r2) := by first | (rw [hji31] at H; exact H) | (simp only [hji31] at H ⊢; exact H)
              (try rw [hji31] at b2)
              (try rw [hji31] at bh)
              by_cases b7 : 0 ≤ (ji31)
              ·rw [if_pos b7] at H
               have ce := eq_true b7
               have bV : decide (0 ≤ (ji31)) = true := decide_eq_true b7
               clear b7
               obtain ⟨ji33, hji33⟩ : ∃ j_ : Int, (shl .u32 1 (ji31)) = j_ := ⟨_, rfl⟩
               replace H : (whole_split.l0 kj14 l0 l1 (a0.set ((ji28) : Int).toNat (Go.bits .or .u32 (rd a0 (ji28)) (ji33))) ag (wrap64 (a3 - 1))) = some (r1, r2) := by first | (rw [hji33] at H; exact H) | (simp only [hji33] at H ⊢; exact H)
               (try rw [hji33] at b2)
               (try rw [hji33] at bh)
               have aG : (IntKind.u32.wrap (1 * 2 ^ min (ji31).toNat 32)) = ji33 := hji33
               have aH : (ji31) ≤ 32 → (IntKind.u32.wrap (1 * 2 ^ (ji31).toNat)) = ji33 := shl_small hji33
               have bL : (IntKind.u32.wrap (2 ^ min (ji31).toNat 32)) = ji33 := by have h_ := aG; rw [Int.one_mul] at h_; exact h_
               have bu : (ji31) ≤ 32 → (IntKind.u32.wrap (2 ^ (ji31).toNat)) = ji33 := fun bl => by have h_ := aH bl; rw [Int.one_mul] at h_; exact h_
               obtain ⟨y187, hy187⟩ : ∃ y_ : List Int, y_ = (a0.set ((ji28) : Int).toNat (Go.bits .or .u32 (rd a0 (ji28)) (ji33))) := ⟨_, rfl⟩
               replace H : (whole_split.l0 kj14 l0 l1 y187 ag (wrap64 (a3 - 1))) = some (r1, r2) := by first | (rw [hy187]; with_reducible exact H) | (have ak := (Option.bind_some _ _).symm.trans H; rw [hy187]; with_reducible exact ak) | (have ak := (Option.bind_some _ _).symm.trans H; with_reducible exact ak) | with_reducible exact H | (rw [hy187]; exact H) | exact H
               have aR := Aside0.mk hy187
               clear hy187
               have H' := Aside0.mk H
               clear H
               obtain ⟨ar, aA, bq⟩ := vl a2; cases bq
               try go_wp2_with (first | ((with_reducible refine ga 81 rfl ?_); refine gc (some 38) Try.func81 #[.slice ar a4.length aA, .slice A1 l1.length c1] (whole_order.calls kj14 _ _ a4 _ _ l1 ai _ (cv a2) ((Kd.V_reads' a2.out).2.1) (cb bO HB) br.out b2.out) ?_; rintro e w' ⟨rfl, ⟨nd, rfl⟩⟩; refine ⟨_, rfl, ?_⟩; (try (rw [drewN_self wc]; generalize hq_ : World.drewN wc _ = wc; have bW : Aside0 (Kd.R (Kd.int .u32) 118 wc w.heap.size (fun k_ => (w.heap.size ≤ k_)) a9 a0) := ⟨by rw [← hq_]; exact (rb a1)⟩; have cg : Aside0 (Kd.V (Kd.int .u32) 118 wc w.heap.size (fun k_ => (w.heap.size ≤ k_) ∧ some k_ ≠ (a9 : Value).ownBlock) (.slice ar a4.length aA) a4) := ⟨by rw [← hq_]; exact (vb a2)⟩; have cd : Aside0 (Below w.heap.size w wc) := ⟨by rw [← hq_]; exact bw⟩; clear a1 a2 HB hq_; have a1 := bW; have a2 := cg; have HB := cd; clear bW cg cd))) | ((with_reducible refine ga 82 rfl ?_); refine gc (some 42) Try.func82 #[.slice ar a4.length aA, .slice A1 l1.length c1] (whole_minus.calls kj14 _ _ a4 _ _ l1 ag _ (cv a2) ((Kd.V_reads' a2.out).2.1) (cb bO HB) br.out bh.out) ?_; rintro e w36 ⟨v184, rfl, al, hb⟩; refine ⟨_, rfl, ?_⟩; have af := Aside0.mk (Kd.V_lower (Kd.V_mono (ok' := fun k_ => (w.heap.size ≤ k_) ∧ some k_ ≠ (a9 : Value).ownBlock) al (fun k_ am => ⟨(Nat.le_trans (sz HB) am), (Kd.fresh' (Kd.R_lt (rb a1)) k_ am)⟩)) (sz HB)); replace a1 := rB a1 hb; replace a2 := vB a2 hb; replace HB := hB HB hb; clear hb al))
               replace a1 := Aside0.mk (Kd.R_drew a1.out)
               replace a2 := Aside0.mk (Kd.V_drew a2.out)
               replace af := Aside0.mk (Kd.V_drew af.out)
               replace HB := Aside0.mk (below_drew1 HB.out)
               obtain ⟨Ao38, co38, bG⟩ := sl a1; cases bG
               have ax : 0 ≤ ((ji28) : Int) := of_decide_eq_true asm
               have aF : (ji28) < (a0.length : Int) := of_decide_eq_true asm
               obtain ⟨bT, bn, aa⟩ := Kd.at_int (Kd.R_reads' a1.out).2.2 (ji28) ax aF
               cases bn
               replace ax := eq_true ax
               replace aF := eq_true aF
               have bx : 0 ≤ ((ji28) : Int) := of_decide_eq_true asm
               have bm : ((ji28) : Int) < ((a0.length : Int) : Int) := of_decide_eq_true asm
               obtain ⟨aD, co34, b0, b9, bC, cl34, aN⟩ := Kd.R_form a1.out (by omega)
               (first | cases b0 | (injection b0 with ea_ en_ ec_; (first | subst ea_ | (injection ea_ with ea_; subst ea_)); subst ec_; clear en_))
               have GB34 := Aside0.mk b9
               have bK := Aside0.mk aN
               clear b9 bC aN
               (first | simp only [add_plain] at aa | skip)
               obtain ⟨aE, ay⟩ := Kd.R_celln 0 a1.out ((ji28) : Int) bx bm
               replace bx := eq_true bx
               replace bm := eq_true bm
               have az := Kd.R_putn a1.out ((ji28) : Int) (Go.bits .or .u32 (rd a0 (ji28)) (ji33))
               rw [← aR.out] at az
               have b3 := Aside0.mk az
               clear az
               refine st 11 (fun w' => w'.cell? ⟨aD, ((ji28)).toNat, none⟩ = some (.int .u32 (rd a0 (ji28)))) [10] (aa) (fun hHeld => ?_); refine with_tabW whole_split.tab11 whole_split.bits11 (fun ah HW_ => ?_)
               generalize w36.drew = w37 at a1 a2 af HB bK b3 ay aa aE hHeld ⊢
               refine pu ah 0 (some 43) ?_
               refine pu ah 1 (some 44) ?_
               refine pu ah 2 (some 45) ?_
               refine pu ah 3 (some 46) ?_
               refine pu ah 5 (some 48) ?_
               refine pu ah 6 (some 49) ?_
               refine pu ah 7 (some 50) ?_
               refine take_ (i := 4) (N := some 47) (v := ?_) (a' := ?_) #[true, true, true, true, true, true, true, true, false, false, false] rfl rfl (take_ofW ah.out HW_.out (by kernel_rfl)) (fun _ _ _ h => h) (Or.inl ⟨by rfl, ?_⟩) hHeld ?_ ?_
               rotate_left
               ·intro w' s0
                go_simp
                with_reducible rfl
               rotate_left
               ·simp only [Act.put, List.setIfInBounds_toArray, List.set_cons_zero, List.set_cons_succ, i64_w, i32_w]
                rfl
               refine pu ah 8 (some 51) ?_
               refine pu ah 9 (some 52) ?_
               refine last_ (i := 10) (N := none) #[true, true, true, true, true, true, true, true, true, true, true] rfl rfl (one_of ah.out (by kernel_rfl)) (by decide) (fun K hK => ?_)
               refine skip_ (w1 := ?_) (by rfl) rfl ?_ ?_
               rotate_left
               ·go_simp
                rfl
               refine hK.out _ _ ?_
               clear hK K
               refine dn ah ?_
               try go_wp2
               go_roundg kj14
               case measure => have := aI.out; have := an.out; omega
               case rel => exact ⟨(y187), (ag), (wrap64 (a3 - 1)), sd, H', ⟨by have := aI.out; have := an.out; omega⟩, ⟨rb b3⟩, ⟨by (with_reducible repeat (first | apply Kd.V_alloc | apply Kd.V_drewN | apply Kd.V_drew)); exact Kd.V_mono (Kd.V_far (p := ⟨aD, ((ji28) : Int).toNat, none⟩) (Kd.V_mono af.out (fun k_ hk => (⟨hk, fun e_ => hk.2 (by rw [e_]; rfl)⟩ : _ ∧ k_ ≠ aD))) (fun _ hk => hk.2) (.int .u32 (Go.bits .or .u32 (rd a0 (ji28)) (ji33)))) (fun _ hk => ⟨hk.1.1, hk.1.2⟩)⟩, ⟨bw⟩⟩
              ·rw [if_neg b7] at H
               exact absurd H (by simp)
             ·rw [if_neg bi] at H
              exact absurd H (by simp)
            ·rw [if_neg bg] at H
             exact absurd H (by simp)
           ·rw [if_neg aK] at H
            have b8 : decide (0 ≤ ai) = false := decide_eq_false aK
            clear aK
            have H' := Aside0.mk H
            clear H
            obtain ⟨bJ, bP, bM⟩ := vl a2; cases bM
            go_wp2_with (first | ((with_reducible refine ga 81 rfl ?_); refine gc (some 38) Try.func81 #[.slice bJ a4.length bP, .slice A1 l1.length c1] (whole_order.calls kj14 _ _ a4 _ _ l1 ai _ (cv a2) ((Kd.V_reads' a2.out).2.1) (cb bO HB) br.out b2.out) ?_; rintro e w' ⟨rfl, ⟨nd, rfl⟩⟩; refine ⟨_, rfl, ?_⟩))
            go_roundg kj14
            case measure => have := aI.out; have := an.out; omega
            case rel => exact ⟨(a0), (a4), (wrap64 (a3 - 1)), sd, H', ⟨by have := aI.out; have := an.out; omega⟩, ⟨rb a1⟩, ⟨vb a2⟩, ⟨bw⟩⟩
        ·rw [if_neg aJ] at H
         exact absurd H (by simp)
       ·rw [if_neg aT] at H
        exact absurd H (by simp)
      ·rw [if_neg c10] at H
       exact absurd H (by simp)
     ·rw [if_neg c7] at H
      have aZ : decide (0 ≤ a3) = false := decide_eq_false c7
      clear c7
      obtain ⟨bB, A41, H⟩ := bs H
      simp only [Option.some.injEq, Prod.mk.injEq] at H
      obtain ⟨rfl, rfl⟩ := H
      obtain ⟨aM, b6, bj⟩ := sl a1; cases bj
      go_wp2_with (first | ((with_reducible refine ga 92 rfl ?_); refine gc (some 54) Try.func92 #[.slice aM a0.length b6] (whole_words_trim.calls k1 (fun k_ => some k_ = (.slice aM a0.length b6 : Value).ownBlock) _ _ a0 bB _ (Kd.R_V (Kd.R_tight rfl (a1.out))) A41.out) ?_; rintro e w43 ⟨v170, rfl, al, hb⟩; refine ⟨_, rfl, ?_⟩; have aP := Aside0.mk (Kd.V_lower (Kd.V_mono (ok' := fun k_ => (w.heap.size ≤ k_)) al (fun k_ am => Or.elim am (fun hs_ => ((a1.out).1 k_ hs_.symm)) (fun hn_ => (Nat.le_trans (sz HB) hn_)))) (sz HB)); replace a1 := rB a1 hb; replace a2 := vB a2 hb; replace HB := hB HB hb; clear hb al))
      go_ret2
      exact ⟨_, _, er, vb aP, by (with_reducible repeat (first | apply Kd.V_alloc | apply Kd.V_drewN | apply Kd.V_drew)); exact Kd.V_mono a2.out (fun _ hk => hk.1), bw⟩
  ·rw [if_neg c4] at H
   exact absurd H (by simp)
 ·rw [if_neg c3] at H
  exact absurd H (by simp)
end Go.Proofs.Ytfjbhccapgnkiaa.P
