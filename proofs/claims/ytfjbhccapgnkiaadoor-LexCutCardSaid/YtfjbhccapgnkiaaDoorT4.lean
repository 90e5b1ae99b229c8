import Derived.Test.YtfjbhccapgnkiaaDoorL13
import Derived.Test.YtfjbhccapgnkiaaDoorPx1
namespace Go.Proofs.YtfjbhccapgnkiaaDoor.P
open Go.RowKit Go.Proofs.YtfjbhccapgnkiaaDoorW.PrintWords Go.Proofs.YtfjbhccapgnkiaaDoorW.PrintLast Go.Proofs.YtfjbhccapgnkiaaDoorW.PrintMore
attribute [local go_sem] max2_int min2_int max_two min_two max_three min_three max_four min_four
set_option linter.unusedVariables false
set_option linter.unusedSimpArgs false

noncomputable section

attribute [local go_sem high] eqA28

/-! ### lapidarylaw07_LexCut: function 4 -/
mutual
def lapidarylaw07_LexCut.j0 : Nat → ByteArray → Int → List (S28) → Int → Bool → Option (Bool)
  | 0, _, _, _, _, _ => none
  | k + 1, x0, x1, x5, x7, x24 => if x24 = true then (if x7 = 0 then (some false) else ((lapidarylaw07_known.f k).bind fun t195 => (some t195))) else (if x1 < 0 then (lapidarylaw07_LexCut.j1 k x0 x1 x5 true) else (lapidarylaw07_LexCut.j1 k x0 x1 x5 (decide (x1 ≥ (x5.length : Int)))))
def lapidarylaw07_LexCut.j1 : Nat → ByteArray → Int → List (S28) → Bool → Option (Bool)
  | 0, _, _, _, _ => none
  | k + 1, x0, x1, x5, x37 => if x37 = true then (lapidarylaw07_LexCut.j2 k x0 0 x5) else (lapidarylaw07_LexCut.j2 k x0 x1 x5)
def lapidarylaw07_LexCut.j2 : Nat → ByteArray → Int → List (S28) → Option (Bool)
  | 0, _, _, _ => none
  | k + 1, x0, x1, x5 => if 0 ≤ x1 then (if x1 < (x5.length : Int) then (if ((rd_T28 x5 x1).f2) < 0 then (lapidarylaw07_LexCut.j3 k x0 x1 x5 true) else (lapidarylaw07_LexCut.j3 k x0 x1 x5 (decide (((rd_T28 x5 x1).f2) > (x0.size : Int))))) else (none)) else (none)
def lapidarylaw07_LexCut.j3 : Nat → ByteArray → Int → List (S28) → Bool → Option (Bool)
  | 0, _, _, _, _ => none
  | k + 1, x0, x1, x5, x53 => if x53 = true then (some false) else (if 0 ≤ x1 then (if x1 < (x5.length : Int) then (if 0 ≤ ((rd_T28 x5 x1).f2) then (if ((rd_T28 x5 x1).f2) ≤ (x0.size : Int) then ((lex_Read.f (x0.extract 0 (((rd_T28 x5 x1).f2) : Int).toNat)).bind fun bt199 => (if bt199.2.2 = 0 then (lapidarylaw07_LexCut.j4 k x1 x5 bt199.1 ((bt199.1.length : Int) != (wrap64 (x1 + 1)))) else (lapidarylaw07_LexCut.j4 k x1 x5 bt199.1 true))) else (none)) else (none)) else (none)) else (none))
def lapidarylaw07_LexCut.j4 : Nat → Int → List (S28) → List (S28) → Bool → Option (Bool)
  | 0, _, _, _, _ => none
  | k + 1, x1, x5, x8, x74 => if x74 = true then (some false) else (lapidarylaw07_LexCut.l0 k x1 x5 x8 0)
def lapidarylaw07_LexCut.l0 : Nat → Int → List (S28) → List (S28) → Int → Option (Bool)
  | 0, _, _, _, _ => none
  | k + 1, x1, x5, x8, x11 => if x11 < x1 then (if 0 ≤ x11 then (if x11 < (x8.length : Int) then (if x11 < (x5.length : Int) then (if (!(((rd_T28 x8 x11).f0) == ((rd_T28 x5 x11).f0)) || (!((((rd_T28 x8 x11).f1).toList) == (((rd_T28 x5 x11).f1).toList)) || (!(((rd_T28 x8 x11).f2) == ((rd_T28 x5 x11).f2))))) = true then (some false) else (lapidarylaw07_LexCut.l0 k x1 x5 x8 (wrap64 (x11 + 1)))) else (none)) else (none)) else (none)) else (if 0 ≤ x1 then (if x1 < (x8.length : Int) then (if ((rd_T28 x8 x1).f0) = 0 then ((lapidarylaw07_known.f k).bind fun t207 => (some t207)) else (some false)) else (none)) else (none))
end
def lapidarylaw07_LexCut.f (k : Nat) (a0 : ByteArray) (a1 : Int) : Option (Bool) := (lex_Read.f a0).bind fun bt190 => (if bt190.2.2 = 0 then (lapidarylaw07_LexCut.j0 k a0 a1 bt190.1 bt190.2.2 ((bt190.1.length : Int) == 0)) else (lapidarylaw07_LexCut.j0 k a0 a1 bt190.1 bt190.2.2 true))
theorem lapidarylaw07_LexCut.mono_l : ∀ k, (∀ y0 y1 y2 y3 y4, LeO (lapidarylaw07_LexCut.j0 k y0 y1 y2 y3 y4) (lapidarylaw07_LexCut.j0 (k + 1) y0 y1 y2 y3 y4)) ∧ (∀ y0 y1 y2 y3, LeO (lapidarylaw07_LexCut.j1 k y0 y1 y2 y3) (lapidarylaw07_LexCut.j1 (k + 1) y0 y1 y2 y3)) ∧ (∀ y0 y1 y2, LeO (lapidarylaw07_LexCut.j2 k y0 y1 y2) (lapidarylaw07_LexCut.j2 (k + 1) y0 y1 y2)) ∧ (∀ y0 y1 y2 y3, LeO (lapidarylaw07_LexCut.j3 k y0 y1 y2 y3) (lapidarylaw07_LexCut.j3 (k + 1) y0 y1 y2 y3)) ∧ (∀ y0 y1 y2 y3, LeO (lapidarylaw07_LexCut.j4 k y0 y1 y2 y3) (lapidarylaw07_LexCut.j4 (k + 1) y0 y1 y2 y3)) ∧ (∀ y0 y1 y2 y3, LeO (lapidarylaw07_LexCut.l0 k y0 y1 y2 y3) (lapidarylaw07_LexCut.l0 (k + 1) y0 y1 y2 y3))
  | 0 => ⟨fun _ _ _ _ _ r h => by simp [lapidarylaw07_LexCut.j0] at h, fun _ _ _ _ r h => by simp [lapidarylaw07_LexCut.j1] at h, fun _ _ _ r h => by simp [lapidarylaw07_LexCut.j2] at h, fun _ _ _ _ r h => by simp [lapidarylaw07_LexCut.j3] at h, fun _ _ _ _ r h => by simp [lapidarylaw07_LexCut.j4] at h, fun _ _ _ _ r h => by simp [lapidarylaw07_LexCut.l0] at h⟩
  | k + 1 => by
    obtain ⟨ih0, ih1, ih2, ih3, ih4, ih5⟩ := lapidarylaw07_LexCut.mono_l k
    refine ⟨?_, ?_, ?_, ?_, ?_, ?_⟩
    · intro y0 y1 y2 y3 y4
      unfold lapidarylaw07_LexCut.j0
      repeat' first
      | (with_reducible exact ih0 _ _ _ _ _)
      | (with_reducible exact ih1 _ _ _ _)
      | (with_reducible exact ih2 _ _ _)
      | (with_reducible exact ih3 _ _ _ _)
      | (with_reducible exact ih4 _ _ _ _)
      | (with_reducible exact ih5 _ _ _ _)
      | (with_reducible exact lapidarylaw07_known.mono _)
      | (with_reducible exact LeO.refl _)
      | (with_reducible exact LeO.none _)
      | (with_reducible refine LeO.ite ?_ ?_)
      | (with_reducible refine LeO.bind ?_ (fun _ => ?_))
      | exact ih0 _ _ _ _ _
      | exact ih1 _ _ _ _
      | exact ih2 _ _ _
      | exact ih3 _ _ _ _
      | exact ih4 _ _ _ _
      | exact ih5 _ _ _ _
      | exact lapidarylaw07_known.mono _
      | exact LeO.none _
      | refine LeO.ite ?_ ?_
      | refine LeO.bind ?_ (fun _ => ?_)
    · intro y0 y1 y2 y3
      unfold lapidarylaw07_LexCut.j1
      repeat' first
      | (with_reducible exact ih0 _ _ _ _ _)
      | (with_reducible exact ih1 _ _ _ _)
      | (with_reducible exact ih2 _ _ _)
      | (with_reducible exact ih3 _ _ _ _)
      | (with_reducible exact ih4 _ _ _ _)
      | (with_reducible exact ih5 _ _ _ _)
      | (with_reducible exact lapidarylaw07_known.mono _)
      | (with_reducible exact LeO.refl _)
      | (with_reducible exact LeO.none _)
      | (with_reducible refine LeO.ite ?_ ?_)
      | (with_reducible refine LeO.bind ?_ (fun _ => ?_))
      | exact ih0 _ _ _ _ _
      | exact ih1 _ _ _ _
      | exact ih2 _ _ _
      | exact ih3 _ _ _ _
      | exact ih4 _ _ _ _
      | exact ih5 _ _ _ _
      | exact lapidarylaw07_known.mono _
      | exact LeO.none _
      | refine LeO.ite ?_ ?_
      | refine LeO.bind ?_ (fun _ => ?_)
    · intro y0 y1 y2
      unfold lapidarylaw07_LexCut.j2
      repeat' first
      | (with_reducible exact ih0 _ _ _ _ _)
      | (with_reducible exact ih1 _ _ _ _)
      | (with_reducible exact ih2 _ _ _)
      | (with_reducible exact ih3 _ _ _ _)
      | (with_reducible exact ih4 _ _ _ _)
      | (with_reducible exact ih5 _ _ _ _)
      | (with_reducible exact lapidarylaw07_known.mono _)
      | (with_reducible exact LeO.refl _)
      | (with_reducible exact LeO.none _)
      | (with_reducible refine LeO.ite ?_ ?_)
      | (with_reducible refine LeO.bind ?_ (fun _ => ?_))
      | exact ih0 _ _ _ _ _
      | exact ih1 _ _ _ _
      | exact ih2 _ _ _
      | exact ih3 _ _ _ _
      | exact ih4 _ _ _ _
      | exact ih5 _ _ _ _
      | exact lapidarylaw07_known.mono _
      | exact LeO.none _
      | refine LeO.ite ?_ ?_
      | refine LeO.bind ?_ (fun _ => ?_)
    · intro y0 y1 y2 y3
      unfold lapidarylaw07_LexCut.j3
      repeat' first
      | (with_reducible exact ih0 _ _ _ _ _)
      | (with_reducible exact ih1 _ _ _ _)
      | (with_reducible exact ih2 _ _ _)
      | (with_reducible exact ih3 _ _ _ _)
      | (with_reducible exact ih4 _ _ _ _)
      | (with_reducible exact ih5 _ _ _ _)
      | (with_reducible exact lapidarylaw07_known.mono _)
      | (with_reducible exact LeO.refl _)
      | (with_reducible exact LeO.none _)
      | (with_reducible refine LeO.ite ?_ ?_)
      | (with_reducible refine LeO.bind ?_ (fun _ => ?_))
      | exact ih0 _ _ _ _ _
      | exact ih1 _ _ _ _
      | exact ih2 _ _ _
      | exact ih3 _ _ _ _
      | exact ih4 _ _ _ _
      | exact ih5 _ _ _ _
      | exact lapidarylaw07_known.mono _
      | exact LeO.none _
      | refine LeO.ite ?_ ?_
      | refine LeO.bind ?_ (fun _ => ?_)
    · intro y0 y1 y2 y3
      unfold lapidarylaw07_LexCut.j4
      repeat' first
      | (with_reducible exact ih0 _ _ _ _ _)
      | (with_reducible exact ih1 _ _ _ _)
      | (with_reducible exact ih2 _ _ _)
      | (with_reducible exact ih3 _ _ _ _)
      | (with_reducible exact ih4 _ _ _ _)
      | (with_reducible exact ih5 _ _ _ _)
      | (with_reducible exact lapidarylaw07_known.mono _)
      | (with_reducible exact LeO.refl _)
      | (with_reducible exact LeO.none _)
      | (with_reducible refine LeO.ite ?_ ?_)
      | (with_reducible refine LeO.bind ?_ (fun _ => ?_))
      | exact ih0 _ _ _ _ _
      | exact ih1 _ _ _ _
      | exact ih2 _ _ _
      | exact ih3 _ _ _ _
      | exact ih4 _ _ _ _
      | exact ih5 _ _ _ _
      | exact lapidarylaw07_known.mono _
      | exact LeO.none _
      | refine LeO.ite ?_ ?_
      | refine LeO.bind ?_ (fun _ => ?_)
    · intro y0 y1 y2 y3
      unfold lapidarylaw07_LexCut.l0
      repeat' first
      | (with_reducible exact ih0 _ _ _ _ _)
      | (with_reducible exact ih1 _ _ _ _)
      | (with_reducible exact ih2 _ _ _)
      | (with_reducible exact ih3 _ _ _ _)
      | (with_reducible exact ih4 _ _ _ _)
      | (with_reducible exact ih5 _ _ _ _)
      | (with_reducible exact lapidarylaw07_known.mono _)
      | (with_reducible exact LeO.refl _)
      | (with_reducible exact LeO.none _)
      | (with_reducible refine LeO.ite ?_ ?_)
      | (with_reducible refine LeO.bind ?_ (fun _ => ?_))
      | exact ih0 _ _ _ _ _
      | exact ih1 _ _ _ _
      | exact ih2 _ _ _
      | exact ih3 _ _ _ _
      | exact ih4 _ _ _ _
      | exact ih5 _ _ _ _
      | exact lapidarylaw07_known.mono _
      | exact LeO.none _
      | refine LeO.ite ?_ ?_
      | refine LeO.bind ?_ (fun _ => ?_)
theorem lapidarylaw07_LexCut.mono : ∀ a0 a1 k, LeO (lapidarylaw07_LexCut.f k a0 a1) (lapidarylaw07_LexCut.f (k + 1) a0 a1) := by
  intro a0 a1 k
  obtain ⟨ih0, ih1, ih2, ih3, ih4, ih5⟩ := lapidarylaw07_LexCut.mono_l k
  unfold lapidarylaw07_LexCut.f
  repeat' first
      | (with_reducible exact ih0 _ _ _ _ _)
      | (with_reducible exact ih1 _ _ _ _)
      | (with_reducible exact ih2 _ _ _)
      | (with_reducible exact ih3 _ _ _ _)
      | (with_reducible exact ih4 _ _ _ _)
      | (with_reducible exact ih5 _ _ _ _)
      | (with_reducible exact lapidarylaw07_known.mono _)
      | (with_reducible exact LeO.refl _)
      | (with_reducible exact LeO.none _)
      | (with_reducible refine LeO.ite ?_ ?_)
      | (with_reducible refine LeO.bind ?_ (fun _ => ?_))
      | exact ih0 _ _ _ _ _
      | exact ih1 _ _ _ _
      | exact ih2 _ _ _
      | exact ih3 _ _ _ _
      | exact ih4 _ _ _ _
      | exact ih5 _ _ _ _
      | exact lapidarylaw07_known.mono _
      | exact LeO.none _
      | refine LeO.ite ?_ ?_
      | refine LeO.bind ?_ (fun _ => ?_)
set_option maxHeartbeats 8000000 in
set_option maxRecDepth 100000 in
theorem lapidarylaw07_LexCut.calls (k : Nat) (a0 : ByteArray) (a1 : Int) (r : Bool) (w : World) (h : lapidarylaw07_LexCut.f k a0 a1 = some r) :
    Calls Tryd.prog 4 #[.string a0, .int .i64 a1] w fun e w' => e = .returned (.bool r) ∧ Below w.heap.size w w' := by
  have hu28 := Tryd.underlying28
  have HB := Aside0.mk (Below.refl w.heap.size w)
  have H : ((lex_Read.f a0).bind fun bt190 => (if bt190.2.2 = 0 then (lapidarylaw07_LexCut.j0 k a0 a1 bt190.1 bt190.2.2 ((bt190.1.length : Int) == 0)) else (lapidarylaw07_LexCut.j0 k a0 a1 bt190.1 bt190.2.2 true))) = some r := h
  clear h
  replace H := Option.bind_eq_some_iff.mp H
  obtain ⟨⟨t190, t191, t192⟩, A30, H⟩ := H
  replace H : (if t192 = 0 then (lapidarylaw07_LexCut.j0 k a0 a1 t190 t192 ((t190.length : Int) == 0)) else (lapidarylaw07_LexCut.j0 k a0 a1 t190 t192 true)) = some r := H
  have A3 := Aside0.mk A30
  clear A30
  have HC4 := Aside0.mk H
  clear H
  go_enter Tryd.func4, Tryd.ntmps4
  go_upto_region 2 with (first | (go_at_call 8; (with_reducible refine (lex_Read.calls a0 t190 t191 t192 _ A3.out).mono ?_); rintro e w5 ⟨v193, rfl, ho0, hb⟩; have n0_ := Aside0.mk (Kd.R_lower ho0 (below_size (by repeat (first | (with_reducible first | exact HB.out | apply below_alloc | apply pw_below_drewN | apply below_drew1) | exact HB.out)))); have n1_ := Aside0.mk (below_step (by repeat (first | (with_reducible first | exact HB.out | apply below_alloc | apply pw_below_drewN | apply below_drew1) | exact HB.out)) hb); clear HB; have HO194 := n0_; have HB := n1_; clear n0_ n1_; (try clear hb); (try clear hb2); (try clear hk); (try clear hi); (try clear ho0)))
  repeat (go_quiet (first | (go_at_call 8; (with_reducible refine (lex_Read.calls a0 t190 t191 t192 _ A3.out).mono ?_); rintro e w5 ⟨v193, rfl, ho0, hb⟩; have n0_ := Aside0.mk (Kd.R_lower ho0 (below_size (by repeat (first | (with_reducible first | exact HB.out | apply below_alloc | apply pw_below_drewN | apply below_drew1) | exact HB.out)))); have n1_ := Aside0.mk (below_step (by repeat (first | (with_reducible first | exact HB.out | apply below_alloc | apply pw_below_drewN | apply below_drew1) | exact HB.out)) hb); clear HB; have HO194 := n0_; have HB := n1_; clear n0_ n1_; (try clear hb); (try clear hb2); (try clear hk); (try clear hi); (try clear ho0))); go_upto_region 2 with (first | (go_at_call 8; (with_reducible refine (lex_Read.calls a0 t190 t191 t192 _ A3.out).mono ?_); rintro e w5 ⟨v193, rfl, ho0, hb⟩; have n0_ := Aside0.mk (Kd.R_lower ho0 (below_size (by repeat (first | (with_reducible first | exact HB.out | apply below_alloc | apply pw_below_drewN | apply below_drew1) | exact HB.out)))); have n1_ := Aside0.mk (below_step (by repeat (first | (with_reducible first | exact HB.out | apply below_alloc | apply pw_below_drewN | apply below_drew1) | exact HB.out)) hb); clear HB; have HO194 := n0_; have HB := n1_; clear n0_ n1_; (try clear hb); (try clear hb2); (try clear hk); (try clear hi); (try clear ho0))))
  (try simp only [Act.put, List.setIfInBounds_toArray, List.set_cons_zero, List.set_cons_succ])
  go_cut [24] (fun v24 wc => ∃ (kq : Nat) (x24_3 : Bool), v24 = .bool x24_3 ∧ Aside0 (lapidarylaw07_LexCut.j0 kq a0 a1 t190 t192 x24_3 = some r) ∧ Aside0 (kq ≤ k) ∧ Aside0 (Kd.R k28 28 wc w.heap.size (fun _ => True) v193 t190) ∧ Aside0 (Below w.heap.size w wc))
  case first =>
    have H := HC4.out
    clear HC4
    by_cases c6 : t192 = 0
    · rw [if_pos c6] at H
      have c6b0 : (t192 == 0) = true := beq_iff_eq.mpr c6
      have c6b1 : (t192 != 0) = false := bne_eq_false_iff_eq.mpr c6
      clear c6
      (first | rw [c6b0] | (simp only [i64_w, i32_w]; rw [c6b0]) | skip)
      have H' := Aside0.mk H
      clear H
      obtain ⟨Ao7, co7, eo7⟩ := Kd.R_slice HO194.out
      subst eo7
      go_wp2
      repeat (go_quiet (fail); try go_wp2)
      go_meet
      case rel => exact ⟨_, (((t190.length : Int) == 0)), (by first | rfl | (simp; done) | (simp [*]; done)), H', ⟨by first | omega | exact Nat.le_refl _⟩, ⟨by (with_reducible repeat (first | apply Kd.R_alloc | apply Kd.R_drewN | apply Kd.R_drew)); exact HO194.out⟩, ⟨by repeat (first | (with_reducible first | exact HB.out | apply below_alloc | apply pw_below_drewN | apply below_drew1) | exact HB.out)⟩⟩
    · rw [if_neg c6] at H
      have c6b0 : (t192 == 0) = false := beq_eq_false_iff_ne.mpr c6
      have c6b1 : (t192 != 0) = true := bne_iff_ne.mpr c6
      (first | rw [c6b0] | (simp only [i64_w, i32_w]; rw [c6b0]) | skip)
      have H' := Aside0.mk H
      clear H
      go_wp2
      repeat (go_quiet (fail); try go_wp2)
      go_meet
      case rel => exact ⟨_, (true), (by first | rfl | (simp; done) | (simp [*]; done)), H', ⟨by first | omega | exact Nat.le_refl _⟩, ⟨by (with_reducible repeat (first | apply Kd.R_alloc | apply Kd.R_drewN | apply Kd.R_drew)); exact HO194.out⟩, ⟨by repeat (first | (with_reducible first | exact HB.out | apply below_alloc | apply pw_below_drewN | apply below_drew1) | exact HB.out)⟩⟩
  case rest =>
    clear HC4
    try clear p2
    try clear c4
    try clear c6
    try clear c6b0
    try clear c6b1
    obtain ⟨kq, x24_3, rfl, HA, HJ3, HO_5, HB⟩ := hcut
    cases kq with
    | zero => exact absurd HA.out (by simp [lapidarylaw07_LexCut.j0])
    | succ kj3 =>
      have H := HA.out
      clear HA
      simp only [lapidarylaw07_LexCut.j0] at H
      by_cases c8 : x24_3 = true
      · subst c8
        have H1 : (if t192 = 0 then (some false) else ((lapidarylaw07_known.f kj3).bind fun t195 => (some t195))) = some r := by rw [if_pos rfl] at H; exact H
        clear H
        have H := H1
        clear H1
        by_cases c9 : t192 = 0
        · rw [if_pos c9] at H
          have c9b0 : (t192 == 0) = true := beq_iff_eq.mpr c9
          have c9b1 : (t192 != 0) = false := bne_eq_false_iff_eq.mpr c9
          clear c9
          obtain rfl := Option.some.inj H
          go_wp2
          repeat (go_quiet (fail); try go_wp2)
          go_ret
          exact ⟨by first | rfl | (simp [errW_none, errW_some] <;> rfl) | (simp [*, errW_none, errW_some] <;> rfl), by repeat (first | (with_reducible first | exact HB.out | apply below_alloc | apply pw_below_drewN | apply below_drew1) | exact HB.out)⟩
        · rw [if_neg c9] at H
          have c9b0 : (t192 == 0) = false := beq_eq_false_iff_ne.mpr c9
          have c9b1 : (t192 != 0) = true := bne_iff_ne.mpr c9
          replace H := Option.bind_eq_some_iff.mp H
          obtain ⟨t195, A100, H⟩ := H
          replace H : (some t195) = some r := H
          have A10 := Aside0.mk A100
          clear A100
          obtain rfl := Option.some.inj H
          go_wp2_with (first | (go_at_call 9; (with_reducible refine (lapidarylaw07_known.calls kj3  t195 _ A10.out).mono ?_); rintro e w11 ⟨rfl, hb⟩; have n0_ := Aside0.mk (Kd.R_below (by (with_reducible repeat (first | apply Kd.R_alloc | apply Kd.R_drewN | apply Kd.R_drew)); exact HO_5.out) hb); have n1_ := Aside0.mk (below_step (by repeat (first | (with_reducible first | exact HB.out | apply below_alloc | apply pw_below_drewN | apply below_drew1) | exact HB.out)) hb); clear HO_5; clear HB; have HO_5 := n0_; have HB := n1_; clear n0_ n1_; (try clear hb); (try clear hb2); (try clear hk); (try clear hi)))
          repeat (go_quiet (first | (go_at_call 9; (with_reducible refine (lapidarylaw07_known.calls kj3  t195 _ A10.out).mono ?_); rintro e w11 ⟨rfl, hb⟩; have n0_ := Aside0.mk (Kd.R_below (by (with_reducible repeat (first | apply Kd.R_alloc | apply Kd.R_drewN | apply Kd.R_drew)); exact HO_5.out) hb); have n1_ := Aside0.mk (below_step (by repeat (first | (with_reducible first | exact HB.out | apply below_alloc | apply pw_below_drewN | apply below_drew1) | exact HB.out)) hb); clear HO_5; clear HB; have HO_5 := n0_; have HB := n1_; clear n0_ n1_; (try clear hb); (try clear hb2); (try clear hk); (try clear hi))); try go_wp2_with (first | (go_at_call 9; (with_reducible refine (lapidarylaw07_known.calls kj3  t195 _ A10.out).mono ?_); rintro e w11 ⟨rfl, hb⟩; have n0_ := Aside0.mk (Kd.R_below (by (with_reducible repeat (first | apply Kd.R_alloc | apply Kd.R_drewN | apply Kd.R_drew)); exact HO_5.out) hb); have n1_ := Aside0.mk (below_step (by repeat (first | (with_reducible first | exact HB.out | apply below_alloc | apply pw_below_drewN | apply below_drew1) | exact HB.out)) hb); clear HO_5; clear HB; have HO_5 := n0_; have HB := n1_; clear n0_ n1_; (try clear hb); (try clear hb2); (try clear hk); (try clear hi))))
          go_ret
          exact ⟨by first | rfl | (simp [errW_none, errW_some] <;> rfl) | (simp [*, errW_none, errW_some] <;> rfl), by repeat (first | (with_reducible first | exact HB.out | apply below_alloc | apply pw_below_drewN | apply below_drew1) | exact HB.out)⟩
      · replace c8 := Bool.eq_false_iff.mpr c8
        subst c8
        have H1 : (if a1 < 0 then (lapidarylaw07_LexCut.j1 kj3 a0 a1 t190 true) else (lapidarylaw07_LexCut.j1 kj3 a0 a1 t190 (decide (a1 ≥ (t190.length : Int))))) = some r := by rw [if_neg (show ¬ (false = true) by decide)] at H; exact H
        clear H
        have H := H1
        clear H1
        have HC12 := Aside0.mk H
        clear H
        go_upto_region 4 with (fail)
        repeat (go_quiet (fail); go_upto_region 4 with (fail))
        go_cut [37] (fun v37 wc => ∃ (kq : Nat) (x37_11 : Bool), v37 = .bool x37_11 ∧ Aside0 (lapidarylaw07_LexCut.j1 kq a0 a1 t190 x37_11 = some r) ∧ Aside0 (kq ≤ kj3) ∧ Aside0 (Kd.R k28 28 wc w.heap.size (fun _ => True) v193 t190) ∧ Aside0 (Below w.heap.size w wc))
        case first =>
          have H := HC12.out
          clear HC12
          by_cases c13 : a1 < 0
          · rw [if_pos c13] at H
            have c13b0 : decide (a1 < 0) = true := decide_eq_true c13
            clear c13
            (first | rw [c13b0] | (simp only [i64_w, i32_w]; rw [c13b0]) | skip)
            have H' := Aside0.mk H
            clear H
            go_wp2
            repeat (go_quiet (fail); try go_wp2)
            go_meet
            case rel => exact ⟨_, (true), (by first | rfl | (simp; done) | (simp [*]; done)), H', ⟨by have := HJ3.out; first | omega | exact Nat.le_refl _⟩, ⟨by (with_reducible repeat (first | apply Kd.R_alloc | apply Kd.R_drewN | apply Kd.R_drew)); exact HO_5.out⟩, ⟨by repeat (first | (with_reducible first | exact HB.out | apply below_alloc | apply pw_below_drewN | apply below_drew1) | exact HB.out)⟩⟩
          · rw [if_neg c13] at H
            have c13b0 : decide (a1 < 0) = false := decide_eq_false c13
            clear c13
            (first | rw [c13b0] | (simp only [i64_w, i32_w]; rw [c13b0]) | skip)
            have H' := Aside0.mk H
            clear H
            obtain ⟨Ao14, co14, eo14⟩ := Kd.R_slice HO_5.out
            subst eo14
            go_wp2
            repeat (go_quiet (fail); try go_wp2)
            go_meet
            case rel => exact ⟨_, (decide (a1 ≥ (t190.length : Int))), (by first | rfl | (simp; done) | (simp [*]; done)), H', ⟨by have := HJ3.out; first | omega | exact Nat.le_refl _⟩, ⟨by (with_reducible repeat (first | apply Kd.R_alloc | apply Kd.R_drewN | apply Kd.R_drew)); exact HO_5.out⟩, ⟨by repeat (first | (with_reducible first | exact HB.out | apply below_alloc | apply pw_below_drewN | apply below_drew1) | exact HB.out)⟩⟩
        case rest =>
          clear HC12
          try clear c1
          try clear p2
          try clear c4
          try clear c6
          try clear c6b0
          try clear c6b1
          try clear c8
          try clear c9
          try clear c9b0
          try clear c9b1
          try clear c13
          try clear c13b0
          try clear p2
          obtain ⟨kq, x37_11, rfl, HA, HJ11, HO_5, HB⟩ := hcut
          cases kq with
          | zero => exact absurd HA.out (by simp [lapidarylaw07_LexCut.j1])
          | succ kj11 =>
            have H := HA.out
            clear HA
            simp only [lapidarylaw07_LexCut.j1] at H
            have HC15 := Aside0.mk H
            clear H
            go_upto_if 37 with (fail)
            repeat (go_quiet (fail); go_upto_if 37 with (fail))
            go_cut [1] (fun v1 wc => ∃ (kq : Nat) (x1_14 : Int), v1 = .int .i64 x1_14 ∧ Aside0 (lapidarylaw07_LexCut.j2 kq a0 x1_14 t190 = some r) ∧ Aside0 (kq ≤ kj11) ∧ Aside0 (Kd.R k28 28 wc w.heap.size (fun _ => True) v193 t190) ∧ Aside0 (Below w.heap.size w wc))
            case first =>
              have H := HC15.out
              clear HC15
              by_cases c16 : x37_11 = true
              · subst c16
                have H1 : (lapidarylaw07_LexCut.j2 kj11 a0 0 t190) = some r := by rw [if_pos rfl] at H; exact H
                clear H
                have H := H1
                clear H1
                have H' := Aside0.mk H
                clear H
                go_wp2
                repeat (go_quiet (fail); try go_wp2)
                go_meet
                case rel => exact ⟨_, (0), (by first | rfl | (simp; done) | (simp [*]; done)), H', ⟨by have := HJ3.out; have := HJ11.out; first | omega | exact Nat.le_refl _⟩, ⟨by (with_reducible repeat (first | apply Kd.R_alloc | apply Kd.R_drewN | apply Kd.R_drew)); exact HO_5.out⟩, ⟨by repeat (first | (with_reducible first | exact HB.out | apply below_alloc | apply pw_below_drewN | apply below_drew1) | exact HB.out)⟩⟩
              · replace c16 := Bool.eq_false_iff.mpr c16
                subst c16
                have H1 : (lapidarylaw07_LexCut.j2 kj11 a0 a1 t190) = some r := by rw [if_neg (show ¬ (false = true) by decide)] at H; exact H
                clear H
                have H := H1
                clear H1
                have H' := Aside0.mk H
                clear H
                go_wp2
                repeat (go_quiet (fail); try go_wp2)
                go_meet
                case rel => exact ⟨_, (a1), (by first | rfl | (simp; done) | (simp [*]; done)), H', ⟨by have := HJ3.out; have := HJ11.out; first | omega | exact Nat.le_refl _⟩, ⟨by (with_reducible repeat (first | apply Kd.R_alloc | apply Kd.R_drewN | apply Kd.R_drew)); exact HO_5.out⟩, ⟨by repeat (first | (with_reducible first | exact HB.out | apply below_alloc | apply pw_below_drewN | apply below_drew1) | exact HB.out)⟩⟩
            case rest =>
              clear HC15
              try clear c1
              try clear p2
              try clear c4
              try clear c6
              try clear c6b0
              try clear c6b1
              try clear c8
              try clear c9
              try clear c9b0
              try clear c9b1
              try clear c13
              try clear c13b0
              try clear c16
              try clear p2
              obtain ⟨kq, x1_14, rfl, HA, HJ14, HO_5, HB⟩ := hcut
              cases kq with
              | zero => exact absurd HA.out (by simp [lapidarylaw07_LexCut.j2])
              | succ kj14 =>
                have H := HA.out
                clear HA
                simp only [lapidarylaw07_LexCut.j2] at H
                have HC17 := Aside0.mk H
                clear H
                go_upto_region 6 with (fail)
                repeat (go_quiet (fail); go_upto_region 6 with (fail))
                go_cut [53] (fun v53 wc => ∃ (kq : Nat) (x53_16 : Bool), v53 = .bool x53_16 ∧ Aside0 (lapidarylaw07_LexCut.j3 kq a0 x1_14 t190 x53_16 = some r) ∧ Aside0 (kq ≤ kj14) ∧ Aside0 (Kd.R k28 28 wc w.heap.size (fun _ => True) v193 t190) ∧ Aside0 (Below w.heap.size w wc))
                case first =>
                  have H := HC17.out
                  clear HC17
                  by_cases c18 : 0 ≤ x1_14
                  · rw [if_pos c18] at H
                    have c18b0 : decide (0 ≤ x1_14) = true := decide_eq_true c18
                    clear c18
                    (first | rw [c18b0] | (simp only [i64_w, i32_w]; rw [c18b0]) | skip)
                    by_cases c19 : x1_14 < (t190.length : Int)
                    · rw [if_pos c19] at H
                      have c19b0 : decide (x1_14 < (t190.length : Int)) = true := decide_eq_true c19
                      clear c19
                      by_cases c20 : ((rd_T28 t190 x1_14).f2) < 0
                      · rw [if_pos c20] at H
                        have c20b0 : decide (((rd_T28 t190 x1_14).f2) < 0) = true := decide_eq_true c20
                        clear c20
                        have H' := Aside0.mk H
                        clear H
                        obtain ⟨Ao21, co21, eo21⟩ := Kd.R_slice HO_5.out
                        subst eo21
                        have p196 : 0 ≤ (x1_14 : Int) := of_decide_eq_true (by first | (with_reducible assumption) | assumption)
                        have q196 : x1_14 < (t190.length : Int) := of_decide_eq_true (by first | (with_reducible assumption) | assumption)
                        obtain ⟨ad196, e196, hx196_0, hx196_1, hx196_2⟩ := at_T28 (Kd.R_reads' HO_5.out).2.2 x1_14 p196 q196
                        cases e196
                        replace p196 := eq_true p196
                        replace q196 := eq_true q196
                        go_wp2
                        repeat (go_quiet (fail); try go_wp2)
                        go_meet
                        case rel => exact ⟨_, (true), (by first | rfl | (simp; done) | (simp [*]; done)), H', ⟨by have := HJ3.out; have := HJ11.out; have := HJ14.out; first | omega | exact Nat.le_refl _⟩, ⟨by (with_reducible repeat (first | apply Kd.R_alloc | apply Kd.R_drewN | apply Kd.R_drew)); exact HO_5.out⟩, ⟨by repeat (first | (with_reducible first | exact HB.out | apply below_alloc | apply pw_below_drewN | apply below_drew1) | exact HB.out)⟩⟩
                      · rw [if_neg c20] at H
                        have c20b0 : decide (((rd_T28 t190 x1_14).f2) < 0) = false := decide_eq_false c20
                        clear c20
                        have H' := Aside0.mk H
                        clear H
                        obtain ⟨Ao22, co22, eo22⟩ := Kd.R_slice HO_5.out
                        subst eo22
                        have p196 : 0 ≤ (x1_14 : Int) := of_decide_eq_true (by first | (with_reducible assumption) | assumption)
                        have q196 : x1_14 < (t190.length : Int) := of_decide_eq_true (by first | (with_reducible assumption) | assumption)
                        obtain ⟨ad196, e196, hx196_0, hx196_1, hx196_2⟩ := at_T28 (Kd.R_reads' HO_5.out).2.2 x1_14 p196 q196
                        cases e196
                        replace p196 := eq_true p196
                        replace q196 := eq_true q196
                        have p197 : 0 ≤ (x1_14 : Int) := of_decide_eq_true (by first | (with_reducible assumption) | assumption)
                        have q197 : x1_14 < (t190.length : Int) := of_decide_eq_true (by first | (with_reducible assumption) | assumption)
                        obtain ⟨ad197, e197, hx197_0, hx197_1, hx197_2⟩ := at_T28 (Kd.R_reads' HO_5.out).2.2 x1_14 p197 q197
                        obtain rfl : ad196 = ad197 := (by injection e197)
                        replace p197 := eq_true p197
                        replace q197 := eq_true q197
                        go_wp2
                        repeat (go_quiet (fail); try go_wp2)
                        go_meet
                        case rel => exact ⟨_, (decide (((rd_T28 t190 x1_14).f2) > (a0.size : Int))), (by first | rfl | (simp; done) | (simp [*]; done)), H', ⟨by have := HJ3.out; have := HJ11.out; have := HJ14.out; first | omega | exact Nat.le_refl _⟩, ⟨by (with_reducible repeat (first | apply Kd.R_alloc | apply Kd.R_drewN | apply Kd.R_drew)); exact HO_5.out⟩, ⟨by repeat (first | (with_reducible first | exact HB.out | apply below_alloc | apply pw_below_drewN | apply below_drew1) | exact HB.out)⟩⟩
                    · rw [if_neg c19] at H
                      exact absurd H (by simp)
                  · rw [if_neg c18] at H
                    exact absurd H (by simp)
                case rest =>
                  clear HC17
                  try clear c1
                  try clear p1
                  try clear q1
                  try clear hx1
                  try clear c2
                  try clear p2
                  try clear c4
                  try clear c6
                  try clear c6b0
                  try clear c6b1
                  try clear c8
                  try clear c9
                  try clear c9b0
                  try clear c9b1
                  try clear c13
                  try clear c13b0
                  try clear c16
                  try clear c18
                  try clear c18b0
                  try clear c19
                  try clear c19b0
                  try clear p19
                  try clear q19
                  try clear hx19
                  try clear c20
                  try clear c20b0
                  try clear hx196_0
                  try clear hx196_1
                  try clear hx196_2
                  try clear hx197_0
                  try clear hx197_1
                  try clear hx197_2
                  try clear p196
                  try clear p197
                  try clear p2
                  try clear q196
                  try clear q197
                  obtain ⟨kq, x53_16, rfl, HA, HJ16, HO_5, HB⟩ := hcut
                  cases kq with
                  | zero => exact absurd HA.out (by simp [lapidarylaw07_LexCut.j3])
                  | succ kj16 =>
                    have H := HA.out
                    clear HA
                    simp only [lapidarylaw07_LexCut.j3] at H
                    by_cases c23 : x53_16 = true
                    · subst c23
                      have H1 : (some false) = some r := by rw [if_pos rfl] at H; exact H
                      clear H
                      have H := H1
                      clear H1
                      obtain rfl := Option.some.inj H
                      go_wp2
                      repeat (go_quiet (fail); try go_wp2)
                      go_ret
                      exact ⟨by first | rfl | (simp [errW_none, errW_some] <;> rfl) | (simp [*, errW_none, errW_some] <;> rfl), by repeat (first | (with_reducible first | exact HB.out | apply below_alloc | apply pw_below_drewN | apply below_drew1) | exact HB.out)⟩
                    · replace c23 := Bool.eq_false_iff.mpr c23
                      subst c23
                      have H1 : (if 0 ≤ x1_14 then (if x1_14 < (t190.length : Int) then (if 0 ≤ ((rd_T28 t190 x1_14).f2) then (if ((rd_T28 t190 x1_14).f2) ≤ (a0.size : Int) then ((lex_Read.f (a0.extract 0 (((rd_T28 t190 x1_14).f2) : Int).toNat)).bind fun bt199 => (if bt199.2.2 = 0 then (lapidarylaw07_LexCut.j4 kj16 x1_14 t190 bt199.1 ((bt199.1.length : Int) != (wrap64 (x1_14 + 1)))) else (lapidarylaw07_LexCut.j4 kj16 x1_14 t190 bt199.1 true))) else (none)) else (none)) else (none)) else (none)) = some r := by rw [if_neg (show ¬ (false = true) by decide)] at H; exact H
                      clear H
                      have H := H1
                      clear H1
                      by_cases c24 : 0 ≤ x1_14
                      · rw [if_pos c24] at H
                        have c24b0 : decide (0 ≤ x1_14) = true := decide_eq_true c24
                        clear c24
                        by_cases c25 : x1_14 < (t190.length : Int)
                        · rw [if_pos c25] at H
                          have c25b0 : decide (x1_14 < (t190.length : Int)) = true := decide_eq_true c25
                          clear c25
                          by_cases c26 : 0 ≤ ((rd_T28 t190 x1_14).f2)
                          · rw [if_pos c26] at H
                            have c26b0 := eq_true c26
                            have c26b1 : decide (0 ≤ ((rd_T28 t190 x1_14).f2)) = true := decide_eq_true c26
                            clear c26
                            by_cases c27 : ((rd_T28 t190 x1_14).f2) ≤ (a0.size : Int)
                            · rw [if_pos c27] at H
                              have c27b0 := eq_true c27
                              have c27b1 : decide (((rd_T28 t190 x1_14).f2) ≤ (a0.size : Int)) = true := decide_eq_true c27
                              clear c27
                              replace H := Option.bind_eq_some_iff.mp H
                              obtain ⟨⟨t199, t200, t201⟩, A280, H⟩ := H
                              replace H : (if t201 = 0 then (lapidarylaw07_LexCut.j4 kj16 x1_14 t190 t199 ((t199.length : Int) != (wrap64 (x1_14 + 1)))) else (lapidarylaw07_LexCut.j4 kj16 x1_14 t190 t199 true)) = some r := H
                              have A28 := Aside0.mk A280
                              clear A280
                              have HC29 := Aside0.mk H
                              clear H
                              obtain ⟨Ao30, co30, eo30⟩ := Kd.R_slice HO_5.out
                              subst eo30
                              have p198 : 0 ≤ (x1_14 : Int) := of_decide_eq_true (by first | (with_reducible assumption) | assumption)
                              have q198 : x1_14 < (t190.length : Int) := of_decide_eq_true (by first | (with_reducible assumption) | assumption)
                              obtain ⟨ad198, e198, hx198_0, hx198_1, hx198_2⟩ := at_T28 (Kd.R_reads' HO_5.out).2.2 x1_14 p198 q198
                              cases e198
                              replace p198 := eq_true p198
                              replace q198 := eq_true q198
                              go_upto_region 9 with (first | (go_at_call 8; (with_reducible refine (lex_Read.calls (a0.extract 0 (((rd_T28 t190 x1_14).f2) : Int).toNat) t199 t200 t201 _ A28.out).mono ?_); rintro e w31 ⟨v202, rfl, ho0, hb⟩; have n0_ := Aside0.mk (Kd.R_elder' (by (with_reducible repeat (first | apply Kd.R_alloc | apply Kd.R_drewN | apply Kd.R_drew)); exact HO_5.out) (Kd.R_base ho0) hb); have n1_ := Aside0.mk (Kd.R_lower (Kd.R_new' ho0 (Kd.R_lt (by (with_reducible repeat (first | apply Kd.R_alloc | apply Kd.R_drewN | apply Kd.R_drew)); exact HO_5.out))) (below_size (by repeat (first | (with_reducible first | exact HB.out | apply below_alloc | apply pw_below_drewN | apply below_drew1) | exact HB.out)))); have n2_ := Aside0.mk (below_step (by repeat (first | (with_reducible first | exact HB.out | apply below_alloc | apply pw_below_drewN | apply below_drew1) | exact HB.out)) hb); clear HO_5; clear HB; have HO_5 := n0_; have HO203 := n1_; have HB := n2_; clear n0_ n1_ n2_; (try clear hb); (try clear hb2); (try clear hk); (try clear hi); (try clear ho0)))
                              repeat (go_quiet (first | (go_at_call 8; (with_reducible refine (lex_Read.calls (a0.extract 0 (((rd_T28 t190 x1_14).f2) : Int).toNat) t199 t200 t201 _ A28.out).mono ?_); rintro e w31 ⟨v202, rfl, ho0, hb⟩; have n0_ := Aside0.mk (Kd.R_elder' (by (with_reducible repeat (first | apply Kd.R_alloc | apply Kd.R_drewN | apply Kd.R_drew)); exact HO_5.out) (Kd.R_base ho0) hb); have n1_ := Aside0.mk (Kd.R_lower (Kd.R_new' ho0 (Kd.R_lt (by (with_reducible repeat (first | apply Kd.R_alloc | apply Kd.R_drewN | apply Kd.R_drew)); exact HO_5.out))) (below_size (by repeat (first | (with_reducible first | exact HB.out | apply below_alloc | apply pw_below_drewN | apply below_drew1) | exact HB.out)))); have n2_ := Aside0.mk (below_step (by repeat (first | (with_reducible first | exact HB.out | apply below_alloc | apply pw_below_drewN | apply below_drew1) | exact HB.out)) hb); clear HO_5; clear HB; have HO_5 := n0_; have HO203 := n1_; have HB := n2_; clear n0_ n1_ n2_; (try clear hb); (try clear hb2); (try clear hk); (try clear hi); (try clear ho0))); go_upto_region 9 with (first | (go_at_call 8; (with_reducible refine (lex_Read.calls (a0.extract 0 (((rd_T28 t190 x1_14).f2) : Int).toNat) t199 t200 t201 _ A28.out).mono ?_); rintro e w31 ⟨v202, rfl, ho0, hb⟩; have n0_ := Aside0.mk (Kd.R_elder' (by (with_reducible repeat (first | apply Kd.R_alloc | apply Kd.R_drewN | apply Kd.R_drew)); exact HO_5.out) (Kd.R_base ho0) hb); have n1_ := Aside0.mk (Kd.R_lower (Kd.R_new' ho0 (Kd.R_lt (by (with_reducible repeat (first | apply Kd.R_alloc | apply Kd.R_drewN | apply Kd.R_drew)); exact HO_5.out))) (below_size (by repeat (first | (with_reducible first | exact HB.out | apply below_alloc | apply pw_below_drewN | apply below_drew1) | exact HB.out)))); have n2_ := Aside0.mk (below_step (by repeat (first | (with_reducible first | exact HB.out | apply below_alloc | apply pw_below_drewN | apply below_drew1) | exact HB.out)) hb); clear HO_5; clear HB; have HO_5 := n0_; have HO203 := n1_; have HB := n2_; clear n0_ n1_ n2_; (try clear hb); (try clear hb2); (try clear hk); (try clear hi); (try clear ho0))))
                              (try simp only [Act.put, List.setIfInBounds_toArray, List.set_cons_zero, List.set_cons_succ])
                              go_cut [74] (fun v74 wc => ∃ (kq : Nat) (x74_28 : Bool), v74 = .bool x74_28 ∧ Aside0 (lapidarylaw07_LexCut.j4 kq x1_14 t190 t199 x74_28 = some r) ∧ Aside0 (kq ≤ kj16) ∧ Aside0 (Kd.R k28 28 wc w.heap.size (fun k_ => some k_ ≠ (v202 : Value).ownBlock) (.slice (some ad198) t190.length co30) t190) ∧ Aside0 (Kd.R k28 28 wc w.heap.size (fun k_ => some k_ ≠ ((.slice (some ad198) t190.length co30) : Value).ownBlock) v202 t199) ∧ Aside0 (Below w.heap.size w wc))
                              case first =>
                                have H := HC29.out
                                clear HC29
                                by_cases c32 : t201 = 0
                                · rw [if_pos c32] at H
                                  have c32b0 : (t201 == 0) = true := beq_iff_eq.mpr c32
                                  have c32b1 : (t201 != 0) = false := bne_eq_false_iff_eq.mpr c32
                                  clear c32
                                  (first | rw [c32b0] | (simp only [i64_w, i32_w]; rw [c32b0]) | skip)
                                  have H' := Aside0.mk H
                                  clear H
                                  obtain ⟨Ao33, co33, eo33⟩ := Kd.R_slice HO203.out
                                  subst eo33
                                  go_wp2
                                  repeat (go_quiet (fail); try go_wp2)
                                  go_meet
                                  case rel => exact ⟨_, (((t199.length : Int) != (wrap64 (x1_14 + 1)))), (by first | rfl | (simp; done) | (simp [*]; done)), H', ⟨by have := HJ3.out; have := HJ11.out; have := HJ14.out; have := HJ16.out; first | omega | exact Nat.le_refl _⟩, ⟨by (with_reducible repeat (first | apply Kd.R_alloc | apply Kd.R_drewN | apply Kd.R_drew)); exact Kd.R_mono HO_5.out (fun _ hk => hk.2)⟩, ⟨by (with_reducible repeat (first | apply Kd.R_alloc | apply Kd.R_drewN | apply Kd.R_drew)); exact Kd.R_mono HO203.out (fun _ hk => hk.2)⟩, ⟨by repeat (first | (with_reducible first | exact HB.out | apply below_alloc | apply pw_below_drewN | apply below_drew1) | exact HB.out)⟩⟩
                                · rw [if_neg c32] at H
                                  have c32b0 : (t201 == 0) = false := beq_eq_false_iff_ne.mpr c32
                                  have c32b1 : (t201 != 0) = true := bne_iff_ne.mpr c32
                                  (first | rw [c32b0] | (simp only [i64_w, i32_w]; rw [c32b0]) | skip)
                                  have H' := Aside0.mk H
                                  clear H
                                  go_wp2
                                  repeat (go_quiet (fail); try go_wp2)
                                  go_meet
                                  case rel => exact ⟨_, (true), (by first | rfl | (simp; done) | (simp [*]; done)), H', ⟨by have := HJ3.out; have := HJ11.out; have := HJ14.out; have := HJ16.out; first | omega | exact Nat.le_refl _⟩, ⟨by (with_reducible repeat (first | apply Kd.R_alloc | apply Kd.R_drewN | apply Kd.R_drew)); exact Kd.R_mono HO_5.out (fun _ hk => hk.2)⟩, ⟨by (with_reducible repeat (first | apply Kd.R_alloc | apply Kd.R_drewN | apply Kd.R_drew)); exact Kd.R_mono HO203.out (fun _ hk => hk.2)⟩, ⟨by repeat (first | (with_reducible first | exact HB.out | apply below_alloc | apply pw_below_drewN | apply below_drew1) | exact HB.out)⟩⟩
                              case rest =>
                                clear HC29
                                try clear c1
                                try clear p1
                                try clear q1
                                try clear hx1
                                try clear c2
                                try clear p2
                                try clear c3
                                try clear c4
                                try clear c6
                                try clear c6b0
                                try clear c6b1
                                try clear p6
                                try clear c8
                                try clear c9
                                try clear c9b0
                                try clear c9b1
                                try clear c13
                                try clear c13b0
                                try clear c16
                                try clear c18
                                try clear c18b0
                                try clear c19
                                try clear c19b0
                                try clear p19
                                try clear q19
                                try clear hx19
                                try clear c20
                                try clear c20b0
                                try clear c23
                                try clear c24
                                try clear c24b0
                                try clear c25
                                try clear c25b0
                                try clear c26
                                try clear c26b0
                                try clear c26b1
                                try clear c27
                                try clear c27b0
                                try clear c27b1
                                try clear c32
                                try clear c32b0
                                try clear c32b1
                                try clear hx196_0
                                try clear hx196_1
                                try clear hx196_2
                                try clear hx197_0
                                try clear hx197_1
                                try clear hx197_2
                                try clear hx198_0
                                try clear hx198_1
                                try clear hx198_2
                                try clear p1
                                try clear p19
                                try clear p196
                                try clear p197
                                try clear p198
                                try clear p2
                                try clear q1
                                try clear q19
                                try clear q196
                                try clear q197
                                try clear q198
                                obtain ⟨kq, x74_28, rfl, HA, HJ28, HO_5, HO_8, HB⟩ := hcut
                                cases kq with
                                | zero => exact absurd HA.out (by simp [lapidarylaw07_LexCut.j4])
                                | succ kj28 =>
                                  have H := HA.out
                                  clear HA
                                  simp only [lapidarylaw07_LexCut.j4] at H
                                  by_cases c34 : x74_28 = true
                                  · subst c34
                                    have H1 : (some false) = some r := by rw [if_pos rfl] at H; exact H
                                    clear H
                                    have H := H1
                                    clear H1
                                    obtain rfl := Option.some.inj H
                                    go_wp2
                                    repeat (go_quiet (fail); try go_wp2)
                                    go_ret
                                    exact ⟨by first | rfl | (simp [errW_none, errW_some] <;> rfl) | (simp [*, errW_none, errW_some] <;> rfl), by repeat (first | (with_reducible first | exact HB.out | apply below_alloc | apply pw_below_drewN | apply below_drew1) | exact HB.out)⟩
                                  · replace c34 := Bool.eq_false_iff.mpr c34
                                    subst c34
                                    have H1 : (lapidarylaw07_LexCut.l0 kj28 x1_14 t190 t199 0) = some r := by rw [if_neg (show ¬ (false = true) by decide)] at H; exact H
                                    clear H
                                    have H := H1
                                    clear H1
                                    have H' := Aside0.mk H
                                    clear H
                                    go_wp2
                                    repeat (go_quiet (fail); try go_wp2)
                                    go_loopg [11] kj28 (fun kq v11 w' => ∃ (x11_6 : Int), v11 = .int .i64 x11_6 ∧ Aside0 (lapidarylaw07_LexCut.l0 kq x1_14 t190 t199 x11_6 = some r) ∧ Aside0 (kq ≤ kj28) ∧ Aside0 (Kd.R k28 28 w' w.heap.size (fun k_ => some k_ ≠ (v202 : Value).ownBlock) (.slice (some ad198) t190.length co30) t190) ∧ Aside0 (Kd.R k28 28 w' w.heap.size (fun k_ => some k_ ≠ ((.slice (some ad198) t190.length co30) : Value).ownBlock) v202 t199) ∧ Aside0 (Below w.heap.size w w'))
                                    case atStart => exact ⟨(0), (by first | rfl | (simp; done) | (simp [*]; done)), H', ⟨Nat.le_refl _⟩, ⟨by (with_reducible repeat (first | apply Kd.R_alloc | apply Kd.R_drewN | apply Kd.R_drew)); exact HO_5.out⟩, ⟨by (with_reducible repeat (first | apply Kd.R_alloc | apply Kd.R_drewN | apply Kd.R_drew)); exact HO_8.out⟩, ⟨by repeat (first | (with_reducible first | exact HB.out | apply below_alloc | apply pw_below_drewN | apply below_drew1) | exact HB.out)⟩⟩
                                    case round =>
                                      clear H'
                                      try clear c1
                                      try clear p1
                                      try clear q1
                                      try clear hx1
                                      try clear c2
                                      try clear p2
                                      try clear c3
                                      try clear c4
                                      try clear c6
                                      try clear c6b0
                                      try clear c6b1
                                      try clear p6
                                      try clear c8
                                      try clear c9
                                      try clear c9b0
                                      try clear c9b1
                                      try clear c13
                                      try clear c13b0
                                      try clear c16
                                      try clear c18
                                      try clear c18b0
                                      try clear c19
                                      try clear c19b0
                                      try clear p19
                                      try clear q19
                                      try clear hx19
                                      try clear c20
                                      try clear c20b0
                                      try clear c23
                                      try clear c24
                                      try clear c24b0
                                      try clear c25
                                      try clear c25b0
                                      try clear c26
                                      try clear c26b0
                                      try clear c26b1
                                      try clear c27
                                      try clear c27b0
                                      try clear c27b1
                                      try clear c32
                                      try clear c32b0
                                      try clear c32b1
                                      try clear c34
                                      try clear hx196_0
                                      try clear hx196_1
                                      try clear hx196_2
                                      try clear hx197_0
                                      try clear hx197_1
                                      try clear hx197_2
                                      try clear hx198_0
                                      try clear hx198_1
                                      try clear hx198_2
                                      try clear p1
                                      try clear p19
                                      try clear p196
                                      try clear p197
                                      try clear p198
                                      try clear p2
                                      try clear p6
                                      try clear q1
                                      try clear q19
                                      try clear q196
                                      try clear q197
                                      try clear q198
                                      obtain ⟨x11_6, rfl, HA, HK6, HO_5, HO_8, HB⟩ := hrel
                                      cases gk with
                                      | zero => exact absurd HA.out (by simp [lapidarylaw07_LexCut.l0])
                                      | succ k6 =>
                                        have H := HA.out
                                        clear HA
                                        simp only [lapidarylaw07_LexCut.l0] at H
                                        by_cases c35 : x11_6 < x1_14
                                        · rw [if_pos c35] at H
                                          have c35b0 : decide (x11_6 < x1_14) = true := decide_eq_true c35
                                          clear c35
                                          by_cases c36 : 0 ≤ x11_6
                                          · rw [if_pos c36] at H
                                            have c36b0 : decide (0 ≤ x11_6) = true := decide_eq_true c36
                                            clear c36
                                            by_cases c37 : x11_6 < (t199.length : Int)
                                            · rw [if_pos c37] at H
                                              have c37b0 : decide (x11_6 < (t199.length : Int)) = true := decide_eq_true c37
                                              clear c37
                                              by_cases c38 : x11_6 < (t190.length : Int)
                                              · rw [if_pos c38] at H
                                                have c38b0 : decide (x11_6 < (t190.length : Int)) = true := decide_eq_true c38
                                                clear c38
                                                by_cases c39 : (!(((rd_T28 t199 x11_6).f0) == ((rd_T28 t190 x11_6).f0)) || (!((((rd_T28 t199 x11_6).f1).toList) == (((rd_T28 t190 x11_6).f1).toList)) || (!(((rd_T28 t199 x11_6).f2) == ((rd_T28 t190 x11_6).f2))))) = true
                                                · rw [if_pos c39] at H
                                                  have c39b0 : (!(((rd_T28 t199 x11_6).f0) == ((rd_T28 t190 x11_6).f0)) || (!((((rd_T28 t199 x11_6).f1).toList) == (((rd_T28 t190 x11_6).f1).toList)) || (!(((rd_T28 t199 x11_6).f2) == ((rd_T28 t190 x11_6).f2))))) = true := c39
                                                  clear c39
                                                  obtain rfl := Option.some.inj H
                                                  obtain ⟨Ao40, co40, eo40⟩ := Kd.R_slice HO_8.out
                                                  subst eo40
                                                  have p204 : 0 ≤ (x11_6 : Int) := of_decide_eq_true (by first | (with_reducible assumption) | assumption)
                                                  have q204 : x11_6 < (t199.length : Int) := of_decide_eq_true (by first | (with_reducible assumption) | assumption)
                                                  obtain ⟨ad204, e204, hx204_0, hx204_1, hx204_2⟩ := at_T28 (Kd.R_reads' HO_8.out).2.2 x11_6 p204 q204
                                                  cases e204
                                                  replace p204 := eq_true p204
                                                  replace q204 := eq_true q204
                                                  have p205 : 0 ≤ (x11_6 : Int) := of_decide_eq_true (by first | (with_reducible assumption) | assumption)
                                                  have q205 : x11_6 < (t190.length : Int) := of_decide_eq_true (by first | (with_reducible assumption) | assumption)
                                                  obtain ⟨ad205, e205, hx205_0, hx205_1, hx205_2⟩ := at_T28 (Kd.R_reads' HO_5.out).2.2 x11_6 p205 q205
                                                  obtain rfl : ad198 = ad205 := (by injection e205)
                                                  replace p205 := eq_true p205
                                                  replace q205 := eq_true q205
                                                  go_wp2
                                                  repeat (go_quiet (fail); try go_wp2)
                                                  go_ret
                                                  exact ⟨by first | rfl | (simp [errW_none, errW_some] <;> rfl) | (simp [*, errW_none, errW_some] <;> rfl), by repeat (first | (with_reducible first | exact HB.out | apply below_alloc | apply pw_below_drewN | apply below_drew1) | exact HB.out)⟩
                                                · rw [if_neg c39] at H
                                                  have c39b0 : (!(((rd_T28 t199 x11_6).f0) == ((rd_T28 t190 x11_6).f0)) || (!((((rd_T28 t199 x11_6).f1).toList) == (((rd_T28 t190 x11_6).f1).toList)) || (!(((rd_T28 t199 x11_6).f2) == ((rd_T28 t190 x11_6).f2))))) = false := by simpa using c39
                                                  clear c39
                                                  have H' := Aside0.mk H
                                                  clear H
                                                  obtain ⟨Ao41, co41, eo41⟩ := Kd.R_slice HO_8.out
                                                  subst eo41
                                                  have p204 : 0 ≤ (x11_6 : Int) := of_decide_eq_true (by first | (with_reducible assumption) | assumption)
                                                  have q204 : x11_6 < (t199.length : Int) := of_decide_eq_true (by first | (with_reducible assumption) | assumption)
                                                  obtain ⟨ad204, e204, hx204_0, hx204_1, hx204_2⟩ := at_T28 (Kd.R_reads' HO_8.out).2.2 x11_6 p204 q204
                                                  cases e204
                                                  replace p204 := eq_true p204
                                                  replace q204 := eq_true q204
                                                  have p205 : 0 ≤ (x11_6 : Int) := of_decide_eq_true (by first | (with_reducible assumption) | assumption)
                                                  have q205 : x11_6 < (t190.length : Int) := of_decide_eq_true (by first | (with_reducible assumption) | assumption)
                                                  obtain ⟨ad205, e205, hx205_0, hx205_1, hx205_2⟩ := at_T28 (Kd.R_reads' HO_5.out).2.2 x11_6 p205 q205
                                                  obtain rfl : ad198 = ad205 := (by injection e205)
                                                  replace p205 := eq_true p205
                                                  replace q205 := eq_true q205
                                                  go_wp2
                                                  repeat (go_quiet (fail); try go_wp2)
                                                  go_roundg k6
                                                  case measure => have := HJ3.out; have := HJ11.out; have := HJ14.out; have := HJ16.out; have := HJ28.out; have := HK6.out; omega
                                                  case rel => exact ⟨(wrap64 (x11_6 + 1)), (by first | rfl | (simp; done) | (simp [*]; done)), H', ⟨by have := HJ3.out; have := HJ11.out; have := HJ14.out; have := HJ16.out; have := HJ28.out; have := HK6.out; omega⟩, ⟨by (with_reducible repeat (first | apply Kd.R_alloc | apply Kd.R_drewN | apply Kd.R_drew)); exact HO_5.out⟩, ⟨by (with_reducible repeat (first | apply Kd.R_alloc | apply Kd.R_drewN | apply Kd.R_drew)); exact HO_8.out⟩, ⟨by repeat (first | (with_reducible first | exact HB.out | apply below_alloc | apply pw_below_drewN | apply below_drew1) | exact HB.out)⟩⟩
                                              · rw [if_neg c38] at H
                                                exact absurd H (by simp)
                                            · rw [if_neg c37] at H
                                              exact absurd H (by simp)
                                          · rw [if_neg c36] at H
                                            exact absurd H (by simp)
                                        · rw [if_neg c35] at H
                                          have c35b0 : decide (x11_6 < x1_14) = false := decide_eq_false c35
                                          clear c35
                                          by_cases c42 : 0 ≤ x1_14
                                          · rw [if_pos c42] at H
                                            have c42b0 : decide (0 ≤ x1_14) = true := decide_eq_true c42
                                            clear c42
                                            by_cases c43 : x1_14 < (t199.length : Int)
                                            · rw [if_pos c43] at H
                                              have c43b0 : decide (x1_14 < (t199.length : Int)) = true := decide_eq_true c43
                                              clear c43
                                              by_cases c44 : ((rd_T28 t199 x1_14).f0) = 0
                                              · rw [if_pos c44] at H
                                                have c44b0 : (((rd_T28 t199 x1_14).f0) == 0) = true := beq_iff_eq.mpr c44
                                                have c44b1 : (((rd_T28 t199 x1_14).f0) != 0) = false := bne_eq_false_iff_eq.mpr c44
                                                clear c44
                                                replace H := Option.bind_eq_some_iff.mp H
                                                obtain ⟨t207, A450, H⟩ := H
                                                replace H : (some t207) = some r := H
                                                have A45 := Aside0.mk A450
                                                clear A450
                                                obtain rfl := Option.some.inj H
                                                obtain ⟨Ao46, co46, eo46⟩ := Kd.R_slice HO_8.out
                                                subst eo46
                                                have p206 : 0 ≤ (x1_14 : Int) := of_decide_eq_true (by first | (with_reducible assumption) | assumption)
                                                have q206 : x1_14 < (t199.length : Int) := of_decide_eq_true (by first | (with_reducible assumption) | assumption)
                                                obtain ⟨ad206, e206, hx206_0, hx206_1, hx206_2⟩ := at_T28 (Kd.R_reads' HO_8.out).2.2 x1_14 p206 q206
                                                cases e206
                                                replace p206 := eq_true p206
                                                replace q206 := eq_true q206
                                                go_wp2_with (first | (go_at_call 9; (with_reducible refine (lapidarylaw07_known.calls k6  t207 _ A45.out).mono ?_); rintro e w47 ⟨rfl, hb⟩; have n0_ := Aside0.mk (Kd.R_below (by (with_reducible repeat (first | apply Kd.R_alloc | apply Kd.R_drewN | apply Kd.R_drew)); exact HO_5.out) hb); have n1_ := Aside0.mk (Kd.R_below (by (with_reducible repeat (first | apply Kd.R_alloc | apply Kd.R_drewN | apply Kd.R_drew)); exact HO_8.out) hb); have n2_ := Aside0.mk (below_step (by repeat (first | (with_reducible first | exact HB.out | apply below_alloc | apply pw_below_drewN | apply below_drew1) | exact HB.out)) hb); clear HO_5; clear HO_8; clear HB; have HO_5 := n0_; have HO_8 := n1_; have HB := n2_; clear n0_ n1_ n2_; (try clear hb); (try clear hb2); (try clear hk); (try clear hi)))
                                                repeat (go_quiet (first | (go_at_call 9; (with_reducible refine (lapidarylaw07_known.calls k6  t207 _ A45.out).mono ?_); rintro e w47 ⟨rfl, hb⟩; have n0_ := Aside0.mk (Kd.R_below (by (with_reducible repeat (first | apply Kd.R_alloc | apply Kd.R_drewN | apply Kd.R_drew)); exact HO_5.out) hb); have n1_ := Aside0.mk (Kd.R_below (by (with_reducible repeat (first | apply Kd.R_alloc | apply Kd.R_drewN | apply Kd.R_drew)); exact HO_8.out) hb); have n2_ := Aside0.mk (below_step (by repeat (first | (with_reducible first | exact HB.out | apply below_alloc | apply pw_below_drewN | apply below_drew1) | exact HB.out)) hb); clear HO_5; clear HO_8; clear HB; have HO_5 := n0_; have HO_8 := n1_; have HB := n2_; clear n0_ n1_ n2_; (try clear hb); (try clear hb2); (try clear hk); (try clear hi))); try go_wp2_with (first | (go_at_call 9; (with_reducible refine (lapidarylaw07_known.calls k6  t207 _ A45.out).mono ?_); rintro e w47 ⟨rfl, hb⟩; have n0_ := Aside0.mk (Kd.R_below (by (with_reducible repeat (first | apply Kd.R_alloc | apply Kd.R_drewN | apply Kd.R_drew)); exact HO_5.out) hb); have n1_ := Aside0.mk (Kd.R_below (by (with_reducible repeat (first | apply Kd.R_alloc | apply Kd.R_drewN | apply Kd.R_drew)); exact HO_8.out) hb); have n2_ := Aside0.mk (below_step (by repeat (first | (with_reducible first | exact HB.out | apply below_alloc | apply pw_below_drewN | apply below_drew1) | exact HB.out)) hb); clear HO_5; clear HO_8; clear HB; have HO_5 := n0_; have HO_8 := n1_; have HB := n2_; clear n0_ n1_ n2_; (try clear hb); (try clear hb2); (try clear hk); (try clear hi))))
                                                go_ret
                                                exact ⟨by first | rfl | (simp [errW_none, errW_some] <;> rfl) | (simp [*, errW_none, errW_some] <;> rfl), by repeat (first | (with_reducible first | exact HB.out | apply below_alloc | apply pw_below_drewN | apply below_drew1) | exact HB.out)⟩
                                              · rw [if_neg c44] at H
                                                have c44b0 : (((rd_T28 t199 x1_14).f0) == 0) = false := beq_eq_false_iff_ne.mpr c44
                                                have c44b1 : (((rd_T28 t199 x1_14).f0) != 0) = true := bne_iff_ne.mpr c44
                                                obtain rfl := Option.some.inj H
                                                obtain ⟨Ao48, co48, eo48⟩ := Kd.R_slice HO_8.out
                                                subst eo48
                                                have p206 : 0 ≤ (x1_14 : Int) := of_decide_eq_true (by first | (with_reducible assumption) | assumption)
                                                have q206 : x1_14 < (t199.length : Int) := of_decide_eq_true (by first | (with_reducible assumption) | assumption)
                                                obtain ⟨ad206, e206, hx206_0, hx206_1, hx206_2⟩ := at_T28 (Kd.R_reads' HO_8.out).2.2 x1_14 p206 q206
                                                cases e206
                                                replace p206 := eq_true p206
                                                replace q206 := eq_true q206
                                                go_wp2
                                                repeat (go_quiet (fail); try go_wp2)
                                                go_ret
                                                exact ⟨by first | rfl | (simp [errW_none, errW_some] <;> rfl) | (simp [*, errW_none, errW_some] <;> rfl), by repeat (first | (with_reducible first | exact HB.out | apply below_alloc | apply pw_below_drewN | apply below_drew1) | exact HB.out)⟩
                                            · rw [if_neg c43] at H
                                              exact absurd H (by simp)
                                          · rw [if_neg c42] at H
                                            exact absurd H (by simp)
                            · rw [if_neg c27] at H
                              exact absurd H (by simp)
                          · rw [if_neg c26] at H
                            exact absurd H (by simp)
                        · rw [if_neg c25] at H
                          exact absurd H (by simp)
                      · rw [if_neg c24] at H
                        exact absurd H (by simp)

/-- THE ONE PURE STATEMENT of lapidarylaw07_LexCut: yours. -/
def lapidarylaw07_LexCut.Pure : Prop := ∀ (a0 : ByteArray) (a1 : Int), a0.size ≤ 140737488351232 → (Lit.int .i64 a1).wf = true → ∃ k, lapidarylaw07_LexCut.f k a0 a1 = some true
theorem lapidarylaw07_LexCut.walk (P : lapidarylaw07_LexCut.Pure) (a0 : ByteArray) (a1 : Int) (w : World) (w0 : a0.size ≤ 140737488351232) (w1 : (Lit.int .i64 a1).wf = true) :
    Calls Tryd.prog 4 #[.string a0, .int .i64 a1] w fun e w' => e = .returned (.bool true) ∧ Below w.heap.size w w' := by
  obtain ⟨k, h⟩ := P a0 a1 w0 w1
  refine (lapidarylaw07_LexCut.calls k a0 a1 true w h).mono ?_
  rintro e w' ⟨rfl, hd⟩
  exact ⟨rfl, hd⟩


end

end Go.Proofs.YtfjbhccapgnkiaaDoor.P
