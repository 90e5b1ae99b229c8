import Derived.Test.YtfjbhccapgnkiaaA4
namespace Go.Proofs.Ytfjbhccapgnkiaa.P
open Go.RowKit Go.Proofs.YtfjbhccapgnkiaaW.PrintWords Go.Proofs.YtfjbhccapgnkiaaW.PrintLast Go.Proofs.YtfjbhccapgnkiaaW.PrintMore
attribute [local go_sem] max2_int min2_int max_two min_two max_three min_three max_four min_four
set_option linter.unusedVariables false
set_option maxHeartbeats 16000000
set_option maxRecDepth 100000
set_option linter.unusedSimpArgs false
/-! ### lapidaryref02_Right: function 40 -/
def lapidaryref02_Right.f (a1 : Bool) (a0 : List Int) : Option (Bool) := if (a0.length : Int) ≤ 128 then (if (a0.length : Int) = 0 then (if a1 = true then (if (a0.length : Int) > 0 then (if 0 < (a0.length : Int) then (some ((rd a0 0) != 0)) else (none)) else (some false)) else (some true)) else (if (a0.length : Int) > 0 then (if 0 < (a0.length : Int) then (some ((rd a0 0) != 0)) else (none)) else (some false))) else (some false)
theorem lapidaryref02_Right.calls (a8 : Bool) (a5 : Option Addr) (a7 : Nat) (a0 : List Int) (r : Bool) (w : World) (a9 : Kd.C (Kd.int .u8) w a5 a0.length a0) (aa : a0.length ≤ a7) (h : lapidaryref02_Right.f a8 a0 = some r) :
  Calls Try.prog 40 #[.agg #[.bool a8, .slice a5 a0.length a7]] w fun e w' => e = .returned (.bool r) ∧ Below w.heap.size w w' := by
 have hu24 := Try.underlying24
 have ab := Aside0.mk a9
 have aA := Aside0.mk aa
 clear a9 aa
 have HB := Aside0.mk (Below.refl w.heap.size w)
 have H : (if (a0.length : Int) ≤ 128 then (if (a0.length : Int) = 0 then (if a8 = true then (if (a0.length : Int) > 0 then (if 0 < (a0.length : Int) then (some ((rd a0 0) != 0)) else (none)) else (some false)) else (some true)) else (if (a0.length : Int) > 0 then (if 0 < (a0.length : Int) then (some ((rd a0 0) != 0)) else (none)) else (some false))) else (some false)) = some r := h
 clear h
 by_cases c2 : (a0.length : Int) ≤ 128
 ·rw [if_pos c2] at H
  have ar : decide ((a0.length : Int) ≤ 128) = true := decide_eq_true c2
  have am : decide (a0.length ≤ 128) = true := decide_eq_true (by omega)
  clear c2
  by_cases c3 : (a0.length : Int) = 0
  ·rw [if_pos c3] at H
   have aq : ((a0.length : Int) == 0) = true := beq_iff_eq.mpr c3
   have ap : ((a0.length : Int) != 0) = false := bne_eq_false_iff_eq.mpr c3
   clear c3
   by_cases c4 : a8 = true
   ·subst c4
    replace H := ip H
    by_cases c5 : (a0.length : Int) > 0
    ·rw [if_pos c5] at H
     have an : decide (0 < (a0.length : Int)) = true := decide_eq_true c5
     have ak : decide (0 < a0.length) = true := decide_eq_true (by omega)
     clear c5
     by_cases c6 : 0 < (a0.length : Int)
     ·rw [if_pos c6] at H
      have c6b0 : decide (0 < (a0.length : Int)) = true := decide_eq_true c6
      have c6b1 : decide (0 < a0.length) = true := decide_eq_true (by omega)
      clear c6
      obtain rfl := Option.some.inj H
      go_enter Try.func40, Try.ntmps40
      go_wp2_with (first | ((with_reducible refine gd 1 rfl ?_); refine bX 1 rfl HB #[.bool true, .slice a5 a0.length a7] 24 ?_; intro a4 w7 a1 a6 hg hb; replace HB := hB HB hb; clear hb hg; have hcz8 := zf2 a1; have af : 0 ≤ (0 : Int) := (by omega); have ad : 0 < (a0.length : Int) := of_decide_eq_true asm; obtain ⟨aF, al, a3⟩ := Kd.at_int ab.out 0 af ad; cases al; have aC : (0 < a0.length) = True := eq_true (by omega); (try rw [show ((0 : Int)).toNat = 0 from rfl] at a3); (try rw [Addr.add_zero'] at a3); replace a3 := (HB.out.cell (World.block_lt_of_cell? w _ a3)).trans a3; replace af := eq_true af; replace ad := eq_true ad))
      go_ret
      exact ⟨er, bw⟩
     ·rw [if_neg c6] at H
      exact absurd H (by simp)
    ·rw [if_neg c5] at H
     have an : decide (0 < (a0.length : Int)) = false := decide_eq_false c5
     have ak : decide (0 < a0.length) = false := decide_eq_false (by omega)
     clear c5
     obtain rfl := Option.some.inj H
     go_enter Try.func40, Try.ntmps40
     go_wp2_with (first | ((with_reducible refine gd 1 rfl ?_); refine bX 1 rfl HB #[.bool true, .slice a5 a0.length a7] 24 ?_; intro a4 w9 a1 a6 hg hb; replace HB := hB HB hb; clear hb hg; have au := zf2 a1))
     go_ret
     exact ⟨er, bw⟩
   ·replace c4 := Bool.eq_false_iff.mpr c4
    subst c4
    replace H := iq H
    obtain rfl := Option.some.inj H
    go_enter Try.func40, Try.ntmps40
    go_wp2_with (first | ((with_reducible refine gd 1 rfl ?_); refine bX 1 rfl HB #[.bool false, .slice a5 a0.length a7] 24 ?_; intro a4 w11 a1 a6 hg hb; replace HB := hB HB hb; clear hb hg; have aD := zf2 a1))
    go_ret
    exact ⟨er, bw⟩
  ·rw [if_neg c3] at H
   have aq : ((a0.length : Int) == 0) = false := beq_eq_false_iff_ne.mpr c3
   have ap : ((a0.length : Int) != 0) = true := bne_iff_ne.mpr c3
   have c3b2 : ¬ (a0 = []) := fun h_ => c3 (by rw [h_]; rfl)
   by_cases ag : (a0.length : Int) > 0
   ·rw [if_pos ag] at H
    have ah : decide (0 < (a0.length : Int)) = true := decide_eq_true ag
    have ai : decide (0 < a0.length) = true := decide_eq_true (by omega)
    clear ag
    by_cases aj : 0 < (a0.length : Int)
    ·rw [if_pos aj] at H
     have ay : decide (0 < (a0.length : Int)) = true := decide_eq_true aj
     have av : decide (0 < a0.length) = true := decide_eq_true (by omega)
     clear aj
     obtain rfl := Option.some.inj H
     go_enter Try.func40, Try.ntmps40
     go_wp2_with (first | ((with_reducible refine gd 1 rfl ?_); refine bX 1 rfl HB #[.bool a8, .slice a5 a0.length a7] 24 ?_; intro a4 w15 a1 a6 hg hb; replace HB := hB HB hb; clear hb hg; have ax := zf2 a1; have ac : 0 ≤ (0 : Int) := (by omega); have ae : 0 < (a0.length : Int) := of_decide_eq_true asm; obtain ⟨aB, ao, a2⟩ := Kd.at_int ab.out 0 ac ae; cases ao; have az : (0 < a0.length) = True := eq_true (by omega); (try rw [show ((0 : Int)).toNat = 0 from rfl] at a2); (try rw [Addr.add_zero'] at a2); replace a2 := (HB.out.cell (World.block_lt_of_cell? w _ a2)).trans a2; replace ac := eq_true ac; replace ae := eq_true ae))
     go_ret
     exact ⟨er, bw⟩
    ·rw [if_neg aj] at H
     exact absurd H (by simp)
   ·rw [if_neg ag] at H
    have ah : decide (0 < (a0.length : Int)) = false := decide_eq_false ag
    have ai : decide (0 < a0.length) = false := decide_eq_false (by omega)
    clear ag
    obtain rfl := Option.some.inj H
    go_enter Try.func40, Try.ntmps40
    go_wp2_with (first | ((with_reducible refine gd 1 rfl ?_); refine bX 1 rfl HB #[.bool a8, .slice a5 a0.length a7] 24 ?_; intro a4 w17 a1 a6 hg hb; replace HB := hB HB hb; clear hb hg; have aw := zf2 a1))
    go_ret
    exact ⟨er, bw⟩
 ·rw [if_neg c2] at H
  have ar : decide ((a0.length : Int) ≤ 128) = false := decide_eq_false c2
  have am : decide (a0.length ≤ 128) = false := decide_eq_false (by omega)
  clear c2
  obtain rfl := Option.some.inj H
  go_enter Try.func40, Try.ntmps40
  go_wp2_with (first | ((with_reducible refine gd 1 rfl ?_); refine bX 1 rfl HB #[.bool a8, .slice a5 a0.length a7] 24 ?_; intro a4 w19 a1 a6 hg hb; replace HB := hB HB hb; clear hb hg; have aE := zf2 a1))
  go_ret
  exact ⟨er, bw⟩
/-! ### lapidaryref02_at: function 78 -/
def lapidaryref02_at.f (l0 : List Int) (a1 : Int) : Option (Int) := if a1 ≥ (l0.length : Int) then (some 0) else (if 0 ≤ (wrap64 ((wrap64 ((l0.length : Int) - 1)) - a1)) then (if (wrap64 ((wrap64 ((l0.length : Int) - 1)) - a1)) < (l0.length : Int) then (some (wrap64 (rd l0 (wrap64 ((wrap64 ((l0.length : Int) - 1)) - a1))))) else (none)) else (none))
theorem lapidaryref02_at.calls (A0 : Option Addr) (c0 : Nat) (l0 : List Int) (a1 : Int) (r : Int) (w : World) (a9 : Kd.C (Kd.int .u8) w A0 l0.length l0) (a7 : l0.length ≤ c0) (h : lapidaryref02_at.f l0 a1 = some r) :
  Calls Try.prog 78 #[.slice A0 l0.length c0, .int .i64 a1] w fun e w' => e = .returned (.int .i64 r) ∧ Drawn0 w w' := by
 have HR0 := Aside0.mk a9
 have HC0 := Aside0.mk a7
 clear a9 a7
 have H : (if a1 ≥ (l0.length : Int) then (some 0) else (if 0 ≤ (wrap64 ((wrap64 ((l0.length : Int) - 1)) - a1)) then (if (wrap64 ((wrap64 ((l0.length : Int) - 1)) - a1)) < (l0.length : Int) then (some (wrap64 (rd l0 (wrap64 ((wrap64 ((l0.length : Int) - 1)) - a1))))) else (none)) else (none))) = some r := h
 clear h
 by_cases c3 : a1 ≥ (l0.length : Int)
 ·rw [if_pos c3] at H
  have a4 : decide ((l0.length : Int) ≤ a1) = true := decide_eq_true c3
  clear c3
  obtain rfl := Option.some.inj H
  go_enter Try.func78, Try.ntmps78
  go_wp2
  go_ret
  exact ⟨sd, by repeat (first | exact Drawn0.refl _ | apply Drawn0.step)⟩
 ·rw [if_neg c3] at H
  have a4 : decide ((l0.length : Int) ≤ a1) = false := decide_eq_false c3
  clear c3
  obtain ⟨ji4, hji4⟩ : ∃ j_ : Int, (wrap64 ((wrap64 ((l0.length : Int) - 1)) - a1)) = j_ := ⟨_, rfl⟩
  replace H : (if 0 ≤ (ji4) then (if (ji4) < (l0.length : Int) then (some (wrap64 (rd l0 (ji4)))) else (none)) else (none)) = some r := by first | (rw [hji4] at H; exact H) | (simp only [hji4] at H ⊢; exact H)
  have a6 : (IntKind.i64.wrap ((wrap64 ((l0.length : Int) - 1)) - a1)) = ji4 := (i64_w _).trans hji4
  by_cases c5 : 0 ≤ (ji4)
  ·rw [if_pos c5] at H
   have c5b0 : decide (0 ≤ (ji4)) = true := decide_eq_true c5
   clear c5
   by_cases c6 : (ji4) < (l0.length : Int)
   ·rw [if_pos c6] at H
    have c6b0 : decide ((ji4) < (l0.length : Int)) = true := decide_eq_true c6
    clear c6
    obtain rfl := Option.some.inj H
    have a0 : 0 ≤ ((ji4) : Int) := of_decide_eq_true asm
    have a2 : (ji4) < (l0.length : Int) := of_decide_eq_true asm
    obtain ⟨a8, a5, a3⟩ := Kd.at_int HR0.out (ji4) a0 a2
    cases a5
    replace a0 := eq_true a0
    replace a2 := eq_true a2
    go_enter Try.func78, Try.ntmps78
    go_wp2
    go_ret
    exact ⟨by first | rfl | (simp; done) | (simp only [← hji4] <;> (first | rfl | simp)) | (simp [*]; done), by repeat (first | exact Drawn0.refl _ | apply Drawn0.step)⟩
   ·rw [if_neg c6] at H
    exact absurd H (by simp)
  ·rw [if_neg c5] at H
   exact absurd H (by simp)
/-! ### lapidaryref02_turned: function 94 -/
def lapidaryref02_turned.l0 : Nat → List Int → List Int → Int → Option (List Int)
 | 0, _, _, _ => none
 | k + 1, x0, x3, x4 => if x4 ≥ 0 then (if 0 ≤ x4 then (if x4 < (x0.length : Int) then (if x3.length < 140737488355328 then (lapidaryref02_turned.l0 k x0 (x3 ++ [rd x0 x4]) (wrap64 (x4 - 1))) else (none)) else (none)) else (none)) else (some x3)
def lapidaryref02_turned.f (k : Nat) (l0 : List Int) : Option (List Int) := lapidaryref02_turned.l0 k l0 ([] : List Int) (wrap64 ((l0.length : Int) - 1))
theorem lapidaryref02_turned.mono_l : ∀ k, (∀ y0 y1 y2, LeO (lapidaryref02_turned.l0 k y0 y1 y2) (lapidaryref02_turned.l0 (k + 1) y0 y1 y2))
 | 0 => fun _ _ _ r h => by simp [lapidaryref02_turned.l0] at h
 | k + 1 => by
  have a0 := lapidaryref02_turned.mono_l k
  ·intro y0 y1 y2
   unfold lapidaryref02_turned.l0
   repeat' first | with_reducible exact a0 _ _ _ | with_reducible exact LeO.refl _ | with_reducible exact LeO.none _ | with_reducible refine LeO.ite ?_ ?_ | with_reducible refine LeO.bind ?_ (fun _ => ?_) | exact a0 _ _ _ | exact LeO.none _ | refine LeO.ite ?_ ?_ | refine LeO.bind ?_ (fun _ => ?_)
theorem lapidaryref02_turned.mono : ∀ a0 k, LeO (lapidaryref02_turned.f k a0) (lapidaryref02_turned.f (k + 1) a0) := by
 intro a0 k
 have a1 := lapidaryref02_turned.mono_l k
 unfold lapidaryref02_turned.f
 repeat' first | with_reducible exact a1 _ _ _ | with_reducible exact LeO.refl _ | with_reducible exact LeO.none _ | with_reducible refine LeO.ite ?_ ?_ | with_reducible refine LeO.bind ?_ (fun _ => ?_) | exact a1 _ _ _ | exact LeO.none _ | refine LeO.ite ?_ ?_ | refine LeO.bind ?_ (fun _ => ?_)
theorem lapidaryref02_turned.calls (k : Nat) (A0 : Option Addr) (c0 : Nat) (l0 : List Int) (r : List Int) (w : World) (ad : Kd.C (Kd.int .u8) w A0 l0.length l0) (af : l0.length ≤ c0) (h : lapidaryref02_turned.f k l0 = some r) :
  Calls Try.prog 94 #[.slice A0 l0.length c0] w fun e w' => ∃ ag : Value, e = .returned (ag) ∧ Kd.R (Kd.int .u8) 5 w' w.heap.size (fun _ => True) ag r ∧ Below w.heap.size w w' := by
 have HR0 := Aside0.mk ad
 have HC0 := Aside0.mk af
 clear ad af
 have HB := Aside0.mk (Below.refl w.heap.size w)
 have H : (lapidaryref02_turned.l0 k l0 ([] : List Int) (wrap64 ((l0.length : Int) - 1))) = some r := h
 clear h
 have H' := Aside0.mk H
 clear H
 go_enter Try.func94, Try.ntmps94
 go_wp2
 go_loopg [3, 4] k (fun kq v3 v4 w' => ∃ (a2 : List Int) (a0 : Int), v4 = .int .i64 a0 ∧ Aside0 (lapidaryref02_turned.l0 kq l0 a2 a0 = some r) ∧ Aside0 (kq ≤ k) ∧ Aside0 (Kd.R (Kd.int .u8) 5 w' w.heap.size (fun _ => True) v3 a2) ∧ Aside0 (Below w.heap.size w w'))
 case atStart => exact ⟨(([] : List Int)), (wrap64 ((l0.length : Int) - 1)), sd, H', ⟨Nat.le_refl _⟩, ⟨nl⟩, ⟨bw⟩⟩
 case round =>
  clear H'
  obtain ⟨a2, a0, rfl, HA, ac, a4, HB⟩ := hrel
  cases gk with
  | zero => exact absurd HA.out (by simp [lapidaryref02_turned.l0])
  | succ k1 =>
   have H := HA.out
   clear HA
   simp only [lapidaryref02_turned.l0] at H
   by_cases c2 : a0 ≥ 0
   ·rw [if_pos c2] at H
    have aa : decide (0 ≤ a0) = true := decide_eq_true c2
    clear c2
    by_cases c3 : 0 ≤ a0
    ·rw [if_pos c3] at H
     have c3b0 : decide (0 ≤ a0) = true := decide_eq_true c3
     clear c3
     by_cases c4 : a0 < (l0.length : Int)
     ·rw [if_pos c4] at H
      have c4b0 : decide (a0 < (l0.length : Int)) = true := decide_eq_true c4
      clear c4
      by_cases c5 : a2.length < 140737488355328
      ·rw [if_pos c5] at H
       have a8 := Aside0.mk c5
       clear c5
       obtain ⟨y250, hy250⟩ : ∃ y_ : List Int, y_ = (a2 ++ [rd l0 a0]) := ⟨_, rfl⟩
       replace H : (lapidaryref02_turned.l0 k1 l0 y250 (wrap64 (a0 - 1))) = some r := by first | (rw [hy250]; with_reducible exact H) | (have a9 := (Option.bind_some _ _).symm.trans H; rw [hy250]; with_reducible exact a9) | (have a9 := (Option.bind_some _ _).symm.trans H; with_reducible exact a9) | with_reducible exact H | (rw [hy250]; exact H) | exact H
       have a6 := Aside0.mk hy250
       clear hy250
       have H' := Aside0.mk H
       clear H
       have a5 : 0 ≤ (a0 : Int) := of_decide_eq_true asm
       have a3 : a0 < (l0.length : Int) := of_decide_eq_true asm
       obtain ⟨ae, ab, a1⟩ := Kd.at_int HR0.out a0 a5 a3
       cases ab
       replace a1 := (HB.out.cell (World.block_lt_of_cell? w _ a1)).trans a1
       replace a5 := eq_true a5
       replace a3 := eq_true a3
       go_wp2_with (first | ((with_reducible refine gate_builtin (b := .append) (xs := #[.tmp 12, .tmp 17]) rfl ?_); at_builtin; refine Kd.R_append (Kd.int .u8) (w0 := w) w.heap.size rfl (.tmp 12) (.tmp 17) 22 5 (.int .u8 0) 1 rfl Try.underlying22 info5 rfl (by decide) (by omega) u3 a2 (rd l0 a0) [.int .u8 (rd l0 a0)] (fun _ => True) (fun _ => False) rfl rfl ?aP (fun _ hk => hk.elim) ?aF ?aO ?aB ?aS ?aL ?_; (case aP => exact rfl); (case aB => exact bw); (case aF => exact (fun _ _ => trivial)); (case aO => exact (rb a4)); (case aS => exact (sz HB)); (case aL => have := a8.out; omega); intro v251 w6 ho hb hg hat; rw [← a6.out] at ho; have a7 := Aside0.mk ho; replace HB := Aside0.mk hb; clear a4; clear ho hb hg hat))
       go_roundg k1
       case measure => have := ac.out; omega
       case rel => exact ⟨(y250), (wrap64 (a0 - 1)), sd, H', ⟨by have := ac.out; omega⟩, ⟨rb a7⟩, ⟨bw⟩⟩
      ·rw [if_neg c5] at H
       exact absurd H (by simp)
     ·rw [if_neg c4] at H
      exact absurd H (by simp)
    ·rw [if_neg c3] at H
     exact absurd H (by simp)
   ·rw [if_neg c2] at H
    have aa : decide (0 ≤ a0) = false := decide_eq_false c2
    clear c2
    obtain rfl := Option.some.inj H
    go_wp2
    go_ret
    exact ⟨_, er, rb a4, bw⟩
/-! ### lapidaryref02_sum: function 76 -/
mutual
def lapidaryref02_sum.l0 : Nat → List Int → List Int → List Int → Int → Int → Option (List Int)
 | 0, _, _, _, _, _ => none
 | k + 1, x0, x1, x5, x6, x7 => if x7 < (x0.length : Int) then (lapidaryref02_sum.j1 k x0 x1 x5 x6 x7 true) else (if x7 < (x1.length : Int) then (lapidaryref02_sum.j1 k x0 x1 x5 x6 x7 true) else (lapidaryref02_sum.j1 k x0 x1 x5 x6 x7 (decide (x6 > 0))))
def lapidaryref02_sum.j1 : Nat → List Int → List Int → List Int → Int → Int → Bool → Option (List Int)
 | 0, _, _, _, _, _, _ => none
 | k + 1, x0, x1, x5, x6, x7, x21 => if x21 = true then ((lapidaryref02_at.f x0 x7).bind fun a0 => ((lapidaryref02_at.f x1 x7).bind fun a1 => (if x5.length < 140737488355328 then (lapidaryref02_sum.l0 k x0 x1 (x5 ++ [(Int.tmod (wrap64 ((wrap64 (x6 + a0)) + a1)) 256) % 256]) (wrap64 (Int.tdiv (wrap64 ((wrap64 (x6 + a0)) + a1)) 256)) (wrap64 (x7 + 1))) else (none)))) else ((lapidaryref02_turned.f k x5).bind fun a2 => (some a2))
end
def lapidaryref02_sum.f (k : Nat) (l0 : List Int) (l1 : List Int) : Option (List Int) := lapidaryref02_sum.l0 k l0 l1 ([] : List Int) 0 0
theorem lapidaryref02_sum.mono_l : ∀ k, (∀ y0 y1 y2 y3 y4, LeO (lapidaryref02_sum.l0 k y0 y1 y2 y3 y4) (lapidaryref02_sum.l0 (k + 1) y0 y1 y2 y3 y4)) ∧ (∀ y0 y1 y2 y3 y4 y5, LeO (lapidaryref02_sum.j1 k y0 y1 y2 y3 y4 y5) (lapidaryref02_sum.j1 (k + 1) y0 y1 y2 y3 y4 y5))
 | 0 => ⟨fun _ _ _ _ _ r h => by simp [lapidaryref02_sum.l0] at h, fun _ _ _ _ _ _ r h => by simp [lapidaryref02_sum.j1] at h⟩
 | k + 1 => by
  obtain ⟨a0, a1⟩ := lapidaryref02_sum.mono_l k
  refine ⟨?_, ?_⟩
  ·intro y0 y1 y2 y3 y4
   unfold lapidaryref02_sum.l0
   repeat' first | with_reducible exact a0 _ _ _ _ _ | with_reducible exact a1 _ _ _ _ _ _ | with_reducible exact lapidaryref02_turned.mono _ _ | with_reducible exact LeO.refl _ | with_reducible exact LeO.none _ | with_reducible refine LeO.ite ?_ ?_ | with_reducible refine LeO.bind ?_ (fun _ => ?_) | exact a0 _ _ _ _ _ | exact a1 _ _ _ _ _ _ | exact lapidaryref02_turned.mono _ _ | exact LeO.none _ | refine LeO.ite ?_ ?_ | refine LeO.bind ?_ (fun _ => ?_)
  ·intro y0 y1 y2 y3 y4 y5
   unfold lapidaryref02_sum.j1
   repeat' first | with_reducible exact a0 _ _ _ _ _ | with_reducible exact a1 _ _ _ _ _ _ | with_reducible exact lapidaryref02_turned.mono _ _ | with_reducible exact LeO.refl _ | with_reducible exact LeO.none _ | with_reducible refine LeO.ite ?_ ?_ | with_reducible refine LeO.bind ?_ (fun _ => ?_) | exact a0 _ _ _ _ _ | exact a1 _ _ _ _ _ _ | exact lapidaryref02_turned.mono _ _ | exact LeO.none _ | refine LeO.ite ?_ ?_ | refine LeO.bind ?_ (fun _ => ?_)
theorem lapidaryref02_sum.mono : ∀ a0 a1 k, LeO (lapidaryref02_sum.f k a0 a1) (lapidaryref02_sum.f (k + 1) a0 a1) := by
 intro a0 a1 k
 obtain ⟨a2, a3⟩ := lapidaryref02_sum.mono_l k
 unfold lapidaryref02_sum.f
 repeat' first | with_reducible exact a2 _ _ _ _ _ | with_reducible exact a3 _ _ _ _ _ _ | with_reducible exact lapidaryref02_turned.mono _ _ | with_reducible exact LeO.refl _ | with_reducible exact LeO.none _ | with_reducible refine LeO.ite ?_ ?_ | with_reducible refine LeO.bind ?_ (fun _ => ?_) | exact a2 _ _ _ _ _ | exact a3 _ _ _ _ _ _ | exact lapidaryref02_turned.mono _ _ | exact LeO.none _ | refine LeO.ite ?_ ?_ | refine LeO.bind ?_ (fun _ => ?_)
theorem lapidaryref02_sum.calls (k : Nat) (A0 : Option Addr) (c0 : Nat) (l0 : List Int) (A1 : Option Addr) (c1 : Nat) (l1 : List Int) (r : List Int) (w : World) (aq : Kd.C (Kd.int .u8) w A0 l0.length l0) (am : l0.length ≤ c0) (ap : Kd.C (Kd.int .u8) w A1 l1.length l1) (al : l1.length ≤ c1) (h : lapidaryref02_sum.f k l0 l1 = some r) :
  Calls Try.prog 76 #[.slice A0 l0.length c0, .slice A1 l1.length c1] w fun e w' => ∃ ao : Value, e = .returned (ao) ∧ Kd.R (Kd.int .u8) 5 w' w.heap.size (fun _ => True) ao r ∧ Below w.heap.size w w' := by
 have HR0 := Aside0.mk aq
 have HC0 := Aside0.mk am
 clear aq am
 have HR1 := Aside0.mk ap
 have HC1 := Aside0.mk al
 clear ap al
 have HB := Aside0.mk (Below.refl w.heap.size w)
 have H : (lapidaryref02_sum.l0 k l0 l1 ([] : List Int) 0 0) = some r := h
 clear h
 have H' := Aside0.mk H
 clear H
 go_enter Try.func76, Try.ntmps76
 go_wp2
 go_loopg [5, 6, 7] k (fun kq v5 v6 v7 w' => ∃ (a3 : List Int) (a2 : Int) (a0 : Int), v6 = .int .i64 a2 ∧ v7 = .int .i64 a0 ∧ Aside0 (lapidaryref02_sum.l0 kq l0 l1 a3 a2 a0 = some r) ∧ Aside0 (kq ≤ k) ∧ Aside0 (Kd.R (Kd.int .u8) 5 w' w.heap.size (fun _ => True) v5 a3) ∧ Aside0 (Below w.heap.size w w'))
 case atStart => exact ⟨(([] : List Int)), (0), (0), sd, sd, H', ⟨Nat.le_refl _⟩, ⟨nl⟩, ⟨bw⟩⟩
 case round =>
  clear H'
  try clear c1
  obtain ⟨a3, a2, a0, rfl, rfl, HA, a9, a1, HB⟩ := hrel
  cases gk with
  | zero => exact absurd HA.out (by simp [lapidaryref02_sum.l0])
  | succ k1 =>
   have H := HA.out
   clear HA
   simp only [lapidaryref02_sum.l0] at H
   have ah := Aside0.mk H
   clear H
   go_upto_region 4 with (fail)
   go_cut [21] (fun v21 wc => ∃ (kq : Nat) (a4 : Bool), v21 = .bool a4 ∧ Aside0 (lapidaryref02_sum.j1 kq l0 l1 a3 a2 a0 a4 = some r) ∧ Aside0 (kq ≤ k1) ∧ Aside0 (Kd.R (Kd.int .u8) 5 wc w.heap.size (fun _ => True) u5 a3) ∧ Aside0 (Below w.heap.size w wc))
   case first =>
    have H := ah.out
    clear ah
    by_cases c4 : a0 < (l0.length : Int)
    ·rw [if_pos c4] at H
     have a7 : decide (a0 < (l0.length : Int)) = true := decide_eq_true c4
     clear c4
     (first | rw [a7] | (simp only [i64_w, i32_w]; rw [a7]) | skip)
     have H' := Aside0.mk H
     clear H
     go_wp2
     go_meet
     case rel => exact ⟨_, (true), sd, H', ⟨by have := a9.out; first | omega | exact Nat.le_refl _⟩, ⟨rb a1⟩, ⟨bw⟩⟩
    ·rw [if_neg c4] at H
     have a7 : decide (a0 < (l0.length : Int)) = false := decide_eq_false c4
     clear c4
     (first | rw [a7] | (simp only [i64_w, i32_w]; rw [a7]) | skip)
     by_cases c5 : a0 < (l1.length : Int)
     ·rw [if_pos c5] at H
      have af : decide (a0 < (l1.length : Int)) = true := decide_eq_true c5
      clear c5
      have H' := Aside0.mk H
      clear H
      go_wp2
      go_meet
      case rel => exact ⟨_, (true), sd, H', ⟨by have := a9.out; first | omega | exact Nat.le_refl _⟩, ⟨rb a1⟩, ⟨bw⟩⟩
     ·rw [if_neg c5] at H
      have af : decide (a0 < (l1.length : Int)) = false := decide_eq_false c5
      clear c5
      have H' := Aside0.mk H
      clear H
      go_wp2
      go_meet
      case rel => exact ⟨_, (decide (a2 > 0)), sd, H', ⟨by have := a9.out; first | omega | exact Nat.le_refl _⟩, ⟨rb a1⟩, ⟨bw⟩⟩
   case rest =>
    clear ah
    try clear c1
    obtain ⟨kq, a4, rfl, HA, an, a1, HB⟩ := hcut
    cases kq with
    | zero => exact absurd HA.out (by simp [lapidaryref02_sum.j1])
    | succ kj2 =>
     have H := HA.out
     clear HA
     simp only [lapidaryref02_sum.j1] at H
     by_cases c6 : a4 = true
     ·subst c6
      replace H := ip H
      obtain ⟨a6, A7, H⟩ := bs H
      obtain ⟨a5, A8, H⟩ := bs H
      by_cases c9 : a3.length < 140737488355328
      ·rw [if_pos c9] at H
       have ag := Aside0.mk c9
       clear c9
       obtain ⟨y255, hy255⟩ : ∃ y_ : List Int, y_ = (a3 ++ [(Int.tmod (wrap64 ((wrap64 (a2 + a6)) + a5)) 256) % 256]) := ⟨_, rfl⟩
       replace H : (lapidaryref02_sum.l0 kj2 l0 l1 y255 (wrap64 (Int.tdiv (wrap64 ((wrap64 (a2 + a6)) + a5)) 256)) (wrap64 (a0 + 1))) = some r := by first | (rw [hy255]; with_reducible exact H) | (have ak := (Option.bind_some _ _).symm.trans H; rw [hy255]; with_reducible exact ak) | (have ak := (Option.bind_some _ _).symm.trans H; with_reducible exact ak) | with_reducible exact H | (rw [hy255]; exact H) | exact H
       have ab := Aside0.mk hy255
       clear hy255
       have H' := Aside0.mk H
       clear H
       go_wp2_with (first | ((with_reducible refine ga 78 rfl ?_); refine gc (some 27) Try.func78 #[.slice A0 l0.length c0, .int .i64 a0] (lapidaryref02_at.calls _ _ l0 a0 a6 _ (cb HR0 HB) HC0.out A7.out) ?_; rintro e w' ⟨rfl, ⟨nd, rfl⟩⟩; refine ⟨_, rfl, ?_⟩) | ((with_reducible refine ga 78 rfl ?_); refine gc (some 31) Try.func78 #[.slice A1 l1.length c1, .int .i64 a0] (lapidaryref02_at.calls _ _ l1 a0 a5 _ (cb HR1 HB) HC1.out A8.out) ?_; rintro e w' ⟨rfl, ⟨nd, rfl⟩⟩; refine ⟨_, rfl, ?_⟩) | ((with_reducible refine gate_builtin (b := .append) (xs := #[.tmp 33, .tmp 37]) rfl ?_); (try (refine gate_guard (by rfl) ?_; dsimp only)); at_builtin; refine Kd.R_append (Kd.int .u8) (w0 := w) w.heap.size rfl (.tmp 33) (.tmp 37) 22 5 (.int .u8 0) 1 rfl Try.underlying22 info5 rfl (by decide) (by omega) u5 a3 ((Int.tmod (wrap64 ((wrap64 (a2 + a6)) + a5)) 256) % 256) [.int .u8 ((Int.tmod (wrap64 ((wrap64 (a2 + a6)) + a5)) 256) % 256)] (fun _ => True) (fun _ => False) rfl rfl ?aP (fun _ hk => hk.elim) ?aF ?aO ?aB ?aS ?aL ?_; (case aP => exact rfl); (case aB => exact bw); (case aF => exact (fun _ _ => trivial)); (case aO => exact (rb a1)); (case aS => exact (sz HB)); (case aL => have := ag.out; omega); intro v256 w10 ho hb hg hat; rw [← ab.out] at ho; have a8 := Aside0.mk ho; replace HB := Aside0.mk hb; clear a1; clear ho hb hg hat))
       go_roundg kj2
       case measure => have := a9.out; have := an.out; omega
       case rel => exact ⟨(y255), (wrap64 (Int.tdiv (wrap64 ((wrap64 (a2 + a6)) + a5)) 256)), (wrap64 (a0 + 1)), sd, sd, H', ⟨by have := a9.out; have := an.out; omega⟩, ⟨rb a8⟩, ⟨bw⟩⟩
      ·rw [if_neg c9] at H
       exact absurd H (by simp)
     ·replace c6 := Bool.eq_false_iff.mpr c6
      subst c6
      replace H := iq H
      obtain ⟨ac, A11, H⟩ := bs H
      obtain rfl := Option.some.inj H
      obtain ⟨aj, ai, ad⟩ := sl a1; cases ad
      go_wp2_with (first | ((with_reducible refine ga 94 rfl ?_); refine gc (some 42) Try.func94 #[.slice aj a3.length ai] (lapidaryref02_turned.calls kj2 _ _ a3 ac _ (cr a1) (rl a1) A11.out) ?_; rintro e w13 ⟨v259, rfl, ae, hb⟩; refine ⟨_, rfl, ?_⟩; have aa := rL HB (rn ae a1); replace a1 := rE a1 ae hb; replace HB := hB HB hb; clear hb ae))
      go_ret
      exact ⟨_, er, by (with_reducible repeat (first | apply Kd.R_alloc | apply Kd.R_drewN | apply Kd.R_drew)); exact Kd.R_mono aa.out (fun _ hk => trivial), bw⟩
/-! ### lapidaryref02_Same: function 35 -/
def lapidaryref02_Same.f (a0 : Bool) (a3 : List Int) (a1 : Bool) (a2 : List Int) : Option (Bool) := if (a0 == a1) = true then (some ((strOfNums a3).toList == (strOfNums a2).toList)) else (some false)
theorem lapidaryref02_Same.calls (a3 : Bool) (a8 : Option Addr) (ab : Nat) (a4 : List Int) (a1 : Bool) (a7 : Option Addr) (aa : Nat) (a5 : List Int) (r : Bool) (w : World) (ac : Kd.C (Kd.int .u8) w a8 a4.length a4) (ae : a4.length ≤ ab) (af : Kd.C (Kd.int .u8) w a7 a5.length a5) (ad : a5.length ≤ aa) (h : lapidaryref02_Same.f a3 a4 a1 a5 = some r) :
  Calls Try.prog 35 #[.agg #[.bool a3, .slice a8 a4.length ab], .agg #[.bool a1, .slice a7 a5.length aa]] w fun e w' => e = .returned (.bool r) ∧ Below w.heap.size w w' := by
 have hu24 := Try.underlying24
 have al := Aside0.mk ac
 have au := Aside0.mk ae
 clear ac ae
 have ai := Aside0.mk af
 have aq := Aside0.mk ad
 clear af ad
 have HB := Aside0.mk (Below.refl w.heap.size w)
 have H : (if (a3 == a1) = true then (some ((strOfNums a4).toList == (strOfNums a5).toList)) else (some false)) = some r := h
 clear h
 by_cases c3 : (a3 == a1) = true
 ·rw [if_pos c3] at H
  have ao : (a3 == a1) = true := c3
  (try (have an : decide (a3 = a1) = true := by simpa using c3))
  (try (have am : (a3 == a1) = true := by simpa using c3))
  clear c3
  obtain rfl := Option.some.inj H
  go_enter Try.func35, Try.ntmps35
  go_wp2_with (first | ((with_reducible refine gd 2 rfl ?_); refine bX 2 rfl HB #[.bool a3, .slice a8 a4.length ab] 24 ?_; intro ag w4 a0 ah hg hb; replace HB := hB HB hb; clear hb hg) | ((with_reducible refine gd 3 rfl ?_); refine bX 3 rfl HB #[.bool a1, .slice a7 a5.length aa] 24 ?_; intro aj w5 a9 ak hg hb; obtain ⟨a2, a6⟩ := nB a0 hg; replace a0 := kB a0 hb; replace HB := hB HB hb; clear hb hg; have hn6 := nn a2; have hcz7 := zf2 a0; have hcz8 := zf2 a9; have hcv9 := Kd.C_string (P := Try.prog) (A := a8) (c := ab) Try.underlying22 Try.underlying5 Try.underlying9 (Kd.C_below al.out HB.out); have av := Kd.C_string (P := Try.prog) (A := a7) (c := aa) Try.underlying22 Try.underlying5 Try.underlying9 (Kd.C_below ai.out HB.out)))
  go_ret
  exact ⟨er, bw⟩
 ·rw [if_neg c3] at H
  have ao : (a3 == a1) = false := by simpa using c3
  (try (have an : decide (a3 = a1) = false := by simpa using c3))
  (try (have am : (a3 == a1) = false := by simpa using c3))
  (try (have c3b3 : ¬ (a3 = a1) := by simpa using c3))
  clear c3
  obtain rfl := Option.some.inj H
  go_enter Try.func35, Try.ntmps35
  go_wp2_with (first | ((with_reducible refine gd 2 rfl ?_); refine bX 2 rfl HB #[.bool a3, .slice a8 a4.length ab] 24 ?_; intro ag w11 a0 ah hg hb; replace HB := hB HB hb; clear hb hg) | ((with_reducible refine gd 3 rfl ?_); refine bX 3 rfl HB #[.bool a1, .slice a7 a5.length aa] 24 ?_; intro aj w12 a9 ak hg hb; obtain ⟨a2, a6⟩ := nB a0 hg; replace a0 := kB a0 hb; replace HB := hB HB hb; clear hb hg; have hn13 := nn a2; have ap := zf2 a0; have ar := zf2 a9))
  go_ret
  exact ⟨er, bw⟩
end Go.Proofs.Ytfjbhccapgnkiaa.P
namespace Go.Proofs.Ytfjbhccapgnkiaa.P
open Go.RowKit Go.Proofs.YtfjbhccapgnkiaaW.PrintWords Go.Proofs.YtfjbhccapgnkiaaW.PrintLast Go.Proofs.YtfjbhccapgnkiaaW.PrintMore
attribute [local go_sem] max2_int min2_int max_two min_two max_three min_three max_four min_four
set_option linter.unusedVariables false
set_option maxHeartbeats 16000000
set_option maxRecDepth 100000
set_option linter.unusedSimpArgs false
/-! ### lapidaryref02_less: function 84 -/
def lapidaryref02_less.l0 : Nat → List Int → List Int → List Int → Int → Int → Option (List Int)
 | 0, _, _, _, _, _ => none
 | k + 1, x0, x1, x5, x6, x7 => if x7 < (x0.length : Int) then ((lapidaryref02_at.f x0 x7).bind fun a0 => ((lapidaryref02_at.f x1 x7).bind fun a1 => (if (wrap64 ((wrap64 (a0 - a1)) - x6)) < 0 then (if x5.length < 140737488355328 then (lapidaryref02_less.l0 k x0 x1 (x5 ++ [(wrap64 ((wrap64 ((wrap64 (a0 - a1)) - x6)) + 256)) % 256]) 1 (wrap64 (x7 + 1))) else (none)) else (if x5.length < 140737488355328 then (lapidaryref02_less.l0 k x0 x1 (x5 ++ [(wrap64 ((wrap64 (a0 - a1)) - x6)) % 256]) 0 (wrap64 (x7 + 1))) else (none))))) else ((lapidaryref02_turned.f k x5).bind fun a2 => (some a2))
def lapidaryref02_less.f (k : Nat) (l0 : List Int) (l1 : List Int) : Option (List Int) := lapidaryref02_less.l0 k l0 l1 ([] : List Int) 0 0
theorem lapidaryref02_less.mono_l : ∀ k, (∀ y0 y1 y2 y3 y4, LeO (lapidaryref02_less.l0 k y0 y1 y2 y3 y4) (lapidaryref02_less.l0 (k + 1) y0 y1 y2 y3 y4))
 | 0 => fun _ _ _ _ _ r h => by simp [lapidaryref02_less.l0] at h
 | k + 1 => by
  have a0 := lapidaryref02_less.mono_l k
  ·intro y0 y1 y2 y3 y4
   unfold lapidaryref02_less.l0
   repeat' first | with_reducible exact a0 _ _ _ _ _ | with_reducible exact lapidaryref02_turned.mono _ _ | with_reducible exact LeO.refl _ | with_reducible exact LeO.none _ | with_reducible refine LeO.ite ?_ ?_ | with_reducible refine LeO.bind ?_ (fun _ => ?_) | exact a0 _ _ _ _ _ | exact lapidaryref02_turned.mono _ _ | exact LeO.none _ | refine LeO.ite ?_ ?_ | refine LeO.bind ?_ (fun _ => ?_)
theorem lapidaryref02_less.mono : ∀ a0 a1 k, LeO (lapidaryref02_less.f k a0 a1) (lapidaryref02_less.f (k + 1) a0 a1) := by
 intro a0 a1 k
 have a2 := lapidaryref02_less.mono_l k
 unfold lapidaryref02_less.f
 repeat' first | with_reducible exact a2 _ _ _ _ _ | with_reducible exact lapidaryref02_turned.mono _ _ | with_reducible exact LeO.refl _ | with_reducible exact LeO.none _ | with_reducible refine LeO.ite ?_ ?_ | with_reducible refine LeO.bind ?_ (fun _ => ?_) | exact a2 _ _ _ _ _ | exact lapidaryref02_turned.mono _ _ | exact LeO.none _ | refine LeO.ite ?_ ?_ | refine LeO.bind ?_ (fun _ => ?_)
theorem lapidaryref02_less.calls (k : Nat) (A0 : Option Addr) (c0 : Nat) (l0 : List Int) (A1 : Option Addr) (c1 : Nat) (l1 : List Int) (r : List Int) (w : World) (aw : Kd.C (Kd.int .u8) w A0 l0.length l0) (aq : l0.length ≤ c0) (au : Kd.C (Kd.int .u8) w A1 l1.length l1) (ao : l1.length ≤ c1) (h : lapidaryref02_less.f k l0 l1 = some r) :
  Calls Try.prog 84 #[.slice A0 l0.length c0, .slice A1 l1.length c1] w fun e w' => ∃ ar : Value, e = .returned (ar) ∧ Kd.R (Kd.int .u8) 5 w' w.heap.size (fun _ => True) ar r ∧ Below w.heap.size w w' := by
 have an := Aside0.mk aw
 have ap := Aside0.mk aq
 clear aw aq
 have av := Aside0.mk au
 have am := Aside0.mk ao
 clear au ao
 have HB := Aside0.mk (Below.refl w.heap.size w)
 have H : (lapidaryref02_less.l0 k l0 l1 ([] : List Int) 0 0) = some r := h
 clear h
 have H' := Aside0.mk H
 clear H
 go_enter Try.func84, Try.ntmps84
 go_wp2
 go_loopg [5, 6, 7] k (fun kq v5 v6 v7 w' => ∃ (a3 : List Int) (a1 : Int) (a0 : Int), v6 = .int .i64 a1 ∧ v7 = .int .i64 a0 ∧ Aside0 (lapidaryref02_less.l0 kq l0 l1 a3 a1 a0 = some r) ∧ Aside0 (kq ≤ k) ∧ Aside0 (Kd.R (Kd.int .u8) 5 w' w.heap.size (fun _ => True) v5 a3) ∧ Aside0 (Below w.heap.size w w'))
 case atStart => exact ⟨(([] : List Int)), (0), (0), sd, sd, H', ⟨Nat.le_refl _⟩, ⟨nl⟩, ⟨bw⟩⟩
 case round =>
  clear H'
  try clear c1
  obtain ⟨a3, a1, a0, rfl, rfl, HA, ac, a5, HB⟩ := hrel
  cases gk with
  | zero => exact absurd HA.out (by simp [lapidaryref02_less.l0])
  | succ k1 =>
   have H := HA.out
   clear HA
   simp only [lapidaryref02_less.l0] at H
   by_cases c3 : a0 < (l0.length : Int)
   ·rw [if_pos c3] at H
    have ah : decide (a0 < (l0.length : Int)) = true := decide_eq_true c3
    clear c3
    obtain ⟨a2, A4, H⟩ := bs H
    obtain ⟨a4, A5, H⟩ := bs H
    by_cases c6 : (wrap64 ((wrap64 (a2 - a4)) - a1)) < 0
    ·rw [if_pos c6] at H
     have al : decide ((wrap64 ((wrap64 (a2 - a4)) - a1)) < 0) = true := decide_eq_true c6
     clear c6
     by_cases c7 : a3.length < 140737488355328
     ·rw [if_pos c7] at H
      have ad := Aside0.mk c7
      clear c7
      obtain ⟨y266, hy266⟩ : ∃ y_ : List Int, y_ = (a3 ++ [(wrap64 ((wrap64 ((wrap64 (a2 - a4)) - a1)) + 256)) % 256]) := ⟨_, rfl⟩
      replace H : (lapidaryref02_less.l0 k1 l0 l1 y266 1 (wrap64 (a0 + 1))) = some r := by first | (rw [hy266]; with_reducible exact H) | (have a6 := (Option.bind_some _ _).symm.trans H; rw [hy266]; with_reducible exact a6) | (have a6 := (Option.bind_some _ _).symm.trans H; with_reducible exact a6) | with_reducible exact H | (rw [hy266]; exact H) | exact H
      have a9 := Aside0.mk hy266
      clear hy266
      have H' := Aside0.mk H
      clear H
      go_wp2_with (first | ((with_reducible refine ga 78 rfl ?_); refine gc (some 17) Try.func78 #[.slice A0 l0.length c0, .int .i64 a0] (lapidaryref02_at.calls _ _ l0 a0 a2 _ (cb an HB) ap.out A4.out) ?_; rintro e w' ⟨rfl, ⟨nd, rfl⟩⟩; refine ⟨_, rfl, ?_⟩) | ((with_reducible refine ga 78 rfl ?_); refine gc (some 20) Try.func78 #[.slice A1 l1.length c1, .int .i64 a0] (lapidaryref02_at.calls _ _ l1 a0 a4 _ (cb av HB) am.out A5.out) ?_; rintro e w' ⟨rfl, ⟨nd, rfl⟩⟩; refine ⟨_, rfl, ?_⟩) | ((with_reducible refine gate_builtin (b := .append) (xs := #[.tmp 28, .tmp 31]) rfl ?_); at_builtin; refine Kd.R_append (Kd.int .u8) (w0 := w) w.heap.size rfl (.tmp 28) (.tmp 31) 22 5 (.int .u8 0) 1 rfl Try.underlying22 info5 rfl (by decide) (by omega) u5 a3 ((wrap64 ((wrap64 ((wrap64 (a2 - a4)) - a1)) + 256)) % 256) [.int .u8 ((wrap64 ((wrap64 ((wrap64 (a2 - a4)) - a1)) + 256)) % 256)] (fun _ => True) (fun _ => False) rfl rfl ?aP (fun _ hk => hk.elim) ?aF ?aO ?aB ?aS ?aL ?_; (case aP => exact rfl); (case aB => exact bw); (case aF => exact (fun _ _ => trivial)); (case aO => exact (rb a5)); (case aS => exact (sz HB)); (case aL => have := ad.out; omega); intro v267 w8 ho hb hg hat; rw [← a9.out] at ho; have ab := Aside0.mk ho; replace HB := Aside0.mk hb; clear a5; clear ho hb hg hat))
      go_roundg k1
      case measure => have := ac.out; omega
      case rel => exact ⟨(y266), (1), (wrap64 (a0 + 1)), sd, sd, H', ⟨by have := ac.out; omega⟩, ⟨rb ab⟩, ⟨bw⟩⟩
     ·rw [if_neg c7] at H
      exact absurd H (by simp)
    ·rw [if_neg c6] at H
     have al : decide ((wrap64 ((wrap64 (a2 - a4)) - a1)) < 0) = false := decide_eq_false c6
     clear c6
     by_cases c9 : a3.length < 140737488355328
     ·rw [if_pos c9] at H
      have ag := Aside0.mk c9
      clear c9
      obtain ⟨y269, hy269⟩ : ∃ y_ : List Int, y_ = (a3 ++ [(wrap64 ((wrap64 (a2 - a4)) - a1)) % 256]) := ⟨_, rfl⟩
      replace H : (lapidaryref02_less.l0 k1 l0 l1 y269 0 (wrap64 (a0 + 1))) = some r := by first | (rw [hy269]; with_reducible exact H) | (have a6 := (Option.bind_some _ _).symm.trans H; rw [hy269]; with_reducible exact a6) | (have a6 := (Option.bind_some _ _).symm.trans H; with_reducible exact a6) | with_reducible exact H | (rw [hy269]; exact H) | exact H
      have a7 := Aside0.mk hy269
      clear hy269
      have H' := Aside0.mk H
      clear H
      go_wp2_with (first | ((with_reducible refine ga 78 rfl ?_); refine gc (some 17) Try.func78 #[.slice A0 l0.length c0, .int .i64 a0] (lapidaryref02_at.calls _ _ l0 a0 a2 _ (cb an HB) ap.out A4.out) ?_; rintro e w' ⟨rfl, ⟨nd, rfl⟩⟩; refine ⟨_, rfl, ?_⟩) | ((with_reducible refine ga 78 rfl ?_); refine gc (some 20) Try.func78 #[.slice A1 l1.length c1, .int .i64 a0] (lapidaryref02_at.calls _ _ l1 a0 a4 _ (cb av HB) am.out A5.out) ?_; rintro e w' ⟨rfl, ⟨nd, rfl⟩⟩; refine ⟨_, rfl, ?_⟩) | ((with_reducible refine gate_builtin (b := .append) (xs := #[.tmp 28, .tmp 31]) rfl ?_); at_builtin; refine Kd.R_append (Kd.int .u8) (w0 := w) w.heap.size rfl (.tmp 28) (.tmp 31) 22 5 (.int .u8 0) 1 rfl Try.underlying22 info5 rfl (by decide) (by omega) u5 a3 ((wrap64 ((wrap64 (a2 - a4)) - a1)) % 256) [.int .u8 ((wrap64 ((wrap64 (a2 - a4)) - a1)) % 256)] (fun _ => True) (fun _ => False) rfl rfl ?aP (fun _ hk => hk.elim) ?aF ?aO ?aB ?aS ?aL ?_; (case aP => exact rfl); (case aB => exact bw); (case aF => exact (fun _ _ => trivial)); (case aO => exact (rb a5)); (case aS => exact (sz HB)); (case aL => have := ag.out; omega); intro v270 w10 ho hb hg hat; rw [← a7.out] at ho; have a8 := Aside0.mk ho; replace HB := Aside0.mk hb; clear a5; clear ho hb hg hat))
      go_roundg k1
      case measure => have := ac.out; omega
      case rel => exact ⟨(y269), (0), (wrap64 (a0 + 1)), sd, sd, H', ⟨by have := ac.out; omega⟩, ⟨rb a8⟩, ⟨bw⟩⟩
     ·rw [if_neg c9] at H
      exact absurd H (by simp)
   ·rw [if_neg c3] at H
    have ah : decide (a0 < (l0.length : Int)) = false := decide_eq_false c3
    clear c3
    obtain ⟨aj, A11, H⟩ := bs H
    obtain rfl := Option.some.inj H
    obtain ⟨ak, ai, ae⟩ := sl a5; cases ae
    go_wp2_with (first | ((with_reducible refine ga 94 rfl ?_); refine gc (some 34) Try.func94 #[.slice ak a3.length ai] (lapidaryref02_turned.calls k1 _ _ a3 aj _ (cr a5) (rl a5) A11.out) ?_; rintro e w13 ⟨v262, rfl, af, hb⟩; refine ⟨_, rfl, ?_⟩; have aa := rL HB (rn af a5); replace a5 := rE a5 af hb; replace HB := hB HB hb; clear hb af))
    go_ret
    exact ⟨_, er, by (with_reducible repeat (first | apply Kd.R_alloc | apply Kd.R_drewN | apply Kd.R_drew)); exact Kd.R_mono aa.out (fun _ hk => trivial), bw⟩
/-! ### lapidaryref02_cmp: function 83 -/
def lapidaryref02_cmp.l0 : Nat → List Int → List Int → Int → Option (Int)
 | 0, _, _, _ => none
 | k + 1, x0, x1, x5 => if x5 < (x0.length : Int) then (if 0 ≤ x5 then (if x5 < (x1.length : Int) then (if (rd x0 x5) = (rd x1 x5) then (lapidaryref02_cmp.l0 k x0 x1 (wrap64 (x5 + 1))) else (some (wrap64 ((wrap64 (rd x0 x5)) - (wrap64 (rd x1 x5)))))) else (none)) else (none)) else (some 0)
def lapidaryref02_cmp.f (k : Nat) (l0 : List Int) (l1 : List Int) : Option (Int) := if (l0.length : Int) = (l1.length : Int) then (lapidaryref02_cmp.l0 k l0 l1 0) else (some (wrap64 ((l0.length : Int) - (l1.length : Int))))
theorem lapidaryref02_cmp.mono_l : ∀ k, (∀ y0 y1 y2, LeO (lapidaryref02_cmp.l0 k y0 y1 y2) (lapidaryref02_cmp.l0 (k + 1) y0 y1 y2))
 | 0 => fun _ _ _ r h => by simp [lapidaryref02_cmp.l0] at h
 | k + 1 => by
  have a0 := lapidaryref02_cmp.mono_l k
  ·intro y0 y1 y2
   unfold lapidaryref02_cmp.l0
   repeat' first | with_reducible exact a0 _ _ _ | with_reducible exact LeO.refl _ | with_reducible exact LeO.none _ | with_reducible refine LeO.ite ?_ ?_ | with_reducible refine LeO.bind ?_ (fun _ => ?_) | exact a0 _ _ _ | exact LeO.none _ | refine LeO.ite ?_ ?_ | refine LeO.bind ?_ (fun _ => ?_)
theorem lapidaryref02_cmp.mono : ∀ a0 a1 k, LeO (lapidaryref02_cmp.f k a0 a1) (lapidaryref02_cmp.f (k + 1) a0 a1) := by
 intro a0 a1 k
 have a2 := lapidaryref02_cmp.mono_l k
 unfold lapidaryref02_cmp.f
 repeat' first | with_reducible exact a2 _ _ _ | with_reducible exact LeO.refl _ | with_reducible exact LeO.none _ | with_reducible refine LeO.ite ?_ ?_ | with_reducible refine LeO.bind ?_ (fun _ => ?_) | exact a2 _ _ _ | exact LeO.none _ | refine LeO.ite ?_ ?_ | refine LeO.bind ?_ (fun _ => ?_)
theorem lapidaryref02_cmp.calls (k : Nat) (A0 : Option Addr) (c0 : Nat) (l0 : List Int) (A1 : Option Addr) (c1 : Nat) (l1 : List Int) (r : Int) (w : World) (az : Kd.C (Kd.int .u8) w A0 l0.length l0) (ax : l0.length ≤ c0) (ay : Kd.C (Kd.int .u8) w A1 l1.length l1) (aw : l1.length ≤ c1) (h : lapidaryref02_cmp.f k l0 l1 = some r) :
  Calls Try.prog 83 #[.slice A0 l0.length c0, .slice A1 l1.length c1] w fun e w' => e = .returned (.int .i64 r) ∧ Drawn0 w w' := by
 have aq := Aside0.mk az
 have HC0 := Aside0.mk ax
 clear az ax
 have au := Aside0.mk ay
 have HC1 := Aside0.mk aw
 clear ay aw
 have H : (if (l0.length : Int) = (l1.length : Int) then (lapidaryref02_cmp.l0 k l0 l1 0) else (some (wrap64 ((l0.length : Int) - (l1.length : Int))))) = some r := h
 clear h
 by_cases c3 : (l0.length : Int) = (l1.length : Int)
 ·rw [if_pos c3] at H
  have ah : ((l0.length : Int) == (l1.length : Int)) = true := beq_iff_eq.mpr c3
  have ag : ((l0.length : Int) != (l1.length : Int)) = false := bne_eq_false_iff_eq.mpr c3
  have af : (l0.length == l1.length) = true := by first | simpa using c3 | (simp at c3 ⊢; omega)
  clear c3
  have H' := Aside0.mk H
  clear H
  go_enter Try.func83, Try.ntmps83
  go_wp2
  repeat (go_quiet (fail); try go_wp2)
  go_loopg [5] k (fun kq v5 w' => ∃ (a0 : Int), v5 = .int .i64 a0 ∧ Aside0 (lapidaryref02_cmp.l0 kq l0 l1 a0 = some r) ∧ Aside0 (kq ≤ k) ∧ Drawn0 w w')
  case atStart => exact ⟨(0), sd, H', ⟨Nat.le_refl _⟩, by repeat (first | exact Drawn0.refl _ | apply Drawn0.step)⟩
  case round =>
   clear H'
   try clear c1
   try clear c3
   try clear ah
   try clear ag
   try clear af
   obtain ⟨a0, rfl, HA, av, ⟨m1, rfl⟩⟩ := hrel
   cases gk with
   | zero => exact absurd HA.out (by simp [lapidaryref02_cmp.l0])
   | succ k1 =>
    have H := HA.out
    clear HA
    simp only [lapidaryref02_cmp.l0] at H
    by_cases c4 : a0 < (l0.length : Int)
    ·rw [if_pos c4] at H
     have ap : decide (a0 < (l0.length : Int)) = true := decide_eq_true c4
     clear c4
     by_cases c5 : 0 ≤ a0
     ·rw [if_pos c5] at H
      have c5b0 : decide (0 ≤ a0) = true := decide_eq_true c5
      clear c5
      by_cases c6 : a0 < (l1.length : Int)
      ·rw [if_pos c6] at H
       have c6b0 : decide (a0 < (l1.length : Int)) = true := decide_eq_true c6
       clear c6
       by_cases c7 : (rd l0 a0) = (rd l1 a0)
       ·rw [if_pos c7] at H
        have am : ((rd l0 a0) == (rd l1 a0)) = true := beq_iff_eq.mpr c7
        have ao : ((rd l0 a0) != (rd l1 a0)) = false := bne_eq_false_iff_eq.mpr c7
        clear c7
        have H' := Aside0.mk H
        clear H
        have a3 : 0 ≤ (a0 : Int) := of_decide_eq_true asm
        have a2 : a0 < (l0.length : Int) := of_decide_eq_true asm
        obtain ⟨a8, a9, a6⟩ := Kd.at_int aq.out a0 a3 a2
        cases a9
        replace a3 := eq_true a3
        replace a2 := eq_true a2
        have a1 : 0 ≤ (a0 : Int) := of_decide_eq_true asm
        have a4 : a0 < (l1.length : Int) := of_decide_eq_true asm
        obtain ⟨a7, ae, a5⟩ := Kd.at_int au.out a0 a1 a4
        cases ae
        replace a1 := eq_true a1
        replace a4 := eq_true a4
        go_wp2
        repeat (go_quiet (fail); try go_wp2)
        go_roundg k1
        case measure => have := av.out; omega
        case rel => exact ⟨(wrap64 (a0 + 1)), sd, H', ⟨by have := av.out; omega⟩, by repeat (first | exact Drawn0.refl _ | apply Drawn0.step)⟩
       ·rw [if_neg c7] at H
        have am : ((rd l0 a0) == (rd l1 a0)) = false := beq_eq_false_iff_ne.mpr c7
        have ao : ((rd l0 a0) != (rd l1 a0)) = true := bne_iff_ne.mpr c7
        obtain rfl := Option.some.inj H
        have a3 : 0 ≤ (a0 : Int) := of_decide_eq_true asm
        have a2 : a0 < (l0.length : Int) := of_decide_eq_true asm
        obtain ⟨a8, a9, a6⟩ := Kd.at_int aq.out a0 a3 a2
        cases a9
        replace a3 := eq_true a3
        replace a2 := eq_true a2
        have a1 : 0 ≤ (a0 : Int) := of_decide_eq_true asm
        have a4 : a0 < (l1.length : Int) := of_decide_eq_true asm
        obtain ⟨a7, ae, a5⟩ := Kd.at_int au.out a0 a1 a4
        cases ae
        replace a1 := eq_true a1
        replace a4 := eq_true a4
        have ab : 0 ≤ (a0 : Int) := of_decide_eq_true asm
        have ad : a0 < (l0.length : Int) := of_decide_eq_true asm
        obtain ⟨ai, ar, ak⟩ := Kd.at_int aq.out a0 ab ad
        obtain rfl : a8 = ai := (by injection ar)
        replace ab := eq_true ab
        replace ad := eq_true ad
        have ac : 0 ≤ (a0 : Int) := of_decide_eq_true asm
        have aa : a0 < (l1.length : Int) := of_decide_eq_true asm
        obtain ⟨aj, an, al⟩ := Kd.at_int au.out a0 ac aa
        obtain rfl : a7 = aj := (by injection an)
        replace ac := eq_true ac
        replace aa := eq_true aa
        go_wp2
        repeat (go_quiet (fail); try go_wp2)
        go_ret
        exact ⟨sd, by repeat (first | exact Drawn0.refl _ | apply Drawn0.step)⟩
      ·rw [if_neg c6] at H
       exact absurd H (by simp)
     ·rw [if_neg c5] at H
      exact absurd H (by simp)
    ·rw [if_neg c4] at H
     have ap : decide (a0 < (l0.length : Int)) = false := decide_eq_false c4
     clear c4
     obtain rfl := Option.some.inj H
     go_wp2
     repeat (go_quiet (fail); try go_wp2)
     go_ret
     exact ⟨sd, by repeat (first | exact Drawn0.refl _ | apply Drawn0.step)⟩
 ·rw [if_neg c3] at H
  have ah : ((l0.length : Int) == (l1.length : Int)) = false := beq_eq_false_iff_ne.mpr c3
  have ag : ((l0.length : Int) != (l1.length : Int)) = true := bne_iff_ne.mpr c3
  have af : (l0.length == l1.length) = false := by first | simpa using c3 | (simp at c3 ⊢; omega)
  obtain rfl := Option.some.inj H
  go_enter Try.func83, Try.ntmps83
  go_wp2
  repeat (go_quiet (fail); try go_wp2)
  go_ret
  exact ⟨sd, by repeat (first | exact Drawn0.refl _ | apply Drawn0.step)⟩
end Go.Proofs.Ytfjbhccapgnkiaa.P
