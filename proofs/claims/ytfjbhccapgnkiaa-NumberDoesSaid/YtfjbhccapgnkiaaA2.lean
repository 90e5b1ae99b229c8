import Derived.Test.YtfjbhccapgnkiaaZ2
namespace Go.Proofs.Ytfjbhccapgnkiaa.P
open Go.RowKit Go.Proofs.YtfjbhccapgnkiaaW.PrintWords Go.Proofs.YtfjbhccapgnkiaaW.PrintLast Go.Proofs.YtfjbhccapgnkiaaW.PrintMore
attribute [local go_sem] max2_int min2_int max_two min_two max_three min_three max_four min_four
set_option linter.unusedVariables false
set_option maxHeartbeats 16000000
set_option maxRecDepth 100000
set_option linter.unusedSimpArgs false
/-! ### whole_Right: function 39 -/
def whole_Right.f (a1 : Bool) (a0 : List Int) : Option (Bool) := if (a0.length : Int) = 0 then (some (!a1)) else (if 0 < (a0.length : Int) then (if (rd a0 0) = 0 then (some false) else (some (decide ((a0.length : Int) ≤ 128)))) else (none))
theorem whole_Right.calls (a5 : Bool) (a6 : Option Addr) (a7 : Nat) (a0 : List Int) (r : Bool) (w : World) (a8 : Kd.C (Kd.int .u8) w a6 a0.length a0) (aa : a0.length ≤ a7) (h : whole_Right.f a5 a0 = some r) :
  Calls Try.prog 39 #[.agg #[.bool a5, .slice a6 a0.length a7]] w fun e w' => e = .returned (.bool r) ∧ Below w.heap.size w w' := by
 have hu25 := Try.underlying25
 have ac := Aside0.mk a8
 have al := Aside0.mk aa
 clear a8 aa
 have HB := Aside0.mk (Below.refl w.heap.size w)
 have H : (if (a0.length : Int) = 0 then (some (!a5)) else (if 0 < (a0.length : Int) then (if (rd a0 0) = 0 then (some false) else (some (decide ((a0.length : Int) ≤ 128)))) else (none))) = some r := h
 clear h
 by_cases c2 : (a0.length : Int) = 0
 ·rw [if_pos c2] at H
  have ah : ((a0.length : Int) == 0) = true := beq_iff_eq.mpr c2
  have ag : ((a0.length : Int) != 0) = false := bne_eq_false_iff_eq.mpr c2
  clear c2
  obtain rfl := Option.some.inj H
  go_enter Try.func39, Try.ntmps39
  go_wp2_with (first | ((with_reducible refine gd 1 rfl ?_); refine bX 1 rfl HB #[.bool a5, .slice a6 a0.length a7] 25 ?_; intro ab w3 a2 a9 hg hb; replace HB := hB HB hb; clear hb hg; have hcz4 := zf2 a2))
  go_ret
  exact ⟨er, bw⟩
 ·rw [if_neg c2] at H
  have ah : ((a0.length : Int) == 0) = false := beq_eq_false_iff_ne.mpr c2
  have ag : ((a0.length : Int) != 0) = true := bne_iff_ne.mpr c2
  have c2b2 : ¬ (a0 = []) := fun h_ => c2 (by rw [h_]; rfl)
  by_cases c5 : 0 < (a0.length : Int)
  ·rw [if_pos c5] at H
   have c5b0 : decide (0 < (a0.length : Int)) = true := decide_eq_true c5
   have c5b1 : decide (0 < a0.length) = true := decide_eq_true (by omega)
   clear c5
   by_cases c6 : (rd a0 0) = 0
   ·rw [if_pos c6] at H
    have aj : ((rd a0 0) == 0) = true := beq_iff_eq.mpr c6
    have ai : ((rd a0 0) != 0) = false := bne_eq_false_iff_eq.mpr c6
    clear c6
    obtain rfl := Option.some.inj H
    go_enter Try.func39, Try.ntmps39
    go_wp2_with (first | ((with_reducible refine gd 1 rfl ?_); refine bX 1 rfl HB #[.bool a5, .slice a6 a0.length a7] 25 ?_; intro ab w7 a2 a9 hg hb; replace HB := hB HB hb; clear hb hg; have hcz8 := zf2 a2; have a3 : 0 ≤ (0 : Int) := (by omega); have a4 : 0 < (a0.length : Int) := of_decide_eq_true asm; obtain ⟨ae, ad, a1⟩ := Kd.at_int ac.out 0 a3 a4; cases ad; have af : (0 < a0.length) = True := eq_true (by omega); (try rw [show ((0 : Int)).toNat = 0 from rfl] at a1); (try rw [Addr.add_zero'] at a1); replace a1 := (HB.out.cell (World.block_lt_of_cell? w _ a1)).trans a1; replace a3 := eq_true a3; replace a4 := eq_true a4))
    go_ret
    exact ⟨er, bw⟩
   ·rw [if_neg c6] at H
    have aj : ((rd a0 0) == 0) = false := beq_eq_false_iff_ne.mpr c6
    have ai : ((rd a0 0) != 0) = true := bne_iff_ne.mpr c6
    obtain rfl := Option.some.inj H
    go_enter Try.func39, Try.ntmps39
    go_wp2_with (first | ((with_reducible refine gd 1 rfl ?_); refine bX 1 rfl HB #[.bool a5, .slice a6 a0.length a7] 25 ?_; intro ab w9 a2 a9 hg hb; replace HB := hB HB hb; clear hb hg; have ak := zf2 a2; have a3 : 0 ≤ (0 : Int) := (by omega); have a4 : 0 < (a0.length : Int) := of_decide_eq_true asm; obtain ⟨ae, ad, a1⟩ := Kd.at_int ac.out 0 a3 a4; cases ad; have af : (0 < a0.length) = True := eq_true (by omega); (try rw [show ((0 : Int)).toNat = 0 from rfl] at a1); (try rw [Addr.add_zero'] at a1); replace a1 := (HB.out.cell (World.block_lt_of_cell? w _ a1)).trans a1; replace a3 := eq_true a3; replace a4 := eq_true a4))
    go_ret
    exact ⟨er, bw⟩
  ·rw [if_neg c5] at H
   exact absurd H (by simp)
/-! ### whole_wordsOf: function 75 -/
mutual
def whole_wordsOf.l0 : Nat → List Int → List Int → Option (List Int)
 | 0, _, _ => none
 | k + 1, x0, x3 => if (x0.length : Int) > 0 then (if 0 ≤ (mx 0 (wrap64 ((x0.length : Int) - 4))) then (if (mx 0 (wrap64 ((x0.length : Int) - 4))) ≤ (x0.length : Int) then ((some (x0.drop ((mx 0 (wrap64 ((x0.length : Int) - 4))) : Int).toNat : List Int)).bind fun a0 => (whole_wordsOf.l1 k x0 x3 (mx 0 (wrap64 ((x0.length : Int) - 4))) 0 a0 (a0.length : Int) 0)) else (none)) else (none)) else (some x3)
def whole_wordsOf.l1 : Nat → List Int → List Int → Int → Int → List Int → Int → Int → Option (List Int)
 | 0, _, _, _, _, _, _, _ => none
 | k + 1, x0, x3, x4, x5, a1, a2, a0 => if a0 < a2 then (if 0 ≤ a0 then (if a0 < (a1.length : Int) then (whole_wordsOf.l1 k x0 x3 x4 (Go.bits .or .u32 ((x5 * 256) % 4294967296) ((rd a1 a0) % 4294967296)) a1 a2 (wrap64 (a0 + 1))) else (none)) else (none)) else (if x3.length < 35184372088832 then (if 0 ≤ x4 then (if x4 ≤ (x0.length : Int) then (whole_wordsOf.l0 k (x0.take (x4 : Int).toNat) (x3 ++ [x5])) else (none)) else (none)) else (none))
end
def whole_wordsOf.f (k : Nat) (l0 : List Int) : Option (List Int) := whole_wordsOf.l0 k l0 ([] : List Int)
theorem whole_wordsOf.mono_l : ∀ k, (∀ y0 y1, LeO (whole_wordsOf.l0 k y0 y1) (whole_wordsOf.l0 (k + 1) y0 y1)) ∧ (∀ y0 y1 y2 y3 y4 y5 y6, LeO (whole_wordsOf.l1 k y0 y1 y2 y3 y4 y5 y6) (whole_wordsOf.l1 (k + 1) y0 y1 y2 y3 y4 y5 y6))
 | 0 => ⟨fun _ _ r h => by simp [whole_wordsOf.l0] at h, fun _ _ _ _ _ _ _ r h => by simp [whole_wordsOf.l1] at h⟩
 | k + 1 => by
  obtain ⟨a0, a1⟩ := whole_wordsOf.mono_l k
  refine ⟨?_, ?_⟩
  ·intro y0 y1
   unfold whole_wordsOf.l0
   repeat' first | with_reducible exact a0 _ _ | with_reducible exact a1 _ _ _ _ _ _ _ | with_reducible exact LeO.refl _ | with_reducible exact LeO.none _ | with_reducible refine LeO.ite ?_ ?_ | with_reducible refine LeO.bind ?_ (fun _ => ?_) | exact a0 _ _ | exact a1 _ _ _ _ _ _ _ | exact LeO.none _ | refine LeO.ite ?_ ?_ | refine LeO.bind ?_ (fun _ => ?_)
  ·intro y0 y1 y2 y3 y4 y5 y6
   unfold whole_wordsOf.l1
   repeat' first | with_reducible exact a0 _ _ | with_reducible exact a1 _ _ _ _ _ _ _ | with_reducible exact LeO.refl _ | with_reducible exact LeO.none _ | with_reducible refine LeO.ite ?_ ?_ | with_reducible refine LeO.bind ?_ (fun _ => ?_) | exact a0 _ _ | exact a1 _ _ _ _ _ _ _ | exact LeO.none _ | refine LeO.ite ?_ ?_ | refine LeO.bind ?_ (fun _ => ?_)
theorem whole_wordsOf.mono : ∀ a0 k, LeO (whole_wordsOf.f k a0) (whole_wordsOf.f (k + 1) a0) := by
 intro a0 k
 obtain ⟨a2, a1⟩ := whole_wordsOf.mono_l k
 unfold whole_wordsOf.f
 repeat' first | with_reducible exact a2 _ _ | with_reducible exact a1 _ _ _ _ _ _ _ | with_reducible exact LeO.refl _ | with_reducible exact LeO.none _ | with_reducible refine LeO.ite ?_ ?_ | with_reducible refine LeO.bind ?_ (fun _ => ?_) | exact a2 _ _ | exact a1 _ _ _ _ _ _ _ | exact LeO.none _ | refine LeO.ite ?_ ?_ | refine LeO.bind ?_ (fun _ => ?_)
def whole_wordsOf.T10 : Bool × List (List Nat × List Nat) := (true, [([], []), ([], []), ([1], [1]), ([0, 2], [0, 2]), ([], []), ([], []), ([4, 5], [4, 5]), ([3, 3, 0, 1, 2, 3], [0, 3]), ([6, 7, 0, 1, 2, 3, 4, 5, 6, 7], [4, 6])])
def whole_wordsOf.B10 : List Nat := [0, 0, 2, 7, 0, 0, 48, 15, 255]
theorem whole_wordsOf.tab10 : rtab .any (opsOf Try.f75 10) = whole_wordsOf.T10 := by kernel_rfl
theorem whole_wordsOf.bits10 : waitsOk whole_wordsOf.T10.2 whole_wordsOf.B10 = true := by kernel_rfl
theorem whole_wordsOf.calls (k : Nat) (ag : Nat → Prop) (A0 : Option Addr) (c0 : Nat) (l0 : List Int) (r : List Int) (w : World) (hs0 : Kd.V (Kd.int .u8) 5 w w.heap.size (fun k_ => ag k_) (.slice A0 l0.length c0) l0) (h : whole_wordsOf.f k l0 = some r) :
  Calls Try.prog 75 #[.slice A0 l0.length c0] w fun e w' => ∃ b9 : Value, e = .returned (b9) ∧ Kd.R (Kd.int .u32) 118 w' w.heap.size (fun k_ => (w.heap.size ≤ k_)) b9 r ∧ Below w.heap.size w w' := by
 have HO0 := Aside0.mk (show Kd.V (Kd.int .u8) 5 w w.heap.size (fun k_ => (ag k_ ∨ w.heap.size ≤ k_)) (.slice A0 l0.length c0) l0 from Kd.V_mono hs0 (fun k_ hk => .inl hk))
 have HB := Aside0.mk (Below.refl w.heap.size w)
 have H : (whole_wordsOf.l0 k l0 ([] : List Int)) = some r := h
 clear h
 have H' := Aside0.mk H
 clear H
 go_enter Try.func75, Try.ntmps75
 go_wp2
 go_loopg [0, 3] k (fun kq v0 v3 w' => ∃ (a0 : List Int) (a6 : List Int), Aside0 (whole_wordsOf.l0 kq a0 a6 = some r) ∧ Aside0 (kq ≤ k) ∧ Aside0 (Kd.V (Kd.int .u8) 5 w' w.heap.size (fun k_ => (ag k_ ∨ w.heap.size ≤ k_) ∧ some k_ ≠ (v3 : Value).ownBlock) v0 a0) ∧ Aside0 (Kd.R (Kd.int .u32) 118 w' w.heap.size (fun k_ => (w.heap.size ≤ k_)) v3 a6) ∧ Aside0 (Below w.heap.size w w'))
 case atStart => exact ⟨(l0), (([] : List Int)), H', ⟨Nat.le_refl _⟩, ⟨by (with_reducible repeat (first | apply Kd.V_alloc | apply Kd.V_drewN | apply Kd.V_drew)); exact Kd.V_mono HO0.out (fun _ hk => ⟨hk, (by simp [Value.ownBlock])⟩)⟩, ⟨nl⟩, ⟨bw⟩⟩
 case round =>
  clear H'
  obtain ⟨a0, a6, HA, aK, a4, a8, HB⟩ := hrel
  cases gk with
  | zero => exact absurd HA.out (by simp [whole_wordsOf.l0])
  | succ k1 =>
   have H := HA.out
   clear HA
   simp only [whole_wordsOf.l0] at H
   by_cases c2 : (a0.length : Int) > 0
   ·rw [if_pos c2] at H
    have az : decide (0 < (a0.length : Int)) = true := decide_eq_true c2
    have ay : decide (0 < a0.length) = true := decide_eq_true (by omega)
    clear c2
    obtain ⟨a3, hji3⟩ : ∃ j_ : Int, (mx 0 (wrap64 ((a0.length : Int) - 4))) = j_ := ⟨_, rfl⟩
    replace H : (if 0 ≤ (a3) then (if (a3) ≤ (a0.length : Int) then ((some (a0.drop ((a3) : Int).toNat : List Int)).bind fun a2 => (whole_wordsOf.l1 k1 a0 a6 a3 0 a2 (a2.length : Int) 0)) else (none)) else (none)) = some r := by first | (rw [hji3] at H; exact H) | (simp only [hji3] at H ⊢; exact H)
    have aZ : (if 0 < (wrap64 ((a0.length : Int) - 4)) then (wrap64 ((a0.length : Int) - 4)) else 0) = a3 := hji3
    by_cases c4 : 0 ≤ (a3)
    ·rw [if_pos c4] at H
     have aU := eq_true c4
     have aX : decide (0 ≤ (a3)) = true := decide_eq_true c4
     clear c4
     by_cases c5 : (a3) ≤ (a0.length : Int)
     ·rw [if_pos c5] at H
      have aQ := eq_true c5
      have aR : decide ((a3) ≤ (a0.length : Int)) = true := decide_eq_true c5
      clear c5
      obtain ⟨a2, hy105⟩ : ∃ y_ : List Int, y_ = (a0.drop ((a3) : Int).toNat) := ⟨_, rfl⟩
      replace H : (whole_wordsOf.l1 k1 a0 a6 a3 0 a2 (a2.length : Int) 0) = some r := by first | (rw [hy105]; with_reducible exact H) | (have ac := (Option.bind_some _ _).symm.trans H; rw [hy105]; with_reducible exact ac) | (have ac := (Option.bind_some _ _).symm.trans H; with_reducible exact ac) | with_reducible exact H | (rw [hy105]; exact H) | exact H
      have ah := Aside0.mk hy105
      clear hy105
      have H' := Aside0.mk H
      clear H
      obtain ⟨ai, ae, eo6⟩ := vl a4; cases eo6
      have q7 : ((a3) : Int) ≤ ((a0.length : Int) : Int) := of_decide_eq_true asm
      obtain ⟨i07, aH, _, aE, _⟩ := info_parts info5
      have a7 : a0.length ≤ ae := (Kd.V_reads' a4.out).2.1
      have b6 : Kd.F (Kd.int .u8) _ _ ai a0.length a0 := (Kd.V_at (base := w.heap.size) a4.out).2.2
      have b4 : (0 : Int) ≤ ((a3) : Int) := of_decide_eq_true asm
      have ar := cut_from (P := Try.prog) 22 5 .i64 Try.underlying22 aH 1 aE ai a0.length ae (a3) b4 q7
      have av := Kd.F_cut (m := ((a3) : Int).toNat) (c := ae) b6 (by omega) a7
      obtain ⟨A7, hA7⟩ : ∃ A1, A1 = (if ae = ((a3) : Int).toNat then ai else (ai : Option Addr).map (·.add (((a3) : Int).toNat * 1))) := ⟨_, rfl⟩
      obtain ⟨c7, hc7⟩ : ∃ c1, c1 = ae - ((a3) : Int).toNat := ⟨_, rfl⟩
      have aD : a2.length = a0.length - ((a3) : Int).toNat := (by rw [ah.out, List.length_drop] <;> omega)
      rw [show (a0).drop ((a3) : Int).toNat = a2 from ah.out.symm] at av
      replace av : Kd.F (Kd.int .u8) _ _ A7 a2.length a2 := (by rw [hA7]; exact av)
      rw [← aD, ← hA7, ← hc7] at ar
      have aA := Aside0.mk (show Kd.V (Kd.int .u8) 5 _ w.heap.size _ (.slice A7 a2.length c7) a2 from Kd.V_mk (by rw [aD, hc7]; exact Nat.sub_le_sub_right a7 _) av)
      have b2 := Aside0.mk (show a2.length ≤ c7 from by rw [aD, hc7]; exact Nat.sub_le_sub_right a7 _)
      clear av b6 a7 aH aE hc7
      have KY7 := Aside0.mk aD
      have KA7 := Aside0.mk hA7
      clear aD hA7
      replace q7 := eq_true q7
      go_wp2
      go_loopg [5, 19] k1 (fun kq v5 v19 w' => ∃ (a9 : Int) (a1 : Int), v5 = .int .u32 a9 ∧ v19 = .int .i64 a1 ∧ Aside0 (whole_wordsOf.l1 kq a0 a6 a3 a9 a2 (a2.length : Int) a1 = some r) ∧ Aside0 (kq ≤ k1) ∧ Aside0 (Kd.V (Kd.int .u8) 5 w' w.heap.size (fun k_ => (ag k_ ∨ w.heap.size ≤ k_) ∧ some k_ ≠ (u3 : Value).ownBlock) (.slice ai a0.length ae) a0) ∧ Aside0 (Kd.R (Kd.int .u32) 118 w' w.heap.size (fun k_ => (w.heap.size ≤ k_)) u3 a6) ∧ Aside0 (Kd.V (Kd.int .u8) 5 w' w.heap.size (fun k_ => (ag k_ ∨ w.heap.size ≤ k_) ∧ some k_ ≠ (u3 : Value).ownBlock) (.slice A7 a2.length c7) a2) ∧ Aside0 (Below w.heap.size w w'))
      case atStart => exact ⟨(0), (0), sd, sd, H', ⟨Nat.le_refl _⟩, ⟨vb a4⟩, ⟨rb a8⟩, ⟨vb aA⟩, ⟨bw⟩⟩
      case round =>
       clear H'
       try clear c1
       try clear c2
       try clear az
       try clear ay
       try clear c4
       try clear aU
       try clear aX
       try clear c5
       try clear aQ
       try clear aR
       try clear c7
       try clear q7
       try clear b4
       try clear q7
       obtain ⟨a9, a1, rfl, rfl, HA, aJ, a4, a8, a5, HB⟩ := hrel
       cases gk with
       | zero => exact absurd HA.out (by simp [whole_wordsOf.l1])
       | succ k2 =>
        have H := HA.out
        clear HA
        simp only [whole_wordsOf.l1] at H
        by_cases c8 : a1 < (a2.length : Int)
        ·rw [if_pos c8] at H
         have aV : decide (a1 < (a2.length : Int)) = true := decide_eq_true c8
         clear c8
         by_cases c9 : 0 ≤ a1
         ·rw [if_pos c9] at H
          have c9b0 : decide (0 ≤ a1) = true := decide_eq_true c9
          clear c9
          by_cases c10 : a1 < (a2.length : Int)
          ·rw [if_pos c10] at H
           have b0 : decide (a1 < (a2.length : Int)) = true := decide_eq_true c10
           clear c10
           have H' := Aside0.mk H
           clear H
           have ak : 0 ≤ (a1 : Int) := of_decide_eq_true asm
           have al : a1 < (a2.length : Int) := of_decide_eq_true asm
           obtain ⟨b8, aW, aM⟩ := Kd.at_int (Kd.V_reads' a5.out).2.2 a1 ak al
           cases aW
           replace ak := eq_true ak
           replace al := eq_true al
           go_wp2
           go_roundg k2
           case measure => have := aK.out; have := aJ.out; omega
           case rel => exact ⟨(Go.bits .or .u32 ((a9 * 256) % 4294967296) ((rd a2 a1) % 4294967296)), (wrap64 (a1 + 1)), sd, sd, H', ⟨by have := aK.out; have := aJ.out; omega⟩, ⟨vb a4⟩, ⟨rb a8⟩, ⟨vb a5⟩, ⟨bw⟩⟩
          ·rw [if_neg c10] at H
           exact absurd H (by simp)
         ·rw [if_neg c9] at H
          exact absurd H (by simp)
        ·rw [if_neg c8] at H
         have aV : decide (a1 < (a2.length : Int)) = false := decide_eq_false c8
         clear c8
         by_cases aI : a6.length < 35184372088832
         ·rw [if_pos aI] at H
          have aw := Aside0.mk aI
          clear aI
          obtain ⟨y111, hy111⟩ : ∃ y_ : List Int, y_ = (a6 ++ [a9]) := ⟨_, rfl⟩
          replace H : (if 0 ≤ a3 then (if a3 ≤ (a0.length : Int) then (whole_wordsOf.l0 k2 (a0.take (a3 : Int).toNat) y111) else (none)) else (none)) = some r := by first | (rw [hy111]; with_reducible exact H) | (have ac := (Option.bind_some _ _).symm.trans H; rw [hy111]; with_reducible exact ac) | (have ac := (Option.bind_some _ _).symm.trans H; with_reducible exact ac) | with_reducible exact H | (rw [hy111]; exact H) | exact H
          have aq := Aside0.mk hy111
          clear hy111
          by_cases ap : 0 ≤ a3
          ·rw [if_pos ap] at H
           have b5 := eq_true ap
           have b3 : decide (0 ≤ a3) = true := decide_eq_true ap
           clear ap
           by_cases ax : a3 ≤ (a0.length : Int)
           ·rw [if_pos ax] at H
            have aY := eq_true ax
            have b1 : decide (a3 ≤ (a0.length : Int)) = true := decide_eq_true ax
            clear ax
            obtain ⟨y114, hy114⟩ : ∃ y_ : List Int, y_ = (a0.take (a3 : Int).toNat) := ⟨_, rfl⟩
            replace H : (whole_wordsOf.l0 k2 y114 y111) = some r := by first | (rw [hy114]; with_reducible exact H) | (have ac := (Option.bind_some _ _).symm.trans H; rw [hy114]; with_reducible exact ac) | (have ac := (Option.bind_some _ _).symm.trans H; with_reducible exact ac) | with_reducible exact H | (rw [hy114]; exact H) | exact H
            have af := Aside0.mk hy114
            clear hy114
            have H' := Aside0.mk H
            clear H
            try go_wp2
            replace a4 := Aside0.mk (Kd.V_drew a4.out)
            replace a8 := Aside0.mk (Kd.R_drew a8.out)
            replace a5 := Aside0.mk (Kd.V_drew a5.out)
            replace HB := Aside0.mk (below_drew1 HB.out)
            have aN : (a3 : Int) ≤ ((a0.length : Int) : Int) := of_decide_eq_true asm
            obtain ⟨i015, aj, _, aG, _⟩ := info_parts info5
            have ab : a0.length ≤ ae := (Kd.V_reads' a4.out).2.1
            have aC : Kd.F (Kd.int .u8) _ _ ai a0.length a0 := (Kd.V_at (base := w.heap.size) a4.out).2.2
            have ao := cut_to (P := Try.prog) 22 5 .i64 Try.underlying22 aj ai a0.length ae a3 (of_decide_eq_true asm) aN ab
            have an := Kd.F_take (m := (a3 : Int).toNat) aC (by omega)
            have am : y114.length = (a3 : Int).toNat := (by rw [af.out, List.length_take]; omega)
            rw [← af.out] at an
            rw [← am] at ao
            have aa := Aside0.mk (show Kd.V (Kd.int .u8) 5 _ w.heap.size _ (.slice ai y114.length ae) y114 from Kd.V_mk (by omega) an)
            have b7 := Aside0.mk (show y114.length ≤ ae from by omega)
            clear an aC ab aj aG
            have KY15 := Aside0.mk am
            clear am
            replace aN := eq_true aN
            refine st 9 (fun w' => True) [] trivial (fun hHeld => ?_); refine with_tabW whole_wordsOf.tab10 whole_wordsOf.bits10 (fun ad HW_ => ?_)
            generalize wr.drew = w14 at a4 a8 a5 HB aa hHeld ⊢
            refine pu ad 0 (some 29) ?_
            refine pu ad 1 (some 30) ?_
            refine pu ad 4 (some 33) ?_
            refine pu ad 5 (some 34) ?_
            refine pu ad 6 (some 35) ?_
            refine on ad 2 (some 31) fun K hK => ?_
            refine value_ (w1 := ?_) (v := ?_) (by rfl) rfl ?_ ?_
            rotate_left 2
            ·go_simp
             constructor
             ·rfl
             ·rfl
            refine hK.out _ _ trivial (fun hHeld => ?_)
            clear hK K
            refine nm (some 31) ?_
            refine on ad 3 (some 32) fun K hK => ?_
            refine Kd.R_append_step (Kd.int .u32) (w0 := w) w.heap.size (by rfl) (.tmp 29) (.tmp 31) 106 118 (.int .u32 0) 4 rfl Try.underlying106 info118 rfl (by decide) (by omega) u3 a6 a9 [.int .u32 a9] (fun k_ => (w.heap.size ≤ k_)) (fun _ => False) rfl rfl ?aP (fun _ hk => hk.elim) ?aF ?aO ?aB ?aS ?aL ?_
            (case aP => exact rfl)
            (case aB => exact bw)
            (case aF => exact (fun k_ hk => (Nat.le_trans (sz HB) hk)))
            (case aO => exact (rb a8))
            (case aS => exact (sz HB))
            (case aL => have := aw.out; omega)
            intro v112 w16 ho hb hg hat
            rw [← aq.out] at ho
            have au := Aside0.mk ho
            replace a4 := Aside0.mk (Kd.V_afterv (ok := (fun k_ => (ag k_ ∨ w.heap.size ≤ k_))) (vb a4) hg hat)
            replace a5 := Aside0.mk (Kd.V_afterv (ok := (fun k_ => (ag k_ ∨ w.heap.size ≤ k_))) (vb a5) hg hat)
            replace aa := Aside0.mk (Kd.V_afterv (ok := (fun k_ => (ag k_ ∨ w.heap.size ≤ k_))) (vb aa) hg hat)
            replace HB := Aside0.mk hb
            clear a8
            clear ho hb hg hat
            refine hK.out _ _ trivial (fun hHeld => ?_)
            clear hK K
            refine nm (some 32) ?_
            refine pu ad 7 (some 3) ?_
            refine pu ad 8 (some 0) ?_
            refine dn ad ?_
            try go_wp2
            go_roundg k2
            case measure => have := aK.out; have := aJ.out; omega
            case rel => exact ⟨(y114), (y111), H', ⟨by have := aK.out; have := aJ.out; omega⟩, ⟨vb aa⟩, ⟨rb au⟩, ⟨bw⟩⟩
           ·rw [if_neg ax] at H
            exact absurd H (by simp)
          ·rw [if_neg ap] at H
           exact absurd H (by simp)
         ·rw [if_neg aI] at H
          exact absurd H (by simp)
     ·rw [if_neg c5] at H
      exact absurd H (by simp)
    ·rw [if_neg c4] at H
     exact absurd H (by simp)
   ·rw [if_neg c2] at H
    have az : decide (0 < (a0.length : Int)) = false := decide_eq_false c2
    have ay : decide (0 < a0.length) = false := decide_eq_false (by omega)
    clear c2
    obtain rfl := Option.some.inj H
    obtain ⟨Ao17, co17, aT⟩ := vl a4; cases aT
    go_wp2
    go_ret
    exact ⟨_, er, rb a8, bw⟩
/-! ### whole_words_trim: function 92 -/
def whole_words_trim.l0 : Nat → List Int → Option (List Int)
 | 0, _ => none
 | k + 1, x0 => if (x0.length : Int) > 0 then (if 0 ≤ (wrap64 ((x0.length : Int) - 1)) then (if (wrap64 ((x0.length : Int) - 1)) < (x0.length : Int) then (if (rd x0 (wrap64 ((x0.length : Int) - 1))) = 0 then (if (wrap64 ((x0.length : Int) - 1)) ≤ (x0.length : Int) then (whole_words_trim.l0 k (x0.take ((wrap64 ((x0.length : Int) - 1)) : Int).toNat)) else (none)) else (some x0)) else (none)) else (none)) else (some x0)
def whole_words_trim.f (k : Nat) (l0 : List Int) : Option (List Int) := whole_words_trim.l0 k l0
theorem whole_words_trim.mono_l : ∀ k, (∀ y0, LeO (whole_words_trim.l0 k y0) (whole_words_trim.l0 (k + 1) y0))
 | 0 => fun _ r h => by simp [whole_words_trim.l0] at h
 | k + 1 => by
  have a0 := whole_words_trim.mono_l k
  ·intro y0
   unfold whole_words_trim.l0
   repeat' first | with_reducible exact a0 _ | with_reducible exact LeO.refl _ | with_reducible exact LeO.none _ | with_reducible refine LeO.ite ?_ ?_ | with_reducible refine LeO.bind ?_ (fun _ => ?_) | exact a0 _ | exact LeO.none _ | refine LeO.ite ?_ ?_ | refine LeO.bind ?_ (fun _ => ?_)
theorem whole_words_trim.mono : ∀ a0 k, LeO (whole_words_trim.f k a0) (whole_words_trim.f (k + 1) a0) := by
 intro a0 k
 have a1 := whole_words_trim.mono_l k
 unfold whole_words_trim.f
 repeat' first | with_reducible exact a1 _ | with_reducible exact LeO.refl _ | with_reducible exact LeO.none _ | with_reducible refine LeO.ite ?_ ?_ | with_reducible refine LeO.bind ?_ (fun _ => ?_) | exact a1 _ | exact LeO.none _ | refine LeO.ite ?_ ?_ | refine LeO.bind ?_ (fun _ => ?_)
theorem whole_words_trim.calls (k : Nat) (ag : Nat → Prop) (A0 : Option Addr) (c0 : Nat) (l0 : List Int) (r : List Int) (w : World) (hs0 : Kd.V (Kd.int .u32) 118 w w.heap.size (fun k_ => ag k_) (.slice A0 l0.length c0) l0) (h : whole_words_trim.f k l0 = some r) :
  Calls Try.prog 92 #[.slice A0 l0.length c0] w fun e w' => ∃ av : Value, e = .returned (av) ∧ Kd.V (Kd.int .u32) 118 w' w.heap.size (fun k_ => (ag k_ ∨ w.heap.size ≤ k_)) av r ∧ Below w.heap.size w w' := by
 have HO0 := Aside0.mk (show Kd.V (Kd.int .u32) 118 w w.heap.size (fun k_ => (ag k_ ∨ w.heap.size ≤ k_)) (.slice A0 l0.length c0) l0 from Kd.V_mono hs0 (fun k_ hk => .inl hk))
 have HB := Aside0.mk (Below.refl w.heap.size w)
 have H : (whole_words_trim.l0 k l0) = some r := h
 clear h
 have H' := Aside0.mk H
 clear H
 go_enter Try.func92, Try.ntmps92
 go_wp2
 go_loopg [0] k (fun kq v0 w' => ∃ (a0 : List Int), Aside0 (whole_words_trim.l0 kq a0 = some r) ∧ Aside0 (kq ≤ k) ∧ Aside0 (Kd.V (Kd.int .u32) 118 w' w.heap.size (fun k_ => (ag k_ ∨ w.heap.size ≤ k_)) v0 a0) ∧ Aside0 (Below w.heap.size w w'))
 case atStart => exact ⟨(l0), H', ⟨Nat.le_refl _⟩, ⟨vb HO0⟩, ⟨bw⟩⟩
 case round =>
  clear H'
  obtain ⟨a0, HA, aq, a1, HB⟩ := hrel
  cases gk with
  | zero => exact absurd HA.out (by simp [whole_words_trim.l0])
  | succ k1 =>
   have H := HA.out
   clear HA
   simp only [whole_words_trim.l0] at H
   by_cases c2 : (a0.length : Int) > 0
   ·rw [if_pos c2] at H
    have al : decide (0 < (a0.length : Int)) = true := decide_eq_true c2
    have ak : decide (0 < a0.length) = true := decide_eq_true (by omega)
    clear c2
    obtain ⟨ji3, hji3⟩ : ∃ j_ : Int, (wrap64 ((a0.length : Int) - 1)) = j_ := ⟨_, rfl⟩
    replace H : (if 0 ≤ (ji3) then (if (ji3) < (a0.length : Int) then (if (rd a0 (ji3)) = 0 then (if (ji3) ≤ (a0.length : Int) then (whole_words_trim.l0 k1 (a0.take ((ji3) : Int).toNat)) else (none)) else (some a0)) else (none)) else (none)) = some r := by first | (rw [hji3] at H; exact H) | (simp only [hji3] at H ⊢; exact H)
    have ar : (IntKind.i64.wrap ((a0.length : Int) - 1)) = ji3 := (i64_w _).trans hji3
    by_cases c4 : 0 ≤ (ji3)
    ·rw [if_pos c4] at H
     have c4b0 : decide (0 ≤ (ji3)) = true := decide_eq_true c4
     clear c4
     by_cases c5 : (ji3) < (a0.length : Int)
     ·rw [if_pos c5] at H
      have c5b0 : decide ((ji3) < (a0.length : Int)) = true := decide_eq_true c5
      clear c5
      by_cases c6 : (rd a0 (ji3)) = 0
      ·rw [if_pos c6] at H
       have ao : ((rd a0 (ji3)) == 0) = true := beq_iff_eq.mpr c6
       have am : ((rd a0 (ji3)) != 0) = false := bne_eq_false_iff_eq.mpr c6
       clear c6
       have c7b0 := eq_true (of_decide_eq_true asm : 0 ≤ (ji3))
       by_cases c8 : (ji3) ≤ (a0.length : Int)
       ·rw [if_pos c8] at H
        have c8b0 := eq_true c8
        have c8b1 : decide ((ji3) ≤ (a0.length : Int)) = true := decide_eq_true c8
        clear c8
        obtain ⟨y120, hy120⟩ : ∃ y_ : List Int, y_ = (a0.take ((ji3) : Int).toNat) := ⟨_, rfl⟩
        replace H : (whole_words_trim.l0 k1 y120) = some r := by first | (rw [hy120]; with_reducible exact H) | (have ap := (Option.bind_some _ _).symm.trans H; rw [hy120]; with_reducible exact ap) | (have ap := (Option.bind_some _ _).symm.trans H; with_reducible exact ap) | with_reducible exact H | (rw [hy120]; exact H) | exact H
        have a7 := Aside0.mk hy120
        clear hy120
        have H' := Aside0.mk H
        clear H
        obtain ⟨Ao9, ah, eo9⟩ := vl a1; cases eo9
        have a3 : 0 ≤ ((ji3) : Int) := of_decide_eq_true asm
        have a2 : (ji3) < (a0.length : Int) := of_decide_eq_true asm
        obtain ⟨a4, ab, a6⟩ := Kd.at_int (Kd.V_reads' a1.out).2.2 (ji3) a3 a2
        cases ab
        replace a3 := eq_true a3
        replace a2 := eq_true a2
        have an : ((ji3) : Int) ≤ ((a0.length : Int) : Int) := of_decide_eq_true asm
        obtain ⟨i010, a8, _, ae, _⟩ := info_parts info118
        have a5 : a0.length ≤ ah := (Kd.V_reads' a1.out).2.1
        have af : Kd.F (Kd.int .u32) _ _ (some a4) a0.length a0 := (Kd.V_at (base := w.heap.size) a1.out).2.2
        have a9 := cut_to (P := Try.prog) 106 118 .i64 Try.underlying106 a8 (some a4) a0.length ah (ji3) (of_decide_eq_true asm) an a5
        have aa := Kd.F_take (m := ((ji3) : Int).toNat) af (by omega)
        have ac : y120.length = ((ji3) : Int).toNat := (by rw [a7.out, List.length_take]; omega)
        rw [← a7.out] at aa
        rw [← ac] at a9
        have ad := Aside0.mk (show Kd.V (Kd.int .u32) 118 _ w.heap.size _ (.slice (some a4) y120.length ah) y120 from Kd.V_mk (by omega) aa)
        have au := Aside0.mk (show y120.length ≤ ah from by omega)
        clear aa af a5 a8 ae
        have KY10 := Aside0.mk ac
        clear ac
        replace an := eq_true an
        go_wp2
        go_roundg k1
        case measure => have := aq.out; omega
        case rel => exact ⟨(y120), H', ⟨by have := aq.out; omega⟩, ⟨vb ad⟩, ⟨bw⟩⟩
       ·rw [if_neg c8] at H
        exact absurd H (by simp)
      ·rw [if_neg c6] at H
       have ao : ((rd a0 (ji3)) == 0) = false := beq_eq_false_iff_ne.mpr c6
       have am : ((rd a0 (ji3)) != 0) = true := bne_iff_ne.mpr c6
       obtain rfl := Option.some.inj H
       obtain ⟨Ao11, co11, aj⟩ := vl a1; cases aj
       have a3 : 0 ≤ ((ji3) : Int) := of_decide_eq_true asm
       have a2 : (ji3) < (a0.length : Int) := of_decide_eq_true asm
       obtain ⟨a4, ab, a6⟩ := Kd.at_int (Kd.V_reads' a1.out).2.2 (ji3) a3 a2
       cases ab
       replace a3 := eq_true a3
       replace a2 := eq_true a2
       go_wp2
       go_ret
       exact ⟨_, by first | rfl | (simp [errW_none, errW_some] <;> rfl) | (simp only [← hji3]; first | rfl | (simp [errW_none, errW_some] <;> rfl)) | (simp [*, errW_none, errW_some] <;> rfl), vb a1, bw⟩
     ·rw [if_neg c5] at H
      exact absurd H (by simp)
    ·rw [if_neg c4] at H
     exact absurd H (by simp)
   ·rw [if_neg c2] at H
    have al : decide (0 < (a0.length : Int)) = false := decide_eq_false c2
    have ak : decide (0 < a0.length) = false := decide_eq_false (by omega)
    clear c2
    obtain rfl := Option.some.inj H
    obtain ⟨Ao12, co12, ai⟩ := vl a1; cases ai
    go_wp2
    go_ret
    exact ⟨_, er, vb a1, bw⟩
/-! ### whole_minus: function 82 -/
def whole_minus.l0 : Nat → List Int → List Int → List Int → Int → Int → Int → Option (List Int)
 | 0, _, _, _, _, _, _ => none
 | k + 1, x0, x1, x5, x6, a2, a0 => if a0 < a2 then (if 0 ≤ a0 then (if a0 < (x0.length : Int) then (if a0 < (x1.length : Int) then (if a0 < (x5.length : Int) then (whole_minus.l0 k x0 x1 (x5.set (a0 : Int).toNat ((wrap64 ((wrap64 (x6 + (wrap64 (rd x0 a0)))) - (wrap64 (rd x1 a0)))) % 4294967296)) ((wrap64 ((wrap64 (x6 + (wrap64 (rd x0 a0)))) - (wrap64 (rd x1 a0)))) / 4294967296) a2 (wrap64 (a0 + 1))) else (none)) else (if a0 < (x5.length : Int) then (whole_minus.l0 k x0 x1 (x5.set (a0 : Int).toNat ((wrap64 (x6 + (wrap64 (rd x0 a0)))) % 4294967296)) ((wrap64 (x6 + (wrap64 (rd x0 a0)))) / 4294967296) a2 (wrap64 (a0 + 1))) else (none))) else (none)) else (none)) else ((whole_words_trim.f k x5).bind fun a1 => (some a1))
def whole_minus.f (k : Nat) (l0 : List Int) (l1 : List Int) : Option (List Int) := if 0 ≤ (l0.length : Int) then (if ((l0.length : Int) : Int).toNat ≤ 70368744177664 then (whole_minus.l0 k l0 l1 (List.replicate ((l0.length : Int) : Int).toNat 0) 0 (l0.length : Int) 0) else (none)) else (none)
theorem whole_minus.mono_l : ∀ k, (∀ y0 y1 y2 y3 y4 y5, LeO (whole_minus.l0 k y0 y1 y2 y3 y4 y5) (whole_minus.l0 (k + 1) y0 y1 y2 y3 y4 y5))
 | 0 => fun _ _ _ _ _ _ r h => by simp [whole_minus.l0] at h
 | k + 1 => by
  have a0 := whole_minus.mono_l k
  ·intro y0 y1 y2 y3 y4 y5
   unfold whole_minus.l0
   repeat' first | with_reducible exact a0 _ _ _ _ _ _ | with_reducible exact whole_words_trim.mono _ _ | with_reducible exact LeO.refl _ | with_reducible exact LeO.none _ | with_reducible refine LeO.ite ?_ ?_ | with_reducible refine LeO.bind ?_ (fun _ => ?_) | exact a0 _ _ _ _ _ _ | exact whole_words_trim.mono _ _ | exact LeO.none _ | refine LeO.ite ?_ ?_ | refine LeO.bind ?_ (fun _ => ?_)
theorem whole_minus.mono : ∀ a0 a1 k, LeO (whole_minus.f k a0 a1) (whole_minus.f (k + 1) a0 a1) := by
 intro a0 a1 k
 have a2 := whole_minus.mono_l k
 unfold whole_minus.f
 repeat' first | with_reducible exact a2 _ _ _ _ _ _ | with_reducible exact whole_words_trim.mono _ _ | with_reducible exact LeO.refl _ | with_reducible exact LeO.none _ | with_reducible refine LeO.ite ?_ ?_ | with_reducible refine LeO.bind ?_ (fun _ => ?_) | exact a2 _ _ _ _ _ _ | exact whole_words_trim.mono _ _ | exact LeO.none _ | refine LeO.ite ?_ ?_ | refine LeO.bind ?_ (fun _ => ?_)
theorem whole_minus.calls (k : Nat) (A0 : Option Addr) (c0 : Nat) (l0 : List Int) (A1 : Option Addr) (c1 : Nat) (l1 : List Int) (r : List Int) (w : World) (bb : Kd.C (Kd.int .u32) w A0 l0.length l0) (b9 : l0.length ≤ c0) (b4 : Kd.C (Kd.int .u32) w A1 l1.length l1) (b6 : l1.length ≤ c1) (h : whole_minus.f k l0 l1 = some r) :
  Calls Try.prog 82 #[.slice A0 l0.length c0, .slice A1 l1.length c1] w fun e w' => ∃ ba : Value, e = .returned (ba) ∧ Kd.V (Kd.int .u32) 118 w' w.heap.size (fun k_ => (w.heap.size ≤ k_)) ba r ∧ Below w.heap.size w w' := by
 have b3 := Aside0.mk bb
 have HC0 := Aside0.mk b9
 clear bb b9
 have HR1 := Aside0.mk b4
 have HC1 := Aside0.mk b6
 clear b4 b6
 have HB := Aside0.mk (Below.refl w.heap.size w)
 have H : (if 0 ≤ (l0.length : Int) then (if ((l0.length : Int) : Int).toNat ≤ 70368744177664 then (whole_minus.l0 k l0 l1 (List.replicate ((l0.length : Int) : Int).toNat 0) 0 (l0.length : Int) 0) else (none)) else (none)) = some r := h
 clear h
 by_cases c3 : 0 ≤ (l0.length : Int)
 ·rw [if_pos c3] at H
  have aZ := eq_true c3
  have aI : decide (0 ≤ (l0.length : Int)) = true := decide_eq_true c3
  clear c3
  by_cases c4 : ((l0.length : Int) : Int).toNat ≤ 70368744177664
  ·rw [if_pos c4] at H
   have aO := eq_true c4
   have aV : decide (((l0.length : Int) : Int).toNat ≤ 70368744177664) = true := decide_eq_true c4
   clear c4
   obtain ⟨y136, hy136⟩ : ∃ y_ : List Int, y_ = (List.replicate ((l0.length : Int) : Int).toNat 0) := ⟨_, rfl⟩
   replace H : (whole_minus.l0 k l0 l1 y136 0 (l0.length : Int) 0) = some r := by first | (rw [hy136]; with_reducible exact H) | (have a8 := (Option.bind_some _ _).symm.trans H; rw [hy136]; with_reducible exact a8) | (have a8 := (Option.bind_some _ _).symm.trans H; with_reducible exact a8) | with_reducible exact H | (rw [hy136]; exact H) | exact H
   have a9 := Aside0.mk hy136
   clear hy136
   have H' := Aside0.mk H
   clear H
   go_enter Try.func82, Try.ntmps82
   go_wp2_with (first | ((with_reducible refine gd 10 rfl ?_); refine Kd.R_make (Kd.int .u32) _ 118 rfl (N := 10) rfl 106 _ _ rfl (l0.length : Int) rfl rfl Try.underlying106 (.int .u32 0) 4 info118 rfl (by decide) (by omega) 0 (ok := fun _ => True) (okp := fun _ => True) rfl (fun _ hk => hk) trivial (of_decide_eq_true asm) (Nat.le_trans (Nat.mul_le_mul_right _ (of_decide_eq_true asm : (l0.length : Int).toNat ≤ 70368744177664)) (by omega)) (Below.refl _ _) (Nat.le_refl _) ?_; intro aY w5 ax hb hg_ al; clear hg_ al; (first | rw [← a9.out] at ax | (simp only [Int.reduceToNat] at ax; rw [← a9.out] at ax)); have am := rL HB (Kd.R_newM (M := fun k_ => (w.heap.size ≤ k_)) ax (sz HB) (fun k_ h_ => h_)); replace HB := hB HB hb; clear hb ax))
   go_loopg [6, 13] k (fun kq v6 v13 w' => ∃ (a2 : List Int) (a4 : Int) (a0 : Int), v6 = .int .i64 a4 ∧ v13 = .int .i64 a0 ∧ Aside0 (whole_minus.l0 kq l0 l1 a2 a4 (l0.length : Int) a0 = some r) ∧ Aside0 (kq ≤ k) ∧ Aside0 (Kd.R (Kd.int .u32) 118 w' w.heap.size (fun k_ => (w.heap.size ≤ k_)) aY a2) ∧ Aside0 (Below w.heap.size w w'))
   case atStart => exact ⟨(y136), (0), (0), sd, sd, H', ⟨Nat.le_refl _⟩, ⟨by (with_reducible repeat (first | apply Kd.R_alloc | apply Kd.R_drewN | apply Kd.R_drew)); exact Kd.R_mono am.out (fun _ hk => hk.1)⟩, ⟨bw⟩⟩
   case round =>
    clear H'
    try clear c1
    try clear c3
    try clear aZ
    try clear aI
    try clear c4
    try clear aO
    try clear aV
    obtain ⟨a2, a4, a0, rfl, rfl, HA, aB, a3, HB⟩ := hrel
    cases gk with
    | zero => exact absurd HA.out (by simp [whole_minus.l0])
    | succ k1 =>
     have H := HA.out
     clear HA
     simp only [whole_minus.l0] at H
     by_cases c7 : a0 < (l0.length : Int)
     ·rw [if_pos c7] at H
      have aS : decide (a0 < (l0.length : Int)) = true := decide_eq_true c7
      clear c7
      by_cases c8 : 0 ≤ a0
      ·rw [if_pos c8] at H
       have c8b0 : decide (0 ≤ a0) = true := decide_eq_true c8
       clear c8
       by_cases c9 : a0 < (l0.length : Int)
       ·rw [if_pos c9] at H
        have c9b0 : decide (a0 < (l0.length : Int)) = true := decide_eq_true c9
        clear c9
        by_cases c10 : a0 < (l1.length : Int)
        ·rw [if_pos c10] at H
         have ai : decide (a0 < (l1.length : Int)) = true := decide_eq_true c10
         clear c10
         by_cases aA : a0 < (a2.length : Int)
         ·rw [if_pos aA] at H
          have b2 : decide (a0 < (a2.length : Int)) = true := decide_eq_true aA
          clear aA
          obtain ⟨y141, hy141⟩ : ∃ y_ : List Int, y_ = (a2.set (a0 : Int).toNat ((wrap64 ((wrap64 (a4 + (wrap64 (rd l0 a0)))) - (wrap64 (rd l1 a0)))) % 4294967296)) := ⟨_, rfl⟩
          replace H : (whole_minus.l0 k1 l0 l1 y141 ((wrap64 ((wrap64 (a4 + (wrap64 (rd l0 a0)))) - (wrap64 (rd l1 a0)))) / 4294967296) (l0.length : Int) (wrap64 (a0 + 1))) = some r := by first | (rw [hy141]; with_reducible exact H) | (have a8 := (Option.bind_some _ _).symm.trans H; rw [hy141]; with_reducible exact a8) | (have a8 := (Option.bind_some _ _).symm.trans H; with_reducible exact a8) | with_reducible exact H | (rw [hy141]; exact H) | exact H
          have an := Aside0.mk hy141
          clear hy141
          have H' := Aside0.mk H
          clear H
          have a6 : 0 ≤ (a0 : Int) := of_decide_eq_true asm
          have a7 : a0 < (l0.length : Int) := of_decide_eq_true asm
          obtain ⟨aw, ad, a1⟩ := Kd.at_int b3.out a0 a6 a7
          cases ad
          replace a1 := (HB.out.cell (World.block_lt_of_cell? w _ a1)).trans a1
          replace a6 := eq_true a6
          replace a7 := eq_true a7
          have ae : 0 ≤ (a0 : Int) := of_decide_eq_true asm
          have ab : a0 < (l1.length : Int) := of_decide_eq_true asm
          obtain ⟨b8, aH, a5⟩ := Kd.at_int HR1.out a0 ae ab
          cases aH
          replace a5 := (HB.out.cell (World.block_lt_of_cell? w _ a5)).trans a5
          replace ae := eq_true ae
          replace ab := eq_true ab
          have aT : 0 ≤ (a0 : Int) := of_decide_eq_true asm
          have aF : (a0 : Int) < ((a2.length : Int) : Int) := of_decide_eq_true asm
          obtain ⟨ag, b0, ar, aq, aG, cl12, ao⟩ := Kd.R_form a3.out (by omega)
          (first | cases ar | (injection ar with ea_ en_ ec_; (first | subst ea_ | (injection ea_ with ea_; subst ea_)); subst ec_; clear en_))
          have aW := Aside0.mk aq
          have GG12 := Aside0.mk ao
          clear aq aG ao
          obtain ⟨aP, aX⟩ := Kd.R_celln 0 a3.out (a0 : Int) aT aF
          replace aT := eq_true aT
          replace aF := eq_true aF
          have aa := Kd.R_putg a3.out (a0 : Int) ((wrap64 ((wrap64 (a4 + (wrap64 (rd l0 a0)))) - (wrap64 (rd l1 a0)))) % 4294967296)
          go_wp2_with (first | ((with_reducible refine gate_store (t := 118) (p := 38) rfl ?_); refine store_event (t := 118) (p := 38) (v := ?vo_w14) (w1 := (wr.setCell ⟨ag, (a0 : Int).toNat, none⟩ (.int .u32 ((wrap64 ((wrap64 (a4 + (wrap64 (rd l0 a0)))) - (wrap64 (rd l1 a0)))) % 4294967296)))) ?hg ?ho ?hn ?hr ?_; (case ho => rfl); (case hg => rfl); (case hn => rfl); (case hr => first | (go_simp; done) | (go_simp; rfl)); intro aN hw; have hg : wr.grownBy aN (some ag) := (by rw [hw]; exact aa.2); have ah : Kd.R (Kd.int .u32) 118 aN w.heap.size (fun k_ => (w.heap.size ≤ k_)) (.slice (some ⟨ag, 0, none⟩) a2.length b0) y141 := (by rw [hw, an.out]; exact aa.1); clear aa; replace a3 := Aside0.mk ah; replace HB := Aside0.mk ((by rw [hw]; exact below_set (HB.out) aW.out : Below w.heap.size w aN)); clear hg hw ah))
          go_roundg k1
          case measure => have := aB.out; omega
          case rel => exact ⟨(y141), ((wrap64 ((wrap64 (a4 + (wrap64 (rd l0 a0)))) - (wrap64 (rd l1 a0)))) / 4294967296), (wrap64 (a0 + 1)), sd, sd, H', ⟨by have := aB.out; omega⟩, ⟨rb a3⟩, ⟨bw⟩⟩
         ·rw [if_neg aA] at H
          exact absurd H (by simp)
        ·rw [if_neg c10] at H
         have ai : decide (a0 < (l1.length : Int)) = false := decide_eq_false c10
         clear c10
         by_cases aC : a0 < (a2.length : Int)
         ·rw [if_pos aC] at H
          have b7 : decide (a0 < (a2.length : Int)) = true := decide_eq_true aC
          clear aC
          obtain ⟨y142, hy142⟩ : ∃ y_ : List Int, y_ = (a2.set (a0 : Int).toNat ((wrap64 (a4 + (wrap64 (rd l0 a0)))) % 4294967296)) := ⟨_, rfl⟩
          replace H : (whole_minus.l0 k1 l0 l1 y142 ((wrap64 (a4 + (wrap64 (rd l0 a0)))) / 4294967296) (l0.length : Int) (wrap64 (a0 + 1))) = some r := by first | (rw [hy142]; with_reducible exact H) | (have a8 := (Option.bind_some _ _).symm.trans H; rw [hy142]; with_reducible exact a8) | (have a8 := (Option.bind_some _ _).symm.trans H; with_reducible exact a8) | with_reducible exact H | (rw [hy142]; exact H) | exact H
          have ap := Aside0.mk hy142
          clear hy142
          have H' := Aside0.mk H
          clear H
          have a6 : 0 ≤ (a0 : Int) := of_decide_eq_true asm
          have a7 : a0 < (l0.length : Int) := of_decide_eq_true asm
          obtain ⟨aw, ad, a1⟩ := Kd.at_int b3.out a0 a6 a7
          cases ad
          replace a1 := (HB.out.cell (World.block_lt_of_cell? w _ a1)).trans a1
          replace a6 := eq_true a6
          replace a7 := eq_true a7
          have aQ : 0 ≤ (a0 : Int) := of_decide_eq_true asm
          have aE : (a0 : Int) < ((a2.length : Int) : Int) := of_decide_eq_true asm
          obtain ⟨af, b1, aj, au, aM, cl16, ay⟩ := Kd.R_form a3.out (by omega)
          (first | cases aj | (injection aj with ea_ en_ ec_; (first | subst ea_ | (injection ea_ with ea_; subst ea_)); subst ec_; clear en_))
          have aJ := Aside0.mk au
          have GG16 := Aside0.mk ay
          clear au aM ay
          obtain ⟨aD, aL⟩ := Kd.R_celln 0 a3.out (a0 : Int) aQ aE
          replace aQ := eq_true aQ
          replace aE := eq_true aE
          have ac := Kd.R_putg a3.out (a0 : Int) ((wrap64 (a4 + (wrap64 (rd l0 a0)))) % 4294967296)
          go_wp2_with (first | ((with_reducible refine gate_store (t := 118) (p := 38) rfl ?_); refine store_event (t := 118) (p := 38) (v := ?vo_w18) (w1 := (wr.setCell ⟨af, (a0 : Int).toNat, none⟩ (.int .u32 ((wrap64 (a4 + (wrap64 (rd l0 a0)))) % 4294967296)))) ?hg ?ho ?hn ?hr ?_; (case ho => rfl); (case hg => rfl); (case hn => rfl); (case hr => first | (go_simp; done) | (go_simp; rfl)); intro aR hw; have hg : wr.grownBy aR (some af) := (by rw [hw]; exact ac.2); have ah : Kd.R (Kd.int .u32) 118 aR w.heap.size (fun k_ => (w.heap.size ≤ k_)) (.slice (some ⟨af, 0, none⟩) a2.length b1) y142 := (by rw [hw, ap.out]; exact ac.1); clear ac; replace a3 := Aside0.mk ah; replace HB := Aside0.mk ((by rw [hw]; exact below_set (HB.out) aJ.out : Below w.heap.size w aR)); clear hg hw ah))
          go_roundg k1
          case measure => have := aB.out; omega
          case rel => exact ⟨(y142), ((wrap64 (a4 + (wrap64 (rd l0 a0)))) / 4294967296), (wrap64 (a0 + 1)), sd, sd, H', ⟨by have := aB.out; omega⟩, ⟨rb a3⟩, ⟨bw⟩⟩
         ·rw [if_neg aC] at H
          exact absurd H (by simp)
       ·rw [if_neg c9] at H
        exact absurd H (by simp)
      ·rw [if_neg c8] at H
       exact absurd H (by simp)
     ·rw [if_neg c7] at H
      have aS : decide (a0 < (l0.length : Int)) = false := decide_eq_false c7
      clear c7
      obtain ⟨aK, A19, H⟩ := bs H
      obtain rfl := Option.some.inj H
      obtain ⟨ak, az, aU⟩ := sl a3; cases aU
      go_wp2_with (first | ((with_reducible refine ga 92 rfl ?_); refine gc (some 43) Try.func92 #[.slice ak a2.length az] (whole_words_trim.calls k1 (fun k_ => some k_ = (.slice ak a2.length az : Value).ownBlock) _ _ a2 aK _ (Kd.R_V (Kd.R_tight rfl (a3.out))) A19.out) ?_; rintro e w21 ⟨v144, rfl, b5, hb⟩; refine ⟨_, rfl, ?_⟩; have av := Aside0.mk (Kd.V_lower (Kd.V_mono (ok' := fun k_ => (w.heap.size ≤ k_)) b5 (fun k_ hk_ => Or.elim hk_ (fun hs_ => ((a3.out).1 k_ hs_.symm)) (fun hn_ => (Nat.le_trans (sz HB) hn_)))) (sz HB)); replace a3 := rB a3 hb; replace HB := hB HB hb; clear hb b5))
      go_ret
      exact ⟨_, er, vb av, bw⟩
  ·rw [if_neg c4] at H
   exact absurd H (by simp)
 ·rw [if_neg c3] at H
  exact absurd H (by simp)
/-! ### cmp_isNaN_int: function 132 -/
def cmp_isNaN_int.f (a0 : Int) : Option (Bool) := some (a0 != a0)
theorem cmp_isNaN_int.calls (a0 : Int) (r : Bool) (w : World) (h : cmp_isNaN_int.f a0 = some r) :
  Calls Try.prog 132 #[.int .i64 a0] w fun e w' => e = .returned (.bool r) ∧ Drawn0 w w' := by
 have H : (some (a0 != a0)) = some r := h
 clear h
 obtain rfl := Option.some.inj H
 go_enter Try.func132, Try.ntmps132
 go_wp2
 go_ret
 exact ⟨sd, by repeat (first | exact Drawn0.refl _ | apply Drawn0.step)⟩
/-! ### cmp_Compare_int: function 113 -/
def cmp_Compare_int.f (a0 : Int) (a1 : Int) : Option (Int) := (cmp_isNaN_int.f a0).bind fun a3 => ((cmp_isNaN_int.f a1).bind fun a2 => (if a3 = true then (if a2 = true then (some 0) else (some (-1))) else (if a2 = true then (some 1) else (if a0 < a1 then (some (-1)) else (if a0 > a1 then (some 1) else (some 0))))))
theorem cmp_Compare_int.calls (a0 : Int) (a1 : Int) (r : Int) (w : World) (h : cmp_Compare_int.f a0 a1 = some r) :
  Calls Try.prog 113 #[.int .i64 a0, .int .i64 a1] w fun e w' => e = .returned (.int .i64 r) ∧ Drawn0 w w' := by
 have H : ((cmp_isNaN_int.f a0).bind fun a3 => ((cmp_isNaN_int.f a1).bind fun a2 => (if a3 = true then (if a2 = true then (some 0) else (some (-1))) else (if a2 = true then (some 1) else (if a0 < a1 then (some (-1)) else (if a0 > a1 then (some 1) else (some 0))))))) = some r := h
 clear h
 obtain ⟨a3, A3, H⟩ := bs H
 obtain ⟨a2, A4, H⟩ := bs H
 by_cases c5 : a3 = true
 ·subst c5
  replace H := ip H
  by_cases c6 : a2 = true
  ·subst c6
   replace H := ip H
   obtain rfl := Option.some.inj H
   go_enter Try.func113, Try.ntmps113
   go_wp2_with (first | ((with_reducible refine ga 132 rfl ?_); refine gc (some 8) Try.func132 #[.int .i64 a0] (cmp_isNaN_int.calls a0 true _ A3.out) ?_; rintro e w' ⟨rfl, ⟨nd, rfl⟩⟩; refine ⟨_, rfl, ?_⟩) | ((with_reducible refine ga 132 rfl ?_); refine gc (some 10) Try.func132 #[.int .i64 a1] (cmp_isNaN_int.calls a1 true _ A4.out) ?_; rintro e w' ⟨rfl, ⟨nd, rfl⟩⟩; refine ⟨_, rfl, ?_⟩))
   go_ret
   exact ⟨sd, by repeat (first | exact Drawn0.refl _ | apply Drawn0.step)⟩
  ·replace c6 := Bool.eq_false_iff.mpr c6
   subst c6
   replace H := iq H
   obtain rfl := Option.some.inj H
   go_enter Try.func113, Try.ntmps113
   go_wp2_with (first | ((with_reducible refine ga 132 rfl ?_); refine gc (some 8) Try.func132 #[.int .i64 a0] (cmp_isNaN_int.calls a0 true _ A3.out) ?_; rintro e w' ⟨rfl, ⟨nd, rfl⟩⟩; refine ⟨_, rfl, ?_⟩) | ((with_reducible refine ga 132 rfl ?_); refine gc (some 10) Try.func132 #[.int .i64 a1] (cmp_isNaN_int.calls a1 false _ A4.out) ?_; rintro e w' ⟨rfl, ⟨nd, rfl⟩⟩; refine ⟨_, rfl, ?_⟩))
   go_ret
   exact ⟨sd, by repeat (first | exact Drawn0.refl _ | apply Drawn0.step)⟩
 ·replace c5 := Bool.eq_false_iff.mpr c5
  subst c5
  replace H := iq H
  by_cases c7 : a2 = true
  ·subst c7
   replace H := ip H
   obtain rfl := Option.some.inj H
   go_enter Try.func113, Try.ntmps113
   go_wp2_with (first | ((with_reducible refine ga 132 rfl ?_); refine gc (some 8) Try.func132 #[.int .i64 a0] (cmp_isNaN_int.calls a0 false _ A3.out) ?_; rintro e w' ⟨rfl, ⟨nd, rfl⟩⟩; refine ⟨_, rfl, ?_⟩) | ((with_reducible refine ga 132 rfl ?_); refine gc (some 10) Try.func132 #[.int .i64 a1] (cmp_isNaN_int.calls a1 true _ A4.out) ?_; rintro e w' ⟨rfl, ⟨nd, rfl⟩⟩; refine ⟨_, rfl, ?_⟩))
   go_ret
   exact ⟨sd, by repeat (first | exact Drawn0.refl _ | apply Drawn0.step)⟩
  ·replace c7 := Bool.eq_false_iff.mpr c7
   subst c7
   replace H := iq H
   by_cases c8 : a0 < a1
   ·rw [if_pos c8] at H
    have a5 : decide (a0 < a1) = true := decide_eq_true c8
    clear c8
    obtain rfl := Option.some.inj H
    go_enter Try.func113, Try.ntmps113
    go_wp2_with (first | ((with_reducible refine ga 132 rfl ?_); refine gc (some 8) Try.func132 #[.int .i64 a0] (cmp_isNaN_int.calls a0 false _ A3.out) ?_; rintro e w' ⟨rfl, ⟨nd, rfl⟩⟩; refine ⟨_, rfl, ?_⟩) | ((with_reducible refine ga 132 rfl ?_); refine gc (some 10) Try.func132 #[.int .i64 a1] (cmp_isNaN_int.calls a1 false _ A4.out) ?_; rintro e w' ⟨rfl, ⟨nd, rfl⟩⟩; refine ⟨_, rfl, ?_⟩))
    go_ret
    exact ⟨sd, by repeat (first | exact Drawn0.refl _ | apply Drawn0.step)⟩
   ·rw [if_neg c8] at H
    have a5 : decide (a0 < a1) = false := decide_eq_false c8
    clear c8
    by_cases c9 : a0 > a1
    ·rw [if_pos c9] at H
     have a4 : decide (a1 < a0) = true := decide_eq_true c9
     clear c9
     obtain rfl := Option.some.inj H
     go_enter Try.func113, Try.ntmps113
     go_wp2_with (first | ((with_reducible refine ga 132 rfl ?_); refine gc (some 8) Try.func132 #[.int .i64 a0] (cmp_isNaN_int.calls a0 false _ A3.out) ?_; rintro e w' ⟨rfl, ⟨nd, rfl⟩⟩; refine ⟨_, rfl, ?_⟩) | ((with_reducible refine ga 132 rfl ?_); refine gc (some 10) Try.func132 #[.int .i64 a1] (cmp_isNaN_int.calls a1 false _ A4.out) ?_; rintro e w' ⟨rfl, ⟨nd, rfl⟩⟩; refine ⟨_, rfl, ?_⟩))
     go_ret
     exact ⟨sd, by repeat (first | exact Drawn0.refl _ | apply Drawn0.step)⟩
    ·rw [if_neg c9] at H
     have a4 : decide (a1 < a0) = false := decide_eq_false c9
     clear c9
     obtain rfl := Option.some.inj H
     go_enter Try.func113, Try.ntmps113
     go_wp2_with (first | ((with_reducible refine ga 132 rfl ?_); refine gc (some 8) Try.func132 #[.int .i64 a0] (cmp_isNaN_int.calls a0 false _ A3.out) ?_; rintro e w' ⟨rfl, ⟨nd, rfl⟩⟩; refine ⟨_, rfl, ?_⟩) | ((with_reducible refine ga 132 rfl ?_); refine gc (some 10) Try.func132 #[.int .i64 a1] (cmp_isNaN_int.calls a1 false _ A4.out) ?_; rintro e w' ⟨rfl, ⟨nd, rfl⟩⟩; refine ⟨_, rfl, ?_⟩))
     go_ret
     exact ⟨sd, by repeat (first | exact Drawn0.refl _ | apply Drawn0.step)⟩
/-! ### cmp_isNaN_uint32: function 133 -/
def cmp_isNaN_uint32.f (a0 : Int) : Option (Bool) := some (a0 != a0)
theorem cmp_isNaN_uint32.calls (a0 : Int) (r : Bool) (w : World) (h : cmp_isNaN_uint32.f a0 = some r) :
  Calls Try.prog 133 #[.int .u32 a0] w fun e w' => e = .returned (.bool r) ∧ Drawn0 w w' := by
 have H : (some (a0 != a0)) = some r := h
 clear h
 obtain rfl := Option.some.inj H
 go_enter Try.func133, Try.ntmps133
 go_wp2
 go_ret
 exact ⟨sd, by repeat (first | exact Drawn0.refl _ | apply Drawn0.step)⟩
/-! ### cmp_Compare_uint32: function 114 -/
def cmp_Compare_uint32.f (a0 : Int) (a1 : Int) : Option (Int) := (cmp_isNaN_uint32.f a0).bind fun a3 => ((cmp_isNaN_uint32.f a1).bind fun a2 => (if a3 = true then (if a2 = true then (some 0) else (some (-1))) else (if a2 = true then (some 1) else (if a0 < a1 then (some (-1)) else (if a0 > a1 then (some 1) else (some 0))))))
theorem cmp_Compare_uint32.calls (a0 : Int) (a1 : Int) (r : Int) (w : World) (h : cmp_Compare_uint32.f a0 a1 = some r) :
  Calls Try.prog 114 #[.int .u32 a0, .int .u32 a1] w fun e w' => e = .returned (.int .i64 r) ∧ Drawn0 w w' := by
 have H : ((cmp_isNaN_uint32.f a0).bind fun a3 => ((cmp_isNaN_uint32.f a1).bind fun a2 => (if a3 = true then (if a2 = true then (some 0) else (some (-1))) else (if a2 = true then (some 1) else (if a0 < a1 then (some (-1)) else (if a0 > a1 then (some 1) else (some 0))))))) = some r := h
 clear h
 obtain ⟨a3, A3, H⟩ := bs H
 obtain ⟨a2, A4, H⟩ := bs H
 by_cases c5 : a3 = true
 ·subst c5
  replace H := ip H
  by_cases c6 : a2 = true
  ·subst c6
   replace H := ip H
   obtain rfl := Option.some.inj H
   go_enter Try.func114, Try.ntmps114
   go_wp2_with (first | ((with_reducible refine ga 133 rfl ?_); refine gc (some 8) Try.func133 #[.int .u32 a0] (cmp_isNaN_uint32.calls a0 true _ A3.out) ?_; rintro e w' ⟨rfl, ⟨nd, rfl⟩⟩; refine ⟨_, rfl, ?_⟩) | ((with_reducible refine ga 133 rfl ?_); refine gc (some 10) Try.func133 #[.int .u32 a1] (cmp_isNaN_uint32.calls a1 true _ A4.out) ?_; rintro e w' ⟨rfl, ⟨nd, rfl⟩⟩; refine ⟨_, rfl, ?_⟩))
   go_ret
   exact ⟨sd, by repeat (first | exact Drawn0.refl _ | apply Drawn0.step)⟩
  ·replace c6 := Bool.eq_false_iff.mpr c6
   subst c6
   replace H := iq H
   obtain rfl := Option.some.inj H
   go_enter Try.func114, Try.ntmps114
   go_wp2_with (first | ((with_reducible refine ga 133 rfl ?_); refine gc (some 8) Try.func133 #[.int .u32 a0] (cmp_isNaN_uint32.calls a0 true _ A3.out) ?_; rintro e w' ⟨rfl, ⟨nd, rfl⟩⟩; refine ⟨_, rfl, ?_⟩) | ((with_reducible refine ga 133 rfl ?_); refine gc (some 10) Try.func133 #[.int .u32 a1] (cmp_isNaN_uint32.calls a1 false _ A4.out) ?_; rintro e w' ⟨rfl, ⟨nd, rfl⟩⟩; refine ⟨_, rfl, ?_⟩))
   go_ret
   exact ⟨sd, by repeat (first | exact Drawn0.refl _ | apply Drawn0.step)⟩
 ·replace c5 := Bool.eq_false_iff.mpr c5
  subst c5
  replace H := iq H
  by_cases c7 : a2 = true
  ·subst c7
   replace H := ip H
   obtain rfl := Option.some.inj H
   go_enter Try.func114, Try.ntmps114
   go_wp2_with (first | ((with_reducible refine ga 133 rfl ?_); refine gc (some 8) Try.func133 #[.int .u32 a0] (cmp_isNaN_uint32.calls a0 false _ A3.out) ?_; rintro e w' ⟨rfl, ⟨nd, rfl⟩⟩; refine ⟨_, rfl, ?_⟩) | ((with_reducible refine ga 133 rfl ?_); refine gc (some 10) Try.func133 #[.int .u32 a1] (cmp_isNaN_uint32.calls a1 true _ A4.out) ?_; rintro e w' ⟨rfl, ⟨nd, rfl⟩⟩; refine ⟨_, rfl, ?_⟩))
   go_ret
   exact ⟨sd, by repeat (first | exact Drawn0.refl _ | apply Drawn0.step)⟩
  ·replace c7 := Bool.eq_false_iff.mpr c7
   subst c7
   replace H := iq H
   by_cases c8 : a0 < a1
   ·rw [if_pos c8] at H
    have a5 : decide (a0 < a1) = true := decide_eq_true c8
    clear c8
    obtain rfl := Option.some.inj H
    go_enter Try.func114, Try.ntmps114
    go_wp2_with (first | ((with_reducible refine ga 133 rfl ?_); refine gc (some 8) Try.func133 #[.int .u32 a0] (cmp_isNaN_uint32.calls a0 false _ A3.out) ?_; rintro e w' ⟨rfl, ⟨nd, rfl⟩⟩; refine ⟨_, rfl, ?_⟩) | ((with_reducible refine ga 133 rfl ?_); refine gc (some 10) Try.func133 #[.int .u32 a1] (cmp_isNaN_uint32.calls a1 false _ A4.out) ?_; rintro e w' ⟨rfl, ⟨nd, rfl⟩⟩; refine ⟨_, rfl, ?_⟩))
    go_ret
    exact ⟨sd, by repeat (first | exact Drawn0.refl _ | apply Drawn0.step)⟩
   ·rw [if_neg c8] at H
    have a5 : decide (a0 < a1) = false := decide_eq_false c8
    clear c8
    by_cases c9 : a0 > a1
    ·rw [if_pos c9] at H
     have a4 : decide (a1 < a0) = true := decide_eq_true c9
     clear c9
     obtain rfl := Option.some.inj H
     go_enter Try.func114, Try.ntmps114
     go_wp2_with (first | ((with_reducible refine ga 133 rfl ?_); refine gc (some 8) Try.func133 #[.int .u32 a0] (cmp_isNaN_uint32.calls a0 false _ A3.out) ?_; rintro e w' ⟨rfl, ⟨nd, rfl⟩⟩; refine ⟨_, rfl, ?_⟩) | ((with_reducible refine ga 133 rfl ?_); refine gc (some 10) Try.func133 #[.int .u32 a1] (cmp_isNaN_uint32.calls a1 false _ A4.out) ?_; rintro e w' ⟨rfl, ⟨nd, rfl⟩⟩; refine ⟨_, rfl, ?_⟩))
     go_ret
     exact ⟨sd, by repeat (first | exact Drawn0.refl _ | apply Drawn0.step)⟩
    ·rw [if_neg c9] at H
     have a4 : decide (a1 < a0) = false := decide_eq_false c9
     clear c9
     obtain rfl := Option.some.inj H
     go_enter Try.func114, Try.ntmps114
     go_wp2_with (first | ((with_reducible refine ga 133 rfl ?_); refine gc (some 8) Try.func133 #[.int .u32 a0] (cmp_isNaN_uint32.calls a0 false _ A3.out) ?_; rintro e w' ⟨rfl, ⟨nd, rfl⟩⟩; refine ⟨_, rfl, ?_⟩) | ((with_reducible refine ga 133 rfl ?_); refine gc (some 10) Try.func133 #[.int .u32 a1] (cmp_isNaN_uint32.calls a1 false _ A4.out) ?_; rintro e w' ⟨rfl, ⟨nd, rfl⟩⟩; refine ⟨_, rfl, ?_⟩))
     go_ret
     exact ⟨sd, by repeat (first | exact Drawn0.refl _ | apply Drawn0.step)⟩
/-! ### whole_order: function 81 -/
def whole_order.l0 : Nat → List Int → List Int → Int → Option (Int)
 | 0, _, _, _ => none
 | k + 1, x0, x1, x6 => if x6 ≥ 0 then (if 0 ≤ x6 then (if x6 < (x0.length : Int) then (if x6 < (x1.length : Int) then (if (rd x0 x6) = (rd x1 x6) then (whole_order.l0 k x0 x1 (wrap64 (x6 - 1))) else ((cmp_Compare_uint32.f (rd x0 x6) (rd x1 x6)).bind fun a0 => (some a0))) else (none)) else (none)) else (none)) else (some 0)
def whole_order.f (k : Nat) (l0 : List Int) (l1 : List Int) : Option (Int) := (cmp_Compare_int.f (l0.length : Int) (l1.length : Int)).bind fun a0 => (if a0 = 0 then (whole_order.l0 k l0 l1 (wrap64 ((l0.length : Int) - 1))) else (some a0))
theorem whole_order.mono_l : ∀ k, (∀ y0 y1 y2, LeO (whole_order.l0 k y0 y1 y2) (whole_order.l0 (k + 1) y0 y1 y2))
 | 0 => fun _ _ _ r h => by simp [whole_order.l0] at h
 | k + 1 => by
  have a0 := whole_order.mono_l k
  ·intro y0 y1 y2
   unfold whole_order.l0
   repeat' first | with_reducible exact a0 _ _ _ | with_reducible exact LeO.refl _ | with_reducible exact LeO.none _ | with_reducible refine LeO.ite ?_ ?_ | with_reducible refine LeO.bind ?_ (fun _ => ?_) | exact a0 _ _ _ | exact LeO.none _ | refine LeO.ite ?_ ?_ | refine LeO.bind ?_ (fun _ => ?_)
theorem whole_order.mono : ∀ a0 a1 k, LeO (whole_order.f k a0 a1) (whole_order.f (k + 1) a0 a1) := by
 intro a0 a1 k
 have a2 := whole_order.mono_l k
 unfold whole_order.f
 repeat' first | with_reducible exact a2 _ _ _ | with_reducible exact LeO.refl _ | with_reducible exact LeO.none _ | with_reducible refine LeO.ite ?_ ?_ | with_reducible refine LeO.bind ?_ (fun _ => ?_) | exact a2 _ _ _ | exact LeO.none _ | refine LeO.ite ?_ ?_ | refine LeO.bind ?_ (fun _ => ?_)
theorem whole_order.calls (k : Nat) (A0 : Option Addr) (c0 : Nat) (l0 : List Int) (A1 : Option Addr) (c1 : Nat) (l1 : List Int) (r : Int) (w : World) (ay : Kd.C (Kd.int .u32) w A0 l0.length l0) (aA : l0.length ≤ c0) (aB : Kd.C (Kd.int .u32) w A1 l1.length l1) (az : l1.length ≤ c1) (h : whole_order.f k l0 l1 = some r) :
  Calls Try.prog 81 #[.slice A0 l0.length c0, .slice A1 l1.length c1] w fun e w' => e = .returned (.int .i64 r) ∧ Drawn0 w w' := by
 have ap := Aside0.mk ay
 have HC0 := Aside0.mk aA
 clear ay aA
 have au := Aside0.mk aB
 have HC1 := Aside0.mk az
 clear aB az
 have H : ((cmp_Compare_int.f (l0.length : Int) (l1.length : Int)).bind fun a1 => (if a1 = 0 then (whole_order.l0 k l0 l1 (wrap64 ((l0.length : Int) - 1))) else (some a1))) = some r := h
 clear h
 obtain ⟨a1, A3, H⟩ := bs H
 by_cases c4 : a1 = 0
 ·rw [if_pos c4] at H
  have ai : (a1 == 0) = true := beq_iff_eq.mpr c4
  have ah : (a1 != 0) = false := bne_eq_false_iff_eq.mpr c4
  clear c4
  have H' := Aside0.mk H
  clear H
  go_enter Try.func81, Try.ntmps81
  go_wp2_with (first | (go_at_call 113; (with_reducible refine (cmp_Compare_int.calls (l0.length : Int) (l1.length : Int) a1 _ A3.out).mono ?_); rintro e w' ⟨rfl, ⟨nd, rfl⟩⟩; (try first | exact ⟨rfl, _, World.drewN_drewN _ _ _⟩ | exact ⟨rfl, _, Eq.trans (World.drewN_drewN _ _ _) (congrArg (World.drewN _) (Nat.add_assoc _ _ _))⟩)))
  repeat (go_quiet (first | (go_at_call 113; (with_reducible refine (cmp_Compare_int.calls (l0.length : Int) (l1.length : Int) a1 _ A3.out).mono ?_); rintro e w' ⟨rfl, ⟨nd, rfl⟩⟩; (try first | exact ⟨rfl, _, World.drewN_drewN _ _ _⟩ | exact ⟨rfl, _, Eq.trans (World.drewN_drewN _ _ _) (congrArg (World.drewN _) (Nat.add_assoc _ _ _))⟩))); try go_wp2_with (first | (go_at_call 113; (with_reducible refine (cmp_Compare_int.calls (l0.length : Int) (l1.length : Int) a1 _ A3.out).mono ?_); rintro e w' ⟨rfl, ⟨nd, rfl⟩⟩; (try first | exact ⟨rfl, _, World.drewN_drewN _ _ _⟩ | exact ⟨rfl, _, Eq.trans (World.drewN_drewN _ _ _) (congrArg (World.drewN _) (Nat.add_assoc _ _ _))⟩))))
  go_loopg [6] k (fun kq v6 w' => ∃ (a0 : Int), v6 = .int .i64 a0 ∧ Aside0 (whole_order.l0 kq l0 l1 a0 = some r) ∧ Aside0 (kq ≤ k) ∧ Drawn0 w w')
  case atStart => exact ⟨(wrap64 ((l0.length : Int) - 1)), sd, H', ⟨Nat.le_refl _⟩, by repeat (first | exact Drawn0.refl _ | apply Drawn0.step)⟩
  case round =>
   clear H'
   try clear c1
   try clear c4
   try clear ai
   try clear ah
   obtain ⟨a0, rfl, HA, ax, ⟨m1, rfl⟩⟩ := hrel
   cases gk with
   | zero => exact absurd HA.out (by simp [whole_order.l0])
   | succ k1 =>
    have H := HA.out
    clear HA
    simp only [whole_order.l0] at H
    by_cases c5 : a0 ≥ 0
    ·rw [if_pos c5] at H
     have ar : decide (0 ≤ a0) = true := decide_eq_true c5
     clear c5
     by_cases c6 : 0 ≤ a0
     ·rw [if_pos c6] at H
      have c6b0 : decide (0 ≤ a0) = true := decide_eq_true c6
      clear c6
      by_cases c7 : a0 < (l0.length : Int)
      ·rw [if_pos c7] at H
       have c7b0 : decide (a0 < (l0.length : Int)) = true := decide_eq_true c7
       clear c7
       by_cases c8 : a0 < (l1.length : Int)
       ·rw [if_pos c8] at H
        have c8b0 : decide (a0 < (l1.length : Int)) = true := decide_eq_true c8
        clear c8
        by_cases c9 : (rd l0 a0) = (rd l1 a0)
        ·rw [if_pos c9] at H
         have an : ((rd l0 a0) == (rd l1 a0)) = true := beq_iff_eq.mpr c9
         have aq : ((rd l0 a0) != (rd l1 a0)) = false := bne_eq_false_iff_eq.mpr c9
         clear c9
         have H' := Aside0.mk H
         clear H
         have a4 : 0 ≤ (a0 : Int) := of_decide_eq_true asm
         have a3 : a0 < (l0.length : Int) := of_decide_eq_true asm
         obtain ⟨a8, af, a6⟩ := Kd.at_int ap.out a0 a4 a3
         cases af
         replace a4 := eq_true a4
         replace a3 := eq_true a3
         have a2 : 0 ≤ (a0 : Int) := of_decide_eq_true asm
         have a5 : a0 < (l1.length : Int) := of_decide_eq_true asm
         obtain ⟨a9, ad, a7⟩ := Kd.at_int au.out a0 a2 a5
         cases ad
         replace a2 := eq_true a2
         replace a5 := eq_true a5
         go_wp2
         repeat (go_quiet (fail); try go_wp2)
         go_roundg k1
         case measure => have := ax.out; omega
         case rel => exact ⟨(wrap64 (a0 - 1)), sd, H', ⟨by have := ax.out; omega⟩, by repeat (first | exact Drawn0.refl _ | apply Drawn0.step)⟩
        ·rw [if_neg c9] at H
         have an : ((rd l0 a0) == (rd l1 a0)) = false := beq_eq_false_iff_ne.mpr c9
         have aq : ((rd l0 a0) != (rd l1 a0)) = true := bne_iff_ne.mpr c9
         obtain ⟨aa, ao, H⟩ := bs H
         obtain rfl := Option.some.inj H
         have a4 : 0 ≤ (a0 : Int) := of_decide_eq_true asm
         have a3 : a0 < (l0.length : Int) := of_decide_eq_true asm
         obtain ⟨a8, af, a6⟩ := Kd.at_int ap.out a0 a4 a3
         cases af
         replace a4 := eq_true a4
         replace a3 := eq_true a3
         have a2 : 0 ≤ (a0 : Int) := of_decide_eq_true asm
         have a5 : a0 < (l1.length : Int) := of_decide_eq_true asm
         obtain ⟨a9, ad, a7⟩ := Kd.at_int au.out a0 a2 a5
         cases ad
         replace a2 := eq_true a2
         replace a5 := eq_true a5
         have ab : 0 ≤ (a0 : Int) := of_decide_eq_true asm
         have ac : a0 < (l0.length : Int) := of_decide_eq_true asm
         obtain ⟨aj, aw, am⟩ := Kd.at_int ap.out a0 ab ac
         obtain rfl : a8 = aj := (by injection aw)
         replace ab := eq_true ab
         replace ac := eq_true ac
         have ae : 0 ≤ (a0 : Int) := of_decide_eq_true asm
         have ag : a0 < (l1.length : Int) := of_decide_eq_true asm
         obtain ⟨ak, av, al⟩ := Kd.at_int au.out a0 ae ag
         obtain rfl : a9 = ak := (by injection av)
         replace ae := eq_true ae
         replace ag := eq_true ag
         go_wp2_with (first | (go_at_call 114; (with_reducible refine (cmp_Compare_uint32.calls (rd l0 a0) (rd l1 a0) aa _ ao.out).mono ?_); rintro e w' ⟨rfl, ⟨nd, rfl⟩⟩; (try first | exact ⟨rfl, _, World.drewN_drewN _ _ _⟩ | exact ⟨rfl, _, Eq.trans (World.drewN_drewN _ _ _) (congrArg (World.drewN _) (Nat.add_assoc _ _ _))⟩)))
         repeat (go_quiet (first | (go_at_call 114; (with_reducible refine (cmp_Compare_uint32.calls (rd l0 a0) (rd l1 a0) aa _ ao.out).mono ?_); rintro e w' ⟨rfl, ⟨nd, rfl⟩⟩; (try first | exact ⟨rfl, _, World.drewN_drewN _ _ _⟩ | exact ⟨rfl, _, Eq.trans (World.drewN_drewN _ _ _) (congrArg (World.drewN _) (Nat.add_assoc _ _ _))⟩))); try go_wp2_with (first | (go_at_call 114; (with_reducible refine (cmp_Compare_uint32.calls (rd l0 a0) (rd l1 a0) aa _ ao.out).mono ?_); rintro e w' ⟨rfl, ⟨nd, rfl⟩⟩; (try first | exact ⟨rfl, _, World.drewN_drewN _ _ _⟩ | exact ⟨rfl, _, Eq.trans (World.drewN_drewN _ _ _) (congrArg (World.drewN _) (Nat.add_assoc _ _ _))⟩))))
         go_ret
         exact ⟨sd, by repeat (first | exact Drawn0.refl _ | apply Drawn0.step)⟩
       ·rw [if_neg c8] at H
        exact absurd H (by simp)
      ·rw [if_neg c7] at H
       exact absurd H (by simp)
     ·rw [if_neg c6] at H
      exact absurd H (by simp)
    ·rw [if_neg c5] at H
     have ar : decide (0 ≤ a0) = false := decide_eq_false c5
     clear c5
     obtain rfl := Option.some.inj H
     go_wp2
     repeat (go_quiet (fail); try go_wp2)
     go_ret
     exact ⟨sd, by repeat (first | exact Drawn0.refl _ | apply Drawn0.step)⟩
 ·rw [if_neg c4] at H
  have ai : (a1 == 0) = false := beq_eq_false_iff_ne.mpr c4
  have ah : (a1 != 0) = true := bne_iff_ne.mpr c4
  obtain rfl := Option.some.inj H
  go_enter Try.func81, Try.ntmps81
  go_wp2_with (first | (go_at_call 113; (with_reducible refine (cmp_Compare_int.calls (l0.length : Int) (l1.length : Int) a1 _ A3.out).mono ?_); rintro e w' ⟨rfl, ⟨nd, rfl⟩⟩; (try first | exact ⟨rfl, _, World.drewN_drewN _ _ _⟩ | exact ⟨rfl, _, Eq.trans (World.drewN_drewN _ _ _) (congrArg (World.drewN _) (Nat.add_assoc _ _ _))⟩)))
  repeat (go_quiet (first | (go_at_call 113; (with_reducible refine (cmp_Compare_int.calls (l0.length : Int) (l1.length : Int) a1 _ A3.out).mono ?_); rintro e w' ⟨rfl, ⟨nd, rfl⟩⟩; (try first | exact ⟨rfl, _, World.drewN_drewN _ _ _⟩ | exact ⟨rfl, _, Eq.trans (World.drewN_drewN _ _ _) (congrArg (World.drewN _) (Nat.add_assoc _ _ _))⟩))); try go_wp2_with (first | (go_at_call 113; (with_reducible refine (cmp_Compare_int.calls (l0.length : Int) (l1.length : Int) a1 _ A3.out).mono ?_); rintro e w' ⟨rfl, ⟨nd, rfl⟩⟩; (try first | exact ⟨rfl, _, World.drewN_drewN _ _ _⟩ | exact ⟨rfl, _, Eq.trans (World.drewN_drewN _ _ _) (congrArg (World.drewN _) (Nat.add_assoc _ _ _))⟩))))
  go_ret
  exact ⟨sd, by repeat (first | exact Drawn0.refl _ | apply Drawn0.step)⟩
end Go.Proofs.Ytfjbhccapgnkiaa.P
namespace Go.Proofs.Ytfjbhccapgnkiaa.P
open Go.RowKit Go.Proofs.YtfjbhccapgnkiaaW.PrintWords Go.Proofs.YtfjbhccapgnkiaaW.PrintLast Go.Proofs.YtfjbhccapgnkiaaW.PrintMore
attribute [local go_sem] max2_int min2_int max_two min_two max_three min_three max_four min_four
set_option linter.unusedVariables false
set_option maxHeartbeats 16000000
set_option maxRecDepth 100000
set_option linter.unusedSimpArgs false
/-! ### whole_plus1: function 80 -/
def whole_plus1.l0 : Nat → List Int → List Int → List Int → Int → Int → Int → Option (List Int)
 | 0, _, _, _, _, _, _ => none
 | k + 1, x0, x1, x5, x6, a2, a0 => if a0 < a2 then (if 0 ≤ a0 then (if a0 < (x0.length : Int) then (if a0 < (x1.length : Int) then (if a0 < (x5.length : Int) then (whole_plus1.l0 k x0 x1 (x5.set (a0 : Int).toNat ((IntKind.u64.wrap ((IntKind.u64.wrap (x6 + (IntKind.u64.wrap (rd x0 a0)))) + (IntKind.u64.wrap (rd x1 a0)))) % 4294967296)) ((IntKind.u64.wrap ((IntKind.u64.wrap (x6 + (IntKind.u64.wrap (rd x0 a0)))) + (IntKind.u64.wrap (rd x1 a0)))) / 4294967296) a2 (wrap64 (a0 + 1))) else (none)) else (if a0 < (x5.length : Int) then (whole_plus1.l0 k x0 x1 (x5.set (a0 : Int).toNat ((IntKind.u64.wrap (x6 + (IntKind.u64.wrap (rd x0 a0)))) % 4294967296)) ((IntKind.u64.wrap (x6 + (IntKind.u64.wrap (rd x0 a0)))) / 4294967296) a2 (wrap64 (a0 + 1))) else (none))) else (none)) else (none)) else (if 0 ≤ (x0.length : Int) then (if (x0.length : Int) < (x5.length : Int) then ((whole_words_trim.f k (x5.set ((x0.length : Int) : Int).toNat ((x6) % 4294967296))).bind fun a1 => (some a1)) else (none)) else (none))
def whole_plus1.f (k : Nat) (l0 : List Int) (l1 : List Int) : Option (List Int) := if 0 ≤ (wrap64 ((l0.length : Int) + 1)) then (if (wrap64 ((l0.length : Int) + 1) : Int).toNat ≤ 70368744177664 then (whole_plus1.l0 k l0 l1 (List.replicate (wrap64 ((l0.length : Int) + 1) : Int).toNat 0) 0 (l0.length : Int) 0) else (none)) else (none)
theorem whole_plus1.mono_l : ∀ k, (∀ y0 y1 y2 y3 y4 y5, LeO (whole_plus1.l0 k y0 y1 y2 y3 y4 y5) (whole_plus1.l0 (k + 1) y0 y1 y2 y3 y4 y5))
 | 0 => fun _ _ _ _ _ _ r h => by simp [whole_plus1.l0] at h
 | k + 1 => by
  have a0 := whole_plus1.mono_l k
  ·intro y0 y1 y2 y3 y4 y5
   unfold whole_plus1.l0
   repeat' first | with_reducible exact a0 _ _ _ _ _ _ | with_reducible exact whole_words_trim.mono _ _ | with_reducible exact LeO.refl _ | with_reducible exact LeO.none _ | with_reducible refine LeO.ite ?_ ?_ | with_reducible refine LeO.bind ?_ (fun _ => ?_) | exact a0 _ _ _ _ _ _ | exact whole_words_trim.mono _ _ | exact LeO.none _ | refine LeO.ite ?_ ?_ | refine LeO.bind ?_ (fun _ => ?_)
theorem whole_plus1.mono : ∀ a0 a1 k, LeO (whole_plus1.f k a0 a1) (whole_plus1.f (k + 1) a0 a1) := by
 intro a0 a1 k
 have a2 := whole_plus1.mono_l k
 unfold whole_plus1.f
 repeat' first | with_reducible exact a2 _ _ _ _ _ _ | with_reducible exact whole_words_trim.mono _ _ | with_reducible exact LeO.refl _ | with_reducible exact LeO.none _ | with_reducible refine LeO.ite ?_ ?_ | with_reducible refine LeO.bind ?_ (fun _ => ?_) | exact a2 _ _ _ _ _ _ | exact whole_words_trim.mono _ _ | exact LeO.none _ | refine LeO.ite ?_ ?_ | refine LeO.bind ?_ (fun _ => ?_)
theorem whole_plus1.ge (k : Nat) (A0 : Option Addr) (c0 : Nat) (l0 : List Int) (A1 : Option Addr) (c1 : Nat) (l1 : List Int) (r : List Int) (w : World) (bD : Kd.C (Kd.int .u32) w A0 l0.length l0) (bB : l0.length ≤ c0) (bn : Kd.C (Kd.int .u32) w A1 l1.length l1) (br : l1.length ≤ c1) (hge : decide (l0.length < l1.length) = false) (h : whole_plus1.f k l0 l1 = some r) :
  Calls Try.prog 80 #[.slice A0 l0.length c0, .slice A1 l1.length c1] w fun e w' => ∃ bC : Value, e = .returned (bC) ∧ Kd.V (Kd.int .u32) 118 w' w.heap.size (fun k_ => (w.heap.size ≤ k_)) bC r ∧ Below w.heap.size w w' := by
 have bm := Aside0.mk bD
 have HC0 := Aside0.mk bB
 clear bD bB
 have HR1 := Aside0.mk bn
 have HC1 := Aside0.mk br
 clear bn br
 have HB := Aside0.mk (Below.refl w.heap.size w)
 have H : (if 0 ≤ (wrap64 ((l0.length : Int) + 1)) then (if (wrap64 ((l0.length : Int) + 1) : Int).toNat ≤ 70368744177664 then (whole_plus1.l0 k l0 l1 (List.replicate (wrap64 ((l0.length : Int) + 1) : Int).toNat 0) 0 (l0.length : Int) 0) else (none)) else (none)) = some r := h
 clear h
 obtain ⟨aa, hji3⟩ : ∃ j_ : Int, (wrap64 ((l0.length : Int) + 1)) = j_ := ⟨_, rfl⟩
 replace H : (if 0 ≤ (aa) then (if (aa : Int).toNat ≤ 70368744177664 then (whole_plus1.l0 k l0 l1 (List.replicate (aa : Int).toNat 0) 0 (l0.length : Int) 0) else (none)) else (none)) = some r := by first | (rw [hji3] at H; exact H) | (simp only [hji3] at H ⊢; exact H)
 have bA : (IntKind.i64.wrap ((l0.length : Int) + 1)) = aa := (i64_w _).trans hji3
 by_cases c4 : 0 ≤ (aa)
 ·rw [if_pos c4] at H
  have b5 := eq_true c4
  have bd : decide (0 ≤ (aa)) = true := decide_eq_true c4
  clear c4
  by_cases c5 : (aa : Int).toNat ≤ 70368744177664
  ·rw [if_pos c5] at H
   have aX := eq_true c5
   have b0 : decide ((aa : Int).toNat ≤ 70368744177664) = true := decide_eq_true c5
   clear c5
   obtain ⟨y107, hy107⟩ : ∃ y_ : List Int, y_ = (List.replicate (aa : Int).toNat 0) := ⟨_, rfl⟩
   replace H : (whole_plus1.l0 k l0 l1 y107 0 (l0.length : Int) 0) = some r := by first | (rw [hy107]; with_reducible exact H) | (have a8 := (Option.bind_some _ _).symm.trans H; rw [hy107]; with_reducible exact a8) | (have a8 := (Option.bind_some _ _).symm.trans H; with_reducible exact a8) | with_reducible exact H | (rw [hy107]; exact H) | exact H
   have ad := Aside0.mk hy107
   clear hy107
   have H' := Aside0.mk H
   clear H
   go_enter Try.func80, Try.ntmps80
   go_wp2_with (first | ((with_reducible refine gd 18 rfl ?_); refine Kd.R_make (Kd.int .u32) _ 118 rfl (N := 18) rfl 106 _ _ rfl aa rfl rfl Try.underlying106 (.int .u32 0) 4 info118 rfl (by decide) (by omega) 0 (ok := fun _ => True) (okp := fun _ => True) rfl (fun _ hk => hk) trivial (of_decide_eq_true asm) (Nat.le_trans (Nat.mul_le_mul_right _ (of_decide_eq_true asm : aa.toNat ≤ 70368744177664)) (by omega)) (Below.refl _ _) (Nat.le_refl _) ?_; intro b1 w6 aC hb hg_ av; clear hg_ av; (first | rw [← ad.out] at aC | (simp only [Int.reduceToNat] at aC; rw [← ad.out] at aC)); have aF := rL HB (Kd.R_newM (M := fun k_ => (w.heap.size ≤ k_)) aC (sz HB) (fun k_ h_ => h_)); replace HB := hB HB hb; clear hb aC))
   go_loopg [6, 21] k (fun kq v6 v21 w' => ∃ (a1 : List Int) (a4 : Int) (a0 : Int), v6 = .int .u64 a4 ∧ v21 = .int .i64 a0 ∧ Aside0 (whole_plus1.l0 kq l0 l1 a1 a4 (l0.length : Int) a0 = some r) ∧ Aside0 (kq ≤ k) ∧ Aside0 (Kd.R (Kd.int .u32) 118 w' w.heap.size (fun k_ => (w.heap.size ≤ k_)) b1 a1) ∧ Aside0 (Below w.heap.size w w'))
   case atStart => exact ⟨(y107), (0), (0), sd, sd, H', ⟨Nat.le_refl _⟩, ⟨by (with_reducible repeat (first | apply Kd.R_alloc | apply Kd.R_drewN | apply Kd.R_drew)); exact Kd.R_mono aF.out (fun _ hk => hk.1)⟩, ⟨bw⟩⟩
   case round =>
    clear H'
    try clear c1
    try clear c4
    try clear b5
    try clear bd
    try clear c5
    try clear aX
    try clear b0
    obtain ⟨a1, a4, a0, rfl, rfl, HA, aN, a2, HB⟩ := hrel
    cases gk with
    | zero => exact absurd HA.out (by simp [whole_plus1.l0])
    | succ k1 =>
     have H := HA.out
     clear HA
     simp only [whole_plus1.l0] at H
     by_cases c8 : a0 < (l0.length : Int)
     ·rw [if_pos c8] at H
      have b6 : decide (a0 < (l0.length : Int)) = true := decide_eq_true c8
      clear c8
      by_cases c9 : 0 ≤ a0
      ·rw [if_pos c9] at H
       have c9b0 : decide (0 ≤ a0) = true := decide_eq_true c9
       clear c9
       by_cases c10 : a0 < (l0.length : Int)
       ·rw [if_pos c10] at H
        have bj : decide (a0 < (l0.length : Int)) = true := decide_eq_true c10
        clear c10
        by_cases ap : a0 < (l1.length : Int)
        ·rw [if_pos ap] at H
         have aw : decide (a0 < (l1.length : Int)) = true := decide_eq_true ap
         clear ap
         by_cases aL : a0 < (a1.length : Int)
         ·rw [if_pos aL] at H
          have bu : decide (a0 < (a1.length : Int)) = true := decide_eq_true aL
          clear aL
          obtain ⟨y112, hy112⟩ : ∃ y_ : List Int, y_ = (a1.set (a0 : Int).toNat ((IntKind.u64.wrap ((IntKind.u64.wrap (a4 + (IntKind.u64.wrap (rd l0 a0)))) + (IntKind.u64.wrap (rd l1 a0)))) % 4294967296)) := ⟨_, rfl⟩
          replace H : (whole_plus1.l0 k1 l0 l1 y112 ((IntKind.u64.wrap ((IntKind.u64.wrap (a4 + (IntKind.u64.wrap (rd l0 a0)))) + (IntKind.u64.wrap (rd l1 a0)))) / 4294967296) (l0.length : Int) (wrap64 (a0 + 1))) = some r := by first | (rw [hy112]; with_reducible exact H) | (have a8 := (Option.bind_some _ _).symm.trans H; rw [hy112]; with_reducible exact a8) | (have a8 := (Option.bind_some _ _).symm.trans H; with_reducible exact a8) | with_reducible exact H | (rw [hy112]; exact H) | exact H
          have aH := Aside0.mk hy112
          clear hy112
          have H' := Aside0.mk H
          clear H
          have a6 : 0 ≤ (a0 : Int) := of_decide_eq_true asm
          have a7 : a0 < (l0.length : Int) := of_decide_eq_true asm
          obtain ⟨aK, an, a3⟩ := Kd.at_int bm.out a0 a6 a7
          cases an
          replace a3 := (HB.out.cell (World.block_lt_of_cell? w _ a3)).trans a3
          replace a6 := eq_true a6
          replace a7 := eq_true a7
          have ai : 0 ≤ (a0 : Int) := of_decide_eq_true asm
          have al : a0 < (l1.length : Int) := of_decide_eq_true asm
          obtain ⟨bl, aR, a5⟩ := Kd.at_int HR1.out a0 ai al
          cases aR
          replace a5 := (HB.out.cell (World.block_lt_of_cell? w _ a5)).trans a5
          replace ai := eq_true ai
          replace al := eq_true al
          have bh : 0 ≤ (a0 : Int) := of_decide_eq_true asm
          have aS : (a0 : Int) < ((a1.length : Int) : Int) := of_decide_eq_true asm
          obtain ⟨aj, aV, aq, aG, b8, cl13, aE⟩ := Kd.R_form a2.out (by omega)
          (first | cases aq | (injection aq with ea_ en_ ec_; (first | subst ea_ | (injection ea_ with ea_; subst ea_)); subst ec_; clear en_))
          have aZ := Aside0.mk aG
          have GG13 := Aside0.mk aE
          clear aG b8 aE
          obtain ⟨b4, aY⟩ := Kd.R_celln 0 a2.out (a0 : Int) bh aS
          replace bh := eq_true bh
          replace aS := eq_true aS
          have ak := Kd.R_putg a2.out (a0 : Int) ((IntKind.u64.wrap ((IntKind.u64.wrap (a4 + (IntKind.u64.wrap (rd l0 a0)))) + (IntKind.u64.wrap (rd l1 a0)))) % 4294967296)
          go_wp2_with (first | ((with_reducible refine gate_store (t := 118) (p := 46) rfl ?_); refine store_event (t := 118) (p := 46) (v := ?vo_w15) (w1 := (wr.setCell ⟨aj, (a0 : Int).toNat, none⟩ (.int .u32 ((IntKind.u64.wrap ((IntKind.u64.wrap (a4 + (IntKind.u64.wrap (rd l0 a0)))) + (IntKind.u64.wrap (rd l1 a0)))) % 4294967296)))) ?hg ?ho ?hn ?hr ?_; (case ho => rfl); (case hg => rfl); (case hn => rfl); (case hr => first | (go_simp; done) | (go_simp; rfl)); intro ba hw; have hg : wr.grownBy ba (some aj) := (by rw [hw]; exact ak.2); have ac : Kd.R (Kd.int .u32) 118 ba w.heap.size (fun k_ => (w.heap.size ≤ k_)) (.slice (some ⟨aj, 0, none⟩) a1.length aV) y112 := (by rw [hw, aH.out]; exact ak.1); clear ak; replace a2 := Aside0.mk ac; replace HB := Aside0.mk ((by rw [hw]; exact below_set (HB.out) aZ.out : Below w.heap.size w ba)); clear hg hw ac))
          go_roundg k1
          case measure => have := aN.out; omega
          case rel => exact ⟨(y112), ((IntKind.u64.wrap ((IntKind.u64.wrap (a4 + (IntKind.u64.wrap (rd l0 a0)))) + (IntKind.u64.wrap (rd l1 a0)))) / 4294967296), (wrap64 (a0 + 1)), sd, sd, H', ⟨by have := aN.out; omega⟩, ⟨rb a2⟩, ⟨bw⟩⟩
         ·rw [if_neg aL] at H
          exact absurd H (by simp)
        ·rw [if_neg ap] at H
         have aw : decide (a0 < (l1.length : Int)) = false := decide_eq_false ap
         clear ap
         by_cases aM : a0 < (a1.length : Int)
         ·rw [if_pos aM] at H
          have bz : decide (a0 < (a1.length : Int)) = true := decide_eq_true aM
          clear aM
          obtain ⟨y113, hy113⟩ : ∃ y_ : List Int, y_ = (a1.set (a0 : Int).toNat ((IntKind.u64.wrap (a4 + (IntKind.u64.wrap (rd l0 a0)))) % 4294967296)) := ⟨_, rfl⟩
          replace H : (whole_plus1.l0 k1 l0 l1 y113 ((IntKind.u64.wrap (a4 + (IntKind.u64.wrap (rd l0 a0)))) / 4294967296) (l0.length : Int) (wrap64 (a0 + 1))) = some r := by first | (rw [hy113]; with_reducible exact H) | (have a8 := (Option.bind_some _ _).symm.trans H; rw [hy113]; with_reducible exact a8) | (have a8 := (Option.bind_some _ _).symm.trans H; with_reducible exact a8) | with_reducible exact H | (rw [hy113]; exact H) | exact H
          have ax := Aside0.mk hy113
          clear hy113
          have H' := Aside0.mk H
          clear H
          have a6 : 0 ≤ (a0 : Int) := of_decide_eq_true asm
          have a7 : a0 < (l0.length : Int) := of_decide_eq_true asm
          obtain ⟨aK, an, a3⟩ := Kd.at_int bm.out a0 a6 a7
          cases an
          replace a3 := (HB.out.cell (World.block_lt_of_cell? w _ a3)).trans a3
          replace a6 := eq_true a6
          replace a7 := eq_true a7
          have aQ : 0 ≤ (a0 : Int) := of_decide_eq_true asm
          have aP : (a0 : Int) < ((a1.length : Int) : Int) := of_decide_eq_true asm
          obtain ⟨af, bb, aD, ar, b3, cl17, aI⟩ := Kd.R_form a2.out (by omega)
          (first | cases aD | (injection aD with ea_ en_ ec_; (first | subst ea_ | (injection ea_ with ea_; subst ea_)); subst ec_; clear en_))
          have b9 := Aside0.mk ar
          have GG17 := Aside0.mk aI
          clear ar b3 aI
          obtain ⟨aT, bg⟩ := Kd.R_celln 0 a2.out (a0 : Int) aQ aP
          replace aQ := eq_true aQ
          replace aP := eq_true aP
          have am := Kd.R_putg a2.out (a0 : Int) ((IntKind.u64.wrap (a4 + (IntKind.u64.wrap (rd l0 a0)))) % 4294967296)
          go_wp2_with (first | ((with_reducible refine gate_store (t := 118) (p := 46) rfl ?_); refine store_event (t := 118) (p := 46) (v := ?vo_w19) (w1 := (wr.setCell ⟨af, (a0 : Int).toNat, none⟩ (.int .u32 ((IntKind.u64.wrap (a4 + (IntKind.u64.wrap (rd l0 a0)))) % 4294967296)))) ?hg ?ho ?hn ?hr ?_; (case ho => rfl); (case hg => rfl); (case hn => rfl); (case hr => first | (go_simp; done) | (go_simp; rfl)); intro aW hw; have hg : wr.grownBy aW (some af) := (by rw [hw]; exact am.2); have ac : Kd.R (Kd.int .u32) 118 aW w.heap.size (fun k_ => (w.heap.size ≤ k_)) (.slice (some ⟨af, 0, none⟩) a1.length bb) y113 := (by rw [hw, ax.out]; exact am.1); clear am; replace a2 := Aside0.mk ac; replace HB := Aside0.mk ((by rw [hw]; exact below_set (HB.out) b9.out : Below w.heap.size w aW)); clear hg hw ac))
          go_roundg k1
          case measure => have := aN.out; omega
          case rel => exact ⟨(y113), ((IntKind.u64.wrap (a4 + (IntKind.u64.wrap (rd l0 a0)))) / 4294967296), (wrap64 (a0 + 1)), sd, sd, H', ⟨by have := aN.out; omega⟩, ⟨rb a2⟩, ⟨bw⟩⟩
         ·rw [if_neg aM] at H
          exact absurd H (by simp)
       ·rw [if_neg c10] at H
        exact absurd H (by simp)
      ·rw [if_neg c9] at H
       exact absurd H (by simp)
     ·rw [if_neg c8] at H
      have b6 : decide (a0 < (l0.length : Int)) = false := decide_eq_false c8
      clear c8
      by_cases aO : 0 ≤ (l0.length : Int)
      ·rw [if_pos aO] at H
       have bi : decide (0 ≤ (l0.length : Int)) = true := decide_eq_true aO
       have bx : decide (0 ≤ l0.length) = true := decide_eq_true (by omega)
       clear aO
       by_cases aJ : (l0.length : Int) < (a1.length : Int)
       ·rw [if_pos aJ] at H
        have bq : decide ((l0.length : Int) < (a1.length : Int)) = true := decide_eq_true aJ
        have bv : decide (l0.length < a1.length) = true := decide_eq_true (Int.ofNat_lt.mp aJ)
        clear aJ
        obtain ⟨y114, hy114⟩ : ∃ y_ : List Int, y_ = (a1.set ((l0.length : Int) : Int).toNat ((a4) % 4294967296)) := ⟨_, rfl⟩
        replace H : ((whole_words_trim.f k1 y114).bind fun ah => (some ah)) = some r := by first | (rw [hy114]; with_reducible exact H) | (have a8 := (Option.bind_some _ _).symm.trans H; rw [hy114]; with_reducible exact a8) | (have a8 := (Option.bind_some _ _).symm.trans H; with_reducible exact a8) | with_reducible exact H | (rw [hy114]; exact H) | exact H
        have au := Aside0.mk hy114
        clear hy114
        obtain ⟨ah, A23, H⟩ := bs H
        obtain rfl := Option.some.inj H
        have be : 0 ≤ ((l0.length : Int) : Int) := of_decide_eq_true asm
        have bf : ((l0.length : Int) : Int) < ((a1.length : Int) : Int) := of_decide_eq_true asm
        obtain ⟨a9, ao, aA, ay, b7, cl22, az⟩ := Kd.R_form a2.out (by omega)
        (first | cases aA | (injection aA with ea_ en_ ec_; (first | subst ea_ | (injection ea_ with ea_; subst ea_)); subst ec_; clear en_))
        have b2 := Aside0.mk ay
        have GG22 := Aside0.mk az
        clear ay b7 az
        obtain ⟨ae, ag⟩ := Kd.R_celln 0 a2.out ((l0.length : Int) : Int) be bf
        replace be := eq_true be
        replace bf := eq_true bf
        have ab := Kd.R_putg a2.out ((l0.length : Int) : Int) ((a4) % 4294967296)
        simp only [Int.toNat_natCast] at ae ag ab
        go_wp2_with (first | ((with_reducible refine gate_store (t := 118) (p := 55) rfl ?_); refine store_event (t := 118) (p := 55) (v := ?vo_w25) (w1 := (wr.setCell ⟨a9, l0.length, none⟩ (.int .u32 ((a4) % 4294967296)))) ?hg ?ho ?hn ?hr ?_; (case ho => rfl); (case hg => rfl); (case hn => rfl); (case hr => first | (go_simp; done) | (go_simp; rfl)); intro aU hw; have hg : wr.grownBy aU (some a9) := (by rw [hw]; exact ab.2); have ac : Kd.R (Kd.int .u32) 118 aU w.heap.size (fun k_ => (w.heap.size ≤ k_)) (.slice (some ⟨a9, 0, none⟩) a1.length ao) y114 := (by rw [hw, au.out]; exact ab.1); clear ab; replace a2 := Aside0.mk ac; replace HB := Aside0.mk ((by rw [hw]; exact below_set (HB.out) b2.out : Below w.heap.size w aU)); clear hg hw ac) | ((with_reducible refine gate_callee (f := 92) rfl ?_); refine goesL_ (some 57) rfl rfl Try.func92 (by kernel_rfl) rfl #[.slice (some ⟨a9, 0, none⟩) y114.length ao] rfl (by (try simp only [List.map_toArray, List.map_cons, List.map_nil]); first | done | (rw [show y114.length = a1.length from (Kd.R_reads' a2.out).1.symm] <;> rfl) | rfl | (simp only [List.length_drop, List.length_take]; rfl)) ?_; (with_reducible refine (whole_words_trim.calls k1 (fun k_ => some k_ = (.slice (some ⟨a9, 0, none⟩) a1.length ao : Value).ownBlock) _ _ y114 ah _ ?side1 A23.out).mono ?_); (case side1 => rw [show y114.length = a1.length from (Kd.R_reads' a2.out).1.symm]; exact Kd.R_V (Kd.R_tight rfl (a2.out))); rintro e w26 ⟨v116, rfl, bo, hb⟩; refine ⟨_, rfl, ?_⟩; have aB := Aside0.mk (Kd.V_lower (Kd.V_mono (ok' := fun k_ => (w.heap.size ≤ k_)) bo (fun k_ hk_ => Or.elim hk_ (fun hs_ => ((a2.out).1 k_ hs_.symm)) (fun hn_ => (Nat.le_trans (sz HB) hn_)))) (sz HB)); replace a2 := rB a2 hb; replace HB := hB HB hb; clear hb bo))
        go_ret
        exact ⟨_, by first | rfl | (simp [errW_none, errW_some] <;> rfl) | (simp only [← hji3]; first | rfl | (simp [errW_none, errW_some] <;> rfl)) | (simp [*, errW_none, errW_some] <;> rfl), vb aB, bw⟩
       ·rw [if_neg aJ] at H
        exact absurd H (by simp)
      ·rw [if_neg aO] at H
       exact absurd H (by simp)
  ·rw [if_neg c5] at H
   exact absurd H (by simp)
 ·rw [if_neg c4] at H
  exact absurd H (by simp)
theorem whole_plus1.lt (k : Nat) (A0 : Option Addr) (c0 : Nat) (l0 : List Int) (A1 : Option Addr) (c1 : Nat) (l1 : List Int) (r : List Int) (w : World) (bD : Kd.C (Kd.int .u32) w A0 l0.length l0) (bB : l0.length ≤ c0) (bn : Kd.C (Kd.int .u32) w A1 l1.length l1) (br : l1.length ≤ c1) (hlt : decide (l1.length < l0.length) = true) (h : whole_plus1.f k l0 l1 = some r) :
  Calls Try.prog 80 #[.slice A1 l1.length c1, .slice A0 l0.length c0] w fun e w' => ∃ bC : Value, e = .returned (bC) ∧ Kd.V (Kd.int .u32) 118 w' w.heap.size (fun k_ => (w.heap.size ≤ k_)) bC r ∧ Below w.heap.size w w' := by
 have bm := Aside0.mk bD
 have HC0 := Aside0.mk bB
 clear bD bB
 have HR1 := Aside0.mk bn
 have HC1 := Aside0.mk br
 clear bn br
 have HB := Aside0.mk (Below.refl w.heap.size w)
 have H : (if 0 ≤ (wrap64 ((l0.length : Int) + 1)) then (if (wrap64 ((l0.length : Int) + 1) : Int).toNat ≤ 70368744177664 then (whole_plus1.l0 k l0 l1 (List.replicate (wrap64 ((l0.length : Int) + 1) : Int).toNat 0) 0 (l0.length : Int) 0) else (none)) else (none)) = some r := h
 clear h
 obtain ⟨aa, hji3⟩ : ∃ j_ : Int, (wrap64 ((l0.length : Int) + 1)) = j_ := ⟨_, rfl⟩
 replace H : (if 0 ≤ (aa) then (if (aa : Int).toNat ≤ 70368744177664 then (whole_plus1.l0 k l0 l1 (List.replicate (aa : Int).toNat 0) 0 (l0.length : Int) 0) else (none)) else (none)) = some r := by first | (rw [hji3] at H; exact H) | (simp only [hji3] at H ⊢; exact H)
 have bA : (IntKind.i64.wrap ((l0.length : Int) + 1)) = aa := (i64_w _).trans hji3
 by_cases c4 : 0 ≤ (aa)
 ·rw [if_pos c4] at H
  have b5 := eq_true c4
  have bd : decide (0 ≤ (aa)) = true := decide_eq_true c4
  clear c4
  by_cases c5 : (aa : Int).toNat ≤ 70368744177664
  ·rw [if_pos c5] at H
   have aX := eq_true c5
   have b0 : decide ((aa : Int).toNat ≤ 70368744177664) = true := decide_eq_true c5
   clear c5
   obtain ⟨y107, hy107⟩ : ∃ y_ : List Int, y_ = (List.replicate (aa : Int).toNat 0) := ⟨_, rfl⟩
   replace H : (whole_plus1.l0 k l0 l1 y107 0 (l0.length : Int) 0) = some r := by first | (rw [hy107]; with_reducible exact H) | (have a8 := (Option.bind_some _ _).symm.trans H; rw [hy107]; with_reducible exact a8) | (have a8 := (Option.bind_some _ _).symm.trans H; with_reducible exact a8) | with_reducible exact H | (rw [hy107]; exact H) | exact H
   have ad := Aside0.mk hy107
   clear hy107
   have H' := Aside0.mk H
   clear H
   go_enter Try.func80, Try.ntmps80
   go_wp2_with (first | ((with_reducible refine gd 18 rfl ?_); refine Kd.R_make (Kd.int .u32) _ 118 rfl (N := 18) rfl 106 _ _ rfl aa rfl rfl Try.underlying106 (.int .u32 0) 4 info118 rfl (by decide) (by omega) 0 (ok := fun _ => True) (okp := fun _ => True) rfl (fun _ hk => hk) trivial (of_decide_eq_true asm) (Nat.le_trans (Nat.mul_le_mul_right _ (of_decide_eq_true asm : aa.toNat ≤ 70368744177664)) (by omega)) (Below.refl _ _) (Nat.le_refl _) ?_; intro b1 w6 aC hb hg_ av; clear hg_ av; (first | rw [← ad.out] at aC | (simp only [Int.reduceToNat] at aC; rw [← ad.out] at aC)); have aF := rL HB (Kd.R_newM (M := fun k_ => (w.heap.size ≤ k_)) aC (sz HB) (fun k_ h_ => h_)); replace HB := hB HB hb; clear hb aC))
   go_loopg [6, 21] k (fun kq v6 v21 w' => ∃ (a1 : List Int) (a4 : Int) (a0 : Int), v6 = .int .u64 a4 ∧ v21 = .int .i64 a0 ∧ Aside0 (whole_plus1.l0 kq l0 l1 a1 a4 (l0.length : Int) a0 = some r) ∧ Aside0 (kq ≤ k) ∧ Aside0 (Kd.R (Kd.int .u32) 118 w' w.heap.size (fun k_ => (w.heap.size ≤ k_)) b1 a1) ∧ Aside0 (Below w.heap.size w w'))
   case atStart => exact ⟨(y107), (0), (0), sd, sd, H', ⟨Nat.le_refl _⟩, ⟨by (with_reducible repeat (first | apply Kd.R_alloc | apply Kd.R_drewN | apply Kd.R_drew)); exact Kd.R_mono aF.out (fun _ hk => hk.1)⟩, ⟨bw⟩⟩
   case round =>
    clear H'
    try clear c1
    try clear c4
    try clear b5
    try clear bd
    try clear c5
    try clear aX
    try clear b0
    obtain ⟨a1, a4, a0, rfl, rfl, HA, aN, a2, HB⟩ := hrel
    cases gk with
    | zero => exact absurd HA.out (by simp [whole_plus1.l0])
    | succ k1 =>
     have H := HA.out
     clear HA
     simp only [whole_plus1.l0] at H
     by_cases c8 : a0 < (l0.length : Int)
     ·rw [if_pos c8] at H
      have b6 : decide (a0 < (l0.length : Int)) = true := decide_eq_true c8
      clear c8
      by_cases c9 : 0 ≤ a0
      ·rw [if_pos c9] at H
       have c9b0 : decide (0 ≤ a0) = true := decide_eq_true c9
       clear c9
       by_cases c10 : a0 < (l0.length : Int)
       ·rw [if_pos c10] at H
        have bj : decide (a0 < (l0.length : Int)) = true := decide_eq_true c10
        clear c10
        by_cases ap : a0 < (l1.length : Int)
        ·rw [if_pos ap] at H
         have aw : decide (a0 < (l1.length : Int)) = true := decide_eq_true ap
         clear ap
         by_cases aL : a0 < (a1.length : Int)
         ·rw [if_pos aL] at H
          have bu : decide (a0 < (a1.length : Int)) = true := decide_eq_true aL
          clear aL
          obtain ⟨y112, hy112⟩ : ∃ y_ : List Int, y_ = (a1.set (a0 : Int).toNat ((IntKind.u64.wrap ((IntKind.u64.wrap (a4 + (IntKind.u64.wrap (rd l0 a0)))) + (IntKind.u64.wrap (rd l1 a0)))) % 4294967296)) := ⟨_, rfl⟩
          replace H : (whole_plus1.l0 k1 l0 l1 y112 ((IntKind.u64.wrap ((IntKind.u64.wrap (a4 + (IntKind.u64.wrap (rd l0 a0)))) + (IntKind.u64.wrap (rd l1 a0)))) / 4294967296) (l0.length : Int) (wrap64 (a0 + 1))) = some r := by first | (rw [hy112]; with_reducible exact H) | (have a8 := (Option.bind_some _ _).symm.trans H; rw [hy112]; with_reducible exact a8) | (have a8 := (Option.bind_some _ _).symm.trans H; with_reducible exact a8) | with_reducible exact H | (rw [hy112]; exact H) | exact H
          have aH := Aside0.mk hy112
          clear hy112
          have H' := Aside0.mk H
          clear H
          have a6 : 0 ≤ (a0 : Int) := of_decide_eq_true asm
          have a7 : a0 < (l0.length : Int) := of_decide_eq_true asm
          obtain ⟨aK, an, a3⟩ := Kd.at_int bm.out a0 a6 a7
          cases an
          replace a3 := (HB.out.cell (World.block_lt_of_cell? w _ a3)).trans a3
          replace a6 := eq_true a6
          replace a7 := eq_true a7
          have ai : 0 ≤ (a0 : Int) := of_decide_eq_true asm
          have al : a0 < (l1.length : Int) := of_decide_eq_true asm
          obtain ⟨bl, aR, a5⟩ := Kd.at_int HR1.out a0 ai al
          cases aR
          replace a5 := (HB.out.cell (World.block_lt_of_cell? w _ a5)).trans a5
          replace ai := eq_true ai
          replace al := eq_true al
          have bh : 0 ≤ (a0 : Int) := of_decide_eq_true asm
          have aS : (a0 : Int) < ((a1.length : Int) : Int) := of_decide_eq_true asm
          obtain ⟨aj, aV, aq, aG, b8, cl13, aE⟩ := Kd.R_form a2.out (by omega)
          (first | cases aq | (injection aq with ea_ en_ ec_; (first | subst ea_ | (injection ea_ with ea_; subst ea_)); subst ec_; clear en_))
          have aZ := Aside0.mk aG
          have GG13 := Aside0.mk aE
          clear aG b8 aE
          obtain ⟨b4, aY⟩ := Kd.R_celln 0 a2.out (a0 : Int) bh aS
          replace bh := eq_true bh
          replace aS := eq_true aS
          have ak := Kd.R_putg a2.out (a0 : Int) ((IntKind.u64.wrap ((IntKind.u64.wrap (a4 + (IntKind.u64.wrap (rd l0 a0)))) + (IntKind.u64.wrap (rd l1 a0)))) % 4294967296)
          go_wp2_with (first | ((with_reducible refine gate_store (t := 118) (p := 46) rfl ?_); refine store_event (t := 118) (p := 46) (v := ?vo_w15) (w1 := (wr.setCell ⟨aj, (a0 : Int).toNat, none⟩ (.int .u32 ((IntKind.u64.wrap ((IntKind.u64.wrap (a4 + (IntKind.u64.wrap (rd l0 a0)))) + (IntKind.u64.wrap (rd l1 a0)))) % 4294967296)))) ?hg ?ho ?hn ?hr ?_; (case ho => rfl); (case hg => rfl); (case hn => rfl); (case hr => first | (go_simp; done) | (go_simp; rfl)); intro ba hw; have hg : wr.grownBy ba (some aj) := (by rw [hw]; exact ak.2); have ac : Kd.R (Kd.int .u32) 118 ba w.heap.size (fun k_ => (w.heap.size ≤ k_)) (.slice (some ⟨aj, 0, none⟩) a1.length aV) y112 := (by rw [hw, aH.out]; exact ak.1); clear ak; replace a2 := Aside0.mk ac; replace HB := Aside0.mk ((by rw [hw]; exact below_set (HB.out) aZ.out : Below w.heap.size w ba)); clear hg hw ac))
          go_roundg k1
          case measure => have := aN.out; omega
          case rel => exact ⟨(y112), ((IntKind.u64.wrap ((IntKind.u64.wrap (a4 + (IntKind.u64.wrap (rd l0 a0)))) + (IntKind.u64.wrap (rd l1 a0)))) / 4294967296), (wrap64 (a0 + 1)), sd, sd, H', ⟨by have := aN.out; omega⟩, ⟨rb a2⟩, ⟨bw⟩⟩
         ·rw [if_neg aL] at H
          exact absurd H (by simp)
        ·rw [if_neg ap] at H
         have aw : decide (a0 < (l1.length : Int)) = false := decide_eq_false ap
         clear ap
         by_cases aM : a0 < (a1.length : Int)
         ·rw [if_pos aM] at H
          have bz : decide (a0 < (a1.length : Int)) = true := decide_eq_true aM
          clear aM
          obtain ⟨y113, hy113⟩ : ∃ y_ : List Int, y_ = (a1.set (a0 : Int).toNat ((IntKind.u64.wrap (a4 + (IntKind.u64.wrap (rd l0 a0)))) % 4294967296)) := ⟨_, rfl⟩
          replace H : (whole_plus1.l0 k1 l0 l1 y113 ((IntKind.u64.wrap (a4 + (IntKind.u64.wrap (rd l0 a0)))) / 4294967296) (l0.length : Int) (wrap64 (a0 + 1))) = some r := by first | (rw [hy113]; with_reducible exact H) | (have a8 := (Option.bind_some _ _).symm.trans H; rw [hy113]; with_reducible exact a8) | (have a8 := (Option.bind_some _ _).symm.trans H; with_reducible exact a8) | with_reducible exact H | (rw [hy113]; exact H) | exact H
          have ax := Aside0.mk hy113
          clear hy113
          have H' := Aside0.mk H
          clear H
          have a6 : 0 ≤ (a0 : Int) := of_decide_eq_true asm
          have a7 : a0 < (l0.length : Int) := of_decide_eq_true asm
          obtain ⟨aK, an, a3⟩ := Kd.at_int bm.out a0 a6 a7
          cases an
          replace a3 := (HB.out.cell (World.block_lt_of_cell? w _ a3)).trans a3
          replace a6 := eq_true a6
          replace a7 := eq_true a7
          have aQ : 0 ≤ (a0 : Int) := of_decide_eq_true asm
          have aP : (a0 : Int) < ((a1.length : Int) : Int) := of_decide_eq_true asm
          obtain ⟨af, bb, aD, ar, b3, cl17, aI⟩ := Kd.R_form a2.out (by omega)
          (first | cases aD | (injection aD with ea_ en_ ec_; (first | subst ea_ | (injection ea_ with ea_; subst ea_)); subst ec_; clear en_))
          have b9 := Aside0.mk ar
          have GG17 := Aside0.mk aI
          clear ar b3 aI
          obtain ⟨aT, bg⟩ := Kd.R_celln 0 a2.out (a0 : Int) aQ aP
          replace aQ := eq_true aQ
          replace aP := eq_true aP
          have am := Kd.R_putg a2.out (a0 : Int) ((IntKind.u64.wrap (a4 + (IntKind.u64.wrap (rd l0 a0)))) % 4294967296)
          go_wp2_with (first | ((with_reducible refine gate_store (t := 118) (p := 46) rfl ?_); refine store_event (t := 118) (p := 46) (v := ?vo_w19) (w1 := (wr.setCell ⟨af, (a0 : Int).toNat, none⟩ (.int .u32 ((IntKind.u64.wrap (a4 + (IntKind.u64.wrap (rd l0 a0)))) % 4294967296)))) ?hg ?ho ?hn ?hr ?_; (case ho => rfl); (case hg => rfl); (case hn => rfl); (case hr => first | (go_simp; done) | (go_simp; rfl)); intro aW hw; have hg : wr.grownBy aW (some af) := (by rw [hw]; exact am.2); have ac : Kd.R (Kd.int .u32) 118 aW w.heap.size (fun k_ => (w.heap.size ≤ k_)) (.slice (some ⟨af, 0, none⟩) a1.length bb) y113 := (by rw [hw, ax.out]; exact am.1); clear am; replace a2 := Aside0.mk ac; replace HB := Aside0.mk ((by rw [hw]; exact below_set (HB.out) b9.out : Below w.heap.size w aW)); clear hg hw ac))
          go_roundg k1
          case measure => have := aN.out; omega
          case rel => exact ⟨(y113), ((IntKind.u64.wrap (a4 + (IntKind.u64.wrap (rd l0 a0)))) / 4294967296), (wrap64 (a0 + 1)), sd, sd, H', ⟨by have := aN.out; omega⟩, ⟨rb a2⟩, ⟨bw⟩⟩
         ·rw [if_neg aM] at H
          exact absurd H (by simp)
       ·rw [if_neg c10] at H
        exact absurd H (by simp)
      ·rw [if_neg c9] at H
       exact absurd H (by simp)
     ·rw [if_neg c8] at H
      have b6 : decide (a0 < (l0.length : Int)) = false := decide_eq_false c8
      clear c8
      by_cases aO : 0 ≤ (l0.length : Int)
      ·rw [if_pos aO] at H
       have bi : decide (0 ≤ (l0.length : Int)) = true := decide_eq_true aO
       have bx : decide (0 ≤ l0.length) = true := decide_eq_true (by omega)
       clear aO
       by_cases aJ : (l0.length : Int) < (a1.length : Int)
       ·rw [if_pos aJ] at H
        have bq : decide ((l0.length : Int) < (a1.length : Int)) = true := decide_eq_true aJ
        have bv : decide (l0.length < a1.length) = true := decide_eq_true (Int.ofNat_lt.mp aJ)
        clear aJ
        obtain ⟨y114, hy114⟩ : ∃ y_ : List Int, y_ = (a1.set ((l0.length : Int) : Int).toNat ((a4) % 4294967296)) := ⟨_, rfl⟩
        replace H : ((whole_words_trim.f k1 y114).bind fun ah => (some ah)) = some r := by first | (rw [hy114]; with_reducible exact H) | (have a8 := (Option.bind_some _ _).symm.trans H; rw [hy114]; with_reducible exact a8) | (have a8 := (Option.bind_some _ _).symm.trans H; with_reducible exact a8) | with_reducible exact H | (rw [hy114]; exact H) | exact H
        have au := Aside0.mk hy114
        clear hy114
        obtain ⟨ah, A23, H⟩ := bs H
        obtain rfl := Option.some.inj H
        have be : 0 ≤ ((l0.length : Int) : Int) := of_decide_eq_true asm
        have bf : ((l0.length : Int) : Int) < ((a1.length : Int) : Int) := of_decide_eq_true asm
        obtain ⟨a9, ao, aA, ay, b7, cl22, az⟩ := Kd.R_form a2.out (by omega)
        (first | cases aA | (injection aA with ea_ en_ ec_; (first | subst ea_ | (injection ea_ with ea_; subst ea_)); subst ec_; clear en_))
        have b2 := Aside0.mk ay
        have GG22 := Aside0.mk az
        clear ay b7 az
        obtain ⟨ae, ag⟩ := Kd.R_celln 0 a2.out ((l0.length : Int) : Int) be bf
        replace be := eq_true be
        replace bf := eq_true bf
        have ab := Kd.R_putg a2.out ((l0.length : Int) : Int) ((a4) % 4294967296)
        simp only [Int.toNat_natCast] at ae ag ab
        go_wp2_with (first | ((with_reducible refine gate_store (t := 118) (p := 55) rfl ?_); refine store_event (t := 118) (p := 55) (v := ?vo_w25) (w1 := (wr.setCell ⟨a9, l0.length, none⟩ (.int .u32 ((a4) % 4294967296)))) ?hg ?ho ?hn ?hr ?_; (case ho => rfl); (case hg => rfl); (case hn => rfl); (case hr => first | (go_simp; done) | (go_simp; rfl)); intro aU hw; have hg : wr.grownBy aU (some a9) := (by rw [hw]; exact ab.2); have ac : Kd.R (Kd.int .u32) 118 aU w.heap.size (fun k_ => (w.heap.size ≤ k_)) (.slice (some ⟨a9, 0, none⟩) a1.length ao) y114 := (by rw [hw, au.out]; exact ab.1); clear ab; replace a2 := Aside0.mk ac; replace HB := Aside0.mk ((by rw [hw]; exact below_set (HB.out) b2.out : Below w.heap.size w aU)); clear hg hw ac) | ((with_reducible refine gate_callee (f := 92) rfl ?_); refine goesL_ (some 57) rfl rfl Try.func92 (by kernel_rfl) rfl #[.slice (some ⟨a9, 0, none⟩) y114.length ao] rfl (by (try simp only [List.map_toArray, List.map_cons, List.map_nil]); first | done | (rw [show y114.length = a1.length from (Kd.R_reads' a2.out).1.symm] <;> rfl) | rfl | (simp only [List.length_drop, List.length_take]; rfl)) ?_; (with_reducible refine (whole_words_trim.calls k1 (fun k_ => some k_ = (.slice (some ⟨a9, 0, none⟩) a1.length ao : Value).ownBlock) _ _ y114 ah _ ?side1 A23.out).mono ?_); (case side1 => rw [show y114.length = a1.length from (Kd.R_reads' a2.out).1.symm]; exact Kd.R_V (Kd.R_tight rfl (a2.out))); rintro e w26 ⟨v116, rfl, bo, hb⟩; refine ⟨_, rfl, ?_⟩; have aB := Aside0.mk (Kd.V_lower (Kd.V_mono (ok' := fun k_ => (w.heap.size ≤ k_)) bo (fun k_ hk_ => Or.elim hk_ (fun hs_ => ((a2.out).1 k_ hs_.symm)) (fun hn_ => (Nat.le_trans (sz HB) hn_)))) (sz HB)); replace a2 := rB a2 hb; replace HB := hB HB hb; clear hb bo))
        go_ret
        exact ⟨_, by first | rfl | (simp [errW_none, errW_some] <;> rfl) | (simp only [← hji3]; first | rfl | (simp [errW_none, errW_some] <;> rfl)) | (simp [*, errW_none, errW_some] <;> rfl), vb aB, bw⟩
       ·rw [if_neg aJ] at H
        exact absurd H (by simp)
      ·rw [if_neg aO] at H
       exact absurd H (by simp)
  ·rw [if_neg c5] at H
   exact absurd H (by simp)
 ·rw [if_neg c4] at H
  exact absurd H (by simp)
/-- The greater length first, as the code has it. -/
def whole_plus.f (k : Nat) (l0 : List Int) (l1 : List Int) : Option (List Int) := if l0.length < l1.length then whole_plus1.f k l1 l0 else whole_plus1.f k l0 l1
theorem whole_plus.mono : ∀ a0 a1 k, LeO (whole_plus.f k a0 a1) (whole_plus.f (k + 1) a0 a1) := by
 intro a0 a1 k
 unfold whole_plus.f
 exact LeO.ite (whole_plus1.mono _ _ _) (whole_plus1.mono _ _ _)
theorem whole_plus.calls (k : Nat) (A0 : Option Addr) (c0 : Nat) (l0 : List Int) (A1 : Option Addr) (c1 : Nat) (l1 : List Int) (r : List Int) (w : World) (a4 : Kd.C (Kd.int .u32) w A0 l0.length l0) (a1 : l0.length ≤ c0) (a3 : Kd.C (Kd.int .u32) w A1 l1.length l1) (a0 : l1.length ≤ c1) (h : whole_plus.f k l0 l1 = some r) :
  Calls Try.prog 80 #[.slice A0 l0.length c0, .slice A1 l1.length c1] w fun e w' => ∃ a2 : Value, e = .returned (a2) ∧ Kd.V (Kd.int .u32) 118 w' w.heap.size (fun k_ => (w.heap.size ≤ k_)) a2 r ∧ Below w.heap.size w w' := by
 unfold whole_plus.f at h
 by_cases hlt : l0.length < l1.length
 ·rw [if_pos hlt] at h
  exact whole_plus1.lt k A1 c1 l1 A0 c0 l0 r w a3 a0 a4 a1 (by simpa using hlt) h
 ·rw [if_neg hlt] at h
  exact whole_plus1.ge k A0 c0 l0 A1 c1 l1 r w a4 a1 a3 a0 (by simpa using hlt) h
end Go.Proofs.Ytfjbhccapgnkiaa.P
