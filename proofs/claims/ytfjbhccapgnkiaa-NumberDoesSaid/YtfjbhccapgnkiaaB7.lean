import Derived.Test.YtfjbhccapgnkiaaA2
namespace Go.Proofs.Ytfjbhccapgnkiaa.P
open Go.RowKit Go.Proofs.YtfjbhccapgnkiaaW.PrintWords Go.Proofs.YtfjbhccapgnkiaaW.PrintLast Go.Proofs.YtfjbhccapgnkiaaW.PrintMore
attribute [local go_sem] max2_int min2_int max_two min_two max_three min_three max_four min_four
set_option linter.unusedVariables false
set_option maxHeartbeats 16000000
set_option maxRecDepth 100000
set_option linter.unusedSimpArgs false
/-! ### whole_Small: function 33 -/
mutual
def whole_Small.j0 : Nat → Bool → Bool → List Int → Option (Int × Bool)
 | 0, _, _, _ => none
 | k + 1, x16, a1, a0 => if x16 = true then (some (0, false)) else (whole_Small.l0 k 0 a0 (a0.length : Int) 0 a1 a0)
def whole_Small.l0 : Nat → Int → List Int → Int → Int → Bool → List Int → Option (Int × Bool)
 | 0, _, _, _, _, _, _ => none
 | k + 1, x4, a3, a4, a2, a0, a1 => if a2 < a4 then (if 0 ≤ a2 then (if a2 < (a3.length : Int) then (whole_Small.l0 k (Go.bits .or .u64 (IntKind.u64.wrap (x4 * 256)) (IntKind.u64.wrap (rd a3 a2))) a3 a4 (wrap64 (a2 + 1)) a0 a1) else (none)) else (none)) else (if a0 = true then (if x4 = 0 then (some (wrap64 (-(wrap64 (x4))), true)) else (if (wrap64 (-(wrap64 (x4)))) = 0 then (some (0, false)) else (if ((decide ((wrap64 (-(wrap64 (x4)))) < 0)) != a0) = true then (some (0, false)) else (some (wrap64 (-(wrap64 (x4))), true))))) else (if x4 = 0 then (some (wrap64 (x4), true)) else (if (wrap64 (x4)) = 0 then (some (0, false)) else (if ((decide ((wrap64 (x4)) < 0)) != a0) = true then (some (0, false)) else (some (wrap64 (x4), true))))))
end
def whole_Small.f (k : Nat) (a1 : Bool) (a0 : List Int) : Option (Int × Bool) := (whole_Right.f a1 a0).bind fun a2 => (if a2 = true then (whole_Small.j0 k (decide ((a0.length : Int) > 8)) a1 a0) else (whole_Small.j0 k true a1 a0))
theorem whole_Small.mono_l : ∀ k, (∀ y0 y1 y2, LeO (whole_Small.j0 k y0 y1 y2) (whole_Small.j0 (k + 1) y0 y1 y2)) ∧ (∀ y0 y1 y2 y3 y4 y5, LeO (whole_Small.l0 k y0 y1 y2 y3 y4 y5) (whole_Small.l0 (k + 1) y0 y1 y2 y3 y4 y5))
 | 0 => ⟨fun _ _ _ r h => by simp [whole_Small.j0] at h, fun _ _ _ _ _ _ r h => by simp [whole_Small.l0] at h⟩
 | k + 1 => by
  obtain ⟨a0, a1⟩ := whole_Small.mono_l k
  refine ⟨?_, ?_⟩
  ·intro y0 y1 y2
   unfold whole_Small.j0
   repeat' first | with_reducible exact a0 _ _ _ | with_reducible exact a1 _ _ _ _ _ _ | with_reducible exact LeO.refl _ | with_reducible exact LeO.none _ | with_reducible refine LeO.ite ?_ ?_ | with_reducible refine LeO.bind ?_ (fun _ => ?_) | exact a0 _ _ _ | exact a1 _ _ _ _ _ _ | exact LeO.none _ | refine LeO.ite ?_ ?_ | refine LeO.bind ?_ (fun _ => ?_)
  ·intro y0 y1 y2 y3 y4 y5
   unfold whole_Small.l0
   repeat' first | with_reducible exact a0 _ _ _ | with_reducible exact a1 _ _ _ _ _ _ | with_reducible exact LeO.refl _ | with_reducible exact LeO.none _ | with_reducible refine LeO.ite ?_ ?_ | with_reducible refine LeO.bind ?_ (fun _ => ?_) | exact a0 _ _ _ | exact a1 _ _ _ _ _ _ | exact LeO.none _ | refine LeO.ite ?_ ?_ | refine LeO.bind ?_ (fun _ => ?_)
theorem whole_Small.mono : ∀ a0 a1 k, LeO (whole_Small.f k a0 a1) (whole_Small.f (k + 1) a0 a1) := by
 intro a0 a1 k
 obtain ⟨a2, a3⟩ := whole_Small.mono_l k
 unfold whole_Small.f
 repeat' first | with_reducible exact a2 _ _ _ | with_reducible exact a3 _ _ _ _ _ _ | with_reducible exact LeO.refl _ | with_reducible exact LeO.none _ | with_reducible refine LeO.ite ?_ ?_ | with_reducible refine LeO.bind ?_ (fun _ => ?_) | exact a2 _ _ _ | exact a3 _ _ _ _ _ _ | exact LeO.none _ | refine LeO.ite ?_ ?_ | refine LeO.bind ?_ (fun _ => ?_)
theorem whole_Small.calls (k : Nat) (a4 : Bool) (a7 : Option Addr) (a6 : Nat) (a1 : List Int) (r1 : Int) (r2 : Bool) (w : World) (af : Kd.C (Kd.int .u8) w a7 a1.length a1) (ae : a1.length ≤ a6) (h : whole_Small.f k a4 a1 = some (r1, r2)) :
  Calls Try.prog 33 #[.agg #[.bool a4, .slice a7 a1.length a6]] w fun e w' => e = .returned (.tuple #[.int .i64 r1, .bool r2]) ∧ Below w.heap.size w w' := by
 have hu25 := Try.underlying25
 have aa := Aside0.mk af
 have ac := Aside0.mk ae
 clear af ae
 have HB := Aside0.mk (Below.refl w.heap.size w)
 have H : ((whole_Right.f a4 a1).bind fun al => (if al = true then (whole_Small.j0 k (decide ((a1.length : Int) > 8)) a4 a1) else (whole_Small.j0 k true a4 a1))) = some (r1, r2) := h
 clear h
 have aL := Aside0.mk H
 clear H
 go_enter Try.func33, Try.ntmps33
 go_upto_region 1 with (first | ((with_reducible refine gd 1 rfl ?_); refine bX 1 rfl HB #[.bool a4, .slice a7 a1.length a6] 25 ?_; intro ad w3 a2 aW hg hb; replace HB := hB HB hb; clear hb hg))
 (try simp only [Act.put, List.setIfInBounds_toArray, List.set_cons_zero, List.set_cons_succ])
 go_cut [16] (fun v16 wc => ∃ (kq : Nat) (a8 : Bool), v16 = .bool a8 ∧ Aside0 (whole_Small.j0 kq a8 a4 a1 = some (r1, r2)) ∧ Aside0 (kq ≤ k) ∧ Aside0 (wc.heap[ad]? = some (.cells #[.bool a4, (.slice a7 a1.length a6)] 25 (0, 0))) ∧ Aside0 (Below w.heap.size w wc))
 case first =>
  have H := aL.out
  clear aL
  obtain ⟨al, A4, H⟩ := bs H
  by_cases c5 : al = true
  ·subst c5
   replace H := ip H
   have H' := Aside0.mk H
   clear H
   have hcz6 := zf2 a2
   go_wp2_with (first | ((with_reducible refine ga 39 rfl ?_); refine gc (some 9) Try.func39 #[.agg #[.bool a4, .slice a7 a1.length a6]] (whole_Right.calls a4 _ _ a1 true _ (cb aa HB) ac.out A4.out) ?_; rintro e w7 ⟨rfl, hb⟩; refine ⟨_, rfl, ?_⟩; replace a2 := kB a2 hb; replace HB := hB HB hb; clear hb; have hcz8 := zf2 a2))
   go_meet
   case rel => exact ⟨_, (decide ((a1.length : Int) > 8)), sd, H', ⟨le_⟩, ⟨bk⟩, ⟨bw⟩⟩
  ·replace c5 := Bool.eq_false_iff.mpr c5
   subst c5
   replace H := iq H
   have H' := Aside0.mk H
   clear H
   have hcz9 := zf2 a2
   go_wp2_with (first | ((with_reducible refine ga 39 rfl ?_); refine gc (some 9) Try.func39 #[.agg #[.bool a4, .slice a7 a1.length a6]] (whole_Right.calls a4 _ _ a1 false _ (cb aa HB) ac.out A4.out) ?_; rintro e w10 ⟨rfl, hb⟩; refine ⟨_, rfl, ?_⟩; replace a2 := kB a2 hb; replace HB := hB HB hb; clear hb))
   go_meet
   case rel => exact ⟨_, (true), sd, H', ⟨le_⟩, ⟨bk⟩, ⟨bw⟩⟩
 case rest =>
  clear aL
  obtain ⟨kq, a8, rfl, HA, b0, a2, HB⟩ := hcut
  cases kq with
  | zero => exact absurd HA.out (by simp [whole_Small.j0])
  | succ kj1 =>
   have H := HA.out
   clear HA
   simp only [whole_Small.j0] at H
   by_cases av : a8 = true
   ·subst av
    replace H := ip H
    simp only [Option.some.injEq, Prod.mk.injEq] at H
    obtain ⟨rfl, rfl⟩ := H
    go_wp2
    go_ret2
    exact ⟨er, bw⟩
   ·replace av := Bool.eq_false_iff.mpr av
    subst av
    replace H := iq H
    have H' := Aside0.mk H
    clear H
    have ay := zf2 a2
    go_wp2
    go_loopg [4, 20] kj1 (fun kq v4 v20 w' => ∃ (a0 : Int) (a3 : Int), v4 = .int .u64 a0 ∧ v20 = .int .i64 a3 ∧ Aside0 (whole_Small.l0 kq a0 a1 (a1.length : Int) a3 a4 a1 = some (r1, r2)) ∧ Aside0 (kq ≤ kj1) ∧ Aside0 (w'.heap[ad]? = some (.cells #[.bool a4, (.slice a7 a1.length a6)] 25 (0, 0))) ∧ Aside0 (Below w.heap.size w w'))
    case atStart => exact ⟨(0), (0), sd, sd, H', ⟨Nat.le_refl _⟩, ⟨bk⟩, ⟨bw⟩⟩
    case round =>
     clear H'
     try clear av
     try clear ay
     obtain ⟨a0, a3, rfl, rfl, HA, aM, a2, HB⟩ := hrel
     cases gk with
     | zero => exact absurd HA.out (by simp [whole_Small.l0])
     | succ k2 =>
      have H := HA.out
      clear HA
      simp only [whole_Small.l0] at H
      by_cases an : a3 < (a1.length : Int)
      ·rw [if_pos an] at H
       have ao : decide (a3 < (a1.length : Int)) = true := decide_eq_true an
       clear an
       by_cases aI : 0 ≤ a3
       ·rw [if_pos aI] at H
        have aQ : decide (0 ≤ a3) = true := decide_eq_true aI
        clear aI
        by_cases aJ : a3 < (a1.length : Int)
        ·rw [if_pos aJ] at H
         have aX : decide (a3 < (a1.length : Int)) = true := decide_eq_true aJ
         clear aJ
         have H' := Aside0.mk H
         clear H
         have aj : 0 ≤ (a3 : Int) := of_decide_eq_true asm
         have ag : a3 < (a1.length : Int) := of_decide_eq_true asm
         obtain ⟨aP, aK, a5⟩ := Kd.at_int aa.out a3 aj ag
         cases aK
         replace a5 := (HB.out.cell (World.block_lt_of_cell? w _ a5)).trans a5
         replace aj := eq_true aj
         replace ag := eq_true ag
         go_wp2
         go_roundg k2
         case measure => have := b0.out; have := aM.out; omega
         case rel => exact ⟨(Go.bits .or .u64 (IntKind.u64.wrap (a0 * 256)) (IntKind.u64.wrap (rd a1 a3))), (wrap64 (a3 + 1)), sd, sd, H', ⟨by have := b0.out; have := aM.out; omega⟩, ⟨bk⟩, ⟨bw⟩⟩
        ·rw [if_neg aJ] at H
         exact absurd H (by simp)
       ·rw [if_neg aI] at H
        exact absurd H (by simp)
      ·rw [if_neg an] at H
       have ao : decide (a3 < (a1.length : Int)) = false := decide_eq_false an
       clear an
       by_cases aH : a4 = true
       ·subst aH
        replace H := ip H
        by_cases ai : a0 = 0
        ·rw [if_pos ai] at H
         have az : (a0 == 0) = true := beq_iff_eq.mpr ai
         have ax : (a0 != 0) = false := bne_eq_false_iff_eq.mpr ai
         clear ai
         simp only [Option.some.injEq, Prod.mk.injEq] at H
         obtain ⟨rfl, rfl⟩ := H
         have aZ := zf2 a2
         go_wp2
         go_ret2
         exact ⟨er, bw⟩
        ·rw [if_neg ai] at H
         have az : (a0 == 0) = false := beq_eq_false_iff_ne.mpr ai
         have ax : (a0 != 0) = true := bne_iff_ne.mpr ai
         by_cases ah : (wrap64 (-(wrap64 (a0)))) = 0
         ·rw [if_pos ah] at H
          have aD : ((wrap64 (-(wrap64 (a0)))) == 0) = true := beq_iff_eq.mpr ah
          have aA : ((wrap64 (-(wrap64 (a0)))) != 0) = false := bne_eq_false_iff_eq.mpr ah
          clear ah
          simp only [Option.some.injEq, Prod.mk.injEq] at H
          obtain ⟨rfl, rfl⟩ := H
          have aU := zf2 a2
          go_wp2
          go_ret2
          exact ⟨er, bw⟩
         ·rw [if_neg ah] at H
          have aD : ((wrap64 (-(wrap64 (a0)))) == 0) = false := beq_eq_false_iff_ne.mpr ah
          have aA : ((wrap64 (-(wrap64 (a0)))) != 0) = true := bne_iff_ne.mpr ah
          by_cases ab : ((decide ((wrap64 (-(wrap64 (a0)))) < 0)) != true) = true
          ·rw [if_pos ab] at H
           have aB : ((decide ((wrap64 (-(wrap64 (a0)))) < 0)) != true) = true := ab
           (try (have aC : decide ((decide ((wrap64 (-(wrap64 (a0)))) < 0)) = true) = false := by simpa using ab))
           (try (have au : ((decide ((wrap64 (-(wrap64 (a0)))) < 0)) == true) = false := by simpa using ab))
           (try (have aT : ¬ ((decide ((wrap64 (-(wrap64 (a0)))) < 0)) = true) := by simpa using ab))
           clear ab
           simp only [Option.some.injEq, Prod.mk.injEq] at H
           obtain ⟨rfl, rfl⟩ := H
           have aS := zf2 a2
           go_wp2
           go_ret2
           exact ⟨er, bw⟩
          ·rw [if_neg ab] at H
           have aB : ((decide ((wrap64 (-(wrap64 (a0)))) < 0)) != true) = false := by simpa using ab
           (try (have aC : decide ((decide ((wrap64 (-(wrap64 (a0)))) < 0)) = true) = true := by simpa using ab))
           (try (have au : ((decide ((wrap64 (-(wrap64 (a0)))) < 0)) == true) = true := by simpa using ab))
           clear ab
           simp only [Option.some.injEq, Prod.mk.injEq] at H
           obtain ⟨rfl, rfl⟩ := H
           have aY := zf2 a2
           go_wp2
           go_ret2
           exact ⟨er, bw⟩
       ·replace aH := Bool.eq_false_iff.mpr aH
        subst aH
        replace H := iq H
        by_cases ak : a0 = 0
        ·rw [if_pos ak] at H
         have aw : (a0 == 0) = true := beq_iff_eq.mpr ak
         have aF : (a0 != 0) = false := bne_eq_false_iff_eq.mpr ak
         clear ak
         simp only [Option.some.injEq, Prod.mk.injEq] at H
         obtain ⟨rfl, rfl⟩ := H
         have aR := zf2 a2
         go_wp2
         go_ret2
         exact ⟨er, bw⟩
        ·rw [if_neg ak] at H
         have aw : (a0 == 0) = false := beq_eq_false_iff_ne.mpr ak
         have aF : (a0 != 0) = true := bne_iff_ne.mpr ak
         by_cases am : (wrap64 (a0)) = 0
         ·rw [if_pos am] at H
          have aG : ((wrap64 (a0)) == 0) = true := beq_iff_eq.mpr am
          have ap : ((wrap64 (a0)) != 0) = false := bne_eq_false_iff_eq.mpr am
          clear am
          simp only [Option.some.injEq, Prod.mk.injEq] at H
          obtain ⟨rfl, rfl⟩ := H
          have aV := zf2 a2
          go_wp2
          go_ret2
          exact ⟨er, bw⟩
         ·rw [if_neg am] at H
          have aG : ((wrap64 (a0)) == 0) = false := beq_eq_false_iff_ne.mpr am
          have ap : ((wrap64 (a0)) != 0) = true := bne_iff_ne.mpr am
          by_cases a9 : ((decide ((wrap64 (a0)) < 0)) != false) = true
          ·rw [if_pos a9] at H
           have ar : ((decide ((wrap64 (a0)) < 0)) != false) = true := a9
           (try (have aE : decide ((decide ((wrap64 (a0)) < 0)) = false) = false := by simpa using a9))
           (try (have aq : ((decide ((wrap64 (a0)) < 0)) == false) = false := by simpa using a9))
           (try (have b1 : ¬ ((decide ((wrap64 (a0)) < 0)) = false) := by simpa using a9))
           clear a9
           simp only [Option.some.injEq, Prod.mk.injEq] at H
           obtain ⟨rfl, rfl⟩ := H
           have aO := zf2 a2
           go_wp2
           go_ret2
           exact ⟨er, bw⟩
          ·rw [if_neg a9] at H
           have ar : ((decide ((wrap64 (a0)) < 0)) != false) = false := by simpa using a9
           (try (have aE : decide ((decide ((wrap64 (a0)) < 0)) = false) = true := by simpa using a9))
           (try (have aq : ((decide ((wrap64 (a0)) < 0)) == false) = true := by simpa using a9))
           clear a9
           simp only [Option.some.injEq, Prod.mk.injEq] at H
           obtain ⟨rfl, rfl⟩ := H
           have aN := zf2 a2
           go_wp2
           go_ret2
           exact ⟨er, bw⟩
/-! ### whole_Cmp: function 41 -/
def whole_Cmp.j0 : Nat → Bool → Bool → List Int → Bool → List Int → Option (Int)
 | 0, _, _, _, _, _ => none
 | k + 1, x13, a0, a3, a2, a1 => if x13 = true then (some 0) else (if (a0 == a2) = true then ((whole_wordsOf.f k a3).bind fun a6 => ((whole_wordsOf.f k a1).bind fun a5 => ((whole_order.f k a6 a5).bind fun a4 => (if a0 = true then (some (wrap64 (-a4))) else (some a4))))) else (if a0 = true then (some (-1)) else (some 1)))
def whole_Cmp.f (k : Nat) (a0 : Bool) (a1 : List Int) (a3 : Bool) (a2 : List Int) : Option (Int) := (whole_Right.f a0 a1).bind fun a4 => (if a4 = true then ((whole_Right.f a3 a2).bind fun a5 => (whole_Cmp.j0 k (!a5) a0 a1 a3 a2)) else (whole_Cmp.j0 k true a0 a1 a3 a2))
theorem whole_Cmp.mono_l : ∀ k, (∀ y0 y1 y2 y3 y4, LeO (whole_Cmp.j0 k y0 y1 y2 y3 y4) (whole_Cmp.j0 (k + 1) y0 y1 y2 y3 y4))
 | 0 => fun _ _ _ _ _ r h => by simp [whole_Cmp.j0] at h
 | k + 1 => by
  have a0 := whole_Cmp.mono_l k
  ·intro y0 y1 y2 y3 y4
   unfold whole_Cmp.j0
   repeat' first | with_reducible exact a0 _ _ _ _ _ | with_reducible exact whole_order.mono _ _ _ | with_reducible exact whole_wordsOf.mono _ _ | with_reducible exact LeO.refl _ | with_reducible exact LeO.none _ | with_reducible refine LeO.ite ?_ ?_ | with_reducible refine LeO.bind ?_ (fun _ => ?_) | exact a0 _ _ _ _ _ | exact whole_order.mono _ _ _ | exact whole_wordsOf.mono _ _ | exact LeO.none _ | refine LeO.ite ?_ ?_ | refine LeO.bind ?_ (fun _ => ?_)
theorem whole_Cmp.mono : ∀ a0 a1 a2 a3 k, LeO (whole_Cmp.f k a0 a1 a2 a3) (whole_Cmp.f (k + 1) a0 a1 a2 a3) := by
 intro a0 a1 a2 a3 k
 have a4 := whole_Cmp.mono_l k
 unfold whole_Cmp.f
 repeat' first | with_reducible exact a4 _ _ _ _ _ | with_reducible exact whole_order.mono _ _ _ | with_reducible exact whole_wordsOf.mono _ _ | with_reducible exact LeO.refl _ | with_reducible exact LeO.none _ | with_reducible refine LeO.ite ?_ ?_ | with_reducible refine LeO.bind ?_ (fun _ => ?_) | exact a4 _ _ _ _ _ | exact whole_order.mono _ _ _ | exact whole_wordsOf.mono _ _ | exact LeO.none _ | refine LeO.ite ?_ ?_ | refine LeO.bind ?_ (fun _ => ?_)
def whole_Cmp.T5 : Bool × List (List Nat × List Nat) := (true, [([], []), ([0], [0]), ([1], [1]), ([], []), ([3], [3]), ([4, 2], [4]), ([2, 5, 5], [2, 5]), ([6, 6, 0, 1, 2, 3, 4, 5, 6], [6])])
def whole_Cmp.B5 : List Nat := [0, 1, 3, 0, 8, 31, 63, 127]
theorem whole_Cmp.tab5 : rtab .any (opsOf Try.f41 5) = whole_Cmp.T5 := by kernel_rfl
theorem whole_Cmp.bits5 : waitsOk whole_Cmp.T5.2 whole_Cmp.B5 = true := by kernel_rfl
theorem whole_Cmp.calls (k : Nat) (a3 : Bool) (aa : Option Addr) (a9 : Nat) (a4 : List Int) (a6 : Bool) (ae : Option Addr) (af : Nat) (a7 : List Int) (r : Int) (w : World) (au : Kd.C (Kd.int .u8) w aa a4.length a4) (ar : a4.length ≤ a9) (aq : Kd.C (Kd.int .u8) w ae a7.length a7) (av : a7.length ≤ af) (h : whole_Cmp.f k a3 a4 a6 a7 = some r) :
  Calls Try.prog 41 #[.agg #[.bool a3, .slice aa a4.length a9], .agg #[.bool a6, .slice ae a7.length af]] w fun e w' => e = .returned (.int .i64 r) ∧ Below w.heap.size w w' := by
 have hu25 := Try.underlying25
 have ai := Aside0.mk au
 have ag := Aside0.mk ar
 clear au ar
 have am := Aside0.mk aq
 have ao := Aside0.mk av
 clear aq av
 have HB := Aside0.mk (Below.refl w.heap.size w)
 have H : ((whole_Right.f a3 a4).bind fun aw => (if aw = true then ((whole_Right.f a6 a7).bind fun ap => (whole_Cmp.j0 k (!ap) a3 a4 a6 a7)) else (whole_Cmp.j0 k true a3 a4 a6 a7))) = some r := h
 clear h
 have aQ := Aside0.mk H
 clear H
 go_enter Try.func41, Try.ntmps41
 go_upto_region 1 with (first | ((with_reducible refine gd 2 rfl ?_); refine bX 2 rfl HB #[.bool a3, .slice aa a4.length a9] 25 ?_; intro ad w4 a0 b6 hg hb; replace HB := hB HB hb; clear hb hg) | ((with_reducible refine gd 3 rfl ?_); refine bX 3 rfl HB #[.bool a6, .slice ae a7.length af] 25 ?_; intro ac w5 a1 aZ hg hb; obtain ⟨a2, ax⟩ := nB a0 hg; replace a0 := kB a0 hb; replace HB := hB HB hb; clear hb hg))
 (try simp only [Act.put, List.setIfInBounds_toArray, List.set_cons_zero, List.set_cons_succ])
 go_cut [13] (fun v13 wc => ∃ (kq : Nat) (ah : Bool), v13 = .bool ah ∧ Aside0 (whole_Cmp.j0 kq ah a3 a4 a6 a7 = some r) ∧ Aside0 (kq ≤ k) ∧ Aside0 (wc.heap[ad]? = some (.cells #[.bool a3, (.slice aa a4.length a9)] 25 (0, 0))) ∧ Aside0 (wc.heap[ac]? = some (.cells #[.bool a6, (.slice ae a7.length af)] 25 (0, 0))) ∧ Aside0 (Below w.heap.size w wc))
 case first =>
  have H := aQ.out
  clear aQ
  obtain ⟨aw, A6, H⟩ := bs H
  by_cases c7 : aw = true
  ·subst c7
   replace H := ip H
   obtain ⟨ap, A8, H⟩ := bs H
   have H' := Aside0.mk H
   clear H
   have hn9 := nn a2
   have b4 := zf2 a0
   go_wp2_with (first | ((with_reducible refine ga 39 rfl ?_); refine gc (some 7) Try.func39 #[.agg #[.bool a3, .slice aa a4.length a9]] (whole_Right.calls a3 _ _ a4 true _ (cb ai HB) ag.out A6.out) ?_; rintro e w11 ⟨rfl, hb⟩; refine ⟨_, rfl, ?_⟩; replace a0 := kB a0 hb; replace a1 := kB a1 hb; replace HB := hB HB hb; clear hb; have b3 := zf2 a1) | (go_at_call 39; (with_reducible refine (whole_Right.calls a6 _ _ a7 ap _ ?side1 ?side2 A8.out).mono ?_); (case side1 => exact cb am HB); (case side2 => exact ao.out); rintro e w13 ⟨rfl, hb⟩; replace a0 := kB a0 hb; replace a1 := kB a1 hb; replace HB := hB HB hb; clear hb))
   go_meet
   case rel => exact ⟨_, (!ap), sd, H', ⟨le_⟩, ⟨bk⟩, ⟨bk⟩, ⟨bw⟩⟩
  ·replace c7 := Bool.eq_false_iff.mpr c7
   subst c7
   replace H := iq H
   have H' := Aside0.mk H
   clear H
   have hn14 := nn a2
   have aY := zf2 a0
   go_wp2_with (first | ((with_reducible refine ga 39 rfl ?_); refine gc (some 7) Try.func39 #[.agg #[.bool a3, .slice aa a4.length a9]] (whole_Right.calls a3 _ _ a4 false _ (cb ai HB) ag.out A6.out) ?_; rintro e w16 ⟨rfl, hb⟩; refine ⟨_, rfl, ?_⟩; replace a0 := kB a0 hb; replace a1 := kB a1 hb; replace HB := hB HB hb; clear hb))
   go_meet
   case rel => exact ⟨_, (true), sd, H', ⟨le_⟩, ⟨bk⟩, ⟨bk⟩, ⟨bw⟩⟩
 case rest =>
  clear aQ
  obtain ⟨kq, ah, rfl, HA, HJ2, a0, a1, HB⟩ := hcut
  cases kq with
  | zero => exact absurd HA.out (by simp [whole_Cmp.j0])
  | succ kj2 =>
   have H := HA.out
   clear HA
   simp only [whole_Cmp.j0] at H
   by_cases aF : ah = true
   ·subst aF
    replace H := ip H
    obtain rfl := Option.some.inj H
    go_wp2
    go_ret
    exact ⟨er, bw⟩
   ·replace aF := Bool.eq_false_iff.mpr aF
    subst aF
    replace H := iq H
    by_cases an : (a3 == a6) = true
    ·rw [if_pos an] at H
     have aA : (a3 == a6) = true := an
     (try (have aB : decide (a3 = a6) = true := by simpa using an))
     (try (have ay : (a3 == a6) = true := by simpa using an))
     clear an
     obtain ⟨ak, be, H⟩ := bs H
     obtain ⟨aj, b7, H⟩ := bs H
     obtain ⟨aC, bb, H⟩ := bs H
     by_cases aE : a3 = true
     ·subst aE
      replace H := ip H
      obtain rfl := Option.some.inj H
      have hn23 := nn a2
      have bd := zf2 a0
      have b0 := zf2 a1
      try go_wp2
      replace a0 := Aside0.mk (blk_drew a0.out)
      replace a1 := Aside0.mk (blk_drew a1.out)
      replace HB := Aside0.mk (below_drew1 HB.out)
      refine st 8 (fun w' => w'.cell? ⟨ad, 0, none⟩ = some (.bool true) ∧ w'.cell? ⟨ad, 1, none⟩ = some (.slice aa a4.length a9) ∧ w'.cell? ⟨ac, 0, none⟩ = some (.bool a6) ∧ w'.cell? ⟨ac, 1, none⟩ = some (.slice ae a7.length af)) [] ⟨bc a0 0, bc a0 1, bc a1 0, bc a1 1⟩ (fun hHeld => ?_); refine with_tabW whole_Cmp.tab5 whole_Cmp.bits5 (fun ab az => ?_)
      generalize wc.drew = w26 at a0 a1 HB hHeld ⊢
      refine pu ab 0 (some 19) ?_
      refine pu ab 3 (some 22) ?_
      refine tk ab az 1 (some 20) hHeld ?_
      refine tk ab az 4 (some 23) hHeld ?_
      refine on ab 2 (some 21) fun K hK => ?_
      refine go_ Try.func75 #[.slice aa a4.length a9] ?_
      with_reducible refine (whole_wordsOf.calls kj2 (fun k_ => k_ < w.heap.size) _ _ a4 ak _ ?side1 be.out).mono ?_
      (case side1 => exact Kd.V_mk ag.out (Kd.F_below (Kd.C_F (Kd.heap_int .u8) ai.out) bw))
      rintro e w27 ⟨aI, rfl, al, hb⟩
      refine ⟨_, rfl, ?_⟩
      have a5 := rL HB (Kd.R_mono (ok' := fun k_ => True) al (fun _ aS => trivial))
      replace a0 := kB a0 hb
      replace a1 := kB a1 hb
      replace HB := hB HB hb
      clear hb al
      refine hK.out _ _ ⟨bc a0 0, bc a0 1, bc a1 0, bc a1 1⟩ (fun hHeld => ?_)
      clear hK K
      refine nm (some 21) ?_
      refine on ab 5 (some 24) fun K hK => ?_
      refine go_ Try.func75 #[.slice ae a7.length af] ?_
      with_reducible refine (whole_wordsOf.calls kj2 (fun k_ => k_ < w.heap.size) _ _ a7 aj _ ?side1 b7.out).mono ?_
      (case side1 => exact Kd.V_mk ao.out (Kd.F_below (Kd.C_F (Kd.heap_int .u8) am.out) bw))
      rintro e w28 ⟨aO, rfl, al, hb⟩
      refine ⟨_, rfl, ?_⟩
      have a8 := rL HB (Kd.R_new' (Kd.R_mono (ok' := fun k_ => True) al (fun _ aS => trivial)) (Kd.R_lt (rb a5)))
      replace a5 := rE a5 al hb
      replace a0 := kB a0 hb
      replace a1 := kB a1 hb
      replace HB := hB HB hb
      clear hb al
      obtain ⟨aG, aN, aK⟩ := sl a5; cases aK
      obtain ⟨aT, aL, aH⟩ := sl a8; cases aH
      refine hK.out _ _ ⟨bc a0 0, bc a0 1, bc a1 0, bc a1 1⟩ (fun hHeld => ?_)
      clear hK K
      refine nm (some 24) ?_
      refine on ab 6 (some 25) fun K hK => ?_
      refine go_ Try.func81 #[.slice aG ak.length aN, .slice aT aj.length aL] ?_
      with_reducible refine (whole_order.calls kj2 _ _ ak _ _ aj aC _ ?side1 ?side2 ?side3 ?side4 bb.out).mono ?_
      (case side1 => exact cr a5)
      (case side2 => exact rl a5)
      (case side3 => exact cr a8)
      (case side4 => exact rl a8)
      rintro e w' ⟨rfl, ⟨nd, rfl⟩⟩
      refine ⟨_, rfl, ?_⟩
      refine hK.out _ _ ⟨bc a0 0, bc a0 1, bc a1 0, bc a1 1⟩ (fun hHeld => ?_)
      clear hK K
      refine nm (some 25) ?_
      refine pu ab 7 (some 5) ?_
      refine dn ab ?_
      have aW := zf2 a0
      try go_wp2
      go_ret
      exact ⟨er, bw⟩
     ·replace aE := Bool.eq_false_iff.mpr aE
      subst aE
      replace H := iq H
      obtain rfl := Option.some.inj H
      have hn32 := nn a2
      have b5 := zf2 a0
      have b2 := zf2 a1
      try go_wp2
      replace a0 := Aside0.mk (blk_drew a0.out)
      replace a1 := Aside0.mk (blk_drew a1.out)
      replace HB := Aside0.mk (below_drew1 HB.out)
      refine st 8 (fun w' => w'.cell? ⟨ad, 0, none⟩ = some (.bool false) ∧ w'.cell? ⟨ad, 1, none⟩ = some (.slice aa a4.length a9) ∧ w'.cell? ⟨ac, 0, none⟩ = some (.bool a6) ∧ w'.cell? ⟨ac, 1, none⟩ = some (.slice ae a7.length af)) [] ⟨bc a0 0, bc a0 1, bc a1 0, bc a1 1⟩ (fun hHeld => ?_); refine with_tabW whole_Cmp.tab5 whole_Cmp.bits5 (fun ab az => ?_)
      generalize wc.drew = w35 at a0 a1 HB hHeld ⊢
      refine pu ab 0 (some 19) ?_
      refine pu ab 3 (some 22) ?_
      refine tk ab az 1 (some 20) hHeld ?_
      refine tk ab az 4 (some 23) hHeld ?_
      refine on ab 2 (some 21) fun K hK => ?_
      refine go_ Try.func75 #[.slice aa a4.length a9] ?_
      with_reducible refine (whole_wordsOf.calls kj2 (fun k_ => k_ < w.heap.size) _ _ a4 ak _ ?side1 be.out).mono ?_
      (case side1 => exact Kd.V_mk ag.out (Kd.F_below (Kd.C_F (Kd.heap_int .u8) ai.out) bw))
      rintro e w36 ⟨aI, rfl, al, hb⟩
      refine ⟨_, rfl, ?_⟩
      have a5 := rL HB (Kd.R_mono (ok' := fun k_ => True) al (fun _ aS => trivial))
      replace a0 := kB a0 hb
      replace a1 := kB a1 hb
      replace HB := hB HB hb
      clear hb al
      refine hK.out _ _ ⟨bc a0 0, bc a0 1, bc a1 0, bc a1 1⟩ (fun hHeld => ?_)
      clear hK K
      refine nm (some 21) ?_
      refine on ab 5 (some 24) fun K hK => ?_
      refine go_ Try.func75 #[.slice ae a7.length af] ?_
      with_reducible refine (whole_wordsOf.calls kj2 (fun k_ => k_ < w.heap.size) _ _ a7 aj _ ?side1 b7.out).mono ?_
      (case side1 => exact Kd.V_mk ao.out (Kd.F_below (Kd.C_F (Kd.heap_int .u8) am.out) bw))
      rintro e w37 ⟨aO, rfl, al, hb⟩
      refine ⟨_, rfl, ?_⟩
      have a8 := rL HB (Kd.R_new' (Kd.R_mono (ok' := fun k_ => True) al (fun _ aS => trivial)) (Kd.R_lt (rb a5)))
      replace a5 := rE a5 al hb
      replace a0 := kB a0 hb
      replace a1 := kB a1 hb
      replace HB := hB HB hb
      clear hb al
      obtain ⟨aR, aU, aP⟩ := sl a5; cases aP
      obtain ⟨aJ, aV, aM⟩ := sl a8; cases aM
      refine hK.out _ _ ⟨bc a0 0, bc a0 1, bc a1 0, bc a1 1⟩ (fun hHeld => ?_)
      clear hK K
      refine nm (some 24) ?_
      refine on ab 6 (some 25) fun K hK => ?_
      refine go_ Try.func81 #[.slice aR ak.length aU, .slice aJ aj.length aV] ?_
      with_reducible refine (whole_order.calls kj2 _ _ ak _ _ aj aC _ ?side1 ?side2 ?side3 ?side4 bb.out).mono ?_
      (case side1 => exact cr a5)
      (case side2 => exact rl a5)
      (case side3 => exact cr a8)
      (case side4 => exact rl a8)
      rintro e w' ⟨rfl, ⟨nd, rfl⟩⟩
      refine ⟨_, rfl, ?_⟩
      refine hK.out _ _ ⟨bc a0 0, bc a0 1, bc a1 0, bc a1 1⟩ (fun hHeld => ?_)
      clear hK K
      refine nm (some 25) ?_
      refine pu ab 7 (some 5) ?_
      refine dn ab ?_
      have b8 := zf2 a0
      try go_wp2
      go_ret
      exact ⟨er, bw⟩
    ·rw [if_neg an] at H
     have aA : (a3 == a6) = false := by simpa using an
     (try (have aB : decide (a3 = a6) = false := by simpa using an))
     (try (have ay : (a3 == a6) = false := by simpa using an))
     (try (have b9 : ¬ (a3 = a6) := by simpa using an))
     clear an
     by_cases aD : a3 = true
     ·subst aD
      replace H := ip H
      obtain rfl := Option.some.inj H
      have hn42 := nn a2
      have b1 := zf2 a0
      have aX := zf2 a1
      go_wp2
      go_ret
      exact ⟨er, bw⟩
     ·replace aD := Bool.eq_false_iff.mpr aD
      subst aD
      replace H := iq H
      obtain rfl := Option.some.inj H
      have hn45 := nn a2
      have bf := zf2 a0
      have ba := zf2 a1
      go_wp2
      go_ret
      exact ⟨er, bw⟩
end Go.Proofs.Ytfjbhccapgnkiaa.P
