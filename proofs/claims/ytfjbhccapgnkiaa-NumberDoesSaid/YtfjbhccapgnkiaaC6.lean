import Derived.Test.YtfjbhccapgnkiaaC1b
namespace Go.Proofs.Ytfjbhccapgnkiaa.P
open Go.RowKit Go.Proofs.YtfjbhccapgnkiaaW.PrintWords Go.Proofs.YtfjbhccapgnkiaaW.PrintLast Go.Proofs.YtfjbhccapgnkiaaW.PrintMore
attribute [local go_sem] max2_int min2_int max_two min_two max_three min_three max_four min_four
set_option linter.unusedVariables false
set_option maxHeartbeats 16000000
set_option maxRecDepth 100000
set_option linter.unusedSimpArgs false
/-! ### lapidaryref02_Small: function 34 -/
mutual
def lapidaryref02_Small.j0 : Nat → Bool → Bool → List Int → Option (Int × Bool)
 | 0, _, _, _ => none
 | k + 1, x14, a0, a1 => if x14 = true then (some (0, false)) else (lapidaryref02_Small.l0 k 0 0 a0 a1)
def lapidaryref02_Small.l0 : Nat → Int → Int → Bool → List Int → Option (Int × Bool)
 | 0, _, _, _, _ => none
 | k + 1, x4, x5, a1, a0 => if x5 < (a0.length : Int) then (if 0 ≤ x5 then (lapidaryref02_Small.l0 k (Go.bits .or .u64 (IntKind.u64.wrap (x4 * 256)) (IntKind.u64.wrap (rd a0 x5))) (wrap64 (x5 + 1)) a1 a0) else (none)) else (if a1 = true then (if x4 > 9223372036854775808 then (some (0, false)) else (some (wrap64 (IntKind.u64.wrap (-x4)), true))) else (if x4 ≥ 9223372036854775808 then (some (0, false)) else (some (wrap64 (x4), true))))
end
def lapidaryref02_Small.f (k : Nat) (a1 : Bool) (a0 : List Int) : Option (Int × Bool) := (lapidaryref02_Right.f a1 a0).bind fun a2 => (if a2 = true then (lapidaryref02_Small.j0 k (decide ((a0.length : Int) > 8)) a1 a0) else (lapidaryref02_Small.j0 k true a1 a0))
theorem lapidaryref02_Small.mono_l : ∀ k, (∀ y0 y1 y2, LeO (lapidaryref02_Small.j0 k y0 y1 y2) (lapidaryref02_Small.j0 (k + 1) y0 y1 y2)) ∧ (∀ y0 y1 y2 y3, LeO (lapidaryref02_Small.l0 k y0 y1 y2 y3) (lapidaryref02_Small.l0 (k + 1) y0 y1 y2 y3))
 | 0 => ⟨fun _ _ _ r h => by simp [lapidaryref02_Small.j0] at h, fun _ _ _ _ r h => by simp [lapidaryref02_Small.l0] at h⟩
 | k + 1 => by
  obtain ⟨a0, a1⟩ := lapidaryref02_Small.mono_l k
  refine ⟨?_, ?_⟩
  ·intro y0 y1 y2
   unfold lapidaryref02_Small.j0
   repeat' first | with_reducible exact a0 _ _ _ | with_reducible exact a1 _ _ _ _ | with_reducible exact LeO.refl _ | with_reducible exact LeO.none _ | with_reducible refine LeO.ite ?_ ?_ | with_reducible refine LeO.bind ?_ (fun _ => ?_) | exact a0 _ _ _ | exact a1 _ _ _ _ | exact LeO.none _ | refine LeO.ite ?_ ?_ | refine LeO.bind ?_ (fun _ => ?_)
  ·intro y0 y1 y2 y3
   unfold lapidaryref02_Small.l0
   repeat' first | with_reducible exact a0 _ _ _ | with_reducible exact a1 _ _ _ _ | with_reducible exact LeO.refl _ | with_reducible exact LeO.none _ | with_reducible refine LeO.ite ?_ ?_ | with_reducible refine LeO.bind ?_ (fun _ => ?_) | exact a0 _ _ _ | exact a1 _ _ _ _ | exact LeO.none _ | refine LeO.ite ?_ ?_ | refine LeO.bind ?_ (fun _ => ?_)
theorem lapidaryref02_Small.mono : ∀ a0 a1 k, LeO (lapidaryref02_Small.f k a0 a1) (lapidaryref02_Small.f (k + 1) a0 a1) := by
 intro a0 a1 k
 obtain ⟨a2, a3⟩ := lapidaryref02_Small.mono_l k
 unfold lapidaryref02_Small.f
 repeat' first | with_reducible exact a2 _ _ _ | with_reducible exact a3 _ _ _ _ | with_reducible exact LeO.refl _ | with_reducible exact LeO.none _ | with_reducible refine LeO.ite ?_ ?_ | with_reducible refine LeO.bind ?_ (fun _ => ?_) | exact a2 _ _ _ | exact a3 _ _ _ _ | exact LeO.none _ | refine LeO.ite ?_ ?_ | refine LeO.bind ?_ (fun _ => ?_)
theorem lapidaryref02_Small.calls (k : Nat) (a2 : Bool) (a6 : Option Addr) (a7 : Nat) (a0 : List Int) (r1 : Int) (r2 : Bool) (w : World) (aa : Kd.C (Kd.int .u8) w a6 a0.length a0) (ad : a0.length ≤ a7) (h : lapidaryref02_Small.f k a2 a0 = some (r1, r2)) :
  Calls Try.prog 34 #[.agg #[.bool a2, .slice a6 a0.length a7]] w fun e w' => e = .returned (.tuple #[.int .i64 r1, .bool r2]) ∧ Below w.heap.size w w' := by
 have hu24 := Try.underlying24
 have a9 := Aside0.mk aa
 have ac := Aside0.mk ad
 clear aa ad
 have HB := Aside0.mk (Below.refl w.heap.size w)
 have H : ((lapidaryref02_Right.f a2 a0).bind fun af => (if af = true then (lapidaryref02_Small.j0 k (decide ((a0.length : Int) > 8)) a2 a0) else (lapidaryref02_Small.j0 k true a2 a0))) = some (r1, r2) := h
 clear h
 have ar := Aside0.mk H
 clear H
 go_enter Try.func34, Try.ntmps34
 go_upto_region 1 with (first | ((with_reducible refine gd 1 rfl ?_); refine bX 1 rfl HB #[.bool a2, .slice a6 a0.length a7] 24 ?_; intro ab w3 a1 ax hg hb; replace HB := hB HB hb; clear hb hg))
 (try simp only [Act.put, List.setIfInBounds_toArray, List.set_cons_zero, List.set_cons_succ])
 go_cut [14] (fun v14 wc => ∃ (kq : Nat) (a8 : Bool), v14 = .bool a8 ∧ Aside0 (lapidaryref02_Small.j0 kq a8 a2 a0 = some (r1, r2)) ∧ Aside0 (kq ≤ k) ∧ Aside0 (wc.heap[ab]? = some (.cells #[.bool a2, (.slice a6 a0.length a7)] 24 (0, 0))) ∧ Aside0 (Below w.heap.size w wc))
 case first =>
  have H := ar.out
  clear ar
  obtain ⟨af, A4, H⟩ := bs H
  by_cases c5 : af = true
  ·subst c5
   replace H := ip H
   have H' := Aside0.mk H
   clear H
   have hcz6 := zf2 a1
   go_wp2_with (first | ((with_reducible refine ga 40 rfl ?_); refine gc (some 7) Try.func40 #[.agg #[.bool a2, .slice a6 a0.length a7]] (lapidaryref02_Right.calls a2 _ _ a0 true _ (cb a9 HB) ac.out A4.out) ?_; rintro e w7 ⟨rfl, hb⟩; refine ⟨_, rfl, ?_⟩; replace a1 := kB a1 hb; replace HB := hB HB hb; clear hb; have hcz8 := zf2 a1))
   go_meet
   case rel => exact ⟨_, (decide ((a0.length : Int) > 8)), sd, H', ⟨le_⟩, ⟨bk⟩, ⟨bw⟩⟩
  ·replace c5 := Bool.eq_false_iff.mpr c5
   subst c5
   replace H := iq H
   have H' := Aside0.mk H
   clear H
   have hcz9 := zf2 a1
   go_wp2_with (first | ((with_reducible refine ga 40 rfl ?_); refine gc (some 7) Try.func40 #[.agg #[.bool a2, .slice a6 a0.length a7]] (lapidaryref02_Right.calls a2 _ _ a0 false _ (cb a9 HB) ac.out A4.out) ?_; rintro e w10 ⟨rfl, hb⟩; refine ⟨_, rfl, ?_⟩; replace a1 := kB a1 hb; replace HB := hB HB hb; clear hb))
   go_meet
   case rel => exact ⟨_, (true), sd, H', ⟨le_⟩, ⟨bk⟩, ⟨bw⟩⟩
 case rest =>
  clear ar
  obtain ⟨kq, a8, rfl, HA, aB, a1, HB⟩ := hcut
  cases kq with
  | zero => exact absurd HA.out (by simp [lapidaryref02_Small.j0])
  | succ kj1 =>
   have H := HA.out
   clear HA
   simp only [lapidaryref02_Small.j0] at H
   by_cases an : a8 = true
   ·subst an
    replace H := ip H
    simp only [Option.some.injEq, Prod.mk.injEq] at H
    obtain ⟨rfl, rfl⟩ := H
    go_wp2
    go_ret2
    exact ⟨er, bw⟩
   ·replace an := Bool.eq_false_iff.mpr an
    subst an
    replace H := iq H
    have H' := Aside0.mk H
    clear H
    go_wp2
    go_loopg [4, 5] kj1 (fun kq v4 v5 w' => ∃ (a4 : Int) (a3 : Int), v4 = .int .u64 a4 ∧ v5 = .int .i64 a3 ∧ Aside0 (lapidaryref02_Small.l0 kq a4 a3 a2 a0 = some (r1, r2)) ∧ Aside0 (kq ≤ kj1) ∧ Aside0 (w'.heap[ab]? = some (.cells #[.bool a2, (.slice a6 a0.length a7)] 24 (0, 0))) ∧ Aside0 (Below w.heap.size w w'))
    case atStart => exact ⟨(0), (0), sd, sd, H', ⟨Nat.le_refl _⟩, ⟨bk⟩, ⟨bw⟩⟩
    case round =>
     clear H'
     try clear an
     obtain ⟨a4, a3, rfl, rfl, HA, aw, a1, HB⟩ := hrel
     cases gk with
     | zero => exact absurd HA.out (by simp [lapidaryref02_Small.l0])
     | succ k2 =>
      have H := HA.out
      clear HA
      simp only [lapidaryref02_Small.l0] at H
      by_cases ah : a3 < (a0.length : Int)
      ·rw [if_pos ah] at H
       have al : decide (a3 < (a0.length : Int)) = true := decide_eq_true ah
       clear ah
       by_cases ao : 0 ≤ a3
       ·rw [if_pos ao] at H
        have av : decide (0 ≤ a3) = true := decide_eq_true ao
        clear ao
        have H' := Aside0.mk H
        clear H
        have au := zf2 a1
        have ae : 0 ≤ (a3 : Int) := of_decide_eq_true asm
        have ag : a3 < (a0.length : Int) := of_decide_eq_true asm
        obtain ⟨az, aq, a5⟩ := Kd.at_int a9.out a3 ae ag
        cases aq
        replace a5 := (HB.out.cell (World.block_lt_of_cell? w _ a5)).trans a5
        replace ae := eq_true ae
        replace ag := eq_true ag
        go_wp2
        go_roundg k2
        case measure => have := aB.out; have := aw.out; omega
        case rel => exact ⟨(Go.bits .or .u64 (IntKind.u64.wrap (a4 * 256)) (IntKind.u64.wrap (rd a0 a3))), (wrap64 (a3 + 1)), sd, sd, H', ⟨by have := aB.out; have := aw.out; omega⟩, ⟨bk⟩, ⟨bw⟩⟩
       ·rw [if_neg ao] at H
        exact absurd H (by simp)
      ·rw [if_neg ah] at H
       have al : decide (a3 < (a0.length : Int)) = false := decide_eq_false ah
       clear ah
       by_cases ap : a2 = true
       ·subst ap
        replace H := ip H
        by_cases ai : a4 > 9223372036854775808
        ·rw [if_pos ai] at H
         have ak : decide (9223372036854775808 < a4) = true := decide_eq_true ai
         clear ai
         simp only [Option.some.injEq, Prod.mk.injEq] at H
         obtain ⟨rfl, rfl⟩ := H
         have aA := zf2 a1
         go_wp2
         go_ret2
         exact ⟨er, bw⟩
        ·rw [if_neg ai] at H
         have ak : decide (9223372036854775808 < a4) = false := decide_eq_false ai
         clear ai
         simp only [Option.some.injEq, Prod.mk.injEq] at H
         obtain ⟨rfl, rfl⟩ := H
         have ay := zf2 a1
         go_wp2
         go_ret2
         exact ⟨er, bw⟩
       ·replace ap := Bool.eq_false_iff.mpr ap
        subst ap
        replace H := iq H
        by_cases aj : a4 ≥ 9223372036854775808
        ·rw [if_pos aj] at H
         have am : decide (9223372036854775808 ≤ a4) = true := decide_eq_true aj
         clear aj
         simp only [Option.some.injEq, Prod.mk.injEq] at H
         obtain ⟨rfl, rfl⟩ := H
         have aD := zf2 a1
         go_wp2
         go_ret2
         exact ⟨er, bw⟩
        ·rw [if_neg aj] at H
         have am : decide (9223372036854775808 ≤ a4) = false := decide_eq_false aj
         clear aj
         simp only [Option.some.injEq, Prod.mk.injEq] at H
         obtain ⟨rfl, rfl⟩ := H
         have aC := zf2 a1
         go_wp2
         go_ret2
         exact ⟨er, bw⟩
/-! ### lapidaryref02_Of: function 38 -/
mutual
def lapidaryref02_Of.j0 : Nat → Int → Int → Option (Bool × List Int)
 | 0, _, _ => none
 | k + 1, x0, x3 => lapidaryref02_Of.l0 k x0 x3 ([] : List Int) 7
def lapidaryref02_Of.l0 : Nat → Int → Int → List Int → Int → Option (Bool × List Int)
 | 0, _, _, _, _ => none
 | k + 1, x0, x3, x4, x5 => if x5 ≥ 0 then (if 0 ≤ (IntKind.u64.wrap (wrap64 (8 * x5))) then (if x4.length < 140737488355328 then (lapidaryref02_Of.l0 k x0 x3 (x4 ++ [(shr .u64 x3 (IntKind.u64.wrap (wrap64 (8 * x5)))) % 256]) (wrap64 (x5 - 1))) else (none)) else (none)) else ((lapidaryref02_made.f (decide (x0 < 0)) x4).bind fun a0 => (some (a0.1, a0.2)))
end
def lapidaryref02_Of.f (k : Nat) (a0 : Int) : Option (Bool × List Int) := if a0 < 0 then (lapidaryref02_Of.j0 k a0 (IntKind.u64.wrap (-(IntKind.u64.wrap (a0))))) else (lapidaryref02_Of.j0 k a0 (IntKind.u64.wrap (a0)))
theorem lapidaryref02_Of.mono_l : ∀ k, (∀ y0 y1, LeO (lapidaryref02_Of.j0 k y0 y1) (lapidaryref02_Of.j0 (k + 1) y0 y1)) ∧ (∀ y0 y1 y2 y3, LeO (lapidaryref02_Of.l0 k y0 y1 y2 y3) (lapidaryref02_Of.l0 (k + 1) y0 y1 y2 y3))
 | 0 => ⟨fun _ _ r h => by simp [lapidaryref02_Of.j0] at h, fun _ _ _ _ r h => by simp [lapidaryref02_Of.l0] at h⟩
 | k + 1 => by
  obtain ⟨a0, a1⟩ := lapidaryref02_Of.mono_l k
  refine ⟨?_, ?_⟩
  ·intro y0 y1
   unfold lapidaryref02_Of.j0
   repeat' first | with_reducible exact a0 _ _ | with_reducible exact a1 _ _ _ _ | with_reducible exact LeO.refl _ | with_reducible exact LeO.none _ | with_reducible refine LeO.ite ?_ ?_ | with_reducible refine LeO.bind ?_ (fun _ => ?_) | exact a0 _ _ | exact a1 _ _ _ _ | exact LeO.none _ | refine LeO.ite ?_ ?_ | refine LeO.bind ?_ (fun _ => ?_)
  ·intro y0 y1 y2 y3
   unfold lapidaryref02_Of.l0
   repeat' first | with_reducible exact a0 _ _ | with_reducible exact a1 _ _ _ _ | with_reducible exact LeO.refl _ | with_reducible exact LeO.none _ | with_reducible refine LeO.ite ?_ ?_ | with_reducible refine LeO.bind ?_ (fun _ => ?_) | exact a0 _ _ | exact a1 _ _ _ _ | exact LeO.none _ | refine LeO.ite ?_ ?_ | refine LeO.bind ?_ (fun _ => ?_)
theorem lapidaryref02_Of.mono : ∀ a0 k, LeO (lapidaryref02_Of.f k a0) (lapidaryref02_Of.f (k + 1) a0) := by
 intro a0 k
 obtain ⟨a2, a1⟩ := lapidaryref02_Of.mono_l k
 unfold lapidaryref02_Of.f
 repeat' first | with_reducible exact a2 _ _ | with_reducible exact a1 _ _ _ _ | with_reducible exact LeO.refl _ | with_reducible exact LeO.none _ | with_reducible refine LeO.ite ?_ ?_ | with_reducible refine LeO.bind ?_ (fun _ => ?_) | exact a2 _ _ | exact a1 _ _ _ _ | exact LeO.none _ | refine LeO.ite ?_ ?_ | refine LeO.bind ?_ (fun _ => ?_)
theorem lapidaryref02_Of.calls (k : Nat) (a0 : Int) (r1 : Bool) (r2 : List Int) (w : World) (h : lapidaryref02_Of.f k a0 = some (r1, r2)) :
  Calls Try.prog 38 #[.int .i64 a0] w fun e w' => ∃ av : Value, e = .returned (.agg #[.bool r1, av]) ∧ Kd.R (Kd.int .u8) 5 w' w.heap.size (fun _ => True) av r2 ∧ Below w.heap.size w w' := by
 have hu24 := Try.underlying24
 have HB := Aside0.mk (Below.refl w.heap.size w)
 have H : (if a0 < 0 then (lapidaryref02_Of.j0 k a0 (IntKind.u64.wrap (-(IntKind.u64.wrap (a0))))) else (lapidaryref02_Of.j0 k a0 (IntKind.u64.wrap (a0)))) = some (r1, r2) := h
 clear h
 have ak := Aside0.mk H
 clear H
 go_enter Try.func38, Try.ntmps38
 go_upto_if 9 with (first | ((with_reducible refine gd 2 rfl ?_); refine bX 2 rfl HB #[.bool false, .slice none 0 0] 24 ?_; intro a6 w3 a1 aw hg hb; replace HB := hB HB hb; clear hb hg))
 (try simp only [Act.put, List.setIfInBounds_toArray, List.set_cons_zero, List.set_cons_succ])
 go_cut [3] (fun v3 wc => ∃ (kq : Nat) (a3 : Int), v3 = .int .u64 a3 ∧ Aside0 (lapidaryref02_Of.j0 kq a0 a3 = some (r1, r2)) ∧ Aside0 (kq ≤ k) ∧ Aside0 (wc.heap[a6]? = some (.cells #[.bool false, (.slice none 0 0)] 24 (0, 0))) ∧ Aside0 (Below w.heap.size w wc))
 case first =>
  have H := ak.out
  clear ak
  by_cases c4 : a0 < 0
  ·rw [if_pos c4] at H
   have a7 : decide (a0 < 0) = true := decide_eq_true c4
   clear c4
   (first | rw [a7] | (simp only [i64_w, i32_w]; rw [a7]) | skip)
   have H' := Aside0.mk H
   clear H
   go_wp2
   go_meet
   case rel => exact ⟨_, (IntKind.u64.wrap (-(IntKind.u64.wrap (a0)))), sd, H', ⟨le_⟩, ⟨bk⟩, ⟨bw⟩⟩
  ·rw [if_neg c4] at H
   have a7 : decide (a0 < 0) = false := decide_eq_false c4
   clear c4
   (first | rw [a7] | (simp only [i64_w, i32_w]; rw [a7]) | skip)
   have H' := Aside0.mk H
   clear H
   go_wp2
   go_meet
   case rel => exact ⟨_, (IntKind.u64.wrap (a0)), sd, H', ⟨le_⟩, ⟨bk⟩, ⟨bw⟩⟩
 case rest =>
  clear ak
  obtain ⟨kq, a3, rfl, HA, au, a1, HB⟩ := hcut
  cases kq with
  | zero => exact absurd HA.out (by simp [lapidaryref02_Of.j0])
  | succ kj1 =>
   have H := HA.out
   clear HA
   simp only [lapidaryref02_Of.j0] at H
   have H' := Aside0.mk H
   clear H
   go_wp2
   go_loopg [4, 5] kj1 (fun kq v4 v5 w' => ∃ (a2 : List Int) (a4 : Int), v5 = .int .i64 a4 ∧ Aside0 (lapidaryref02_Of.l0 kq a0 a3 a2 a4 = some (r1, r2)) ∧ Aside0 (kq ≤ kj1) ∧ Aside0 (Kd.R (Kd.int .u8) 5 w' w.heap.size (fun _ => True) v4 a2) ∧ Aside0 (w'.heap[a6]? = some (.cells #[.bool false, (.slice none 0 0)] 24 (0, 0))) ∧ Aside0 (Below w.heap.size w w'))
   case atStart => exact ⟨(([] : List Int)), (7), sd, H', ⟨Nat.le_refl _⟩, ⟨nl⟩, ⟨bk⟩, ⟨bw⟩⟩
   case round =>
    clear H'
    obtain ⟨a2, a4, rfl, HA, ap, a5, a1, HB⟩ := hrel
    cases gk with
    | zero => exact absurd HA.out (by simp [lapidaryref02_Of.l0])
    | succ k2 =>
     have H := HA.out
     clear HA
     simp only [lapidaryref02_Of.l0] at H
     by_cases c5 : a4 ≥ 0
     ·rw [if_pos c5] at H
      have ah : decide (0 ≤ a4) = true := decide_eq_true c5
      clear c5
      obtain ⟨ji6, hji6⟩ : ∃ j_ : Int, (IntKind.u64.wrap (wrap64 (8 * a4))) = j_ := ⟨_, rfl⟩
      replace H : (if 0 ≤ (ji6) then (if a2.length < 140737488355328 then (lapidaryref02_Of.l0 k2 a0 a3 (a2 ++ [(shr .u64 a3 (ji6)) % 256]) (wrap64 (a4 - 1))) else (none)) else (none)) = some (r1, r2) := by first | (rw [hji6] at H; exact H) | (simp only [hji6] at H ⊢; exact H)
      by_cases c7 : 0 ≤ (ji6)
      ·rw [if_pos c7] at H
       have c7b0 := eq_true c7
       have c7b1 : decide (0 ≤ (ji6)) = true := decide_eq_true c7
       clear c7
       obtain ⟨ji8, hji8⟩ : ∃ j_ : Int, (shr .u64 a3 (ji6)) = j_ := ⟨_, rfl⟩
       replace H : (if a2.length < 140737488355328 then (lapidaryref02_Of.l0 k2 a0 a3 (a2 ++ [(ji8) % 256]) (wrap64 (a4 - 1))) else (none)) = some (r1, r2) := by first | (rw [hji8] at H; exact H) | (simp only [hji8] at H ⊢; exact H)
       have aq : (a3 / 2 ^ min (ji6).toNat 64) = ji8 := hji8
       have ar : (ji6) ≤ 64 → (a3 / 2 ^ (ji6).toNat) = ji8 := shr_small hji8
       by_cases c9 : a2.length < 140737488355328
       ·rw [if_pos c9] at H
        have ai := Aside0.mk c9
        clear c9
        obtain ⟨y666, hy666⟩ : ∃ y_ : List Int, y_ = (a2 ++ [(ji8) % 256]) := ⟨_, rfl⟩
        replace H : (lapidaryref02_Of.l0 k2 a0 a3 y666 (wrap64 (a4 - 1))) = some (r1, r2) := by first | (rw [hy666]; with_reducible exact H) | (have an := (Option.bind_some _ _).symm.trans H; rw [hy666]; with_reducible exact an) | (have an := (Option.bind_some _ _).symm.trans H; with_reducible exact an) | with_reducible exact H | (rw [hy666]; exact H) | exact H
        have aa := Aside0.mk hy666
        clear hy666
        have H' := Aside0.mk H
        clear H
        go_wp2_with (first | ((with_reducible refine gate_builtin (b := .append) (xs := #[.tmp 16, .tmp 23]) rfl ?_); at_builtin; refine Kd.R_append (Kd.int .u8) (w0 := w) w.heap.size rfl (.tmp 16) (.tmp 23) 22 5 (.int .u8 0) 1 rfl Try.underlying22 info5 rfl (by decide) (by omega) u4 a2 ((ji8) % 256) [.int .u8 ((ji8) % 256)] (fun _ => True) (fun _ => False) rfl rfl ?aP (fun _ hk => hk.elim) ?aF ?aO ?aB ?aS ?aL ?_; (case aP => exact rfl); (case aB => exact bw); (case aF => exact (fun _ _ => trivial)); (case aO => exact (rb a5)); (case aS => exact (sz HB)); (case aL => have := ai.out; omega); intro v667 w10 ho hb hg hat; rw [← aa.out] at ho; have ac := Aside0.mk ho; replace a1 := Aside0.mk (blk_grown (g := a6) (o := .cells #[.bool false, .slice none 0 0] 24 (0, 0)) bk hg (Kd.R_ne a5.out a1.out (by decide))); replace HB := Aside0.mk hb; clear a5; clear ho hb hg hat))
        go_roundg k2
        case measure => have := au.out; have := ap.out; omega
        case rel => exact ⟨(y666), (wrap64 (a4 - 1)), sd, H', ⟨by have := au.out; have := ap.out; omega⟩, ⟨rb ac⟩, ⟨bk⟩, ⟨bw⟩⟩
       ·rw [if_neg c9] at H
        exact absurd H (by simp)
      ·rw [if_neg c7] at H
       exact absurd H (by simp)
     ·rw [if_neg c5] at H
      have ah : decide (0 ≤ a4) = false := decide_eq_false c5
      clear c5
      obtain ⟨⟨a9, ab⟩, A11, H⟩ := bs H
      simp only [Option.some.injEq, Prod.mk.injEq] at H
      obtain ⟨rfl, rfl⟩ := H
      obtain ⟨am, al, af⟩ := sl a5; cases af
      go_wp2_with (first | ((with_reducible refine ga 86 rfl ?_); refine gc (some 28) Try.func86 #[.bool (decide (a0 < 0)), .slice am a2.length al] (lapidaryref02_made.calls (decide (a0 < 0)) _ _ a2 a9 ab _ (cr a5) (rl a5) A11.out) ?_; rintro e w13 ⟨v671, rfl, ag, hb⟩; refine ⟨_, rfl, ?_⟩; have a8 := rL HB (rn ag a5); replace a5 := rE a5 ag hb; replace a1 := kB a1 hb; replace HB := hB HB hb; clear hb ag; have ao := zf2 a1; obtain ⟨aj, ad, ae⟩ := sl a8; cases ae))
      refine bodyPost_ret (results_cell_row rfl _ _ a6 24 #[.bool a9, .slice aj ab.length ad] (0, 0) _ rfl (bp a1) Try.underlying24 rfl (by kernel_rfl)) rfl ?_
      exact ⟨_, er, rf (rt a8 a1), bw⟩
/-! ### lapidaryref02_Cmp: function 42 -/
mutual
def lapidaryref02_Cmp.j0 : Nat → Bool → Bool → List Int → Bool → List Int → Option (Int)
 | 0, _, _, _, _, _ => none
 | k + 1, x13, a1, a0, a2, a3 => if x13 = true then (some 0) else ((lapidaryref02_cmp.f k a0 a3).bind fun a4 => (if (a1 != a2) = true then (lapidaryref02_Cmp.j1 k 1 a1 a0) else (lapidaryref02_Cmp.j1 k a4 a1 a0)))
def lapidaryref02_Cmp.j1 : Nat → Int → Bool → List Int → Option (Int)
 | 0, _, _, _ => none
 | k + 1, x5, a0, a1 => if a0 = true then (lapidaryref02_Cmp.j2 k (wrap64 (-x5))) else (lapidaryref02_Cmp.j2 k x5)
def lapidaryref02_Cmp.j2 : Nat → Int → Option (Int)
 | 0, _ => none
 | k + 1, x5 => if x5 < 0 then (some (-1)) else (if x5 > 0 then (some 1) else (some 0))
end
def lapidaryref02_Cmp.f (k : Nat) (a0 : Bool) (a1 : List Int) (a3 : Bool) (a2 : List Int) : Option (Int) := (lapidaryref02_Right.f a0 a1).bind fun a5 => (if a5 = true then ((lapidaryref02_Right.f a3 a2).bind fun a4 => (lapidaryref02_Cmp.j0 k (!a4) a0 a1 a3 a2)) else (lapidaryref02_Cmp.j0 k true a0 a1 a3 a2))
theorem lapidaryref02_Cmp.mono_l : ∀ k, (∀ y0 y1 y2 y3 y4, LeO (lapidaryref02_Cmp.j0 k y0 y1 y2 y3 y4) (lapidaryref02_Cmp.j0 (k + 1) y0 y1 y2 y3 y4)) ∧ (∀ y0 y1 y2, LeO (lapidaryref02_Cmp.j1 k y0 y1 y2) (lapidaryref02_Cmp.j1 (k + 1) y0 y1 y2)) ∧ (∀ y0, LeO (lapidaryref02_Cmp.j2 k y0) (lapidaryref02_Cmp.j2 (k + 1) y0))
 | 0 => ⟨fun _ _ _ _ _ r h => by simp [lapidaryref02_Cmp.j0] at h, fun _ _ _ r h => by simp [lapidaryref02_Cmp.j1] at h, fun _ r h => by simp [lapidaryref02_Cmp.j2] at h⟩
 | k + 1 => by
  obtain ⟨a1, a2, a0⟩ := lapidaryref02_Cmp.mono_l k
  refine ⟨?_, ?_, ?_⟩
  ·intro y0 y1 y2 y3 y4
   unfold lapidaryref02_Cmp.j0
   repeat' first | with_reducible exact a1 _ _ _ _ _ | with_reducible exact a2 _ _ _ | with_reducible exact a0 _ | with_reducible exact lapidaryref02_cmp.mono _ _ _ | with_reducible exact LeO.refl _ | with_reducible exact LeO.none _ | with_reducible refine LeO.ite ?_ ?_ | with_reducible refine LeO.bind ?_ (fun _ => ?_) | exact a1 _ _ _ _ _ | exact a2 _ _ _ | exact a0 _ | exact lapidaryref02_cmp.mono _ _ _ | exact LeO.none _ | refine LeO.ite ?_ ?_ | refine LeO.bind ?_ (fun _ => ?_)
  ·intro y0 y1 y2
   unfold lapidaryref02_Cmp.j1
   repeat' first | with_reducible exact a1 _ _ _ _ _ | with_reducible exact a2 _ _ _ | with_reducible exact a0 _ | with_reducible exact lapidaryref02_cmp.mono _ _ _ | with_reducible exact LeO.refl _ | with_reducible exact LeO.none _ | with_reducible refine LeO.ite ?_ ?_ | with_reducible refine LeO.bind ?_ (fun _ => ?_) | exact a1 _ _ _ _ _ | exact a2 _ _ _ | exact a0 _ | exact lapidaryref02_cmp.mono _ _ _ | exact LeO.none _ | refine LeO.ite ?_ ?_ | refine LeO.bind ?_ (fun _ => ?_)
  ·intro y0
   unfold lapidaryref02_Cmp.j2
   repeat' first | with_reducible exact a1 _ _ _ _ _ | with_reducible exact a2 _ _ _ | with_reducible exact a0 _ | with_reducible exact lapidaryref02_cmp.mono _ _ _ | with_reducible exact LeO.refl _ | with_reducible exact LeO.none _ | with_reducible refine LeO.ite ?_ ?_ | with_reducible refine LeO.bind ?_ (fun _ => ?_) | exact a1 _ _ _ _ _ | exact a2 _ _ _ | exact a0 _ | exact lapidaryref02_cmp.mono _ _ _ | exact LeO.none _ | refine LeO.ite ?_ ?_ | refine LeO.bind ?_ (fun _ => ?_)
theorem lapidaryref02_Cmp.mono : ∀ a0 a1 a2 a3 k, LeO (lapidaryref02_Cmp.f k a0 a1 a2 a3) (lapidaryref02_Cmp.f (k + 1) a0 a1 a2 a3) := by
 intro a0 a1 a2 a3 k
 obtain ⟨a5, a6, a4⟩ := lapidaryref02_Cmp.mono_l k
 unfold lapidaryref02_Cmp.f
 repeat' first | with_reducible exact a5 _ _ _ _ _ | with_reducible exact a6 _ _ _ | with_reducible exact a4 _ | with_reducible exact lapidaryref02_cmp.mono _ _ _ | with_reducible exact LeO.refl _ | with_reducible exact LeO.none _ | with_reducible refine LeO.ite ?_ ?_ | with_reducible refine LeO.bind ?_ (fun _ => ?_) | exact a5 _ _ _ _ _ | exact a6 _ _ _ | exact a4 _ | exact lapidaryref02_cmp.mono _ _ _ | exact LeO.none _ | refine LeO.ite ?_ ?_ | refine LeO.bind ?_ (fun _ => ?_)
theorem lapidaryref02_Cmp.calls (k : Nat) (a0 : Bool) (a9 : Option Addr) (a8 : Nat) (a3 : List Int) (a2 : Bool) (ac : Option Addr) (ad : Nat) (a6 : List Int) (r : Int) (w : World) (ar : Kd.C (Kd.int .u8) w a9 a3.length a3) (ap : a3.length ≤ a8) (an : Kd.C (Kd.int .u8) w ac a6.length a6) (au : a6.length ≤ ad) (h : lapidaryref02_Cmp.f k a0 a3 a2 a6 = some r) :
  Calls Try.prog 42 #[.agg #[.bool a0, .slice a9 a3.length a8], .agg #[.bool a2, .slice ac a6.length ad]] w fun e w' => e = .returned (.int .i64 r) ∧ Below w.heap.size w w' := by
 have hu24 := Try.underlying24
 have ai := Aside0.mk ar
 have ag := Aside0.mk ap
 clear ar ap
 have am := Aside0.mk an
 have ao := Aside0.mk au
 clear an au
 have HB := Aside0.mk (Below.refl w.heap.size w)
 have H : ((lapidaryref02_Right.f a0 a3).bind fun ay => (if ay = true then ((lapidaryref02_Right.f a2 a6).bind fun al => (lapidaryref02_Cmp.j0 k (!al) a0 a3 a2 a6)) else (lapidaryref02_Cmp.j0 k true a0 a3 a2 a6))) = some r := h
 clear h
 have aM := Aside0.mk H
 clear H
 go_enter Try.func42, Try.ntmps42
 go_upto_region 1 with (first | ((with_reducible refine gd 2 rfl ?_); refine bX 2 rfl HB #[.bool a0, .slice a9 a3.length a8] 24 ?_; intro aj w4 a1 aS hg hb; replace HB := hB HB hb; clear hb hg) | ((with_reducible refine gd 3 rfl ?_); refine bX 3 rfl HB #[.bool a2, .slice ac a6.length ad] 24 ?_; intro ah w5 a4 aP hg hb; obtain ⟨a5, aA⟩ := nB a1 hg; replace a1 := kB a1 hb; replace HB := hB HB hb; clear hb hg))
 (try simp only [Act.put, List.setIfInBounds_toArray, List.set_cons_zero, List.set_cons_succ])
 go_cut [13] (fun v13 wc => ∃ (kq : Nat) (ae : Bool), v13 = .bool ae ∧ Aside0 (lapidaryref02_Cmp.j0 kq ae a0 a3 a2 a6 = some r) ∧ Aside0 (kq ≤ k) ∧ Aside0 (wc.heap[aj]? = some (.cells #[.bool a0, (.slice a9 a3.length a8)] 24 (0, 0))) ∧ Aside0 (wc.heap[ah]? = some (.cells #[.bool a2, (.slice ac a6.length ad)] 24 (0, 0))) ∧ Aside0 (Below w.heap.size w wc))
 case first =>
  have H := aM.out
  clear aM
  obtain ⟨ay, A6, H⟩ := bs H
  by_cases c7 : ay = true
  ·subst c7
   replace H := ip H
   obtain ⟨al, A8, H⟩ := bs H
   have H' := Aside0.mk H
   clear H
   have hn9 := nn a5
   have aR := zf2 a1
   go_wp2_with (first | ((with_reducible refine ga 40 rfl ?_); refine gc (some 7) Try.func40 #[.agg #[.bool a0, .slice a9 a3.length a8]] (lapidaryref02_Right.calls a0 _ _ a3 true _ (cb ai HB) ag.out A6.out) ?_; rintro e w11 ⟨rfl, hb⟩; refine ⟨_, rfl, ?_⟩; replace a1 := kB a1 hb; replace a4 := kB a4 hb; replace HB := hB HB hb; clear hb; have aQ := zf2 a4) | (go_at_call 40; (with_reducible refine (lapidaryref02_Right.calls a2 _ _ a6 al _ ?side1 ?side2 A8.out).mono ?_); (case side1 => exact cb am HB); (case side2 => exact ao.out); rintro e w13 ⟨rfl, hb⟩; replace a1 := kB a1 hb; replace a4 := kB a4 hb; replace HB := hB HB hb; clear hb))
   go_meet
   case rel => exact ⟨_, (!al), sd, H', ⟨le_⟩, ⟨bk⟩, ⟨bk⟩, ⟨bw⟩⟩
  ·replace c7 := Bool.eq_false_iff.mpr c7
   subst c7
   replace H := iq H
   have H' := Aside0.mk H
   clear H
   have hn14 := nn a5
   have aO := zf2 a1
   go_wp2_with (first | ((with_reducible refine ga 40 rfl ?_); refine gc (some 7) Try.func40 #[.agg #[.bool a0, .slice a9 a3.length a8]] (lapidaryref02_Right.calls a0 _ _ a3 false _ (cb ai HB) ag.out A6.out) ?_; rintro e w16 ⟨rfl, hb⟩; refine ⟨_, rfl, ?_⟩; replace a1 := kB a1 hb; replace a4 := kB a4 hb; replace HB := hB HB hb; clear hb))
   go_meet
   case rel => exact ⟨_, (true), sd, H', ⟨le_⟩, ⟨bk⟩, ⟨bk⟩, ⟨bw⟩⟩
 case rest =>
  clear aM
  obtain ⟨kq, ae, rfl, HA, aK, a1, a4, HB⟩ := hcut
  cases kq with
  | zero => exact absurd HA.out (by simp [lapidaryref02_Cmp.j0])
  | succ kj2 =>
   have H := HA.out
   clear HA
   simp only [lapidaryref02_Cmp.j0] at H
   by_cases aB : ae = true
   ·subst aB
    replace H := ip H
    obtain rfl := Option.some.inj H
    go_wp2
    go_ret
    exact ⟨er, bw⟩
   ·replace aB := Bool.eq_false_iff.mpr aB
    subst aB
    replace H := iq H
    obtain ⟨aD, A18, H⟩ := bs H
    have aw := Aside0.mk H
    clear H
    have hn20 := nn a5
    have av := zf2 a1
    have aq := zf2 a4
    go_upto_if 23 with (first | ((with_reducible refine ga 83 rfl ?_); refine gc (some 18) Try.func83 #[.slice a9 a3.length a8, .slice ac a6.length ad] (lapidaryref02_cmp.calls kj2 _ _ a3 _ _ a6 aD _ (cb ai HB) ag.out (cb am HB) ao.out A18.out) ?_; rintro e w' ⟨rfl, ⟨nd, rfl⟩⟩; refine ⟨_, rfl, ?_⟩))
    (try simp only [Act.put, List.setIfInBounds_toArray, List.set_cons_zero, List.set_cons_succ])
    go_cut [5] (fun v5 wc => ∃ (kq : Nat) (ab : Int), v5 = .int .i64 ab ∧ Aside0 (lapidaryref02_Cmp.j1 kq ab a0 a3 = some r) ∧ Aside0 (kq ≤ kj2) ∧ Aside0 (wc.heap[aj]? = some (.cells #[.bool a0, (.slice a9 a3.length a8)] 24 (0, 0))) ∧ Aside0 (wc.heap[ah]? = some (.cells #[.bool a2, (.slice ac a6.length ad)] 24 (0, 0))) ∧ Aside0 (Below w.heap.size w wc))
    case first =>
     have H := aw.out
     clear aw
     by_cases ak : (a0 != a2) = true
     ·rw [if_pos ak] at H
      have aa : (a0 != a2) = true := ak
      (try (have aG : decide (a0 = a2) = false := by simpa using ak))
      (try (have aF : (a0 == a2) = false := by simpa using ak))
      (try (have aN : ¬ (a0 = a2) := by simpa using ak))
      clear ak
      have af := (show (!(a0 == a2)) = _ from aa)
      (first | rw [af] | rw [aa] | skip)
      have H' := Aside0.mk H
      clear H
      go_wp2
      go_meet
      case rel => exact ⟨_, (1), sd, H', ⟨by have := aK.out; first | omega | exact Nat.le_refl _⟩, ⟨bk⟩, ⟨bk⟩, ⟨bw⟩⟩
     ·rw [if_neg ak] at H
      have aa : (a0 != a2) = false := by simpa using ak
      (try (have aG : decide (a0 = a2) = true := by simpa using ak))
      (try (have aF : (a0 == a2) = true := by simpa using ak))
      clear ak
      have af := (show (!(a0 == a2)) = _ from aa)
      (first | rw [af] | rw [aa] | skip)
      have H' := Aside0.mk H
      clear H
      go_wp2
      go_meet
      case rel => exact ⟨_, (aD), sd, H', ⟨by have := aK.out; first | omega | exact Nat.le_refl _⟩, ⟨bk⟩, ⟨bk⟩, ⟨bw⟩⟩
    case rest =>
     clear aw
     try clear aB
     try clear av
     try clear aq
     obtain ⟨kq, ab, rfl, HA, aH, a1, a4, HB⟩ := hcut
     cases kq with
     | zero => exact absurd HA.out (by simp [lapidaryref02_Cmp.j1])
     | succ kj18 =>
      have H := HA.out
      clear HA
      simp only [lapidaryref02_Cmp.j1] at H
      have ax := Aside0.mk H
      clear H
      have hn25 := nn a5
      have aJ := zf2 a1
      go_upto_if 25 with (fail)
      go_cut [5] (fun v5 wc => ∃ (kq : Nat) (a7 : Int), v5 = .int .i64 a7 ∧ Aside0 (lapidaryref02_Cmp.j2 kq a7 = some r) ∧ Aside0 (kq ≤ kj18) ∧ Aside0 (wc.heap[aj]? = some (.cells #[.bool a0, (.slice a9 a3.length a8)] 24 (0, 0))) ∧ Aside0 (wc.heap[ah]? = some (.cells #[.bool a2, (.slice ac a6.length ad)] 24 (0, 0))) ∧ Aside0 (Below w.heap.size w wc))
      case first =>
       have H := ax.out
       clear ax
       by_cases aL : a0 = true
       ·subst aL
        replace H := ip H
        have H' := Aside0.mk H
        clear H
        go_wp2
        go_meet
        case rel => exact ⟨_, (wrap64 (-ab)), sd, H', ⟨by have := aK.out; have := aH.out; first | omega | exact Nat.le_refl _⟩, ⟨bk⟩, ⟨bk⟩, ⟨bw⟩⟩
       ·replace aL := Bool.eq_false_iff.mpr aL
        subst aL
        replace H := iq H
        have H' := Aside0.mk H
        clear H
        go_wp2
        go_meet
        case rel => exact ⟨_, (ab), sd, H', ⟨by have := aK.out; have := aH.out; first | omega | exact Nat.le_refl _⟩, ⟨bk⟩, ⟨bk⟩, ⟨bw⟩⟩
      case rest =>
       clear ax
       try clear aB
       try clear av
       try clear aq
       try clear aJ
       obtain ⟨kq, a7, rfl, HA, HJ23, a1, a4, HB⟩ := hcut
       cases kq with
       | zero => exact absurd HA.out (by simp [lapidaryref02_Cmp.j2])
       | succ kj23 =>
        have H := HA.out
        clear HA
        simp only [lapidaryref02_Cmp.j2] at H
        by_cases aC : a7 < 0
        ·rw [if_pos aC] at H
         have aE : decide (a7 < 0) = true := decide_eq_true aC
         clear aC
         obtain rfl := Option.some.inj H
         go_wp2
         go_ret
         exact ⟨er, bw⟩
        ·rw [if_neg aC] at H
         have aE : decide (a7 < 0) = false := decide_eq_false aC
         clear aC
         by_cases az : a7 > 0
         ·rw [if_pos az] at H
          have aI : decide (0 < a7) = true := decide_eq_true az
          clear az
          obtain rfl := Option.some.inj H
          go_wp2
          go_ret
          exact ⟨er, bw⟩
         ·rw [if_neg az] at H
          have aI : decide (0 < a7) = false := decide_eq_false az
          clear az
          obtain rfl := Option.some.inj H
          go_wp2
          go_ret
          exact ⟨er, bw⟩
end Go.Proofs.Ytfjbhccapgnkiaa.P
