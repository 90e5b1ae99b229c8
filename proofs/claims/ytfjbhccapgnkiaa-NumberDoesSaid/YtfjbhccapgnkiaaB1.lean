import Derived.Test.YtfjbhccapgnkiaaA6
namespace Go.Proofs.Ytfjbhccapgnkiaa.P
open Go.RowKit Go.Proofs.YtfjbhccapgnkiaaW.PrintWords Go.Proofs.YtfjbhccapgnkiaaW.PrintLast Go.Proofs.YtfjbhccapgnkiaaW.PrintMore
attribute [local go_sem] max2_int min2_int max_two min_two max_three min_three max_four min_four
set_option linter.unusedVariables false
set_option maxHeartbeats 16000000
set_option maxRecDepth 100000
set_option linter.unusedSimpArgs false
/-! ### whole_made: function 85 -/
def whole_made.f (k : Nat) (a0 : Bool) (l1 : List Int) : Option (Bool × List Int) := (whole_words_bytes.f k l1).bind fun a1 => (if a0 = true then (some (decide (0 < a1.length), a1)) else (some (false, a1)))
theorem whole_made.mono : ∀ a0 a1 k, LeO (whole_made.f k a0 a1) (whole_made.f (k + 1) a0 a1) := by
 intro a0 a1 k
 unfold whole_made.f
 repeat' first | with_reducible exact whole_words_bytes.mono _ _ | with_reducible exact LeO.refl _ | with_reducible exact LeO.none _ | with_reducible refine LeO.ite ?_ ?_ | with_reducible refine LeO.bind ?_ (fun _ => ?_) | exact whole_words_bytes.mono _ _ | exact LeO.none _ | refine LeO.ite ?_ ?_ | refine LeO.bind ?_ (fun _ => ?_)
theorem whole_made.calls (k : Nat) (a0 : Bool) (A1 : Option Addr) (c1 : Nat) (l1 : List Int) (r1 : Bool) (r2 : List Int) (w : World) (ad : Kd.C (Kd.int .u32) w A1 l1.length l1) (ac : l1.length ≤ c1) (h : whole_made.f k a0 l1 = some (r1, r2)) :
  Calls Try.prog 85 #[.bool a0, .slice A1 l1.length c1] w fun e w' => ∃ ae : Value, e = .returned (.agg #[.bool r1, ae]) ∧ Kd.R (Kd.int .u8) 5 w' w.heap.size (fun _ => True) ae r2 ∧ Below w.heap.size w w' := by
 have hu25 := Try.underlying25
 have ag := Aside0.mk ad
 have ab := Aside0.mk ac
 clear ad ac
 have HB := Aside0.mk (Below.refl w.heap.size w)
 have H : ((whole_words_bytes.f k l1).bind fun a2 => (if a0 = true then (some (decide (0 < a2.length), a2)) else (some (false, a2)))) = some (r1, r2) := h
 clear h
 obtain ⟨a2, A3, H⟩ := bs H
 by_cases c4 : a0 = true
 ·subst c4
  replace H := ip H
  simp only [Option.some.injEq, Prod.mk.injEq] at H
  obtain ⟨rfl, rfl⟩ := H
  go_enter Try.func85, Try.ntmps85
  go_wp2_with (first | ((with_reducible refine gd 4 rfl ?_); refine bX 4 rfl HB #[.bool false, .slice none 0 0] 25 ?_; intro a4 w5 a1 a6 hg hb; replace HB := hB HB hb; clear hb hg) | ((with_reducible refine ga 115 rfl ?_); refine gc (some 7) Try.func115 #[.slice A1 l1.length c1] (whole_words_bytes.calls k _ _ l1 a2 _ (cb ag HB) ab.out A3.out) ?_; rintro e w6 ⟨aa, rfl, a5, hb⟩; refine ⟨_, rfl, ?_⟩; have a3 := rL HB a5; replace a1 := kB a1 hb; replace HB := hB HB hb; clear hb a5; obtain ⟨Ao7, co7, eo7⟩ := sl a3; cases eo7; have hcz8 := zf2 a1))
  refine bodyPost_ret (results_cell_row rfl _ _ a4 25 #[.bool (decide (0 < a2.length)), .slice Ao7 a2.length co7] (0, 0) _ rfl (bp a1) Try.underlying25 rfl (by kernel_rfl)) rfl ?_
  exact ⟨_, er, rf (rt a3 a1), bw⟩
 ·replace c4 := Bool.eq_false_iff.mpr c4
  subst c4
  replace H := iq H
  simp only [Option.some.injEq, Prod.mk.injEq] at H
  obtain ⟨rfl, rfl⟩ := H
  go_enter Try.func85, Try.ntmps85
  go_wp2_with (first | ((with_reducible refine gd 4 rfl ?_); refine bX 4 rfl HB #[.bool false, .slice none 0 0] 25 ?_; intro a4 w9 a1 a6 hg hb; replace HB := hB HB hb; clear hb hg) | ((with_reducible refine ga 115 rfl ?_); refine gc (some 7) Try.func115 #[.slice A1 l1.length c1] (whole_words_bytes.calls k _ _ l1 a2 _ (cb ag HB) ab.out A3.out) ?_; rintro e w10 ⟨aa, rfl, a5, hb⟩; refine ⟨_, rfl, ?_⟩; have a3 := rL HB a5; replace a1 := kB a1 hb; replace HB := hB HB hb; clear hb a5; obtain ⟨a7, a9, a8⟩ := sl a3; cases a8; have af := zf2 a1))
  refine bodyPost_ret (results_cell_row rfl _ _ a4 25 #[.bool false, .slice a7 a2.length a9] (0, 0) _ rfl (bp a1) Try.underlying25 rfl (by kernel_rfl)) rfl ?_
  exact ⟨_, er, rf (rt a3 a1), bw⟩
/-! ### whole_Of: function 37 -/
def whole_Of.f (k : Nat) (a0 : Int) : Option (Bool × List Int) := if a0 < 0 then ((whole_made.f k (decide (a0 < 0)) (([(IntKind.u64.wrap (-(IntKind.u64.wrap (a0)))) % 4294967296, ((IntKind.u64.wrap (-(IntKind.u64.wrap (a0)))) / 4294967296) % 4294967296] : List Int))).bind fun a2 => (some (a2.1, a2.2))) else ((whole_made.f k (decide (a0 < 0)) (([(IntKind.u64.wrap (a0)) % 4294967296, ((IntKind.u64.wrap (a0)) / 4294967296) % 4294967296] : List Int))).bind fun a1 => (some (a1.1, a1.2)))
theorem whole_Of.mono : ∀ a0 k, LeO (whole_Of.f k a0) (whole_Of.f (k + 1) a0) := by
 intro a0 k
 unfold whole_Of.f
 repeat' first | with_reducible exact whole_made.mono _ _ _ | with_reducible exact LeO.refl _ | with_reducible exact LeO.none _ | with_reducible refine LeO.ite ?_ ?_ | with_reducible refine LeO.bind ?_ (fun _ => ?_) | exact whole_made.mono _ _ _ | exact LeO.none _ | refine LeO.ite ?_ ?_ | refine LeO.bind ?_ (fun _ => ?_)
theorem whole_Of.calls (k : Nat) (a0 : Int) (r1 : Bool) (r2 : List Int) (w : World) (h : whole_Of.f k a0 = some (r1, r2)) :
  Calls Try.prog 37 #[.int .i64 a0] w fun e w' => ∃ az : Value, e = .returned (.agg #[.bool r1, az]) ∧ Kd.R (Kd.int .u8) 5 w' w.heap.size (fun _ => True) az r2 ∧ Below w.heap.size w w' := by
 have hu25 := Try.underlying25
 have HB := Aside0.mk (Below.refl w.heap.size w)
 have H : (if a0 < 0 then ((whole_made.f k (decide (a0 < 0)) (([(IntKind.u64.wrap (-(IntKind.u64.wrap (a0)))) % 4294967296, ((IntKind.u64.wrap (-(IntKind.u64.wrap (a0)))) / 4294967296) % 4294967296] : List Int))).bind fun a2 => (some (a2.1, a2.2))) else ((whole_made.f k (decide (a0 < 0)) (([(IntKind.u64.wrap (a0)) % 4294967296, ((IntKind.u64.wrap (a0)) / 4294967296) % 4294967296] : List Int))).bind fun a5 => (some (a5.1, a5.2)))) = some (r1, r2) := h
 clear h
 by_cases c2 : a0 < 0
 ·rw [if_pos c2] at H
  have ad : decide (a0 < 0) = true := decide_eq_true c2
  rw [ad] at H
  clear c2
  obtain ⟨y403, hy403⟩ : ∃ y_ : List Int, y_ = (([(IntKind.u64.wrap (-(IntKind.u64.wrap (a0)))) % 4294967296, ((IntKind.u64.wrap (-(IntKind.u64.wrap (a0)))) / 4294967296) % 4294967296] : List Int)) := ⟨_, rfl⟩
  replace H : ((whole_made.f k true y403).bind fun a2 => (some (a2.1, a2.2))) = some (r1, r2) := by first | (rw [hy403]; with_reducible exact H) | (have ae := (Option.bind_some _ _).symm.trans H; rw [hy403]; with_reducible exact ae) | (have ae := (Option.bind_some _ _).symm.trans H; with_reducible exact ae) | with_reducible exact H | (rw [hy403]; exact H) | exact H
  have ab := Aside0.mk hy403
  clear hy403
  obtain ⟨⟨ag, al⟩, A3, H⟩ := bs H
  simp only [Option.some.injEq, Prod.mk.injEq] at H
  obtain ⟨rfl, rfl⟩ := H
  go_enter Try.func37, Try.ntmps37
  go_wp2_with (first | ((with_reducible refine gd 2 rfl ?_); refine bX 2 rfl HB #[.bool false, .slice none 0 0] 25 ?_; intro a7 w4 a1 ak hg hb; replace HB := hB HB hb; clear hb hg) | ((with_reducible refine gd 17 rfl ?_); refine Kd.R_lit (Kd.int .u32) _ 118 ?hg (N := 17) ?hd (xs := ([(IntKind.u64.wrap (-(IntKind.u64.wrap (a0)))) % 4294967296, ((IntKind.u64.wrap (-(IntKind.u64.wrap (a0)))) / 4294967296) % 4294967296] : List Int)) (inner := [.int .u32 ((IntKind.u64.wrap (-(IntKind.u64.wrap (a0)))) % 4294967296), .int .u32 (((IntKind.u64.wrap (-(IntKind.u64.wrap (a0)))) / 4294967296) % 4294967296)]) (ok := fun _ => True) (okp := fun _ => True) ?hr ?hp (fun _ hk => hk) trivial (Below.refl _ _) (Nat.le_refl _) (by simp) ?_; (case hd => rfl); (case hg => rfl); (case hr => first | (go_simp; done) | (go_simp; rfl)); (case hp => exact (Reps.one (show Kd.M (Kd.int .u32) _ _ _ ((IntKind.u64.wrap (-(IntKind.u64.wrap (a0)))) % 4294967296) [.int .u32 ((IntKind.u64.wrap (-(IntKind.u64.wrap (a0)))) % 4294967296)] from rfl) (Reps.one (show Kd.M (Kd.int .u32) _ _ _ (((IntKind.u64.wrap (-(IntKind.u64.wrap (a0)))) / 4294967296) % 4294967296) [.int .u32 (((IntKind.u64.wrap (-(IntKind.u64.wrap (a0)))) / 4294967296) % 4294967296)] from rfl) (Reps.none _ _)))); intro v404 w5 aj hb am a8; clear am a8; (first | rw [← ab.out] at aj | (simp only [Int.reduceToNat] at aj; rw [← ab.out] at aj)); have a4 := rL HB aj; replace a1 := kB a1 hb; replace HB := hB HB hb; clear hb aj; obtain ⟨Ao7, co7, eo7⟩ := sl a4; cases eo7) | ((with_reducible refine ga 85 rfl ?_); refine gc (some 18) Try.func85 #[.bool true, .slice Ao7 y403.length co7] (whole_made.calls k true _ _ y403 ag al _ (cr a4) (rl a4) A3.out) ?_; rintro e w8 ⟨v408, rfl, ai, hb⟩; refine ⟨_, rfl, ?_⟩; have a9 := rL HB ai; replace a4 := rB a4 hb; replace a1 := kB a1 hb; replace HB := hB HB hb; clear hb ai; have hcz9 := zf2 a1; obtain ⟨ar, an, ao⟩ := sl a9; cases ao))
  refine bodyPost_ret (results_cell_row rfl _ _ a7 25 #[.bool ag, .slice ar al.length an] (0, 0) _ rfl (bp a1) Try.underlying25 rfl (by kernel_rfl)) rfl ?_
  exact ⟨_, er, rf (rt a9 a1), bw⟩
 ·rw [if_neg c2] at H
  have ad : decide (a0 < 0) = false := decide_eq_false c2
  rw [ad] at H
  clear c2
  obtain ⟨y410, hy410⟩ : ∃ y_ : List Int, y_ = (([(IntKind.u64.wrap (a0)) % 4294967296, ((IntKind.u64.wrap (a0)) / 4294967296) % 4294967296] : List Int)) := ⟨_, rfl⟩
  replace H : ((whole_made.f k false y410).bind fun a5 => (some (a5.1, a5.2))) = some (r1, r2) := by first | (rw [hy410]; with_reducible exact H) | (have ae := (Option.bind_some _ _).symm.trans H; rw [hy410]; with_reducible exact ae) | (have ae := (Option.bind_some _ _).symm.trans H; with_reducible exact ae) | with_reducible exact H | (rw [hy410]; exact H) | exact H
  have ac := Aside0.mk hy410
  clear hy410
  obtain ⟨⟨ah, af⟩, A11, H⟩ := bs H
  simp only [Option.some.injEq, Prod.mk.injEq] at H
  obtain ⟨rfl, rfl⟩ := H
  go_enter Try.func37, Try.ntmps37
  go_wp2_with (first | ((with_reducible refine gd 2 rfl ?_); refine bX 2 rfl HB #[.bool false, .slice none 0 0] 25 ?_; intro a7 w12 a1 ak hg hb; replace HB := hB HB hb; clear hb hg) | ((with_reducible refine gd 17 rfl ?_); refine Kd.R_lit (Kd.int .u32) _ 118 ?hg (N := 17) ?hd (xs := ([(IntKind.u64.wrap (a0)) % 4294967296, ((IntKind.u64.wrap (a0)) / 4294967296) % 4294967296] : List Int)) (inner := [.int .u32 ((IntKind.u64.wrap (a0)) % 4294967296), .int .u32 (((IntKind.u64.wrap (a0)) / 4294967296) % 4294967296)]) (ok := fun _ => True) (okp := fun _ => True) ?hr ?hp (fun _ hk => hk) trivial (Below.refl _ _) (Nat.le_refl _) (by simp) ?_; (case hd => rfl); (case hg => rfl); (case hr => first | (go_simp; done) | (go_simp; rfl)); (case hp => exact (Reps.one (show Kd.M (Kd.int .u32) _ _ _ ((IntKind.u64.wrap (a0)) % 4294967296) [.int .u32 ((IntKind.u64.wrap (a0)) % 4294967296)] from rfl) (Reps.one (show Kd.M (Kd.int .u32) _ _ _ (((IntKind.u64.wrap (a0)) / 4294967296) % 4294967296) [.int .u32 (((IntKind.u64.wrap (a0)) / 4294967296) % 4294967296)] from rfl) (Reps.none _ _)))); intro v411 w13 a6 hb am a8; clear am a8; (first | rw [← ac.out] at a6 | (simp only [Int.reduceToNat] at a6; rw [← ac.out] at a6)); have a3 := rL HB a6; replace a1 := kB a1 hb; replace HB := hB HB hb; clear hb a6; obtain ⟨aw, ap, aq⟩ := sl a3; cases aq) | ((with_reducible refine ga 85 rfl ?_); refine gc (some 18) Try.func85 #[.bool false, .slice aw y410.length ap] (whole_made.calls k false _ _ y410 ah af _ (cr a3) (rl a3) A11.out) ?_; rintro e w16 ⟨v415, rfl, ai, hb⟩; refine ⟨_, rfl, ?_⟩; have aa := rL HB ai; replace a3 := rB a3 hb; replace a1 := kB a1 hb; replace HB := hB HB hb; clear hb ai; have ay := zf2 a1; obtain ⟨av, au, ax⟩ := sl aa; cases ax))
  refine bodyPost_ret (results_cell_row rfl _ _ a7 25 #[.bool ah, .slice av af.length au] (0, 0) _ rfl (bp a1) Try.underlying25 rfl (by kernel_rfl)) rfl ?_
  exact ⟨_, er, rf (rt aa a1), bw⟩
/-! ### whole_fits: function 73 -/
def whole_fits.f (k : Nat) (a0 : Bool) (l1 : List Int) : Option (Bool × List Int × Int) := (whole_made.f k a0 l1).bind fun a1 => (if (a1.2.length : Int) > 128 then (some (false, ([] : List Int), 24)) else (some (a1.1, a1.2, 0)))
theorem whole_fits.mono : ∀ a0 a1 k, LeO (whole_fits.f k a0 a1) (whole_fits.f (k + 1) a0 a1) := by
 intro a0 a1 k
 unfold whole_fits.f
 repeat' first | with_reducible exact whole_made.mono _ _ _ | with_reducible exact LeO.refl _ | with_reducible exact LeO.none _ | with_reducible refine LeO.ite ?_ ?_ | with_reducible refine LeO.bind ?_ (fun _ => ?_) | exact whole_made.mono _ _ _ | exact LeO.none _ | refine LeO.ite ?_ ?_ | refine LeO.bind ?_ (fun _ => ?_)
theorem whole_fits.calls (k : Nat) (a0 : Bool) (A1 : Option Addr) (c1 : Nat) (l1 : List Int) (r1 : Bool) (r2 : List Int) (r3 : Int) (w : World) (aq : Kd.C (Kd.int .u32) w A1 l1.length l1) (ao : l1.length ≤ c1) (h : whole_fits.f k a0 l1 = some (r1, r2, r3)) :
  Calls Try.prog 73 #[.bool a0, .slice A1 l1.length c1] w fun e w' => ∃ ar : Value, e = .returned (.tuple #[.agg #[.bool r1, ar], .int .i64 r3]) ∧ Kd.R (Kd.int .u8) 5 w' w.heap.size (fun _ => True) ar r2 ∧ Below w.heap.size w w' := by
 have hu25 := Try.underlying25
 have au := Aside0.mk aq
 have al := Aside0.mk ao
 clear aq ao
 have HB := Aside0.mk (Below.refl w.heap.size w)
 have H : ((whole_made.f k a0 l1).bind fun a7 => (if (a7.2.length : Int) > 128 then (some (false, ([] : List Int), 24)) else (some (a7.1, a7.2, 0)))) = some (r1, r2, r3) := h
 clear h
 obtain ⟨⟨a9, a4⟩, A3, H⟩ := bs H
 by_cases c4 : (a4.length : Int) > 128
 ·rw [if_pos c4] at H
  have ai : decide (128 < (a4.length : Int)) = true := decide_eq_true c4
  have ag : decide (128 < a4.length) = true := decide_eq_true (by omega)
  clear c4
  simp only [Option.some.injEq, Prod.mk.injEq] at H
  obtain ⟨rfl, rfl, rfl⟩ := H
  go_enter Try.func73, Try.ntmps73
  go_wp2_with (first | ((with_reducible refine gd 4 rfl ?_); refine bX 4 rfl HB #[.bool false, .slice none 0 0] 25 ?_; intro a8 w5 a1 ad hg hb; replace HB := hB HB hb; clear hb hg) | ((with_reducible refine ga 85 rfl ?_); refine gc (some 9) Try.func85 #[.bool a0, .slice A1 l1.length c1] (whole_made.calls k a0 _ _ l1 a9 a4 _ (cb au HB) al.out A3.out) ?_; rintro e w6 ⟨aj, rfl, ac, hb⟩; refine ⟨_, rfl, ?_⟩; have a3 := rL HB ac; replace a1 := kB a1 hb; replace HB := hB HB hb; clear hb ac) | ((with_reducible refine gd 6 rfl ?_); refine bX 6 rfl HB #[.bool false, .slice none 0 0] 25 ?_; intro ab w7 a5 aa hg hb; obtain ⟨a6, a2⟩ := nB a1 hg; replace a3 := rB a3 hb; replace a1 := kB a1 hb; replace HB := hB HB hb; clear hb hg; have hn8 := nn a2; have hcz9 := zf2 a5; obtain ⟨Ao10, co10, ae⟩ := sl a3; cases ae; have ap := zf2 a1))
  refine bodyPost_ret (results_ct rfl _ _ a8 25 #[.bool false, .slice none 0 0] (0, 0) _ rfl (bp a1) Try.underlying25 rfl (by kernel_rfl)) rfl ?_
  exact ⟨_, er, nl, bw⟩
 ·rw [if_neg c4] at H
  have ai : decide (128 < (a4.length : Int)) = false := decide_eq_false c4
  have ag : decide (128 < a4.length) = false := decide_eq_false (by omega)
  clear c4
  simp only [Option.some.injEq, Prod.mk.injEq] at H
  obtain ⟨rfl, rfl, rfl⟩ := H
  go_enter Try.func73, Try.ntmps73
  go_wp2_with (first | ((with_reducible refine gd 4 rfl ?_); refine bX 4 rfl HB #[.bool false, .slice none 0 0] 25 ?_; intro a8 w12 a1 ad hg hb; replace HB := hB HB hb; clear hb hg) | ((with_reducible refine ga 85 rfl ?_); refine gc (some 9) Try.func85 #[.bool a0, .slice A1 l1.length c1] (whole_made.calls k a0 _ _ l1 a9 a4 _ (cb au HB) al.out A3.out) ?_; rintro e w13 ⟨aj, rfl, ac, hb⟩; refine ⟨_, rfl, ?_⟩; have a3 := rL HB ac; replace a1 := kB a1 hb; replace HB := hB HB hb; clear hb ac) | ((with_reducible refine gd 6 rfl ?_); refine bX 6 rfl HB #[.bool false, .slice none 0 0] 25 ?_; intro ab w14 a5 aa hg hb; obtain ⟨a6, a2⟩ := nB a1 hg; replace a3 := rB a3 hb; replace a1 := kB a1 hb; replace HB := hB HB hb; clear hb hg; have hn15 := nn a2; have an := zf2 a5; obtain ⟨ak, af, ah⟩ := sl a3; cases ah; have am := zf2 a1))
  refine bodyPost_ret (results_ct rfl _ _ a8 25 #[.bool a9, .slice ak a4.length af] (0, 0) _ rfl (bp a1) Try.underlying25 rfl (by kernel_rfl)) rfl ?_
  exact ⟨_, er, rf (rt (rt a3 a5) a1), bw⟩
end Go.Proofs.Ytfjbhccapgnkiaa.P
