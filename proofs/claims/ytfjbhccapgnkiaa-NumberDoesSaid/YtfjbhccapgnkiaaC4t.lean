import Derived.Test.YtfjbhccapgnkiaaC1b
namespace Go.Proofs.Ytfjbhccapgnkiaa.P
open Go.RowKit Go.Proofs.YtfjbhccapgnkiaaW.PrintWords Go.Proofs.YtfjbhccapgnkiaaW.PrintLast Go.Proofs.YtfjbhccapgnkiaaW.PrintMore
attribute [local go_sem] max2_int min2_int max_two min_two max_three min_three max_four min_four
set_option linter.unusedVariables false
set_option maxHeartbeats 16000000
set_option maxRecDepth 100000
set_option linter.unusedSimpArgs false
/-! ### lapidaryref02_fits: function 79 -/
def lapidaryref02_fits.f (a0 : Bool) (l1 : List Int) : Option (Bool × List Int × Int) := (lapidaryref02_made.f a0 l1).bind fun a1 => (if (a1.2.length : Int) > 128 then (some (false, ([] : List Int), 24)) else (some (a1.1, a1.2, 0)))
theorem lapidaryref02_fits.calls (a0 : Bool) (A1 : Option Addr) (c1 : Nat) (l1 : List Int) (r1 : Bool) (r2 : List Int) (r3 : Int) (w : World) (aq : Kd.C (Kd.int .u8) w A1 l1.length l1) (ao : l1.length ≤ c1) (h : lapidaryref02_fits.f a0 l1 = some (r1, r2, r3)) :
  Calls Try.prog 79 #[.bool a0, .slice A1 l1.length c1] w fun e w' => ∃ ar : Value, e = .returned (.tuple #[.agg #[.bool r1, ar], .int .i64 r3]) ∧ Kd.R (Kd.int .u8) 5 w' w.heap.size (fun _ => True) ar r2 ∧ Below w.heap.size w w' := by
 have hu24 := Try.underlying24
 have au := Aside0.mk aq
 have al := Aside0.mk ao
 clear aq ao
 have HB := Aside0.mk (Below.refl w.heap.size w)
 have H : ((lapidaryref02_made.f a0 l1).bind fun a7 => (if (a7.2.length : Int) > 128 then (some (false, ([] : List Int), 24)) else (some (a7.1, a7.2, 0)))) = some (r1, r2, r3) := h
 clear h
 obtain ⟨⟨a9, a4⟩, A3, H⟩ := bs H
 by_cases c4 : (a4.length : Int) > 128
 ·rw [if_pos c4] at H
  have aj : decide (128 < (a4.length : Int)) = true := decide_eq_true c4
  have ag : decide (128 < a4.length) = true := decide_eq_true (by omega)
  clear c4
  simp only [Option.some.injEq, Prod.mk.injEq] at H
  obtain ⟨rfl, rfl, rfl⟩ := H
  go_enter Try.func79, Try.ntmps79
  go_wp2_with (first | ((with_reducible refine gd 4 rfl ?_); refine bX 4 rfl HB #[.bool false, .slice none 0 0] 24 ?_; intro a8 w5 a1 ab hg hb; replace HB := hB HB hb; clear hb hg) | ((with_reducible refine ga 86 rfl ?_); refine gc (some 9) Try.func86 #[.bool a0, .slice A1 l1.length c1] (lapidaryref02_made.calls a0 _ _ l1 a9 a4 _ (cb au HB) al.out A3.out) ?_; rintro e w6 ⟨ai, rfl, ac, hb⟩; refine ⟨_, rfl, ?_⟩; have a3 := rL HB ac; replace a1 := kB a1 hb; replace HB := hB HB hb; clear hb ac) | ((with_reducible refine gd 6 rfl ?_); refine bX 6 rfl HB #[.bool false, .slice none 0 0] 24 ?_; intro aa w7 a5 ad hg hb; obtain ⟨a6, a2⟩ := nB a1 hg; replace a3 := rB a3 hb; replace a1 := kB a1 hb; replace HB := hB HB hb; clear hb hg; have hn8 := nn a2; have hcz9 := zf2 a5; obtain ⟨Ao10, co10, ae⟩ := sl a3; cases ae; have ap := zf2 a1))
  refine bodyPost_ret (results_ct rfl _ _ a8 24 #[.bool false, .slice none 0 0] (0, 0) _ rfl (bp a1) Try.underlying24 rfl (by kernel_rfl)) rfl ?_
  exact ⟨_, er, nl, bw⟩
 ·rw [if_neg c4] at H
  have aj : decide (128 < (a4.length : Int)) = false := decide_eq_false c4
  have ag : decide (128 < a4.length) = false := decide_eq_false (by omega)
  clear c4
  simp only [Option.some.injEq, Prod.mk.injEq] at H
  obtain ⟨rfl, rfl, rfl⟩ := H
  go_enter Try.func79, Try.ntmps79
  go_wp2_with (first | ((with_reducible refine gd 4 rfl ?_); refine bX 4 rfl HB #[.bool false, .slice none 0 0] 24 ?_; intro a8 w12 a1 ab hg hb; replace HB := hB HB hb; clear hb hg) | ((with_reducible refine ga 86 rfl ?_); refine gc (some 9) Try.func86 #[.bool a0, .slice A1 l1.length c1] (lapidaryref02_made.calls a0 _ _ l1 a9 a4 _ (cb au HB) al.out A3.out) ?_; rintro e w13 ⟨ai, rfl, ac, hb⟩; refine ⟨_, rfl, ?_⟩; have a3 := rL HB ac; replace a1 := kB a1 hb; replace HB := hB HB hb; clear hb ac) | ((with_reducible refine gd 6 rfl ?_); refine bX 6 rfl HB #[.bool false, .slice none 0 0] 24 ?_; intro aa w14 a5 ad hg hb; obtain ⟨a6, a2⟩ := nB a1 hg; replace a3 := rB a3 hb; replace a1 := kB a1 hb; replace HB := hB HB hb; clear hb hg; have hn15 := nn a2; have an := zf2 a5; obtain ⟨ak, af, ah⟩ := sl a3; cases ah; have am := zf2 a1))
  refine bodyPost_ret (results_ct rfl _ _ a8 24 #[.bool a9, .slice ak a4.length af] (0, 0) _ rfl (bp a1) Try.underlying24 rfl (by kernel_rfl)) rfl ?_
  exact ⟨_, er, rf (rt (rt a3 a5) a1), bw⟩
end Go.Proofs.Ytfjbhccapgnkiaa.P
namespace Go.Proofs.Ytfjbhccapgnkiaa.P
open Go.RowKit Go.Proofs.YtfjbhccapgnkiaaW.PrintWords Go.Proofs.YtfjbhccapgnkiaaW.PrintLast Go.Proofs.YtfjbhccapgnkiaaW.PrintMore
attribute [local go_sem] max2_int min2_int max_two min_two max_three min_three max_four min_four
set_option linter.unusedVariables false
set_option maxHeartbeats 16000000
set_option maxRecDepth 100000
set_option linter.unusedSimpArgs false
/-! ### lapidaryref02_times: function 77 -/
def lapidaryref02_times.l0 : Nat → List Int → Int → List Int → Int → Int → Option (List Int)
 | 0, _, _, _, _, _ => none
 | k + 1, x0, x1, x7, x8, x9 => if x9 < (x0.length : Int) then ((lapidaryref02_at.f x0 x9).bind fun a1 => (if x7.length < 140737488355328 then (lapidaryref02_times.l0 k x0 x1 (x7 ++ [(Int.tmod (wrap64 (x8 + (wrap64 (a1 * x1)))) 256) % 256]) (wrap64 (Int.tdiv (wrap64 (x8 + (wrap64 (a1 * x1)))) 256)) (wrap64 (x9 + 1))) else (none))) else (if x8 > 0 then ((lapidaryref02_at.f x0 x9).bind fun a0 => (if x7.length < 140737488355328 then (lapidaryref02_times.l0 k x0 x1 (x7 ++ [(Int.tmod (wrap64 (x8 + (wrap64 (a0 * x1)))) 256) % 256]) (wrap64 (Int.tdiv (wrap64 (x8 + (wrap64 (a0 * x1)))) 256)) (wrap64 (x9 + 1))) else (none))) else ((lapidaryref02_turned.f k x7).bind fun a2 => (some a2)))
def lapidaryref02_times.f (k : Nat) (l0 : List Int) (a1 : Int) (a2 : Int) : Option (List Int) := if 0 ≤ a2 then (if (a2 : Int).toNat ≤ 281474976710656 then (lapidaryref02_times.l0 k l0 a1 (List.replicate (a2 : Int).toNat 0) 0 0) else (none)) else (none)
theorem lapidaryref02_times.mono_l : ∀ k, (∀ y0 y1 y2 y3 y4, LeO (lapidaryref02_times.l0 k y0 y1 y2 y3 y4) (lapidaryref02_times.l0 (k + 1) y0 y1 y2 y3 y4))
 | 0 => fun _ _ _ _ _ r h => by simp [lapidaryref02_times.l0] at h
 | k + 1 => by
  have a0 := lapidaryref02_times.mono_l k
  ·intro y0 y1 y2 y3 y4
   unfold lapidaryref02_times.l0
   repeat' first | with_reducible exact a0 _ _ _ _ _ | with_reducible exact lapidaryref02_turned.mono _ _ | with_reducible exact LeO.refl _ | with_reducible exact LeO.none _ | with_reducible refine LeO.ite ?_ ?_ | with_reducible refine LeO.bind ?_ (fun _ => ?_) | exact a0 _ _ _ _ _ | exact lapidaryref02_turned.mono _ _ | exact LeO.none _ | refine LeO.ite ?_ ?_ | refine LeO.bind ?_ (fun _ => ?_)
theorem lapidaryref02_times.mono : ∀ a0 a1 a2 k, LeO (lapidaryref02_times.f k a0 a1 a2) (lapidaryref02_times.f (k + 1) a0 a1 a2) := by
 intro a0 a1 a2 k
 have a3 := lapidaryref02_times.mono_l k
 unfold lapidaryref02_times.f
 repeat' first | with_reducible exact a3 _ _ _ _ _ | with_reducible exact lapidaryref02_turned.mono _ _ | with_reducible exact LeO.refl _ | with_reducible exact LeO.none _ | with_reducible refine LeO.ite ?_ ?_ | with_reducible refine LeO.bind ?_ (fun _ => ?_) | exact a3 _ _ _ _ _ | exact lapidaryref02_turned.mono _ _ | exact LeO.none _ | refine LeO.ite ?_ ?_ | refine LeO.bind ?_ (fun _ => ?_)
theorem lapidaryref02_times.calls (k : Nat) (A0 : Option Addr) (c0 : Nat) (l0 : List Int) (a1 : Int) (a2 : Int) (r : List Int) (w : World) (aG : Kd.C (Kd.int .u8) w A0 l0.length l0) (aD : l0.length ≤ c0) (h : lapidaryref02_times.f k l0 a1 a2 = some r) :
  Calls Try.prog 77 #[.slice A0 l0.length c0, .int .i64 a1, .int .i64 a2] w fun e w' => ∃ aE : Value, e = .returned (aE) ∧ Kd.R (Kd.int .u8) 5 w' w.heap.size (fun _ => True) aE r ∧ Below w.heap.size w w' := by
 have aA := Aside0.mk aG
 have aC := Aside0.mk aD
 clear aG aD
 have HB := Aside0.mk (Below.refl w.heap.size w)
 have H : (if 0 ≤ a2 then (if (a2 : Int).toNat ≤ 281474976710656 then (lapidaryref02_times.l0 k l0 a1 (List.replicate (a2 : Int).toNat 0) 0 0) else (none)) else (none)) = some r := h
 clear h
 by_cases c4 : 0 ≤ a2
 ·rw [if_pos c4] at H
  have av := eq_true c4
  have aq : decide (0 ≤ a2) = true := decide_eq_true c4
  clear c4
  by_cases c5 : (a2 : Int).toNat ≤ 281474976710656
  ·rw [if_pos c5] at H
   have ay := eq_true c5
   have ao : decide ((a2 : Int).toNat ≤ 281474976710656) = true := decide_eq_true c5
   clear c5
   obtain ⟨y523, hy523⟩ : ∃ y_ : List Int, y_ = (List.replicate (a2 : Int).toNat 0) := ⟨_, rfl⟩
   replace H : (lapidaryref02_times.l0 k l0 a1 y523 0 0) = some r := by first | (rw [hy523]; with_reducible exact H) | (have a8 := (Option.bind_some _ _).symm.trans H; rw [hy523]; with_reducible exact a8) | (have a8 := (Option.bind_some _ _).symm.trans H; with_reducible exact a8) | with_reducible exact H | (rw [hy523]; exact H) | exact H
   have a9 := Aside0.mk hy523
   clear hy523
   have H' := Aside0.mk H
   clear H
   go_enter Try.func77, Try.ntmps77
   go_wp2_with (first | ((with_reducible refine gd 11 rfl ?_); refine Kd.R_make (Kd.int .u8) _ 5 rfl (N := 11) rfl 22 _ _ rfl a2 rfl rfl Try.underlying22 (.int .u8 0) 1 info5 rfl (by decide) (by omega) 0 (ok := fun _ => True) (okp := fun _ => True) rfl (fun _ hk => hk) trivial (of_decide_eq_true asm) (Nat.le_trans (Nat.mul_le_mul_right _ (of_decide_eq_true asm : a2.toNat ≤ 281474976710656)) (by omega)) (Below.refl _ _) (Nat.le_refl _) ?_; intro v524 w6 ab hb hg_ ak; clear hg_ ak; (first | rw [← a9.out] at ab | (simp only [Int.reduceToNat] at ab; rw [← a9.out] at ab)); have ai := rL HB ab; replace HB := hB HB hb; clear hb ab))
   go_loopg [7, 8, 9] k (fun kq v7 v8 v9 w' => ∃ (a4 : List Int) (a0 : Int) (a3 : Int), v8 = .int .i64 a0 ∧ v9 = .int .i64 a3 ∧ Aside0 (lapidaryref02_times.l0 kq l0 a1 a4 a0 a3 = some r) ∧ Aside0 (kq ≤ k) ∧ Aside0 (Kd.R (Kd.int .u8) 5 w' w.heap.size (fun _ => True) v7 a4) ∧ Aside0 (Below w.heap.size w w'))
   case atStart => exact ⟨(y523), (0), (0), sd, sd, H', ⟨Nat.le_refl _⟩, ⟨rb ai⟩, ⟨bw⟩⟩
   case round =>
    clear H'
    try clear c4
    try clear av
    try clear aq
    try clear c5
    try clear ay
    try clear ao
    obtain ⟨a4, a0, a3, rfl, rfl, HA, am, a5, HB⟩ := hrel
    cases gk with
    | zero => exact absurd HA.out (by simp [lapidaryref02_times.l0])
    | succ k1 =>
     have H := HA.out
     clear HA
     simp only [lapidaryref02_times.l0] at H
     by_cases c8 : a3 < (l0.length : Int)
     ·rw [if_pos c8] at H
      have aw : decide (a3 < (l0.length : Int)) = true := decide_eq_true c8
      clear c8
      obtain ⟨a6, A9, H⟩ := bs H
      by_cases c10 : a4.length < 140737488355328
      ·rw [if_pos c10] at H
       have af := Aside0.mk c10
       clear c10
       obtain ⟨y527, hy527⟩ : ∃ y_ : List Int, y_ = (a4 ++ [(Int.tmod (wrap64 (a0 + (wrap64 (a6 * a1)))) 256) % 256]) := ⟨_, rfl⟩
       replace H : (lapidaryref02_times.l0 k1 l0 a1 y527 (wrap64 (Int.tdiv (wrap64 (a0 + (wrap64 (a6 * a1)))) 256)) (wrap64 (a3 + 1))) = some r := by first | (rw [hy527]; with_reducible exact H) | (have a8 := (Option.bind_some _ _).symm.trans H; rw [hy527]; with_reducible exact a8) | (have a8 := (Option.bind_some _ _).symm.trans H; with_reducible exact a8) | with_reducible exact H | (rw [hy527]; exact H) | exact H
       have ac := Aside0.mk hy527
       clear hy527
       have H' := Aside0.mk H
       clear H
       go_wp2_with (first | ((with_reducible refine ga 78 rfl ?_); refine gc (some 25) Try.func78 #[.slice A0 l0.length c0, .int .i64 a3] (lapidaryref02_at.calls _ _ l0 a3 a6 _ (cb aA HB) aC.out A9.out) ?_; rintro e w' ⟨rfl, ⟨nd, rfl⟩⟩; refine ⟨_, rfl, ?_⟩) | ((with_reducible refine gate_builtin (b := .append) (xs := #[.tmp 29, .tmp 33]) rfl ?_); at_builtin; refine Kd.R_append (Kd.int .u8) (w0 := w) w.heap.size rfl (.tmp 29) (.tmp 33) 22 5 (.int .u8 0) 1 rfl Try.underlying22 info5 rfl (by decide) (by omega) u7 a4 ((Int.tmod (wrap64 (a0 + (wrap64 (a6 * a1)))) 256) % 256) [.int .u8 ((Int.tmod (wrap64 (a0 + (wrap64 (a6 * a1)))) 256) % 256)] (fun _ => True) (fun _ => False) rfl rfl ?aP (fun _ hk => hk.elim) ?aF ?aO ?aB ?aS ?aL ?_; (case aP => exact rfl); (case aB => exact bw); (case aF => exact (fun _ _ => trivial)); (case aO => exact (rb a5)); (case aS => exact (sz HB)); (case aL => have := af.out; omega); intro v528 w11 ho hb hg hat; rw [← ac.out] at ho; have aj := Aside0.mk ho; replace HB := Aside0.mk hb; clear a5; clear ho hb hg hat))
       go_roundg k1
       case measure => have := am.out; omega
       case rel => exact ⟨(y527), (wrap64 (Int.tdiv (wrap64 (a0 + (wrap64 (a6 * a1)))) 256)), (wrap64 (a3 + 1)), sd, sd, H', ⟨by have := am.out; omega⟩, ⟨rb aj⟩, ⟨bw⟩⟩
      ·rw [if_neg c10] at H
       exact absurd H (by simp)
     ·rw [if_neg c8] at H
      have aw : decide (a3 < (l0.length : Int)) = false := decide_eq_false c8
      clear c8
      by_cases aa : a0 > 0
      ·rw [if_pos aa] at H
       have ag : decide (0 < a0) = true := decide_eq_true aa
       clear aa
       obtain ⟨a7, A13, H⟩ := bs H
       by_cases an : a4.length < 140737488355328
       ·rw [if_pos an] at H
        have al := Aside0.mk an
        clear an
        obtain ⟨y531, hy531⟩ : ∃ y_ : List Int, y_ = (a4 ++ [(Int.tmod (wrap64 (a0 + (wrap64 (a7 * a1)))) 256) % 256]) := ⟨_, rfl⟩
        replace H : (lapidaryref02_times.l0 k1 l0 a1 y531 (wrap64 (Int.tdiv (wrap64 (a0 + (wrap64 (a7 * a1)))) 256)) (wrap64 (a3 + 1))) = some r := by first | (rw [hy531]; with_reducible exact H) | (have a8 := (Option.bind_some _ _).symm.trans H; rw [hy531]; with_reducible exact a8) | (have a8 := (Option.bind_some _ _).symm.trans H; with_reducible exact a8) | with_reducible exact H | (rw [hy531]; exact H) | exact H
        have ae := Aside0.mk hy531
        clear hy531
        have H' := Aside0.mk H
        clear H
        go_wp2_with (first | ((with_reducible refine ga 78 rfl ?_); refine gc (some 25) Try.func78 #[.slice A0 l0.length c0, .int .i64 a3] (lapidaryref02_at.calls _ _ l0 a3 a7 _ (cb aA HB) aC.out A13.out) ?_; rintro e w' ⟨rfl, ⟨nd, rfl⟩⟩; refine ⟨_, rfl, ?_⟩) | ((with_reducible refine gate_builtin (b := .append) (xs := #[.tmp 29, .tmp 33]) rfl ?_); at_builtin; refine Kd.R_append (Kd.int .u8) (w0 := w) w.heap.size rfl (.tmp 29) (.tmp 33) 22 5 (.int .u8 0) 1 rfl Try.underlying22 info5 rfl (by decide) (by omega) u7 a4 ((Int.tmod (wrap64 (a0 + (wrap64 (a7 * a1)))) 256) % 256) [.int .u8 ((Int.tmod (wrap64 (a0 + (wrap64 (a7 * a1)))) 256) % 256)] (fun _ => True) (fun _ => False) rfl rfl ?aP (fun _ hk => hk.elim) ?aF ?aO ?aB ?aS ?aL ?_; (case aP => exact rfl); (case aB => exact bw); (case aF => exact (fun _ _ => trivial)); (case aO => exact (rb a5)); (case aS => exact (sz HB)); (case aL => have := al.out; omega); intro v532 w15 ho hb hg hat; rw [← ae.out] at ho; have ad := Aside0.mk ho; replace HB := Aside0.mk hb; clear a5; clear ho hb hg hat))
        go_roundg k1
        case measure => have := am.out; omega
        case rel => exact ⟨(y531), (wrap64 (Int.tdiv (wrap64 (a0 + (wrap64 (a7 * a1)))) 256)), (wrap64 (a3 + 1)), sd, sd, H', ⟨by have := am.out; omega⟩, ⟨rb ad⟩, ⟨bw⟩⟩
       ·rw [if_neg an] at H
        exact absurd H (by simp)
      ·rw [if_neg aa] at H
       have ag : decide (0 < a0) = false := decide_eq_false aa
       clear aa
       obtain ⟨ar, A16, H⟩ := bs H
       obtain rfl := Option.some.inj H
       obtain ⟨az, ap, au⟩ := sl a5; cases au
       go_wp2_with (first | ((with_reducible refine ga 94 rfl ?_); refine gc (some 38) Try.func94 #[.slice az a4.length ap] (lapidaryref02_turned.calls k1 _ _ a4 ar _ (cr a5) (rl a5) A16.out) ?_; rintro e w18 ⟨v535, rfl, ax, hb⟩; refine ⟨_, rfl, ?_⟩; have ah := rL HB (rn ax a5); replace a5 := rE a5 ax hb; replace HB := hB HB hb; clear hb ax))
       go_ret
       exact ⟨_, er, by (with_reducible repeat (first | apply Kd.R_alloc | apply Kd.R_drewN | apply Kd.R_drew)); exact Kd.R_mono ah.out (fun _ hk => trivial), bw⟩
  ·rw [if_neg c5] at H
   exact absurd H (by simp)
 ·rw [if_neg c4] at H
  exact absurd H (by simp)
end Go.Proofs.Ytfjbhccapgnkiaa.P
