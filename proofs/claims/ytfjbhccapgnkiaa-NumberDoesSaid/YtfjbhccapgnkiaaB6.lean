import Derived.Test.YtfjbhccapgnkiaaB5a
namespace Go.Proofs.Ytfjbhccapgnkiaa.P
open Go.RowKit Go.Proofs.YtfjbhccapgnkiaaW.PrintWords Go.Proofs.YtfjbhccapgnkiaaW.PrintLast Go.Proofs.YtfjbhccapgnkiaaW.PrintMore
attribute [local go_sem] max2_int min2_int max_two min_two max_three min_three max_four min_four
set_option linter.unusedVariables false
set_option maxHeartbeats 16000000
set_option maxRecDepth 100000
set_option linter.unusedSimpArgs false
/-! ### whole_Sub: function 31 -/
def whole_Sub.f (k : Nat) (a3 : Bool) (a4 : List Int) (a5 : Bool) (a2 : List Int) : Option (Bool × List Int × Int) := (whole_Right.f a5 a2).bind fun a6 => (if a6 = true then (if a5 = true then ((whole_Add.f k a3 a4 false a2).bind fun a1 => (some (a1.1, a1.2.1, a1.2.2))) else ((whole_Add.f k a3 a4 (decide (0 < a2.length)) a2).bind fun a0 => (some (a0.1, a0.2.1, a0.2.2)))) else (some (false, ([] : List Int), 1)))
theorem whole_Sub.mono : ∀ a0 a1 a2 a3 k, LeO (whole_Sub.f k a0 a1 a2 a3) (whole_Sub.f (k + 1) a0 a1 a2 a3) := by
 intro a0 a1 a2 a3 k
 unfold whole_Sub.f
 repeat' first | with_reducible exact whole_Add.mono _ _ _ _ _ | with_reducible exact LeO.refl _ | with_reducible exact LeO.none _ | with_reducible refine LeO.ite ?_ ?_ | with_reducible refine LeO.bind ?_ (fun _ => ?_) | exact whole_Add.mono _ _ _ _ _ | exact LeO.none _ | refine LeO.ite ?_ ?_ | refine LeO.bind ?_ (fun _ => ?_)
theorem whole_Sub.calls (k : Nat) (a9 : Bool) (af : Option Addr) (ae : Nat) (a7 : List Int) (aj : Bool) (aa : Option Addr) (ab : Nat) (a3 : List Int) (r1 : Bool) (r2 : List Int) (r3 : Int) (w : World) (ay : Kd.C (Kd.int .u8) w af a7.length a7) (aw : a7.length ≤ ae) (ar : Kd.C (Kd.int .u8) w aa a3.length a3) (az : a3.length ≤ ab) (h : whole_Sub.f k a9 a7 aj a3 = some (r1, r2, r3)) :
  Calls Try.prog 31 #[.agg #[.bool a9, .slice af a7.length ae], .agg #[.bool aj, .slice aa a3.length ab]] w fun e w' => ∃ aR : Value, e = .returned (.tuple #[.agg #[.bool r1, aR], .int .i64 r3]) ∧ Kd.R (Kd.int .u8) 5 w' w.heap.size (fun _ => True) aR r2 ∧ Below w.heap.size w w' := by
 have hu25 := Try.underlying25
 have ax := Aside0.mk ay
 have ao := Aside0.mk aw
 clear ay aw
 have ag := Aside0.mk ar
 have ai := Aside0.mk az
 clear ar az
 have HB := Aside0.mk (Below.refl w.heap.size w)
 have H : ((whole_Right.f aj a3).bind fun aB => (if aB = true then (if aj = true then ((whole_Add.f k a9 a7 false a3).bind fun ak => (some (ak.1, ak.2.1, ak.2.2))) else ((whole_Add.f k a9 a7 (decide (0 < a3.length)) a3).bind fun al => (some (al.1, al.2.1, al.2.2)))) else (some (false, ([] : List Int), 1)))) = some (r1, r2, r3) := h
 clear h
 obtain ⟨aB, A3, H⟩ := bs H
 by_cases c4 : aB = true
 ·subst c4
  replace H := ip H
  by_cases c5 : aj = true
  ·subst c5
   replace H := ip H
   obtain ⟨⟨aC, aE, aL⟩, A6, H⟩ := bs H
   simp only [Option.some.injEq, Prod.mk.injEq] at H
   obtain ⟨rfl, rfl, rfl⟩ := H
   go_enter Try.func31, Try.ntmps31
   go_wp2_with (first | ((with_reducible refine gd 2 rfl ?_); refine bX 2 rfl HB #[.bool a9, .slice af a7.length ae] 25 ?_; intro aq w7 a0 an hg hb; replace HB := hB HB hb; clear hb hg) | ((with_reducible refine gd 3 rfl ?_); refine bX 3 rfl HB #[.bool true, .slice aa a3.length ab] 25 ?_; intro av w8 a1 am hg hb; obtain ⟨ad, a4⟩ := nB a0 hg; replace a0 := kB a0 hb; replace HB := hB HB hb; clear hb hg) | ((with_reducible refine gd 4 rfl ?_); refine bX 4 rfl HB #[.bool false, .slice none 0 0] 25 ?_; intro ah w9 a2 aA hg hb; obtain ⟨a6, a8⟩ := nB a0 hg; obtain ⟨a5, ac⟩ := nB a1 hg; replace a0 := kB a0 hb; replace a1 := kB a1 hb; replace HB := hB HB hb; clear hb hg; have hn10 := nn a4; have hn11 := nn a5; have aV := zf2 a1) | ((with_reducible refine ga 39 rfl ?_); refine gc (some 7) Try.func39 #[.agg #[.bool true, .slice aa a3.length ab]] (whole_Right.calls true _ _ a3 true _ (cb ag HB) ai.out A3.out) ?_; rintro e w13 ⟨rfl, hb⟩; refine ⟨_, rfl, ?_⟩; replace a0 := kB a0 hb; replace a1 := kB a1 hb; replace a2 := kB a2 hb; replace HB := hB HB hb; clear hb; have aS := zf2 a1; have hn15 := nn a6; have aW := zf2 a0) | ((with_reducible refine ga 29 rfl ?_); refine gc (some 22) Try.func29 #[.agg #[.bool a9, .slice af a7.length ae], .agg #[.bool false, .slice aa a3.length ab]] (whole_Add.calls k a9 _ _ a7 false _ _ a3 aC aE aL _ (Kd.C_below ax.out bw) ao.out (Kd.C_below ag.out bw) ai.out A6.out) ?_; rintro e w17 ⟨v634, rfl, aD, hb⟩; refine ⟨_, rfl, ?_⟩; have ap := rL HB aD; replace a0 := bpb a0 hb (.cells #[.bool a9, .slice af a7.length ae] 25 (0, 0)); replace a1 := bpb a1 hb (.cells #[.bool false, .slice aa a3.length ab] 25 (0, 0)); replace a2 := bpb a2 hb (.cells #[.bool false, .slice none 0 0] 25 (0, 0)); replace HB := hB HB hb; clear hb aD; have aZ := zf2 a2; obtain ⟨aK, aN, aJ⟩ := sl ap; cases aJ))
   refine bodyPost_ret (results_ct rfl _ _ ah 25 #[.bool aC, .slice aK aE.length aN] (0, 0) _ rfl (bp a2) Try.underlying25 rfl (by kernel_rfl)) rfl ?_
   exact ⟨_, er, rf (rt ap a2), bw⟩
  ·replace c5 := Bool.eq_false_iff.mpr c5
   subst c5
   replace H := iq H
   obtain ⟨⟨aF, aG, aO⟩, A20, H⟩ := bs H
   simp only [Option.some.injEq, Prod.mk.injEq] at H
   obtain ⟨rfl, rfl, rfl⟩ := H
   go_enter Try.func31, Try.ntmps31
   go_wp2_with (first | ((with_reducible refine gd 2 rfl ?_); refine bX 2 rfl HB #[.bool a9, .slice af a7.length ae] 25 ?_; intro aq w21 a0 an hg hb; replace HB := hB HB hb; clear hb hg) | ((with_reducible refine gd 3 rfl ?_); refine bX 3 rfl HB #[.bool false, .slice aa a3.length ab] 25 ?_; intro av w22 a1 am hg hb; obtain ⟨ad, a4⟩ := nB a0 hg; replace a0 := kB a0 hb; replace HB := hB HB hb; clear hb hg) | ((with_reducible refine gd 4 rfl ?_); refine bX 4 rfl HB #[.bool false, .slice none 0 0] 25 ?_; intro ah w23 a2 aA hg hb; obtain ⟨a6, a8⟩ := nB a0 hg; obtain ⟨a5, ac⟩ := nB a1 hg; replace a0 := kB a0 hb; replace a1 := kB a1 hb; replace HB := hB HB hb; clear hb hg; have hn24 := nn a4; have hn25 := nn a5; have aY := zf2 a1) | ((with_reducible refine ga 39 rfl ?_); refine gc (some 7) Try.func39 #[.agg #[.bool false, .slice aa a3.length ab]] (whole_Right.calls false _ _ a3 true _ (cb ag HB) ai.out A3.out) ?_; rintro e w27 ⟨rfl, hb⟩; refine ⟨_, rfl, ?_⟩; replace a0 := kB a0 hb; replace a1 := kB a1 hb; replace a2 := kB a2 hb; replace HB := hB HB hb; clear hb; have aX := zf2 a1; have hn29 := nn a6; have aT := zf2 a0) | ((with_reducible refine ga 29 rfl ?_); refine gc (some 22) Try.func29 #[.agg #[.bool a9, .slice af a7.length ae], .agg #[.bool (decide (0 < a3.length)), .slice aa a3.length ab]] (whole_Add.calls k a9 _ _ a7 (decide (0 < a3.length)) _ _ a3 aF aG aO _ (Kd.C_below ax.out bw) ao.out (Kd.C_below ag.out bw) ai.out A20.out) ?_; rintro e w31 ⟨v639, rfl, aD, hb⟩; refine ⟨_, rfl, ?_⟩; have au := rL HB aD; replace a0 := bpb a0 hb (.cells #[.bool a9, .slice af a7.length ae] 25 (0, 0)); replace a1 := bpb a1 hb (.cells #[.bool (decide (0 < a3.length)), .slice aa a3.length ab] 25 (0, 0)); replace a2 := bpb a2 hb (.cells #[.bool false, .slice none 0 0] 25 (0, 0)); replace HB := hB HB hb; clear hb aD; have aQ := zf2 a2; obtain ⟨aH, aM, aI⟩ := sl au; cases aI))
   refine bodyPost_ret (results_ct rfl _ _ ah 25 #[.bool aF, .slice aH aG.length aM] (0, 0) _ rfl (bp a2) Try.underlying25 rfl (by kernel_rfl)) rfl ?_
   exact ⟨_, er, rf (rt au a2), bw⟩
 ·replace c4 := Bool.eq_false_iff.mpr c4
  subst c4
  replace H := iq H
  simp only [Option.some.injEq, Prod.mk.injEq] at H
  obtain ⟨rfl, rfl, rfl⟩ := H
  go_enter Try.func31, Try.ntmps31
  go_wp2_with (first | ((with_reducible refine gd 2 rfl ?_); refine bX 2 rfl HB #[.bool a9, .slice af a7.length ae] 25 ?_; intro aq w34 a0 an hg hb; replace HB := hB HB hb; clear hb hg) | ((with_reducible refine gd 3 rfl ?_); refine bX 3 rfl HB #[.bool aj, .slice aa a3.length ab] 25 ?_; intro av w35 a1 am hg hb; obtain ⟨ad, a4⟩ := nB a0 hg; replace a0 := kB a0 hb; replace HB := hB HB hb; clear hb hg) | ((with_reducible refine gd 4 rfl ?_); refine bX 4 rfl HB #[.bool false, .slice none 0 0] 25 ?_; intro ah w36 a2 aA hg hb; obtain ⟨a6, a8⟩ := nB a0 hg; obtain ⟨a5, ac⟩ := nB a1 hg; replace a0 := kB a0 hb; replace a1 := kB a1 hb; replace HB := hB HB hb; clear hb hg; have hn37 := nn a4; have hn38 := nn a5; have aP := zf2 a1) | ((with_reducible refine ga 39 rfl ?_); refine gc (some 7) Try.func39 #[.agg #[.bool aj, .slice aa a3.length ab]] (whole_Right.calls aj _ _ a3 false _ (cb ag HB) ai.out A3.out) ?_; rintro e w40 ⟨rfl, hb⟩; refine ⟨_, rfl, ?_⟩; replace a0 := kB a0 hb; replace a1 := kB a1 hb; replace a2 := kB a2 hb; replace HB := hB HB hb; clear hb; have hn41 := nn a8; have aU := zf2 a2))
  refine bodyPost_ret (results_ct rfl _ _ ah 25 #[.bool false, .slice none 0 0] (0, 0) _ rfl (bp a2) Try.underlying25 rfl (by kernel_rfl)) rfl ?_
  exact ⟨_, er, nl, bw⟩
end Go.Proofs.Ytfjbhccapgnkiaa.P
