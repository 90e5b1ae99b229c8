import Derived.Test.YtfjbhccapgnkiaaC4a
namespace Go.Proofs.Ytfjbhccapgnkiaa.P
open Go.RowKit Go.Proofs.YtfjbhccapgnkiaaW.PrintWords Go.Proofs.YtfjbhccapgnkiaaW.PrintLast Go.Proofs.YtfjbhccapgnkiaaW.PrintMore
attribute [local go_sem] max2_int min2_int max_two min_two max_three min_three max_four min_four
set_option linter.unusedVariables false
set_option maxHeartbeats 16000000
set_option maxRecDepth 100000
set_option linter.unusedSimpArgs false
/-! ### lapidaryref02_Sub: function 32 -/
def lapidaryref02_Sub.f (k : Nat) (a3 : Bool) (a4 : List Int) (a5 : Bool) (a2 : List Int) : Option (Bool × List Int × Int) := (lapidaryref02_Right.f a3 a4).bind fun a7 => (if a7 = true then ((lapidaryref02_Right.f a5 a2).bind fun a6 => (if a6 = true then (if a5 = true then ((lapidaryref02_Add.f k a3 a4 false a2).bind fun a0 => (some (a0.1, a0.2.1, a0.2.2))) else ((lapidaryref02_Add.f k a3 a4 (decide (0 < a2.length)) a2).bind fun a1 => (some (a1.1, a1.2.1, a1.2.2)))) else (some (false, ([] : List Int), 1)))) else (some (false, ([] : List Int), 1)))
theorem lapidaryref02_Sub.mono : ∀ a0 a1 a2 a3 k, LeO (lapidaryref02_Sub.f k a0 a1 a2 a3) (lapidaryref02_Sub.f (k + 1) a0 a1 a2 a3) := by
 intro a0 a1 a2 a3 k
 unfold lapidaryref02_Sub.f
 repeat' first | with_reducible exact lapidaryref02_Add.mono _ _ _ _ _ | with_reducible exact LeO.refl _ | with_reducible exact LeO.none _ | with_reducible refine LeO.ite ?_ ?_ | with_reducible refine LeO.bind ?_ (fun _ => ?_) | exact lapidaryref02_Add.mono _ _ _ _ _ | exact LeO.none _ | refine LeO.ite ?_ ?_ | refine LeO.bind ?_ (fun _ => ?_)
theorem lapidaryref02_Sub.calls (k : Nat) (a8 : Bool) (ad : Option Addr) (ac : Nat) (a5 : List Int) (al : Bool) (ai : Option Addr) (ak : Nat) (a7 : List Int) (r1 : Bool) (r2 : List Int) (r3 : Int) (w : World) (az : Kd.C (Kd.int .u8) w ad a5.length a5) (ax : a5.length ≤ ac) (aw : Kd.C (Kd.int .u8) w ai a7.length a7) (aA : a7.length ≤ ak) (h : lapidaryref02_Sub.f k a8 a5 al a7 = some (r1, r2, r3)) :
  Calls Try.prog 32 #[.agg #[.bool a8, .slice ad a5.length ac], .agg #[.bool al, .slice ai a7.length ak]] w fun e w' => ∃ aT : Value, e = .returned (.tuple #[.agg #[.bool r1, aT], .int .i64 r3]) ∧ Kd.R (Kd.int .u8) 5 w' w.heap.size (fun _ => True) aT r2 ∧ Below w.heap.size w w' := by
 have hu24 := Try.underlying24
 have ag := Aside0.mk az
 have af := Aside0.mk ax
 clear az ax
 have ah := Aside0.mk aw
 have aj := Aside0.mk aA
 clear aw aA
 have HB := Aside0.mk (Below.refl w.heap.size w)
 have H : ((lapidaryref02_Right.f a8 a5).bind fun aC => (if aC = true then ((lapidaryref02_Right.f al a7).bind fun aB => (if aB = true then (if al = true then ((lapidaryref02_Add.f k a8 a5 false a7).bind fun ap => (some (ap.1, ap.2.1, ap.2.2))) else ((lapidaryref02_Add.f k a8 a5 (decide (0 < a7.length)) a7).bind fun ao => (some (ao.1, ao.2.1, ao.2.2)))) else (some (false, ([] : List Int), 1)))) else (some (false, ([] : List Int), 1)))) = some (r1, r2, r3) := h
 clear h
 obtain ⟨aC, A3, H⟩ := bs H
 by_cases c4 : aC = true
 ·subst c4
  replace H := ip H
  obtain ⟨aB, A5, H⟩ := bs H
  by_cases c6 : aB = true
  ·subst c6
   replace H := ip H
   by_cases c7 : al = true
   ·subst c7
    replace H := ip H
    obtain ⟨⟨aD, aH, aL⟩, A8, H⟩ := bs H
    simp only [Option.some.injEq, Prod.mk.injEq] at H
    obtain ⟨rfl, rfl, rfl⟩ := H
    go_enter Try.func32, Try.ntmps32
    go_wp2_with (first | ((with_reducible refine gd 2 rfl ?_); refine bX 2 rfl HB #[.bool a8, .slice ad a5.length ac] 24 ?_; intro am w9 a0 au hg hb; replace HB := hB HB hb; clear hb hg) | ((with_reducible refine gd 3 rfl ?_); refine bX 3 rfl HB #[.bool true, .slice ai a7.length ak] 24 ?_; intro an w10 a1 ar hg hb; obtain ⟨a3, ab⟩ := nB a0 hg; replace a0 := kB a0 hb; replace HB := hB HB hb; clear hb hg) | ((with_reducible refine gd 4 rfl ?_); refine bX 4 rfl HB #[.bool false, .slice none 0 0] 24 ?_; intro ae w11 a2 aq hg hb; obtain ⟨a4, aa⟩ := nB a0 hg; obtain ⟨a6, a9⟩ := nB a1 hg; replace a0 := kB a0 hb; replace a1 := kB a1 hb; replace HB := hB HB hb; clear hb hg; have hn12 := nn a3; have hn13 := nn a4; have aU := zf2 a0) | ((with_reducible refine ga 40 rfl ?_); refine gc (some 7) Try.func40 #[.agg #[.bool a8, .slice ad a5.length ac]] (lapidaryref02_Right.calls a8 _ _ a5 true _ (cb ag HB) af.out A3.out) ?_; rintro e w15 ⟨rfl, hb⟩; refine ⟨_, rfl, ?_⟩; replace a0 := kB a0 hb; replace a1 := kB a1 hb; replace a2 := kB a2 hb; replace HB := hB HB hb; clear hb; have hn16 := nn a6; have aR := zf2 a1) | (go_at_call 40; (with_reducible refine (lapidaryref02_Right.calls true _ _ a7 true _ ?side1 ?side2 A5.out).mono ?_); (case side1 => exact cb ah HB); (case side2 => exact aj.out); rintro e w18 ⟨rfl, hb⟩; replace a0 := kB a0 hb; replace a1 := kB a1 hb; replace a2 := kB a2 hb; replace HB := hB HB hb; clear hb; have aV := zf2 a0; have b0 := zf2 a1) | ((with_reducible refine ga 30 rfl ?_); refine gc (some 28) Try.func30 #[.agg #[.bool a8, .slice ad a5.length ac], .agg #[.bool false, .slice ai a7.length ak]] (lapidaryref02_Add.calls k a8 _ _ a5 false _ _ a7 aD aH aL _ (cb ag HB) af.out (cb ah HB) aj.out A8.out) ?_; rintro e w21 ⟨v649, rfl, aF, hb⟩; refine ⟨_, rfl, ?_⟩; have ay := rL HB aF; replace a0 := kB a0 hb; replace a1 := kB a1 hb; replace a2 := kB a2 hb; replace HB := hB HB hb; clear hb aF; have aZ := zf2 a2; obtain ⟨aN, aP, aM⟩ := sl ay; cases aM))
    refine bodyPost_ret (results_ct rfl _ _ ae 24 #[.bool aD, .slice aN aH.length aP] (0, 0) _ rfl (bp a2) Try.underlying24 rfl (by kernel_rfl)) rfl ?_
    exact ⟨_, er, rf (rt ay a2), bw⟩
   ·replace c7 := Bool.eq_false_iff.mpr c7
    subst c7
    replace H := iq H
    obtain ⟨⟨aG, aE, aK⟩, A24, H⟩ := bs H
    simp only [Option.some.injEq, Prod.mk.injEq] at H
    obtain ⟨rfl, rfl, rfl⟩ := H
    go_enter Try.func32, Try.ntmps32
    go_wp2_with (first | ((with_reducible refine gd 2 rfl ?_); refine bX 2 rfl HB #[.bool a8, .slice ad a5.length ac] 24 ?_; intro am w25 a0 au hg hb; replace HB := hB HB hb; clear hb hg) | ((with_reducible refine gd 3 rfl ?_); refine bX 3 rfl HB #[.bool false, .slice ai a7.length ak] 24 ?_; intro an w26 a1 ar hg hb; obtain ⟨a3, ab⟩ := nB a0 hg; replace a0 := kB a0 hb; replace HB := hB HB hb; clear hb hg) | ((with_reducible refine gd 4 rfl ?_); refine bX 4 rfl HB #[.bool false, .slice none 0 0] 24 ?_; intro ae w27 a2 aq hg hb; obtain ⟨a4, aa⟩ := nB a0 hg; obtain ⟨a6, a9⟩ := nB a1 hg; replace a0 := kB a0 hb; replace a1 := kB a1 hb; replace HB := hB HB hb; clear hb hg; have hn28 := nn a3; have hn29 := nn a4; have aW := zf2 a0) | ((with_reducible refine ga 40 rfl ?_); refine gc (some 7) Try.func40 #[.agg #[.bool a8, .slice ad a5.length ac]] (lapidaryref02_Right.calls a8 _ _ a5 true _ (cb ag HB) af.out A3.out) ?_; rintro e w31 ⟨rfl, hb⟩; refine ⟨_, rfl, ?_⟩; replace a0 := kB a0 hb; replace a1 := kB a1 hb; replace a2 := kB a2 hb; replace HB := hB HB hb; clear hb; have hn32 := nn a6; have b1 := zf2 a1) | (go_at_call 40; (with_reducible refine (lapidaryref02_Right.calls false _ _ a7 true _ ?side1 ?side2 A5.out).mono ?_); (case side1 => exact cb ah HB); (case side2 => exact aj.out); rintro e w34 ⟨rfl, hb⟩; replace a0 := kB a0 hb; replace a1 := kB a1 hb; replace a2 := kB a2 hb; replace HB := hB HB hb; clear hb; have aX := zf2 a0; have b3 := zf2 a1) | ((with_reducible refine ga 30 rfl ?_); refine gc (some 28) Try.func30 #[.agg #[.bool a8, .slice ad a5.length ac], .agg #[.bool (decide (0 < a7.length)), .slice ai a7.length ak]] (lapidaryref02_Add.calls k a8 _ _ a5 (decide (0 < a7.length)) _ _ a7 aG aE aK _ (cb ag HB) af.out (cb ah HB) aj.out A24.out) ?_; rintro e w37 ⟨v654, rfl, aF, hb⟩; refine ⟨_, rfl, ?_⟩; have av := rL HB aF; replace a0 := kB a0 hb; replace a1 := kB a1 hb; replace a2 := kB a2 hb; replace HB := hB HB hb; clear hb aF; have b4 := zf2 a2; obtain ⟨aI, aO, aJ⟩ := sl av; cases aJ))
    refine bodyPost_ret (results_ct rfl _ _ ae 24 #[.bool aG, .slice aI aE.length aO] (0, 0) _ rfl (bp a2) Try.underlying24 rfl (by kernel_rfl)) rfl ?_
    exact ⟨_, er, rf (rt av a2), bw⟩
  ·replace c6 := Bool.eq_false_iff.mpr c6
   subst c6
   replace H := iq H
   simp only [Option.some.injEq, Prod.mk.injEq] at H
   obtain ⟨rfl, rfl, rfl⟩ := H
   go_enter Try.func32, Try.ntmps32
   go_wp2_with (first | ((with_reducible refine gd 2 rfl ?_); refine bX 2 rfl HB #[.bool a8, .slice ad a5.length ac] 24 ?_; intro am w40 a0 au hg hb; replace HB := hB HB hb; clear hb hg) | ((with_reducible refine gd 3 rfl ?_); refine bX 3 rfl HB #[.bool al, .slice ai a7.length ak] 24 ?_; intro an w41 a1 ar hg hb; obtain ⟨a3, ab⟩ := nB a0 hg; replace a0 := kB a0 hb; replace HB := hB HB hb; clear hb hg) | ((with_reducible refine gd 4 rfl ?_); refine bX 4 rfl HB #[.bool false, .slice none 0 0] 24 ?_; intro ae w42 a2 aq hg hb; obtain ⟨a4, aa⟩ := nB a0 hg; obtain ⟨a6, a9⟩ := nB a1 hg; replace a0 := kB a0 hb; replace a1 := kB a1 hb; replace HB := hB HB hb; clear hb hg; have hn43 := nn a3; have hn44 := nn a4; have b2 := zf2 a0) | ((with_reducible refine ga 40 rfl ?_); refine gc (some 7) Try.func40 #[.agg #[.bool a8, .slice ad a5.length ac]] (lapidaryref02_Right.calls a8 _ _ a5 true _ (cb ag HB) af.out A3.out) ?_; rintro e w46 ⟨rfl, hb⟩; refine ⟨_, rfl, ?_⟩; replace a0 := kB a0 hb; replace a1 := kB a1 hb; replace a2 := kB a2 hb; replace HB := hB HB hb; clear hb; have hn47 := nn a6; have aS := zf2 a1) | (go_at_call 40; (with_reducible refine (lapidaryref02_Right.calls al _ _ a7 false _ ?side1 ?side2 A5.out).mono ?_); (case side1 => exact cb ah HB); (case side2 => exact aj.out); rintro e w49 ⟨rfl, hb⟩; replace a0 := kB a0 hb; replace a1 := kB a1 hb; replace a2 := kB a2 hb; replace HB := hB HB hb; clear hb; have aQ := zf2 a2))
   refine bodyPost_ret (results_ct rfl _ _ ae 24 #[.bool false, .slice none 0 0] (0, 0) _ rfl (bp a2) Try.underlying24 rfl (by kernel_rfl)) rfl ?_
   exact ⟨_, er, nl, bw⟩
 ·replace c4 := Bool.eq_false_iff.mpr c4
  subst c4
  replace H := iq H
  simp only [Option.some.injEq, Prod.mk.injEq] at H
  obtain ⟨rfl, rfl, rfl⟩ := H
  go_enter Try.func32, Try.ntmps32
  go_wp2_with (first | ((with_reducible refine gd 2 rfl ?_); refine bX 2 rfl HB #[.bool a8, .slice ad a5.length ac] 24 ?_; intro am w51 a0 au hg hb; replace HB := hB HB hb; clear hb hg) | ((with_reducible refine gd 3 rfl ?_); refine bX 3 rfl HB #[.bool al, .slice ai a7.length ak] 24 ?_; intro an w52 a1 ar hg hb; obtain ⟨a3, ab⟩ := nB a0 hg; replace a0 := kB a0 hb; replace HB := hB HB hb; clear hb hg) | ((with_reducible refine gd 4 rfl ?_); refine bX 4 rfl HB #[.bool false, .slice none 0 0] 24 ?_; intro ae w53 a2 aq hg hb; obtain ⟨a4, aa⟩ := nB a0 hg; obtain ⟨a6, a9⟩ := nB a1 hg; replace a0 := kB a0 hb; replace a1 := kB a1 hb; replace HB := hB HB hb; clear hb hg; have hn54 := nn a3; have hn55 := nn a4; have aY := zf2 a0) | ((with_reducible refine ga 40 rfl ?_); refine gc (some 7) Try.func40 #[.agg #[.bool a8, .slice ad a5.length ac]] (lapidaryref02_Right.calls a8 _ _ a5 false _ (cb ag HB) af.out A3.out) ?_; rintro e w57 ⟨rfl, hb⟩; refine ⟨_, rfl, ?_⟩; replace a0 := kB a0 hb; replace a1 := kB a1 hb; replace a2 := kB a2 hb; replace HB := hB HB hb; clear hb; have hn58 := nn a9; have b5 := zf2 a2))
  refine bodyPost_ret (results_ct rfl _ _ ae 24 #[.bool false, .slice none 0 0] (0, 0) _ rfl (bp a2) Try.underlying24 rfl (by kernel_rfl)) rfl ?_
  exact ⟨_, er, nl, bw⟩
end Go.Proofs.Ytfjbhccapgnkiaa.P
