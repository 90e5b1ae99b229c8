import Derived.Test.YtfjbhccapgnkiaaDoorL13
import Derived.Test.YtfjbhccapgnkiaaDoorT7r
namespace Go.Proofs.YtfjbhccapgnkiaaDoor.P
open Go.RowKit Go.Proofs.YtfjbhccapgnkiaaDoorW.PrintWords Go.Proofs.YtfjbhccapgnkiaaDoorW.PrintLast Go.Proofs.YtfjbhccapgnkiaaDoorW.PrintMore
attribute [local go_sem] max2_int min2_int max_two min_two max_three min_three max_four min_four
set_option linter.unusedVariables false
set_option linter.unusedSimpArgs false

noncomputable section

/-! ### lapidarylaw07_LexPlain: function 7 -/
def lapidarylaw07_LexPlain.j0 : Nat → ByteArray → ByteArray → Bool → Option (Bool)
  | 0, _, _, _ => none
  | k + 1, x0, x3, x26 => if x26 = true then (some false) else (if (x0.size : Int) > 1024 then ((lapidarylaw07_known.f k).bind fun t291 => (some t291)) else ((lex_Read.f x3).bind fun bt292 => (if bt292.2.2 = 0 then (if (bt292.1.length : Int) = 2 then (if 0 < (bt292.1.length : Int) then (if ((rd_T28 bt292.1 0).f0) = 5 then (if ((rd_T28 bt292.1 0).f1).toList = x0.toList then ((lapidarylaw07_known.f k).bind fun t299 => (some t299)) else (some false)) else (some false)) else (none)) else (some false)) else (some false))))
def lapidarylaw07_LexPlain.f (k : Nat) (a0 : ByteArray) : Option (Bool) := (lex_Quote.f a0).bind fun t285 => ((lapidaryref07_Quote.f k a0).bind fun t286 => (if t285.toList = t286.toList then ((lex_PlainName.f a0).bind fun t287 => ((lapidaryref07_PlainName.f k a0).bind fun t288 => (if (t287 != t288) = true then (lapidarylaw07_LexPlain.j0 k a0 t285 true) else ((lex_PlainSymbol.f a0).bind fun t289 => ((lapidaryref07_PlainSymbol.f k a0).bind fun t290 => (lapidarylaw07_LexPlain.j0 k a0 t285 (t289 != t290))))))) else (lapidarylaw07_LexPlain.j0 k a0 t285 true)))
theorem lapidarylaw07_LexPlain.mono_l : ∀ k, (∀ y0 y1 y2, LeO (lapidarylaw07_LexPlain.j0 k y0 y1 y2) (lapidarylaw07_LexPlain.j0 (k + 1) y0 y1 y2))
  | 0 => fun _ _ _ r h => by simp [lapidarylaw07_LexPlain.j0] at h
  | k + 1 => by
    have ih0 := lapidarylaw07_LexPlain.mono_l k
    · intro y0 y1 y2
      unfold lapidarylaw07_LexPlain.j0
      repeat' first
      | (with_reducible exact ih0 _ _ _)
      | (with_reducible exact lapidarylaw07_known.mono _)
      | (with_reducible exact lapidaryref07_PlainName.mono _ _)
      | (with_reducible exact lapidaryref07_PlainSymbol.mono _ _)
      | (with_reducible exact lapidaryref07_Quote.mono _ _)
      | (with_reducible exact LeO.refl _)
      | (with_reducible exact LeO.none _)
      | (with_reducible refine LeO.ite ?_ ?_)
      | (with_reducible refine LeO.bind ?_ (fun _ => ?_))
      | exact ih0 _ _ _
      | exact lapidarylaw07_known.mono _
      | exact lapidaryref07_PlainName.mono _ _
      | exact lapidaryref07_PlainSymbol.mono _ _
      | exact lapidaryref07_Quote.mono _ _
      | exact LeO.none _
      | refine LeO.ite ?_ ?_
      | refine LeO.bind ?_ (fun _ => ?_)
theorem lapidarylaw07_LexPlain.mono : ∀ a0 k, LeO (lapidarylaw07_LexPlain.f k a0) (lapidarylaw07_LexPlain.f (k + 1) a0) := by
  intro a0 k
  have ih0 := lapidarylaw07_LexPlain.mono_l k
  unfold lapidarylaw07_LexPlain.f
  repeat' first
      | (with_reducible exact ih0 _ _ _)
      | (with_reducible exact lapidarylaw07_known.mono _)
      | (with_reducible exact lapidaryref07_PlainName.mono _ _)
      | (with_reducible exact lapidaryref07_PlainSymbol.mono _ _)
      | (with_reducible exact lapidaryref07_Quote.mono _ _)
      | (with_reducible exact LeO.refl _)
      | (with_reducible exact LeO.none _)
      | (with_reducible refine LeO.ite ?_ ?_)
      | (with_reducible refine LeO.bind ?_ (fun _ => ?_))
      | exact ih0 _ _ _
      | exact lapidarylaw07_known.mono _
      | exact lapidaryref07_PlainName.mono _ _
      | exact lapidaryref07_PlainSymbol.mono _ _
      | exact lapidaryref07_Quote.mono _ _
      | exact LeO.none _
      | refine LeO.ite ?_ ?_
      | refine LeO.bind ?_ (fun _ => ?_)
set_option maxHeartbeats 8000000 in
set_option maxRecDepth 100000 in
theorem lapidarylaw07_LexPlain.calls (k : Nat) (a0 : ByteArray) (r : Bool) (w : World) (h : lapidarylaw07_LexPlain.f k a0 = some r) :
    Calls Tryd.prog 7 #[.string a0] w fun e w' => e = .returned (.bool r) ∧ Below w.heap.size w w' := by
  have HB := Aside0.mk (Below.refl w.heap.size w)
  have H : ((lex_Quote.f a0).bind fun t285 => ((lapidaryref07_Quote.f k a0).bind fun t286 => (if t285.toList = t286.toList then ((lex_PlainName.f a0).bind fun t287 => ((lapidaryref07_PlainName.f k a0).bind fun t288 => (if (t287 != t288) = true then (lapidarylaw07_LexPlain.j0 k a0 t285 true) else ((lex_PlainSymbol.f a0).bind fun t289 => ((lapidaryref07_PlainSymbol.f k a0).bind fun t290 => (lapidarylaw07_LexPlain.j0 k a0 t285 (t289 != t290))))))) else (lapidarylaw07_LexPlain.j0 k a0 t285 true)))) = some r := h
  clear h
  replace H := Option.bind_eq_some_iff.mp H
  obtain ⟨t285, A20, H⟩ := H
  replace H : ((lapidaryref07_Quote.f k a0).bind fun t286 => (if t285.toList = t286.toList then ((lex_PlainName.f a0).bind fun t287 => ((lapidaryref07_PlainName.f k a0).bind fun t288 => (if (t287 != t288) = true then (lapidarylaw07_LexPlain.j0 k a0 t285 true) else ((lex_PlainSymbol.f a0).bind fun t289 => ((lapidaryref07_PlainSymbol.f k a0).bind fun t290 => (lapidarylaw07_LexPlain.j0 k a0 t285 (t289 != t290))))))) else (lapidarylaw07_LexPlain.j0 k a0 t285 true))) = some r := H
  have A2 := Aside0.mk A20
  clear A20
  have HC3 := Aside0.mk H
  clear H
  go_enter Tryd.func7, Tryd.ntmps7
  go_upto_region 2 with (first | ((with_reducible refine gate_callee (f := 11) rfl ?_); refine goesL_ (some 8) rfl rfl Tryd.func11 (by kernel_rfl) rfl #[.string a0] rfl (by (try simp only [List.map_toArray, List.map_cons, List.map_nil]); first | done | rfl | (simp only [List.length_drop, List.length_take]; rfl)) ?_; (with_reducible refine (lex_Quote.calls a0 t285 _ A2.out).mono ?_); rintro e w4 ⟨rfl, hb⟩; refine ⟨_, rfl, ?_⟩; have n0_ := Aside0.mk (below_step (by repeat (first | (with_reducible first | exact HB.out | apply below_alloc | apply pw_below_drewN | apply below_drew1) | exact HB.out)) hb); clear HB; have HB := n0_; clear n0_; (try clear hb); (try clear hb2); (try clear hk); (try clear hi)))
  (try simp only [Act.put, List.setIfInBounds_toArray, List.set_cons_zero, List.set_cons_succ])
  go_cut [26] (fun v26 wc => ∃ (kq : Nat) (x26_2 : Bool), v26 = .bool x26_2 ∧ Aside0 (lapidarylaw07_LexPlain.j0 kq a0 t285 x26_2 = some r) ∧ Aside0 (kq ≤ k) ∧ Aside0 (Below w.heap.size w wc))
  case first =>
    have H := HC3.out
    clear HC3
    replace H := Option.bind_eq_some_iff.mp H
    obtain ⟨t286, A50, H⟩ := H
    replace H : (if t285.toList = t286.toList then ((lex_PlainName.f a0).bind fun t287 => ((lapidaryref07_PlainName.f k a0).bind fun t288 => (if (t287 != t288) = true then (lapidarylaw07_LexPlain.j0 k a0 t285 true) else ((lex_PlainSymbol.f a0).bind fun t289 => ((lapidaryref07_PlainSymbol.f k a0).bind fun t290 => (lapidarylaw07_LexPlain.j0 k a0 t285 (t289 != t290))))))) else (lapidarylaw07_LexPlain.j0 k a0 t285 true)) = some r := H
    have A5 := Aside0.mk A50
    clear A50
    by_cases c6 : t285.toList = t286.toList
    · rw [if_pos c6] at H
      have c6b0 : (t285.toList == t286.toList) = true := beq_iff_eq.mpr c6
      have c6b1 : (t285.toList != t286.toList) = false := bne_eq_false_iff_eq.mpr c6
      clear c6
      (first | rw [c6b0] | (simp only [i64_w, i32_w]; rw [c6b0]) | skip)
      replace H := Option.bind_eq_some_iff.mp H
      obtain ⟨t287, A70, H⟩ := H
      replace H : ((lapidaryref07_PlainName.f k a0).bind fun t288 => (if (t287 != t288) = true then (lapidarylaw07_LexPlain.j0 k a0 t285 true) else ((lex_PlainSymbol.f a0).bind fun t289 => ((lapidaryref07_PlainSymbol.f k a0).bind fun t290 => (lapidarylaw07_LexPlain.j0 k a0 t285 (t289 != t290)))))) = some r := H
      have A7 := Aside0.mk A70
      clear A70
      replace H := Option.bind_eq_some_iff.mp H
      obtain ⟨t288, A80, H⟩ := H
      replace H : (if (t287 != t288) = true then (lapidarylaw07_LexPlain.j0 k a0 t285 true) else ((lex_PlainSymbol.f a0).bind fun t289 => ((lapidaryref07_PlainSymbol.f k a0).bind fun t290 => (lapidarylaw07_LexPlain.j0 k a0 t285 (t289 != t290))))) = some r := H
      have A8 := Aside0.mk A80
      clear A80
      by_cases c9 : (t287 != t288) = true
      · rw [if_pos c9] at H
        have c9b0 : (t287 != t288) = true := c9
        (try (have c9b1 : decide (t287 = t288) = false := by simpa using c9))
        (try (have c9b2 : (t287 == t288) = false := by simpa using c9))
        (try (have c9b3 : ¬ (t287 = t288) := by simpa using c9))
        clear c9
        have H' := Aside0.mk H
        clear H
        go_wp2_with (first | ((with_reducible refine gate_callee (f := 12) rfl ?_); refine goesL_ (some 11) rfl rfl Tryd.func12 (by kernel_rfl) rfl #[.string a0] rfl (by (try simp only [List.map_toArray, List.map_cons, List.map_nil]); first | done | rfl | (simp only [List.length_drop, List.length_take]; rfl)) ?_; (with_reducible refine (lapidaryref07_Quote.calls k a0 t286 _ A5.out).mono ?_); rintro e w10 ⟨rfl, hb⟩; refine ⟨_, rfl, ?_⟩; have n0_ := Aside0.mk (below_step (by repeat (first | (with_reducible first | exact HB.out | apply below_alloc | apply pw_below_drewN | apply below_drew1) | exact HB.out)) hb); clear HB; have HB := n0_; clear n0_; (try clear hb); (try clear hb2); (try clear hk); (try clear hi)) | (go_at_call 13; (with_reducible refine (lex_PlainName.calls a0 t287 _ A7.out).mono ?_); rintro e w11 ⟨rfl, hb⟩; have n0_ := Aside0.mk (below_step (by repeat (first | (with_reducible first | exact HB.out | apply below_alloc | apply pw_below_drewN | apply below_drew1) | exact HB.out)) hb); clear HB; have HB := n0_; clear n0_; (try clear hb); (try clear hb2); (try clear hk); (try clear hi)) | (go_at_call 14; (with_reducible refine (lapidaryref07_PlainName.calls k a0 t288 _ A8.out).mono ?_); rintro e w' ⟨rfl, ⟨nd, rfl⟩⟩))
        go_meet
        case rel => exact ⟨_, (true), (by first | rfl | (simp; done) | (simp [*]; done)), H', ⟨by first | omega | exact Nat.le_refl _⟩, ⟨by repeat (first | (with_reducible first | exact HB.out | apply below_alloc | apply pw_below_drewN | apply below_drew1) | exact HB.out)⟩⟩
      · rw [if_neg c9] at H
        have c9b0 : (t287 != t288) = false := by simpa using c9
        (try (have c9b1 : decide (t287 = t288) = true := by simpa using c9))
        (try (have c9b2 : (t287 == t288) = true := by simpa using c9))
        clear c9
        replace H := Option.bind_eq_some_iff.mp H
        obtain ⟨t289, A120, H⟩ := H
        replace H : ((lapidaryref07_PlainSymbol.f k a0).bind fun t290 => (lapidarylaw07_LexPlain.j0 k a0 t285 (t289 != t290))) = some r := H
        have A12 := Aside0.mk A120
        clear A120
        replace H := Option.bind_eq_some_iff.mp H
        obtain ⟨t290, A130, H⟩ := H
        replace H : (lapidarylaw07_LexPlain.j0 k a0 t285 (t289 != t290)) = some r := H
        have A13 := Aside0.mk A130
        clear A130
        have H' := Aside0.mk H
        clear H
        go_wp2_with (first | ((with_reducible refine gate_callee (f := 12) rfl ?_); refine goesL_ (some 11) rfl rfl Tryd.func12 (by kernel_rfl) rfl #[.string a0] rfl (by (try simp only [List.map_toArray, List.map_cons, List.map_nil]); first | done | rfl | (simp only [List.length_drop, List.length_take]; rfl)) ?_; (with_reducible refine (lapidaryref07_Quote.calls k a0 t286 _ A5.out).mono ?_); rintro e w14 ⟨rfl, hb⟩; refine ⟨_, rfl, ?_⟩; have n0_ := Aside0.mk (below_step (by repeat (first | (with_reducible first | exact HB.out | apply below_alloc | apply pw_below_drewN | apply below_drew1) | exact HB.out)) hb); clear HB; have HB := n0_; clear n0_; (try clear hb); (try clear hb2); (try clear hk); (try clear hi)) | (go_at_call 13; (with_reducible refine (lex_PlainName.calls a0 t287 _ A7.out).mono ?_); rintro e w15 ⟨rfl, hb⟩; have n0_ := Aside0.mk (below_step (by repeat (first | (with_reducible first | exact HB.out | apply below_alloc | apply pw_below_drewN | apply below_drew1) | exact HB.out)) hb); clear HB; have HB := n0_; clear n0_; (try clear hb); (try clear hb2); (try clear hk); (try clear hi)) | (go_at_call 14; (with_reducible refine (lapidaryref07_PlainName.calls k a0 t288 _ A8.out).mono ?_); rintro e w' ⟨rfl, ⟨nd, rfl⟩⟩) | (go_at_call 15; (with_reducible refine (lex_PlainSymbol.calls a0 t289 _ A12.out).mono ?_); rintro e w16 ⟨rfl, hb⟩; have n0_ := Aside0.mk (below_step (by repeat (first | (with_reducible first | exact HB.out | apply below_alloc | apply pw_below_drewN | apply below_drew1) | exact HB.out)) hb); clear HB; have HB := n0_; clear n0_; (try clear hb); (try clear hb2); (try clear hk); (try clear hi)) | (go_at_call 16; (with_reducible refine (lapidaryref07_PlainSymbol.calls k a0 t290 _ A13.out).mono ?_); rintro e w17 ⟨rfl, hb⟩; have n0_ := Aside0.mk (below_step (by repeat (first | (with_reducible first | exact HB.out | apply below_alloc | apply pw_below_drewN | apply below_drew1) | exact HB.out)) hb); clear HB; have HB := n0_; clear n0_; (try clear hb); (try clear hb2); (try clear hk); (try clear hi)))
        go_meet
        case rel => exact ⟨_, ((t289 != t290)), (by first | rfl | (simp; done) | (simp [*]; done)), H', ⟨by first | omega | exact Nat.le_refl _⟩, ⟨by repeat (first | (with_reducible first | exact HB.out | apply below_alloc | apply pw_below_drewN | apply below_drew1) | exact HB.out)⟩⟩
    · rw [if_neg c6] at H
      have c6b0 : (t285.toList == t286.toList) = false := beq_eq_false_iff_ne.mpr c6
      have c6b1 : (t285.toList != t286.toList) = true := bne_iff_ne.mpr c6
      (first | rw [c6b0] | (simp only [i64_w, i32_w]; rw [c6b0]) | skip)
      have H' := Aside0.mk H
      clear H
      go_wp2_with (first | ((with_reducible refine gate_callee (f := 12) rfl ?_); refine goesL_ (some 11) rfl rfl Tryd.func12 (by kernel_rfl) rfl #[.string a0] rfl (by (try simp only [List.map_toArray, List.map_cons, List.map_nil]); first | done | rfl | (simp only [List.length_drop, List.length_take]; rfl)) ?_; (with_reducible refine (lapidaryref07_Quote.calls k a0 t286 _ A5.out).mono ?_); rintro e w18 ⟨rfl, hb⟩; refine ⟨_, rfl, ?_⟩; have n0_ := Aside0.mk (below_step (by repeat (first | (with_reducible first | exact HB.out | apply below_alloc | apply pw_below_drewN | apply below_drew1) | exact HB.out)) hb); clear HB; have HB := n0_; clear n0_; (try clear hb); (try clear hb2); (try clear hk); (try clear hi)))
      go_meet
      case rel => exact ⟨_, (true), (by first | rfl | (simp; done) | (simp [*]; done)), H', ⟨by first | omega | exact Nat.le_refl _⟩, ⟨by repeat (first | (with_reducible first | exact HB.out | apply below_alloc | apply pw_below_drewN | apply below_drew1) | exact HB.out)⟩⟩
  case rest =>
    clear HC3
    try clear c1
    try clear p2
    try clear c6
    try clear c6b0
    try clear c6b1
    try clear c7
    try clear c9
    try clear c9b0
    try clear c9b1
    try clear c9b2
    try clear c11
    try clear c12
    obtain ⟨kq, x26_2, rfl, HA, HJ2, HB⟩ := hcut
    cases kq with
    | zero => exact absurd HA.out (by simp [lapidarylaw07_LexPlain.j0])
    | succ kj2 =>
      have H := HA.out
      clear HA
      simp only [lapidarylaw07_LexPlain.j0] at H
      by_cases c19 : x26_2 = true
      · subst c19
        have H1 : (some false) = some r := by rw [if_pos rfl] at H; exact H
        clear H
        have H := H1
        clear H1
        obtain rfl := Option.some.inj H
        go_wp2
        go_ret
        exact ⟨by first | rfl | (simp [errW_none, errW_some] <;> rfl) | (simp [*, errW_none, errW_some] <;> rfl), by repeat (first | (with_reducible first | exact HB.out | apply below_alloc | apply pw_below_drewN | apply below_drew1) | exact HB.out)⟩
      · replace c19 := Bool.eq_false_iff.mpr c19
        subst c19
        have H1 : (if (a0.size : Int) > 1024 then ((lapidarylaw07_known.f kj2).bind fun t291 => (some t291)) else ((lex_Read.f t285).bind fun bt292 => (if bt292.2.2 = 0 then (if (bt292.1.length : Int) = 2 then (if 0 < (bt292.1.length : Int) then (if ((rd_T28 bt292.1 0).f0) = 5 then (if ((rd_T28 bt292.1 0).f1).toList = a0.toList then ((lapidarylaw07_known.f kj2).bind fun t299 => (some t299)) else (some false)) else (some false)) else (none)) else (some false)) else (some false)))) = some r := by rw [if_neg (show ¬ (false = true) by decide)] at H; exact H
        clear H
        have H := H1
        clear H1
        by_cases c20 : (a0.size : Int) > 1024
        · rw [if_pos c20] at H
          have c20b0 : decide (1024 < (a0.size : Int)) = true := decide_eq_true c20
          have c20b1 : decide (1024 < a0.size) = true := decide_eq_true (by omega)
          clear c20
          replace H := Option.bind_eq_some_iff.mp H
          obtain ⟨t291, A210, H⟩ := H
          replace H : (some t291) = some r := H
          have A21 := Aside0.mk A210
          clear A210
          obtain rfl := Option.some.inj H
          go_wp2_with (first | ((with_reducible refine gate_callee (f := 9) rfl ?_); refine goesL_ (some 30) rfl rfl Tryd.func9 (by kernel_rfl) rfl #[] rfl (by (try simp only [List.map_toArray, List.map_cons, List.map_nil]); first | done | rfl | (simp only [List.length_drop, List.length_take]; rfl)) ?_; (with_reducible refine (lapidarylaw07_known.calls kj2  t291 _ A21.out).mono ?_); rintro e w22 ⟨rfl, hb⟩; refine ⟨_, rfl, ?_⟩; have n0_ := Aside0.mk (below_step (by repeat (first | (with_reducible first | exact HB.out | apply below_alloc | apply pw_below_drewN | apply below_drew1) | exact HB.out)) hb); clear HB; have HB := n0_; clear n0_; (try clear hb); (try clear hb2); (try clear hk); (try clear hi)))
          go_ret
          exact ⟨by first | rfl | (simp [errW_none, errW_some] <;> rfl) | (simp [*, errW_none, errW_some] <;> rfl), by repeat (first | (with_reducible first | exact HB.out | apply below_alloc | apply pw_below_drewN | apply below_drew1) | exact HB.out)⟩
        · rw [if_neg c20] at H
          have c20b0 : decide (1024 < (a0.size : Int)) = false := decide_eq_false c20
          have c20b1 : decide (1024 < a0.size) = false := decide_eq_false (by omega)
          clear c20
          replace H := Option.bind_eq_some_iff.mp H
          obtain ⟨⟨t292, t293, t294⟩, A230, H⟩ := H
          replace H : (if t294 = 0 then (if (t292.length : Int) = 2 then (if 0 < (t292.length : Int) then (if ((rd_T28 t292 0).f0) = 5 then (if ((rd_T28 t292 0).f1).toList = a0.toList then ((lapidarylaw07_known.f kj2).bind fun t299 => (some t299)) else (some false)) else (some false)) else (none)) else (some false)) else (some false)) = some r := H
          have A23 := Aside0.mk A230
          clear A230
          by_cases c24 : t294 = 0
          · rw [if_pos c24] at H
            have c24b0 : (t294 == 0) = true := beq_iff_eq.mpr c24
            have c24b1 : (t294 != 0) = false := bne_eq_false_iff_eq.mpr c24
            clear c24
            by_cases c25 : (t292.length : Int) = 2
            · rw [if_pos c25] at H
              have c25b0 : ((t292.length : Int) == 2) = true := beq_iff_eq.mpr c25
              have c25b1 : ((t292.length : Int) != 2) = false := bne_eq_false_iff_eq.mpr c25
              clear c25
              by_cases c26 : 0 < (t292.length : Int)
              · rw [if_pos c26] at H
                have c26b0 : decide (0 < (t292.length : Int)) = true := decide_eq_true c26
                have c26b1 : decide (0 < t292.length) = true := decide_eq_true (by omega)
                clear c26
                by_cases c27 : ((rd_T28 t292 0).f0) = 5
                · rw [if_pos c27] at H
                  have c27b0 : (((rd_T28 t292 0).f0) == 5) = true := beq_iff_eq.mpr c27
                  have c27b1 : (((rd_T28 t292 0).f0) != 5) = false := bne_eq_false_iff_eq.mpr c27
                  clear c27
                  by_cases c28 : ((rd_T28 t292 0).f1).toList = a0.toList
                  · rw [if_pos c28] at H
                    have c28b0 : (((rd_T28 t292 0).f1).toList == a0.toList) = true := beq_iff_eq.mpr c28
                    have c28b1 : (((rd_T28 t292 0).f1).toList != a0.toList) = false := bne_eq_false_iff_eq.mpr c28
                    clear c28
                    replace H := Option.bind_eq_some_iff.mp H
                    obtain ⟨t299, A290, H⟩ := H
                    replace H : (some t299) = some r := H
                    have A29 := Aside0.mk A290
                    clear A290
                    obtain rfl := Option.some.inj H
                    go_wp2_with (first | ((with_reducible refine gate_callee (f := 8) rfl ?_); refine goesL_ (some 33) rfl rfl Tryd.func8 (by kernel_rfl) rfl #[.string t285] rfl (by (try simp only [List.map_toArray, List.map_cons, List.map_nil]); first | done | rfl | (simp only [List.length_drop, List.length_take]; rfl)) ?_; (with_reducible refine (lex_Read.calls t285 t292 t293 t294 _ A23.out).mono ?_); rintro e w30 ⟨v295, rfl, ho0, hb⟩; refine ⟨_, rfl, ?_⟩; have n0_ := Aside0.mk (Kd.R_lower ho0 (below_size (by repeat (first | (with_reducible first | exact HB.out | apply below_alloc | apply pw_below_drewN | apply below_drew1) | exact HB.out)))); have n1_ := Aside0.mk (below_step (by repeat (first | (with_reducible first | exact HB.out | apply below_alloc | apply pw_below_drewN | apply below_drew1) | exact HB.out)) hb); clear HB; have HO296 := n0_; have HB := n1_; clear n0_ n1_; (try clear hb); (try clear hb2); (try clear hk); (try clear hi); (try clear ho0); obtain ⟨Ao31, co31, eo31⟩ := Kd.R_slice HO296.out; subst eo31; have p297 : 0 ≤ (0 : Int) := (by omega); have q297 : 0 < (t292.length : Int) := of_decide_eq_true (by first | (with_reducible assumption) | assumption); obtain ⟨ad297, e297, hx297_0, hx297_1, hx297_2⟩ := at_T28 (Kd.R_reads' HO296.out).2.2 0 p297 q297; cases e297; have qi297 : (0 < t292.length) = True := eq_true (by omega); (try rw [show ((0 : Int)).toNat = 0 from rfl] at hx297_0); (try rw [show 0 * 3 = 0 from rfl] at hx297_0); (try rw [Addr.add_zero'] at hx297_0); (try rw [show ((0 : Int)).toNat = 0 from rfl] at hx297_1); (try rw [show 0 * 3 = 0 from rfl] at hx297_1); (try rw [Addr.add_zero'] at hx297_1); (try rw [show ((0 : Int)).toNat = 0 from rfl] at hx297_2); (try rw [show 0 * 3 = 0 from rfl] at hx297_2); (try rw [Addr.add_zero'] at hx297_2); replace p297 := eq_true p297; replace q297 := eq_true q297; have p298 : 0 ≤ (0 : Int) := (by omega); have q298 : 0 < (t292.length : Int) := of_decide_eq_true (by first | (with_reducible assumption) | assumption); obtain ⟨ad298, e298, hx298_0, hx298_1, hx298_2⟩ := at_T28 (Kd.R_reads' HO296.out).2.2 0 p298 q298; obtain rfl : ad297 = ad298 := (by injection e298); have qi298 : (0 < t292.length) = True := eq_true (by omega); (try rw [show ((0 : Int)).toNat = 0 from rfl] at hx298_0); (try rw [show 0 * 3 = 0 from rfl] at hx298_0); (try rw [Addr.add_zero'] at hx298_0); (try rw [show ((0 : Int)).toNat = 0 from rfl] at hx298_1); (try rw [show 0 * 3 = 0 from rfl] at hx298_1); (try rw [Addr.add_zero'] at hx298_1); (try rw [show ((0 : Int)).toNat = 0 from rfl] at hx298_2); (try rw [show 0 * 3 = 0 from rfl] at hx298_2); (try rw [Addr.add_zero'] at hx298_2); replace p298 := eq_true p298; replace q298 := eq_true q298) | (go_at_call 9; (with_reducible refine (lapidarylaw07_known.calls kj2  t299 _ A29.out).mono ?_); rintro e w32 ⟨rfl, hb⟩; have n0_ := Aside0.mk (Kd.R_below (by (with_reducible repeat (first | apply Kd.R_alloc | apply Kd.R_drewN | apply Kd.R_drew)); exact HO296.out) hb); have n1_ := Aside0.mk (below_step (by repeat (first | (with_reducible first | exact HB.out | apply below_alloc | apply pw_below_drewN | apply below_drew1) | exact HB.out)) hb); clear HO296; clear HB; have HO296 := n0_; have HB := n1_; clear n0_ n1_; (try clear hb); (try clear hb2); (try clear hk); (try clear hi)))
                    go_ret
                    exact ⟨by first | rfl | (simp [errW_none, errW_some] <;> rfl) | (simp [*, errW_none, errW_some] <;> rfl), by repeat (first | (with_reducible first | exact HB.out | apply below_alloc | apply pw_below_drewN | apply below_drew1) | exact HB.out)⟩
                  · rw [if_neg c28] at H
                    have c28b0 : (((rd_T28 t292 0).f1).toList == a0.toList) = false := beq_eq_false_iff_ne.mpr c28
                    have c28b1 : (((rd_T28 t292 0).f1).toList != a0.toList) = true := bne_iff_ne.mpr c28
                    obtain rfl := Option.some.inj H
                    go_wp2_with (first | ((with_reducible refine gate_callee (f := 8) rfl ?_); refine goesL_ (some 33) rfl rfl Tryd.func8 (by kernel_rfl) rfl #[.string t285] rfl (by (try simp only [List.map_toArray, List.map_cons, List.map_nil]); first | done | rfl | (simp only [List.length_drop, List.length_take]; rfl)) ?_; (with_reducible refine (lex_Read.calls t285 t292 t293 t294 _ A23.out).mono ?_); rintro e w33 ⟨v295, rfl, ho0, hb⟩; refine ⟨_, rfl, ?_⟩; have n0_ := Aside0.mk (Kd.R_lower ho0 (below_size (by repeat (first | (with_reducible first | exact HB.out | apply below_alloc | apply pw_below_drewN | apply below_drew1) | exact HB.out)))); have n1_ := Aside0.mk (below_step (by repeat (first | (with_reducible first | exact HB.out | apply below_alloc | apply pw_below_drewN | apply below_drew1) | exact HB.out)) hb); clear HB; have HO296 := n0_; have HB := n1_; clear n0_ n1_; (try clear hb); (try clear hb2); (try clear hk); (try clear hi); (try clear ho0); obtain ⟨Ao34, co34, eo34⟩ := Kd.R_slice HO296.out; subst eo34; have p297 : 0 ≤ (0 : Int) := (by omega); have q297 : 0 < (t292.length : Int) := of_decide_eq_true (by first | (with_reducible assumption) | assumption); obtain ⟨ad297, e297, hx297_0, hx297_1, hx297_2⟩ := at_T28 (Kd.R_reads' HO296.out).2.2 0 p297 q297; cases e297; have qi297 : (0 < t292.length) = True := eq_true (by omega); (try rw [show ((0 : Int)).toNat = 0 from rfl] at hx297_0); (try rw [show 0 * 3 = 0 from rfl] at hx297_0); (try rw [Addr.add_zero'] at hx297_0); (try rw [show ((0 : Int)).toNat = 0 from rfl] at hx297_1); (try rw [show 0 * 3 = 0 from rfl] at hx297_1); (try rw [Addr.add_zero'] at hx297_1); (try rw [show ((0 : Int)).toNat = 0 from rfl] at hx297_2); (try rw [show 0 * 3 = 0 from rfl] at hx297_2); (try rw [Addr.add_zero'] at hx297_2); replace p297 := eq_true p297; replace q297 := eq_true q297; have p298 : 0 ≤ (0 : Int) := (by omega); have q298 : 0 < (t292.length : Int) := of_decide_eq_true (by first | (with_reducible assumption) | assumption); obtain ⟨ad298, e298, hx298_0, hx298_1, hx298_2⟩ := at_T28 (Kd.R_reads' HO296.out).2.2 0 p298 q298; obtain rfl : ad297 = ad298 := (by injection e298); have qi298 : (0 < t292.length) = True := eq_true (by omega); (try rw [show ((0 : Int)).toNat = 0 from rfl] at hx298_0); (try rw [show 0 * 3 = 0 from rfl] at hx298_0); (try rw [Addr.add_zero'] at hx298_0); (try rw [show ((0 : Int)).toNat = 0 from rfl] at hx298_1); (try rw [show 0 * 3 = 0 from rfl] at hx298_1); (try rw [Addr.add_zero'] at hx298_1); (try rw [show ((0 : Int)).toNat = 0 from rfl] at hx298_2); (try rw [show 0 * 3 = 0 from rfl] at hx298_2); (try rw [Addr.add_zero'] at hx298_2); replace p298 := eq_true p298; replace q298 := eq_true q298))
                    go_ret
                    exact ⟨by first | rfl | (simp [errW_none, errW_some] <;> rfl) | (simp [*, errW_none, errW_some] <;> rfl), by repeat (first | (with_reducible first | exact HB.out | apply below_alloc | apply pw_below_drewN | apply below_drew1) | exact HB.out)⟩
                · rw [if_neg c27] at H
                  have c27b0 : (((rd_T28 t292 0).f0) == 5) = false := beq_eq_false_iff_ne.mpr c27
                  have c27b1 : (((rd_T28 t292 0).f0) != 5) = true := bne_iff_ne.mpr c27
                  obtain rfl := Option.some.inj H
                  go_wp2_with (first | ((with_reducible refine gate_callee (f := 8) rfl ?_); refine goesL_ (some 33) rfl rfl Tryd.func8 (by kernel_rfl) rfl #[.string t285] rfl (by (try simp only [List.map_toArray, List.map_cons, List.map_nil]); first | done | rfl | (simp only [List.length_drop, List.length_take]; rfl)) ?_; (with_reducible refine (lex_Read.calls t285 t292 t293 t294 _ A23.out).mono ?_); rintro e w35 ⟨v295, rfl, ho0, hb⟩; refine ⟨_, rfl, ?_⟩; have n0_ := Aside0.mk (Kd.R_lower ho0 (below_size (by repeat (first | (with_reducible first | exact HB.out | apply below_alloc | apply pw_below_drewN | apply below_drew1) | exact HB.out)))); have n1_ := Aside0.mk (below_step (by repeat (first | (with_reducible first | exact HB.out | apply below_alloc | apply pw_below_drewN | apply below_drew1) | exact HB.out)) hb); clear HB; have HO296 := n0_; have HB := n1_; clear n0_ n1_; (try clear hb); (try clear hb2); (try clear hk); (try clear hi); (try clear ho0); obtain ⟨Ao36, co36, eo36⟩ := Kd.R_slice HO296.out; subst eo36; have p297 : 0 ≤ (0 : Int) := (by omega); have q297 : 0 < (t292.length : Int) := of_decide_eq_true (by first | (with_reducible assumption) | assumption); obtain ⟨ad297, e297, hx297_0, hx297_1, hx297_2⟩ := at_T28 (Kd.R_reads' HO296.out).2.2 0 p297 q297; cases e297; have qi297 : (0 < t292.length) = True := eq_true (by omega); (try rw [show ((0 : Int)).toNat = 0 from rfl] at hx297_0); (try rw [show 0 * 3 = 0 from rfl] at hx297_0); (try rw [Addr.add_zero'] at hx297_0); (try rw [show ((0 : Int)).toNat = 0 from rfl] at hx297_1); (try rw [show 0 * 3 = 0 from rfl] at hx297_1); (try rw [Addr.add_zero'] at hx297_1); (try rw [show ((0 : Int)).toNat = 0 from rfl] at hx297_2); (try rw [show 0 * 3 = 0 from rfl] at hx297_2); (try rw [Addr.add_zero'] at hx297_2); replace p297 := eq_true p297; replace q297 := eq_true q297))
                  go_ret
                  exact ⟨by first | rfl | (simp [errW_none, errW_some] <;> rfl) | (simp [*, errW_none, errW_some] <;> rfl), by repeat (first | (with_reducible first | exact HB.out | apply below_alloc | apply pw_below_drewN | apply below_drew1) | exact HB.out)⟩
              · rw [if_neg c26] at H
                exact absurd H (by simp)
            · rw [if_neg c25] at H
              have c25b0 : ((t292.length : Int) == 2) = false := beq_eq_false_iff_ne.mpr c25
              have c25b1 : ((t292.length : Int) != 2) = true := bne_iff_ne.mpr c25
              obtain rfl := Option.some.inj H
              go_wp2_with (first | ((with_reducible refine gate_callee (f := 8) rfl ?_); refine goesL_ (some 33) rfl rfl Tryd.func8 (by kernel_rfl) rfl #[.string t285] rfl (by (try simp only [List.map_toArray, List.map_cons, List.map_nil]); first | done | rfl | (simp only [List.length_drop, List.length_take]; rfl)) ?_; (with_reducible refine (lex_Read.calls t285 t292 t293 t294 _ A23.out).mono ?_); rintro e w37 ⟨v295, rfl, ho0, hb⟩; refine ⟨_, rfl, ?_⟩; have n0_ := Aside0.mk (Kd.R_lower ho0 (below_size (by repeat (first | (with_reducible first | exact HB.out | apply below_alloc | apply pw_below_drewN | apply below_drew1) | exact HB.out)))); have n1_ := Aside0.mk (below_step (by repeat (first | (with_reducible first | exact HB.out | apply below_alloc | apply pw_below_drewN | apply below_drew1) | exact HB.out)) hb); clear HB; have HO296 := n0_; have HB := n1_; clear n0_ n1_; (try clear hb); (try clear hb2); (try clear hk); (try clear hi); (try clear ho0); obtain ⟨Ao38, co38, eo38⟩ := Kd.R_slice HO296.out; subst eo38))
              go_ret
              exact ⟨by first | rfl | (simp [errW_none, errW_some] <;> rfl) | (simp [*, errW_none, errW_some] <;> rfl), by repeat (first | (with_reducible first | exact HB.out | apply below_alloc | apply pw_below_drewN | apply below_drew1) | exact HB.out)⟩
          · rw [if_neg c24] at H
            have c24b0 : (t294 == 0) = false := beq_eq_false_iff_ne.mpr c24
            have c24b1 : (t294 != 0) = true := bne_iff_ne.mpr c24
            obtain rfl := Option.some.inj H
            go_wp2_with (first | ((with_reducible refine gate_callee (f := 8) rfl ?_); refine goesL_ (some 33) rfl rfl Tryd.func8 (by kernel_rfl) rfl #[.string t285] rfl (by (try simp only [List.map_toArray, List.map_cons, List.map_nil]); first | done | rfl | (simp only [List.length_drop, List.length_take]; rfl)) ?_; (with_reducible refine (lex_Read.calls t285 t292 t293 t294 _ A23.out).mono ?_); rintro e w39 ⟨v295, rfl, ho0, hb⟩; refine ⟨_, rfl, ?_⟩; have n0_ := Aside0.mk (Kd.R_lower ho0 (below_size (by repeat (first | (with_reducible first | exact HB.out | apply below_alloc | apply pw_below_drewN | apply below_drew1) | exact HB.out)))); have n1_ := Aside0.mk (below_step (by repeat (first | (with_reducible first | exact HB.out | apply below_alloc | apply pw_below_drewN | apply below_drew1) | exact HB.out)) hb); clear HB; have HO296 := n0_; have HB := n1_; clear n0_ n1_; (try clear hb); (try clear hb2); (try clear hk); (try clear hi); (try clear ho0)))
            go_ret
            exact ⟨by first | rfl | (simp [errW_none, errW_some] <;> rfl) | (simp [*, errW_none, errW_some] <;> rfl), by repeat (first | (with_reducible first | exact HB.out | apply below_alloc | apply pw_below_drewN | apply below_drew1) | exact HB.out)⟩

/-- THE ONE PURE STATEMENT of lapidarylaw07_LexPlain: yours. -/
def lapidarylaw07_LexPlain.Pure : Prop := ∀ (a0 : ByteArray), a0.size ≤ 140737488351232 → ∃ k, lapidarylaw07_LexPlain.f k a0 = some true
theorem lapidarylaw07_LexPlain.walk (P : lapidarylaw07_LexPlain.Pure) (a0 : ByteArray) (w : World) (w0 : a0.size ≤ 140737488351232) :
    Calls Tryd.prog 7 #[.string a0] w fun e w' => e = .returned (.bool true) ∧ Below w.heap.size w w' := by
  obtain ⟨k, h⟩ := P a0 w0
  refine (lapidarylaw07_LexPlain.calls k a0 true w h).mono ?_
  rintro e w' ⟨rfl, hd⟩
  exact ⟨rfl, hd⟩


end

end Go.Proofs.YtfjbhccapgnkiaaDoor.P
