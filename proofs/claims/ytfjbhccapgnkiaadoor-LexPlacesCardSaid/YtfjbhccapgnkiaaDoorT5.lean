import Derived.Test.YtfjbhccapgnkiaaDoorL13
namespace Go.Proofs.YtfjbhccapgnkiaaDoor.P
open Go.RowKit Go.Proofs.YtfjbhccapgnkiaaDoorW.PrintWords Go.Proofs.YtfjbhccapgnkiaaDoorW.PrintLast Go.Proofs.YtfjbhccapgnkiaaDoorW.PrintMore
attribute [local go_sem] max2_int min2_int max_two min_two max_three min_three max_four min_four
set_option linter.unusedVariables false
set_option linter.unusedSimpArgs false

noncomputable section

/-! ### lapidarylaw07_LexPlaces: function 5 -/
mutual
def lapidarylaw07_LexPlaces.l0 : Nat → ByteArray → List (S28) → Int → Int → Option (Bool)
  | 0, _, _, _, _ => none
  | k + 1, x0, x3, x6, x7 => if x7 < (x3.length : Int) then (if 0 ≤ x7 then (if ((rd_T28 x3 x7).f2) ≤ x6 then (lapidarylaw07_LexPlaces.j1 k x0 x3 x7 true ((rd_T28 x3 x7).f0) ((rd_T28 x3 x7).f1) ((rd_T28 x3 x7).f2)) else (if ((rd_T28 x3 x7).f2) > (x0.size : Int) then (lapidarylaw07_LexPlaces.j1 k x0 x3 x7 true ((rd_T28 x3 x7).f0) ((rd_T28 x3 x7).f1) ((rd_T28 x3 x7).f2)) else (lapidarylaw07_LexPlaces.j1 k x0 x3 x7 ((((rd_T28 x3 x7).f0) == 0) != (x7 == (wrap64 ((x3.length : Int) - 1)))) ((rd_T28 x3 x7).f0) ((rd_T28 x3 x7).f1) ((rd_T28 x3 x7).f2)))) else (none)) else (if (x3.length : Int) > 0 then (if 0 ≤ (wrap64 ((x3.length : Int) - 1)) then (if (wrap64 ((x3.length : Int) - 1)) < (x3.length : Int) then (if ((rd_T28 x3 (wrap64 ((x3.length : Int) - 1))).f2) = (x0.size : Int) then ((lapidarylaw07_known.f k).bind fun t215 => (some t215)) else (some false)) else (none)) else (none)) else (some false))
def lapidarylaw07_LexPlaces.j1 : Nat → ByteArray → List (S28) → Int → Bool → Int → ByteArray → Int → Option (Bool)
  | 0, _, _, _, _, _, _, _ => none
  | k + 1, x0, x3, x7, x54, x218000, x218001, x218002 => if x54 = true then (some false) else (if x218000 = 5 then (lapidarylaw07_LexPlaces.l0 k x0 x3 x218002 (wrap64 (x7 + 1))) else (if x218000 = 6 then (lapidarylaw07_LexPlaces.l0 k x0 x3 x218002 (wrap64 (x7 + 1))) else (if x218000 = 0 then (lapidarylaw07_LexPlaces.l0 k x0 x3 x218002 (wrap64 (x7 + 1))) else (if (x218001.size : Int) = 0 then (some false) else (if (x218001.size : Int) > (wrap64 ((x0.size : Int) - x218002)) then (some false) else (if 0 ≤ x218002 then (if x218002 ≤ (wrap64 (x218002 + (x218001.size : Int))) then (if (wrap64 (x218002 + (x218001.size : Int))) ≤ (x0.size : Int) then (if (x0.extract (x218002 : Int).toNat ((wrap64 (x218002 + (x218001.size : Int))) : Int).toNat).toList = x218001.toList then (lapidarylaw07_LexPlaces.l0 k x0 x3 x218002 (wrap64 (x7 + 1))) else (some false)) else (none)) else (none)) else (none)))))))
end
def lapidarylaw07_LexPlaces.f (k : Nat) (a0 : ByteArray) : Option (Bool) := (lex_Read.f a0).bind fun bt208 => (if bt208.2.2 = 0 then (lapidarylaw07_LexPlaces.l0 k a0 bt208.1 (-1) 0) else (if (bt208.1.length : Int) = 0 then ((lapidarylaw07_known.f k).bind fun t213 => (some t213)) else (some false)))
theorem lapidarylaw07_LexPlaces.mono_l : ∀ k, (∀ y0 y1 y2 y3, LeO (lapidarylaw07_LexPlaces.l0 k y0 y1 y2 y3) (lapidarylaw07_LexPlaces.l0 (k + 1) y0 y1 y2 y3)) ∧ (∀ y0 y1 y2 y3 y4 y5 y6, LeO (lapidarylaw07_LexPlaces.j1 k y0 y1 y2 y3 y4 y5 y6) (lapidarylaw07_LexPlaces.j1 (k + 1) y0 y1 y2 y3 y4 y5 y6))
  | 0 => ⟨fun _ _ _ _ r h => by simp [lapidarylaw07_LexPlaces.l0] at h, fun _ _ _ _ _ _ _ r h => by simp [lapidarylaw07_LexPlaces.j1] at h⟩
  | k + 1 => by
    obtain ⟨ih0, ih1⟩ := lapidarylaw07_LexPlaces.mono_l k
    refine ⟨?_, ?_⟩
    · intro y0 y1 y2 y3
      unfold lapidarylaw07_LexPlaces.l0
      repeat' first
      | (with_reducible exact ih0 _ _ _ _)
      | (with_reducible exact ih1 _ _ _ _ _ _ _)
      | (with_reducible exact lapidarylaw07_known.mono _)
      | (with_reducible exact LeO.refl _)
      | (with_reducible exact LeO.none _)
      | (with_reducible refine LeO.ite ?_ ?_)
      | (with_reducible refine LeO.bind ?_ (fun _ => ?_))
      | exact ih0 _ _ _ _
      | exact ih1 _ _ _ _ _ _ _
      | exact lapidarylaw07_known.mono _
      | exact LeO.none _
      | refine LeO.ite ?_ ?_
      | refine LeO.bind ?_ (fun _ => ?_)
    · intro y0 y1 y2 y3 y4 y5 y6
      unfold lapidarylaw07_LexPlaces.j1
      repeat' first
      | (with_reducible exact ih0 _ _ _ _)
      | (with_reducible exact ih1 _ _ _ _ _ _ _)
      | (with_reducible exact lapidarylaw07_known.mono _)
      | (with_reducible exact LeO.refl _)
      | (with_reducible exact LeO.none _)
      | (with_reducible refine LeO.ite ?_ ?_)
      | (with_reducible refine LeO.bind ?_ (fun _ => ?_))
      | exact ih0 _ _ _ _
      | exact ih1 _ _ _ _ _ _ _
      | exact lapidarylaw07_known.mono _
      | exact LeO.none _
      | refine LeO.ite ?_ ?_
      | refine LeO.bind ?_ (fun _ => ?_)
theorem lapidarylaw07_LexPlaces.mono : ∀ a0 k, LeO (lapidarylaw07_LexPlaces.f k a0) (lapidarylaw07_LexPlaces.f (k + 1) a0) := by
  intro a0 k
  obtain ⟨ih0, ih1⟩ := lapidarylaw07_LexPlaces.mono_l k
  unfold lapidarylaw07_LexPlaces.f
  repeat' first
      | (with_reducible exact ih0 _ _ _ _)
      | (with_reducible exact ih1 _ _ _ _ _ _ _)
      | (with_reducible exact lapidarylaw07_known.mono _)
      | (with_reducible exact LeO.refl _)
      | (with_reducible exact LeO.none _)
      | (with_reducible refine LeO.ite ?_ ?_)
      | (with_reducible refine LeO.bind ?_ (fun _ => ?_))
      | exact ih0 _ _ _ _
      | exact ih1 _ _ _ _ _ _ _
      | exact lapidarylaw07_known.mono _
      | exact LeO.none _
      | refine LeO.ite ?_ ?_
      | refine LeO.bind ?_ (fun _ => ?_)
set_option maxHeartbeats 8000000 in
set_option maxRecDepth 100000 in
theorem lapidarylaw07_LexPlaces.calls (k : Nat) (a0 : ByteArray) (r : Bool) (w : World) (h : lapidarylaw07_LexPlaces.f k a0 = some r) :
    Calls Tryd.prog 5 #[.string a0] w fun e w' => e = .returned (.bool r) ∧ Below w.heap.size w w' := by
  have hu28 := Tryd.underlying28
  have HB := Aside0.mk (Below.refl w.heap.size w)
  have H : ((lex_Read.f a0).bind fun bt208 => (if bt208.2.2 = 0 then (lapidarylaw07_LexPlaces.l0 k a0 bt208.1 (-1) 0) else (if (bt208.1.length : Int) = 0 then ((lapidarylaw07_known.f k).bind fun t213 => (some t213)) else (some false)))) = some r := h
  clear h
  replace H := Option.bind_eq_some_iff.mp H
  obtain ⟨⟨t208, t209, t210⟩, A20, H⟩ := H
  replace H : (if t210 = 0 then (lapidarylaw07_LexPlaces.l0 k a0 t208 (-1) 0) else (if (t208.length : Int) = 0 then ((lapidarylaw07_known.f k).bind fun t213 => (some t213)) else (some false))) = some r := H
  have A2 := Aside0.mk A20
  clear A20
  by_cases c3 : t210 = 0
  · rw [if_pos c3] at H
    have c3b0 : (t210 == 0) = true := beq_iff_eq.mpr c3
    have c3b1 : (t210 != 0) = false := bne_eq_false_iff_eq.mpr c3
    clear c3
    have H' := Aside0.mk H
    clear H
    go_enter Tryd.func5, Tryd.ntmps5
    go_wp2_with (first | (go_at_call 8; (with_reducible refine (lex_Read.calls a0 t208 t209 t210 _ A2.out).mono ?_); rintro e w4 ⟨v211, rfl, ho0, hb⟩; have n0_ := Aside0.mk (Kd.R_lower ho0 (below_size (by repeat (first | (with_reducible first | exact HB.out | apply below_alloc | apply pw_below_drewN | apply below_drew1) | exact HB.out)))); have n1_ := Aside0.mk (below_step (by repeat (first | (with_reducible first | exact HB.out | apply below_alloc | apply pw_below_drewN | apply below_drew1) | exact HB.out)) hb); clear HB; have HO212 := n0_; have HB := n1_; clear n0_ n1_; (try clear hb); (try clear hb2); (try clear hk); (try clear hi); (try clear ho0)))
    repeat (go_quiet (first | (go_at_call 8; (with_reducible refine (lex_Read.calls a0 t208 t209 t210 _ A2.out).mono ?_); rintro e w4 ⟨v211, rfl, ho0, hb⟩; have n0_ := Aside0.mk (Kd.R_lower ho0 (below_size (by repeat (first | (with_reducible first | exact HB.out | apply below_alloc | apply pw_below_drewN | apply below_drew1) | exact HB.out)))); have n1_ := Aside0.mk (below_step (by repeat (first | (with_reducible first | exact HB.out | apply below_alloc | apply pw_below_drewN | apply below_drew1) | exact HB.out)) hb); clear HB; have HO212 := n0_; have HB := n1_; clear n0_ n1_; (try clear hb); (try clear hb2); (try clear hk); (try clear hi); (try clear ho0))); try go_wp2_with (first | (go_at_call 8; (with_reducible refine (lex_Read.calls a0 t208 t209 t210 _ A2.out).mono ?_); rintro e w4 ⟨v211, rfl, ho0, hb⟩; have n0_ := Aside0.mk (Kd.R_lower ho0 (below_size (by repeat (first | (with_reducible first | exact HB.out | apply below_alloc | apply pw_below_drewN | apply below_drew1) | exact HB.out)))); have n1_ := Aside0.mk (below_step (by repeat (first | (with_reducible first | exact HB.out | apply below_alloc | apply pw_below_drewN | apply below_drew1) | exact HB.out)) hb); clear HB; have HO212 := n0_; have HB := n1_; clear n0_ n1_; (try clear hb); (try clear hb2); (try clear hk); (try clear hi); (try clear ho0))))
    go_loopg [6, 7] k (fun kq v6 v7 w' => ∃ (x6_1 : Int) (x7_1 : Int), v6 = .int .i64 x6_1 ∧ v7 = .int .i64 x7_1 ∧ Aside0 (lapidarylaw07_LexPlaces.l0 kq a0 t208 x6_1 x7_1 = some r) ∧ Aside0 (kq ≤ k) ∧ Aside0 (Kd.R k28 28 w' w.heap.size (fun _ => True) v211 t208) ∧ Aside0 (Below w.heap.size w w'))
    case atStart => exact ⟨((-1)), (0), (by first | rfl | (simp; done) | (simp [*]; done)), (by first | rfl | (simp; done) | (simp [*]; done)), H', ⟨Nat.le_refl _⟩, ⟨by (with_reducible repeat (first | apply Kd.R_alloc | apply Kd.R_drewN | apply Kd.R_drew)); exact HO212.out⟩, ⟨by repeat (first | (with_reducible first | exact HB.out | apply below_alloc | apply pw_below_drewN | apply below_drew1) | exact HB.out)⟩⟩
    case round =>
      clear H'
      try clear p2
      try clear c3
      try clear c3b0
      try clear c3b1
      obtain ⟨x6_1, x7_1, rfl, rfl, HA, HK1, HO_3, HB⟩ := hrel
      cases gk with
      | zero => exact absurd HA.out (by simp [lapidarylaw07_LexPlaces.l0])
      | succ k1 =>
        have H := HA.out
        clear HA
        simp only [lapidarylaw07_LexPlaces.l0] at H
        by_cases c5 : x7_1 < (t208.length : Int)
        · rw [if_pos c5] at H
          have c5b0 : decide (x7_1 < (t208.length : Int)) = true := decide_eq_true c5
          clear c5
          by_cases c6 : 0 ≤ x7_1
          · rw [if_pos c6] at H
            have c6b0 : decide (0 ≤ x7_1) = true := decide_eq_true c6
            clear c6
            have HC7 := Aside0.mk H
            clear H
            obtain ⟨Ao8, co8, eo8⟩ := Kd.R_slice HO_3.out
            subst eo8
            have p216 : 0 ≤ (x7_1 : Int) := of_decide_eq_true (by first | (with_reducible assumption) | assumption)
            have q216 : x7_1 < (t208.length : Int) := of_decide_eq_true (by first | (with_reducible assumption) | assumption)
            obtain ⟨ad216, e216, hx216_0, hx216_1, hx216_2⟩ := at_T28 (Kd.R_reads' HO_3.out).2.2 x7_1 p216 q216
            cases e216
            replace p216 := eq_true p216
            replace q216 := eq_true q216
            go_upto_region 9 with (first | ((with_reducible refine gate_dst (N := 8) rfl ?_); (try (refine gate_guard (by rfl) ?_; dsimp only)); refine box_event ?hg (N := 8) ?hd (cs := #[.int .i64 0, .string (⟨#[]⟩ : ByteArray), .int .i64 0]) (t := 28) ?hr ?_; (case hd => rfl); (case hg => rfl); (case hr => first | (go_simp; done) | (go_simp; rfl)); intro gb217 hg w9 hbox hb; have n0_ := Aside0.mk (Kd.R_below (Kd.R_elderB (by (with_reducible repeat (first | apply Kd.R_alloc | apply Kd.R_drewN | apply Kd.R_drew)); exact HO_3.out) gb217 (Nat.le_of_eq hg.symm)) hb); have n1_ := Aside0.mk (below_step (by repeat (first | (with_reducible first | exact HB.out | apply below_alloc | apply pw_below_drewN | apply below_drew1) | exact HB.out)) hb); have n2_ := Aside0.mk (hbox); have n3_ := Aside0.mk ((by rw [hg]; exact (below_size (by repeat (first | (with_reducible first | exact HB.out | apply below_alloc | apply pw_below_drewN | apply below_drew1) | exact HB.out))) : w.heap.size ≤ gb217)); have n4_ := Aside0.mk ((by rw [hg]; exact (below_size (by repeat (first | (with_reducible first | exact HB.out | apply below_alloc | apply pw_below_drewN | apply below_drew1) | exact HB.out))) : w.heap.size ≤ gb217)); clear HO_3; clear HB; have HO_3 := n0_; have HB := n1_; have BK217 := n2_; have GW217 := n3_; have GE217 := n4_; clear n0_ n1_ n2_ n3_ n4_; clear hb hbox hg; have hcz10_0 : w9.cell? ⟨gb217, 0, none⟩ = some (.int .i64 0) := (blk_cell BK217.out 0).trans rfl; have hcz10_1 : w9.cell? ⟨gb217, 1, none⟩ = some (.string (⟨#[]⟩ : ByteArray)) := (blk_cell BK217.out 1).trans rfl; have hcz10_2 : w9.cell? ⟨gb217, 2, none⟩ = some (.int .i64 0) := (blk_cell BK217.out 2).trans rfl; have hfz10_0 := blk_frozen BK217.out 0; have hfz10_1 := blk_frozen BK217.out 1; have hfz10_2 := blk_frozen BK217.out 2))
            repeat (go_quiet (first | ((with_reducible refine gate_dst (N := 8) rfl ?_); (try (refine gate_guard (by rfl) ?_; dsimp only)); refine box_event ?hg (N := 8) ?hd (cs := #[.int .i64 0, .string (⟨#[]⟩ : ByteArray), .int .i64 0]) (t := 28) ?hr ?_; (case hd => rfl); (case hg => rfl); (case hr => first | (go_simp; done) | (go_simp; rfl)); intro gb217 hg w9 hbox hb; have n0_ := Aside0.mk (Kd.R_below (Kd.R_elderB (by (with_reducible repeat (first | apply Kd.R_alloc | apply Kd.R_drewN | apply Kd.R_drew)); exact HO_3.out) gb217 (Nat.le_of_eq hg.symm)) hb); have n1_ := Aside0.mk (below_step (by repeat (first | (with_reducible first | exact HB.out | apply below_alloc | apply pw_below_drewN | apply below_drew1) | exact HB.out)) hb); have n2_ := Aside0.mk (hbox); have n3_ := Aside0.mk ((by rw [hg]; exact (below_size (by repeat (first | (with_reducible first | exact HB.out | apply below_alloc | apply pw_below_drewN | apply below_drew1) | exact HB.out))) : w.heap.size ≤ gb217)); have n4_ := Aside0.mk ((by rw [hg]; exact (below_size (by repeat (first | (with_reducible first | exact HB.out | apply below_alloc | apply pw_below_drewN | apply below_drew1) | exact HB.out))) : w.heap.size ≤ gb217)); clear HO_3; clear HB; have HO_3 := n0_; have HB := n1_; have BK217 := n2_; have GW217 := n3_; have GE217 := n4_; clear n0_ n1_ n2_ n3_ n4_; clear hb hbox hg; have hcz10_0 : w9.cell? ⟨gb217, 0, none⟩ = some (.int .i64 0) := (blk_cell BK217.out 0).trans rfl; have hcz10_1 : w9.cell? ⟨gb217, 1, none⟩ = some (.string (⟨#[]⟩ : ByteArray)) := (blk_cell BK217.out 1).trans rfl; have hcz10_2 : w9.cell? ⟨gb217, 2, none⟩ = some (.int .i64 0) := (blk_cell BK217.out 2).trans rfl; have hfz10_0 := blk_frozen BK217.out 0; have hfz10_1 := blk_frozen BK217.out 1; have hfz10_2 := blk_frozen BK217.out 2)); go_upto_region 9 with (first | ((with_reducible refine gate_dst (N := 8) rfl ?_); (try (refine gate_guard (by rfl) ?_; dsimp only)); refine box_event ?hg (N := 8) ?hd (cs := #[.int .i64 0, .string (⟨#[]⟩ : ByteArray), .int .i64 0]) (t := 28) ?hr ?_; (case hd => rfl); (case hg => rfl); (case hr => first | (go_simp; done) | (go_simp; rfl)); intro gb217 hg w9 hbox hb; have n0_ := Aside0.mk (Kd.R_below (Kd.R_elderB (by (with_reducible repeat (first | apply Kd.R_alloc | apply Kd.R_drewN | apply Kd.R_drew)); exact HO_3.out) gb217 (Nat.le_of_eq hg.symm)) hb); have n1_ := Aside0.mk (below_step (by repeat (first | (with_reducible first | exact HB.out | apply below_alloc | apply pw_below_drewN | apply below_drew1) | exact HB.out)) hb); have n2_ := Aside0.mk (hbox); have n3_ := Aside0.mk ((by rw [hg]; exact (below_size (by repeat (first | (with_reducible first | exact HB.out | apply below_alloc | apply pw_below_drewN | apply below_drew1) | exact HB.out))) : w.heap.size ≤ gb217)); have n4_ := Aside0.mk ((by rw [hg]; exact (below_size (by repeat (first | (with_reducible first | exact HB.out | apply below_alloc | apply pw_below_drewN | apply below_drew1) | exact HB.out))) : w.heap.size ≤ gb217)); clear HO_3; clear HB; have HO_3 := n0_; have HB := n1_; have BK217 := n2_; have GW217 := n3_; have GE217 := n4_; clear n0_ n1_ n2_ n3_ n4_; clear hb hbox hg; have hcz10_0 : w9.cell? ⟨gb217, 0, none⟩ = some (.int .i64 0) := (blk_cell BK217.out 0).trans rfl; have hcz10_1 : w9.cell? ⟨gb217, 1, none⟩ = some (.string (⟨#[]⟩ : ByteArray)) := (blk_cell BK217.out 1).trans rfl; have hcz10_2 : w9.cell? ⟨gb217, 2, none⟩ = some (.int .i64 0) := (blk_cell BK217.out 2).trans rfl; have hfz10_0 := blk_frozen BK217.out 0; have hfz10_1 := blk_frozen BK217.out 1; have hfz10_2 := blk_frozen BK217.out 2)))
            (try simp only [Act.put, List.setIfInBounds_toArray, List.set_cons_zero, List.set_cons_succ])
            go_cut [54] (fun v54 wc => ∃ (kq : Nat) (x54_6 : Bool), v54 = .bool x54_6 ∧ Aside0 (lapidarylaw07_LexPlaces.j1 kq a0 t208 x7_1 x54_6 ((rd_T28 t208 x7_1).f0) ((rd_T28 t208 x7_1).f1) ((rd_T28 t208 x7_1).f2) = some r) ∧ Aside0 (kq ≤ k1) ∧ Aside0 (Kd.R k28 28 wc w.heap.size (fun k_ => k_ ≠ gb217) (.slice (some ad216) t208.length co8) t208) ∧ Aside0 (wc.heap[gb217]? = some (.cells #[.int .i64 ((rd_T28 t208 x7_1).f0), .string ((rd_T28 t208 x7_1).f1), .int .i64 ((rd_T28 t208 x7_1).f2)] 28 (0, 0))) ∧ Aside0 (Below w.heap.size w wc))
            case first =>
              have H := HC7.out
              clear HC7
              by_cases c11 : ((rd_T28 t208 x7_1).f2) ≤ x6_1
              · rw [if_pos c11] at H
                have c11b0 : decide (((rd_T28 t208 x7_1).f2) ≤ x6_1) = true := decide_eq_true c11
                clear c11
                (first | rw [c11b0] | (simp only [i64_w, i32_w]; rw [c11b0]) | skip)
                have H' := Aside0.mk H
                clear H
                have hcz12_0 : w9.cell? ⟨gb217, 0, none⟩ = some (.int .i64 0) := (blk_cell BK217.out 0).trans rfl
                have hcz12_1 : w9.cell? ⟨gb217, 1, none⟩ = some (.string (⟨#[]⟩ : ByteArray)) := (blk_cell BK217.out 1).trans rfl
                have hcz12_2 : w9.cell? ⟨gb217, 2, none⟩ = some (.int .i64 0) := (blk_cell BK217.out 2).trans rfl
                have hfz12_0 := blk_frozen BK217.out 0
                have hfz12_1 := blk_frozen BK217.out 1
                have hfz12_2 := blk_frozen BK217.out 2
                go_wp2
                repeat (go_quiet (fail); try go_wp2)
                go_meet
                case rel => exact ⟨_, (true), (by first | rfl | (simp; done) | (simp [*]; done)), H', ⟨by have := HK1.out; first | omega | exact Nat.le_refl _⟩, ⟨by (with_reducible repeat (first | apply Kd.R_alloc | apply Kd.R_drewN | apply Kd.R_drew)); exact Kd.R_mono (Kd.R_far (p := ⟨gb217, 2, none⟩) (Kd.R_far (p := ⟨gb217, 1, none⟩) (Kd.R_far (p := ⟨gb217, 0, none⟩) (Kd.R_mono HO_3.out (fun k_ hk => (⟨hk, hk.2⟩ : _ ∧ k_ ≠ gb217))) (fun _ hk => hk.2) (.int .i64 ((rd_T28 t208 x7_1).f0))) (fun _ hk => hk.2) (.string ((rd_T28 t208 x7_1).f1))) (fun _ hk => hk.2) (.int .i64 ((rd_T28 t208 x7_1).f2))) (fun _ hk => hk.1.2)⟩, ⟨by (with_reducible repeat (first | refine blk_drewN ?_ _ | refine blk_drew ?_ | refine blk_alloc ?_ _)); refine blk_put (cs := #[.int .i64 ((rd_T28 t208 x7_1).f0), .string ((rd_T28 t208 x7_1).f1), .int .i64 0]) ?_ 2 _ rfl; (with_reducible repeat (first | refine blk_drewN ?_ _ | refine blk_drew ?_ | refine blk_alloc ?_ _)); refine blk_put (cs := #[.int .i64 ((rd_T28 t208 x7_1).f0), .string (⟨#[]⟩ : ByteArray), .int .i64 0]) ?_ 1 _ rfl; (with_reducible repeat (first | refine blk_drewN ?_ _ | refine blk_drew ?_ | refine blk_alloc ?_ _)); refine blk_put (cs := #[.int .i64 0, .string (⟨#[]⟩ : ByteArray), .int .i64 0]) ?_ 0 _ rfl; (with_reducible repeat (first | refine blk_drewN ?_ _ | refine blk_drew ?_ | refine blk_alloc ?_ _)); exact BK217.out⟩, ⟨by repeat (first | (with_reducible first | exact HB.out | apply below_alloc | apply pw_below_drewN | apply below_drew1 | refine below_set ?_ GE217.out) | exact HB.out)⟩⟩
              · rw [if_neg c11] at H
                have c11b0 : decide (((rd_T28 t208 x7_1).f2) ≤ x6_1) = false := decide_eq_false c11
                clear c11
                (first | rw [c11b0] | (simp only [i64_w, i32_w]; rw [c11b0]) | skip)
                by_cases c13 : ((rd_T28 t208 x7_1).f2) > (a0.size : Int)
                · rw [if_pos c13] at H
                  have c13b0 : decide ((a0.size : Int) < ((rd_T28 t208 x7_1).f2)) = true := decide_eq_true c13
                  clear c13
                  have H' := Aside0.mk H
                  clear H
                  have hcz14_0 : w9.cell? ⟨gb217, 0, none⟩ = some (.int .i64 0) := (blk_cell BK217.out 0).trans rfl
                  have hcz14_1 : w9.cell? ⟨gb217, 1, none⟩ = some (.string (⟨#[]⟩ : ByteArray)) := (blk_cell BK217.out 1).trans rfl
                  have hcz14_2 : w9.cell? ⟨gb217, 2, none⟩ = some (.int .i64 0) := (blk_cell BK217.out 2).trans rfl
                  have hfz14_0 := blk_frozen BK217.out 0
                  have hfz14_1 := blk_frozen BK217.out 1
                  have hfz14_2 := blk_frozen BK217.out 2
                  go_wp2
                  repeat (go_quiet (fail); try go_wp2)
                  go_meet
                  case rel => exact ⟨_, (true), (by first | rfl | (simp; done) | (simp [*]; done)), H', ⟨by have := HK1.out; first | omega | exact Nat.le_refl _⟩, ⟨by (with_reducible repeat (first | apply Kd.R_alloc | apply Kd.R_drewN | apply Kd.R_drew)); exact Kd.R_mono (Kd.R_far (p := ⟨gb217, 2, none⟩) (Kd.R_far (p := ⟨gb217, 1, none⟩) (Kd.R_far (p := ⟨gb217, 0, none⟩) (Kd.R_mono HO_3.out (fun k_ hk => (⟨hk, hk.2⟩ : _ ∧ k_ ≠ gb217))) (fun _ hk => hk.2) (.int .i64 ((rd_T28 t208 x7_1).f0))) (fun _ hk => hk.2) (.string ((rd_T28 t208 x7_1).f1))) (fun _ hk => hk.2) (.int .i64 ((rd_T28 t208 x7_1).f2))) (fun _ hk => hk.1.2)⟩, ⟨by (with_reducible repeat (first | refine blk_drewN ?_ _ | refine blk_drew ?_ | refine blk_alloc ?_ _)); refine blk_put (cs := #[.int .i64 ((rd_T28 t208 x7_1).f0), .string ((rd_T28 t208 x7_1).f1), .int .i64 0]) ?_ 2 _ rfl; (with_reducible repeat (first | refine blk_drewN ?_ _ | refine blk_drew ?_ | refine blk_alloc ?_ _)); refine blk_put (cs := #[.int .i64 ((rd_T28 t208 x7_1).f0), .string (⟨#[]⟩ : ByteArray), .int .i64 0]) ?_ 1 _ rfl; (with_reducible repeat (first | refine blk_drewN ?_ _ | refine blk_drew ?_ | refine blk_alloc ?_ _)); refine blk_put (cs := #[.int .i64 0, .string (⟨#[]⟩ : ByteArray), .int .i64 0]) ?_ 0 _ rfl; (with_reducible repeat (first | refine blk_drewN ?_ _ | refine blk_drew ?_ | refine blk_alloc ?_ _)); exact BK217.out⟩, ⟨by repeat (first | (with_reducible first | exact HB.out | apply below_alloc | apply pw_below_drewN | apply below_drew1 | refine below_set ?_ GE217.out) | exact HB.out)⟩⟩
                · rw [if_neg c13] at H
                  have c13b0 : decide ((a0.size : Int) < ((rd_T28 t208 x7_1).f2)) = false := decide_eq_false c13
                  clear c13
                  have H' := Aside0.mk H
                  clear H
                  have hcz15_0 : w9.cell? ⟨gb217, 0, none⟩ = some (.int .i64 0) := (blk_cell BK217.out 0).trans rfl
                  have hcz15_1 : w9.cell? ⟨gb217, 1, none⟩ = some (.string (⟨#[]⟩ : ByteArray)) := (blk_cell BK217.out 1).trans rfl
                  have hcz15_2 : w9.cell? ⟨gb217, 2, none⟩ = some (.int .i64 0) := (blk_cell BK217.out 2).trans rfl
                  have hfz15_0 := blk_frozen BK217.out 0
                  have hfz15_1 := blk_frozen BK217.out 1
                  have hfz15_2 := blk_frozen BK217.out 2
                  go_wp2
                  repeat (go_quiet (fail); try go_wp2)
                  go_meet
                  case rel => exact ⟨_, (((((rd_T28 t208 x7_1).f0) == 0) != (x7_1 == (wrap64 ((t208.length : Int) - 1))))), (by first | rfl | (simp; done) | (simp [*]; done)), H', ⟨by have := HK1.out; first | omega | exact Nat.le_refl _⟩, ⟨by (with_reducible repeat (first | apply Kd.R_alloc | apply Kd.R_drewN | apply Kd.R_drew)); exact Kd.R_mono (Kd.R_far (p := ⟨gb217, 2, none⟩) (Kd.R_far (p := ⟨gb217, 1, none⟩) (Kd.R_far (p := ⟨gb217, 0, none⟩) (Kd.R_mono HO_3.out (fun k_ hk => (⟨hk, hk.2⟩ : _ ∧ k_ ≠ gb217))) (fun _ hk => hk.2) (.int .i64 ((rd_T28 t208 x7_1).f0))) (fun _ hk => hk.2) (.string ((rd_T28 t208 x7_1).f1))) (fun _ hk => hk.2) (.int .i64 ((rd_T28 t208 x7_1).f2))) (fun _ hk => hk.1.2)⟩, ⟨by (with_reducible repeat (first | refine blk_drewN ?_ _ | refine blk_drew ?_ | refine blk_alloc ?_ _)); refine blk_put (cs := #[.int .i64 ((rd_T28 t208 x7_1).f0), .string ((rd_T28 t208 x7_1).f1), .int .i64 0]) ?_ 2 _ rfl; (with_reducible repeat (first | refine blk_drewN ?_ _ | refine blk_drew ?_ | refine blk_alloc ?_ _)); refine blk_put (cs := #[.int .i64 ((rd_T28 t208 x7_1).f0), .string (⟨#[]⟩ : ByteArray), .int .i64 0]) ?_ 1 _ rfl; (with_reducible repeat (first | refine blk_drewN ?_ _ | refine blk_drew ?_ | refine blk_alloc ?_ _)); refine blk_put (cs := #[.int .i64 0, .string (⟨#[]⟩ : ByteArray), .int .i64 0]) ?_ 0 _ rfl; (with_reducible repeat (first | refine blk_drewN ?_ _ | refine blk_drew ?_ | refine blk_alloc ?_ _)); exact BK217.out⟩, ⟨by repeat (first | (with_reducible first | exact HB.out | apply below_alloc | apply pw_below_drewN | apply below_drew1 | refine below_set ?_ GE217.out) | exact HB.out)⟩⟩
            case rest =>
              clear HC7
              try clear c1
              try clear p2
              try clear q2
              try clear hx2
              try clear c3
              try clear c3b0
              try clear c3b1
              try clear c5
              try clear c5b0
              try clear c6
              try clear c6b0
              try clear p6
              try clear c11
              try clear c11b0
              try clear c13
              try clear c13b0
              try clear hcz10_0
              try clear hcz10_1
              try clear hcz10_2
              try clear hcz12_0
              try clear hcz12_1
              try clear hcz12_2
              try clear hcz14_0
              try clear hcz14_1
              try clear hcz14_2
              try clear hcz15_0
              try clear hcz15_1
              try clear hcz15_2
              try clear hfz10_0
              try clear hfz10_1
              try clear hfz10_2
              try clear hfz12_0
              try clear hfz12_1
              try clear hfz12_2
              try clear hfz14_0
              try clear hfz14_1
              try clear hfz14_2
              try clear hfz15_0
              try clear hfz15_1
              try clear hfz15_2
              try clear hx216_0
              try clear hx216_1
              try clear hx216_2
              try clear p2
              try clear p216
              try clear q216
              obtain ⟨kq, x54_6, rfl, HA, HJ6, HO_3, BK217, HB⟩ := hcut
              cases kq with
              | zero => exact absurd HA.out (by simp [lapidarylaw07_LexPlaces.j1])
              | succ kj6 =>
                have H := HA.out
                clear HA
                simp only [lapidarylaw07_LexPlaces.j1] at H
                by_cases c16 : x54_6 = true
                · subst c16
                  have H1 : (some false) = some r := by rw [if_pos rfl] at H; exact H
                  clear H
                  have H := H1
                  clear H1
                  obtain rfl := Option.some.inj H
                  go_wp2
                  repeat (go_quiet (fail); try go_wp2)
                  go_ret
                  exact ⟨by first | rfl | (simp [errW_none, errW_some] <;> rfl) | (simp [*, errW_none, errW_some] <;> rfl), by repeat (first | (with_reducible first | exact HB.out | apply below_alloc | apply pw_below_drewN | apply below_drew1 | refine below_set ?_ GE217.out) | exact HB.out)⟩
                · replace c16 := Bool.eq_false_iff.mpr c16
                  subst c16
                  have H1 : (if ((rd_T28 t208 x7_1).f0) = 5 then (lapidarylaw07_LexPlaces.l0 kj6 a0 t208 ((rd_T28 t208 x7_1).f2) (wrap64 (x7_1 + 1))) else (if ((rd_T28 t208 x7_1).f0) = 6 then (lapidarylaw07_LexPlaces.l0 kj6 a0 t208 ((rd_T28 t208 x7_1).f2) (wrap64 (x7_1 + 1))) else (if ((rd_T28 t208 x7_1).f0) = 0 then (lapidarylaw07_LexPlaces.l0 kj6 a0 t208 ((rd_T28 t208 x7_1).f2) (wrap64 (x7_1 + 1))) else (if (((rd_T28 t208 x7_1).f1).size : Int) = 0 then (some false) else (if (((rd_T28 t208 x7_1).f1).size : Int) > (wrap64 ((a0.size : Int) - ((rd_T28 t208 x7_1).f2))) then (some false) else (if 0 ≤ ((rd_T28 t208 x7_1).f2) then (if ((rd_T28 t208 x7_1).f2) ≤ (wrap64 (((rd_T28 t208 x7_1).f2) + (((rd_T28 t208 x7_1).f1).size : Int))) then (if (wrap64 (((rd_T28 t208 x7_1).f2) + (((rd_T28 t208 x7_1).f1).size : Int))) ≤ (a0.size : Int) then (if (a0.extract (((rd_T28 t208 x7_1).f2) : Int).toNat ((wrap64 (((rd_T28 t208 x7_1).f2) + (((rd_T28 t208 x7_1).f1).size : Int))) : Int).toNat).toList = ((rd_T28 t208 x7_1).f1).toList then (lapidarylaw07_LexPlaces.l0 kj6 a0 t208 ((rd_T28 t208 x7_1).f2) (wrap64 (x7_1 + 1))) else (some false)) else (none)) else (none)) else (none))))))) = some r := by rw [if_neg (show ¬ (false = true) by decide)] at H; exact H
                  clear H
                  have H := H1
                  clear H1
                  by_cases c17 : ((rd_T28 t208 x7_1).f0) = 5
                  · rw [if_pos c17] at H
                    have c17b0 : (((rd_T28 t208 x7_1).f0) == 5) = true := beq_iff_eq.mpr c17
                    have c17b1 : (((rd_T28 t208 x7_1).f0) != 5) = false := bne_eq_false_iff_eq.mpr c17
                    clear c17
                    have H' := Aside0.mk H
                    clear H
                    have hcz18_0 : wc.cell? ⟨gb217, 0, none⟩ = some (.int .i64 ((rd_T28 t208 x7_1).f0)) := (blk_cell BK217.out 0).trans rfl
                    have hcz18_1 : wc.cell? ⟨gb217, 1, none⟩ = some (.string ((rd_T28 t208 x7_1).f1)) := (blk_cell BK217.out 1).trans rfl
                    have hcz18_2 : wc.cell? ⟨gb217, 2, none⟩ = some (.int .i64 ((rd_T28 t208 x7_1).f2)) := (blk_cell BK217.out 2).trans rfl
                    have hfz18_0 := blk_frozen BK217.out 0
                    have hfz18_1 := blk_frozen BK217.out 1
                    have hfz18_2 := blk_frozen BK217.out 2
                    go_wp2
                    repeat (go_quiet (fail); try go_wp2)
                    go_roundg kj6
                    case measure => have := HK1.out; have := HJ6.out; omega
                    case rel => exact ⟨(((rd_T28 t208 x7_1).f2)), (wrap64 (x7_1 + 1)), (by first | rfl | (simp; done) | (simp [*]; done)), (by first | rfl | (simp; done) | (simp [*]; done)), H', ⟨by have := HK1.out; have := HJ6.out; omega⟩, ⟨by (with_reducible repeat (first | apply Kd.R_alloc | apply Kd.R_drewN | apply Kd.R_drew)); exact Kd.R_mono HO_3.out (fun _ hk => trivial)⟩, ⟨by repeat (first | (with_reducible first | exact HB.out | apply below_alloc | apply pw_below_drewN | apply below_drew1 | refine below_set ?_ GE217.out) | exact HB.out)⟩⟩
                  · rw [if_neg c17] at H
                    have c17b0 : (((rd_T28 t208 x7_1).f0) == 5) = false := beq_eq_false_iff_ne.mpr c17
                    have c17b1 : (((rd_T28 t208 x7_1).f0) != 5) = true := bne_iff_ne.mpr c17
                    by_cases c19 : ((rd_T28 t208 x7_1).f0) = 6
                    · rw [if_pos c19] at H
                      have c19b0 : (((rd_T28 t208 x7_1).f0) == 6) = true := beq_iff_eq.mpr c19
                      have c19b1 : (((rd_T28 t208 x7_1).f0) != 6) = false := bne_eq_false_iff_eq.mpr c19
                      clear c19
                      have H' := Aside0.mk H
                      clear H
                      have hcz20_0 : wc.cell? ⟨gb217, 0, none⟩ = some (.int .i64 ((rd_T28 t208 x7_1).f0)) := (blk_cell BK217.out 0).trans rfl
                      have hcz20_1 : wc.cell? ⟨gb217, 1, none⟩ = some (.string ((rd_T28 t208 x7_1).f1)) := (blk_cell BK217.out 1).trans rfl
                      have hcz20_2 : wc.cell? ⟨gb217, 2, none⟩ = some (.int .i64 ((rd_T28 t208 x7_1).f2)) := (blk_cell BK217.out 2).trans rfl
                      have hfz20_0 := blk_frozen BK217.out 0
                      have hfz20_1 := blk_frozen BK217.out 1
                      have hfz20_2 := blk_frozen BK217.out 2
                      go_wp2
                      repeat (go_quiet (fail); try go_wp2)
                      go_roundg kj6
                      case measure => have := HK1.out; have := HJ6.out; omega
                      case rel => exact ⟨(((rd_T28 t208 x7_1).f2)), (wrap64 (x7_1 + 1)), (by first | rfl | (simp; done) | (simp [*]; done)), (by first | rfl | (simp; done) | (simp [*]; done)), H', ⟨by have := HK1.out; have := HJ6.out; omega⟩, ⟨by (with_reducible repeat (first | apply Kd.R_alloc | apply Kd.R_drewN | apply Kd.R_drew)); exact Kd.R_mono HO_3.out (fun _ hk => trivial)⟩, ⟨by repeat (first | (with_reducible first | exact HB.out | apply below_alloc | apply pw_below_drewN | apply below_drew1 | refine below_set ?_ GE217.out) | exact HB.out)⟩⟩
                    · rw [if_neg c19] at H
                      have c19b0 : (((rd_T28 t208 x7_1).f0) == 6) = false := beq_eq_false_iff_ne.mpr c19
                      have c19b1 : (((rd_T28 t208 x7_1).f0) != 6) = true := bne_iff_ne.mpr c19
                      by_cases c21 : ((rd_T28 t208 x7_1).f0) = 0
                      · rw [if_pos c21] at H
                        have c21b0 : (((rd_T28 t208 x7_1).f0) == 0) = true := beq_iff_eq.mpr c21
                        have c21b1 : (((rd_T28 t208 x7_1).f0) != 0) = false := bne_eq_false_iff_eq.mpr c21
                        clear c21
                        have H' := Aside0.mk H
                        clear H
                        have hcz22_0 : wc.cell? ⟨gb217, 0, none⟩ = some (.int .i64 ((rd_T28 t208 x7_1).f0)) := (blk_cell BK217.out 0).trans rfl
                        have hcz22_1 : wc.cell? ⟨gb217, 1, none⟩ = some (.string ((rd_T28 t208 x7_1).f1)) := (blk_cell BK217.out 1).trans rfl
                        have hcz22_2 : wc.cell? ⟨gb217, 2, none⟩ = some (.int .i64 ((rd_T28 t208 x7_1).f2)) := (blk_cell BK217.out 2).trans rfl
                        have hfz22_0 := blk_frozen BK217.out 0
                        have hfz22_1 := blk_frozen BK217.out 1
                        have hfz22_2 := blk_frozen BK217.out 2
                        go_wp2
                        repeat (go_quiet (fail); try go_wp2)
                        go_roundg kj6
                        case measure => have := HK1.out; have := HJ6.out; omega
                        case rel => exact ⟨(((rd_T28 t208 x7_1).f2)), (wrap64 (x7_1 + 1)), (by first | rfl | (simp; done) | (simp [*]; done)), (by first | rfl | (simp; done) | (simp [*]; done)), H', ⟨by have := HK1.out; have := HJ6.out; omega⟩, ⟨by (with_reducible repeat (first | apply Kd.R_alloc | apply Kd.R_drewN | apply Kd.R_drew)); exact Kd.R_mono HO_3.out (fun _ hk => trivial)⟩, ⟨by repeat (first | (with_reducible first | exact HB.out | apply below_alloc | apply pw_below_drewN | apply below_drew1 | refine below_set ?_ GE217.out) | exact HB.out)⟩⟩
                      · rw [if_neg c21] at H
                        have c21b0 : (((rd_T28 t208 x7_1).f0) == 0) = false := beq_eq_false_iff_ne.mpr c21
                        have c21b1 : (((rd_T28 t208 x7_1).f0) != 0) = true := bne_iff_ne.mpr c21
                        by_cases c23 : (((rd_T28 t208 x7_1).f1).size : Int) = 0
                        · rw [if_pos c23] at H
                          have c23b0 : ((((rd_T28 t208 x7_1).f1).size : Int) == 0) = true := beq_iff_eq.mpr c23
                          have c23b1 : ((((rd_T28 t208 x7_1).f1).size : Int) != 0) = false := bne_eq_false_iff_eq.mpr c23
                          clear c23
                          obtain rfl := Option.some.inj H
                          have hcz24_0 : wc.cell? ⟨gb217, 0, none⟩ = some (.int .i64 ((rd_T28 t208 x7_1).f0)) := (blk_cell BK217.out 0).trans rfl
                          have hcz24_1 : wc.cell? ⟨gb217, 1, none⟩ = some (.string ((rd_T28 t208 x7_1).f1)) := (blk_cell BK217.out 1).trans rfl
                          have hcz24_2 : wc.cell? ⟨gb217, 2, none⟩ = some (.int .i64 ((rd_T28 t208 x7_1).f2)) := (blk_cell BK217.out 2).trans rfl
                          have hfz24_0 := blk_frozen BK217.out 0
                          have hfz24_1 := blk_frozen BK217.out 1
                          have hfz24_2 := blk_frozen BK217.out 2
                          go_wp2
                          repeat (go_quiet (fail); try go_wp2)
                          go_ret
                          exact ⟨by first | rfl | (simp [errW_none, errW_some] <;> rfl) | (simp [*, errW_none, errW_some] <;> rfl), by repeat (first | (with_reducible first | exact HB.out | apply below_alloc | apply pw_below_drewN | apply below_drew1 | refine below_set ?_ GE217.out) | exact HB.out)⟩
                        · rw [if_neg c23] at H
                          have c23b0 : ((((rd_T28 t208 x7_1).f1).size : Int) == 0) = false := beq_eq_false_iff_ne.mpr c23
                          have c23b1 : ((((rd_T28 t208 x7_1).f1).size : Int) != 0) = true := bne_iff_ne.mpr c23
                          by_cases c25 : (((rd_T28 t208 x7_1).f1).size : Int) > (wrap64 ((a0.size : Int) - ((rd_T28 t208 x7_1).f2)))
                          · rw [if_pos c25] at H
                            have c25b0 : decide ((wrap64 ((a0.size : Int) - ((rd_T28 t208 x7_1).f2))) < (((rd_T28 t208 x7_1).f1).size : Int)) = true := decide_eq_true c25
                            clear c25
                            obtain rfl := Option.some.inj H
                            have hcz26_0 : wc.cell? ⟨gb217, 0, none⟩ = some (.int .i64 ((rd_T28 t208 x7_1).f0)) := (blk_cell BK217.out 0).trans rfl
                            have hcz26_1 : wc.cell? ⟨gb217, 1, none⟩ = some (.string ((rd_T28 t208 x7_1).f1)) := (blk_cell BK217.out 1).trans rfl
                            have hcz26_2 : wc.cell? ⟨gb217, 2, none⟩ = some (.int .i64 ((rd_T28 t208 x7_1).f2)) := (blk_cell BK217.out 2).trans rfl
                            have hfz26_0 := blk_frozen BK217.out 0
                            have hfz26_1 := blk_frozen BK217.out 1
                            have hfz26_2 := blk_frozen BK217.out 2
                            go_wp2
                            repeat (go_quiet (fail); try go_wp2)
                            go_ret
                            exact ⟨by first | rfl | (simp [errW_none, errW_some] <;> rfl) | (simp [*, errW_none, errW_some] <;> rfl), by repeat (first | (with_reducible first | exact HB.out | apply below_alloc | apply pw_below_drewN | apply below_drew1 | refine below_set ?_ GE217.out) | exact HB.out)⟩
                          · rw [if_neg c25] at H
                            have c25b0 : decide ((wrap64 ((a0.size : Int) - ((rd_T28 t208 x7_1).f2))) < (((rd_T28 t208 x7_1).f1).size : Int)) = false := decide_eq_false c25
                            clear c25
                            by_cases c27 : 0 ≤ ((rd_T28 t208 x7_1).f2)
                            · rw [if_pos c27] at H
                              have c27b0 := eq_true c27
                              have c27b1 : decide (0 ≤ ((rd_T28 t208 x7_1).f2)) = true := decide_eq_true c27
                              clear c27
                              by_cases c28 : ((rd_T28 t208 x7_1).f2) ≤ (wrap64 (((rd_T28 t208 x7_1).f2) + (((rd_T28 t208 x7_1).f1).size : Int)))
                              · rw [if_pos c28] at H
                                have c28b0 := eq_true c28
                                have c28b1 : decide (((rd_T28 t208 x7_1).f2) ≤ (wrap64 (((rd_T28 t208 x7_1).f2) + (((rd_T28 t208 x7_1).f1).size : Int)))) = true := decide_eq_true c28
                                by_cases c29 : (wrap64 (((rd_T28 t208 x7_1).f2) + (((rd_T28 t208 x7_1).f1).size : Int))) ≤ (a0.size : Int)
                                · rw [if_pos c29] at H
                                  have c29b0 := eq_true c29
                                  have c29b1 : decide ((wrap64 (((rd_T28 t208 x7_1).f2) + (((rd_T28 t208 x7_1).f1).size : Int))) ≤ (a0.size : Int)) = true := decide_eq_true c29
                                  by_cases c30 : (a0.extract (((rd_T28 t208 x7_1).f2) : Int).toNat ((wrap64 (((rd_T28 t208 x7_1).f2) + (((rd_T28 t208 x7_1).f1).size : Int))) : Int).toNat).toList = ((rd_T28 t208 x7_1).f1).toList
                                  · rw [if_pos c30] at H
                                    have c30b0 : ((a0.extract (((rd_T28 t208 x7_1).f2) : Int).toNat ((wrap64 (((rd_T28 t208 x7_1).f2) + (((rd_T28 t208 x7_1).f1).size : Int))) : Int).toNat).toList == ((rd_T28 t208 x7_1).f1).toList) = true := beq_iff_eq.mpr c30
                                    have c30b1 : ((a0.extract (((rd_T28 t208 x7_1).f2) : Int).toNat ((wrap64 (((rd_T28 t208 x7_1).f2) + (((rd_T28 t208 x7_1).f1).size : Int))) : Int).toNat).toList != ((rd_T28 t208 x7_1).f1).toList) = false := bne_eq_false_iff_eq.mpr c30
                                    clear c30
                                    have H' := Aside0.mk H
                                    clear H
                                    have hcz31_0 : wc.cell? ⟨gb217, 0, none⟩ = some (.int .i64 ((rd_T28 t208 x7_1).f0)) := (blk_cell BK217.out 0).trans rfl
                                    have hcz31_1 : wc.cell? ⟨gb217, 1, none⟩ = some (.string ((rd_T28 t208 x7_1).f1)) := (blk_cell BK217.out 1).trans rfl
                                    have hcz31_2 : wc.cell? ⟨gb217, 2, none⟩ = some (.int .i64 ((rd_T28 t208 x7_1).f2)) := (blk_cell BK217.out 2).trans rfl
                                    have hfz31_0 := blk_frozen BK217.out 0
                                    have hfz31_1 := blk_frozen BK217.out 1
                                    have hfz31_2 := blk_frozen BK217.out 2
                                    go_wp2
                                    repeat (go_quiet (fail); try go_wp2)
                                    go_roundg kj6
                                    case measure => have := HK1.out; have := HJ6.out; omega
                                    case rel => exact ⟨(((rd_T28 t208 x7_1).f2)), (wrap64 (x7_1 + 1)), (by first | rfl | (simp; done) | (simp [*]; done)), (by first | rfl | (simp; done) | (simp [*]; done)), H', ⟨by have := HK1.out; have := HJ6.out; omega⟩, ⟨by (with_reducible repeat (first | apply Kd.R_alloc | apply Kd.R_drewN | apply Kd.R_drew)); exact Kd.R_mono HO_3.out (fun _ hk => trivial)⟩, ⟨by repeat (first | (with_reducible first | exact HB.out | apply below_alloc | apply pw_below_drewN | apply below_drew1 | refine below_set ?_ GE217.out) | exact HB.out)⟩⟩
                                  · rw [if_neg c30] at H
                                    have c30b0 : ((a0.extract (((rd_T28 t208 x7_1).f2) : Int).toNat ((wrap64 (((rd_T28 t208 x7_1).f2) + (((rd_T28 t208 x7_1).f1).size : Int))) : Int).toNat).toList == ((rd_T28 t208 x7_1).f1).toList) = false := beq_eq_false_iff_ne.mpr c30
                                    have c30b1 : ((a0.extract (((rd_T28 t208 x7_1).f2) : Int).toNat ((wrap64 (((rd_T28 t208 x7_1).f2) + (((rd_T28 t208 x7_1).f1).size : Int))) : Int).toNat).toList != ((rd_T28 t208 x7_1).f1).toList) = true := bne_iff_ne.mpr c30
                                    obtain rfl := Option.some.inj H
                                    have hcz32_0 : wc.cell? ⟨gb217, 0, none⟩ = some (.int .i64 ((rd_T28 t208 x7_1).f0)) := (blk_cell BK217.out 0).trans rfl
                                    have hcz32_1 : wc.cell? ⟨gb217, 1, none⟩ = some (.string ((rd_T28 t208 x7_1).f1)) := (blk_cell BK217.out 1).trans rfl
                                    have hcz32_2 : wc.cell? ⟨gb217, 2, none⟩ = some (.int .i64 ((rd_T28 t208 x7_1).f2)) := (blk_cell BK217.out 2).trans rfl
                                    have hfz32_0 := blk_frozen BK217.out 0
                                    have hfz32_1 := blk_frozen BK217.out 1
                                    have hfz32_2 := blk_frozen BK217.out 2
                                    go_wp2
                                    repeat (go_quiet (fail); try go_wp2)
                                    go_ret
                                    exact ⟨by first | rfl | (simp [errW_none, errW_some] <;> rfl) | (simp [*, errW_none, errW_some] <;> rfl), by repeat (first | (with_reducible first | exact HB.out | apply below_alloc | apply pw_below_drewN | apply below_drew1 | refine below_set ?_ GE217.out) | exact HB.out)⟩
                                · rw [if_neg c29] at H
                                  exact absurd H (by simp)
                              · rw [if_neg c28] at H
                                exact absurd H (by simp)
                            · rw [if_neg c27] at H
                              exact absurd H (by simp)
          · rw [if_neg c6] at H
            exact absurd H (by simp)
        · rw [if_neg c5] at H
          have c5b0 : decide (x7_1 < (t208.length : Int)) = false := decide_eq_false c5
          clear c5
          by_cases c33 : (t208.length : Int) > 0
          · rw [if_pos c33] at H
            have c33b0 : decide (0 < (t208.length : Int)) = true := decide_eq_true c33
            have c33b1 : decide (0 < t208.length) = true := decide_eq_true (by omega)
            clear c33
            obtain ⟨ji34, hji34⟩ : ∃ j_ : Int, (wrap64 ((t208.length : Int) - 1)) = j_ := ⟨_, rfl⟩
            replace H : (if 0 ≤ (ji34) then (if (ji34) < (t208.length : Int) then (if ((rd_T28 t208 (ji34)).f2) = (a0.size : Int) then ((lapidarylaw07_known.f k1).bind fun t215 => (some t215)) else (some false)) else (none)) else (none)) = some r := by first | (rw [hji34] at H; exact H) | (simp only [hji34] at H ⊢; exact H)
            have hji34w : (IntKind.i64.wrap ((t208.length : Int) - 1)) = ji34 := (i64_w _).trans hji34
            by_cases c35 : 0 ≤ (ji34)
            · rw [if_pos c35] at H
              have c35b0 : decide (0 ≤ (ji34)) = true := decide_eq_true c35
              clear c35
              by_cases c36 : (ji34) < (t208.length : Int)
              · rw [if_pos c36] at H
                have c36b0 : decide ((ji34) < (t208.length : Int)) = true := decide_eq_true c36
                clear c36
                by_cases c37 : ((rd_T28 t208 (ji34)).f2) = (a0.size : Int)
                · rw [if_pos c37] at H
                  have c37b0 : (((rd_T28 t208 (ji34)).f2) == (a0.size : Int)) = true := beq_iff_eq.mpr c37
                  have c37b1 : (((rd_T28 t208 (ji34)).f2) != (a0.size : Int)) = false := bne_eq_false_iff_eq.mpr c37
                  clear c37
                  replace H := Option.bind_eq_some_iff.mp H
                  obtain ⟨t215, A380, H⟩ := H
                  replace H : (some t215) = some r := H
                  have A38 := Aside0.mk A380
                  clear A380
                  obtain rfl := Option.some.inj H
                  obtain ⟨Ao39, co39, eo39⟩ := Kd.R_slice HO_3.out
                  subst eo39
                  have p214 : 0 ≤ ((ji34) : Int) := of_decide_eq_true (by first | (with_reducible assumption) | assumption)
                  have q214 : (ji34) < (t208.length : Int) := of_decide_eq_true (by first | (with_reducible assumption) | assumption)
                  obtain ⟨ad214, e214, hx214_0, hx214_1, hx214_2⟩ := at_T28 (Kd.R_reads' HO_3.out).2.2 (ji34) p214 q214
                  cases e214
                  replace p214 := eq_true p214
                  replace q214 := eq_true q214
                  go_wp2_with (first | (go_at_call 9; (with_reducible refine (lapidarylaw07_known.calls k1  t215 _ A38.out).mono ?_); rintro e w40 ⟨rfl, hb⟩; have n0_ := Aside0.mk (Kd.R_below (by (with_reducible repeat (first | apply Kd.R_alloc | apply Kd.R_drewN | apply Kd.R_drew)); exact HO_3.out) hb); have n1_ := Aside0.mk (below_step (by repeat (first | (with_reducible first | exact HB.out | apply below_alloc | apply pw_below_drewN | apply below_drew1) | exact HB.out)) hb); clear HO_3; clear HB; have HO_3 := n0_; have HB := n1_; clear n0_ n1_; (try clear hb); (try clear hb2); (try clear hk); (try clear hi)))
                  repeat (go_quiet (first | (go_at_call 9; (with_reducible refine (lapidarylaw07_known.calls k1  t215 _ A38.out).mono ?_); rintro e w40 ⟨rfl, hb⟩; have n0_ := Aside0.mk (Kd.R_below (by (with_reducible repeat (first | apply Kd.R_alloc | apply Kd.R_drewN | apply Kd.R_drew)); exact HO_3.out) hb); have n1_ := Aside0.mk (below_step (by repeat (first | (with_reducible first | exact HB.out | apply below_alloc | apply pw_below_drewN | apply below_drew1) | exact HB.out)) hb); clear HO_3; clear HB; have HO_3 := n0_; have HB := n1_; clear n0_ n1_; (try clear hb); (try clear hb2); (try clear hk); (try clear hi))); try go_wp2_with (first | (go_at_call 9; (with_reducible refine (lapidarylaw07_known.calls k1  t215 _ A38.out).mono ?_); rintro e w40 ⟨rfl, hb⟩; have n0_ := Aside0.mk (Kd.R_below (by (with_reducible repeat (first | apply Kd.R_alloc | apply Kd.R_drewN | apply Kd.R_drew)); exact HO_3.out) hb); have n1_ := Aside0.mk (below_step (by repeat (first | (with_reducible first | exact HB.out | apply below_alloc | apply pw_below_drewN | apply below_drew1) | exact HB.out)) hb); clear HO_3; clear HB; have HO_3 := n0_; have HB := n1_; clear n0_ n1_; (try clear hb); (try clear hb2); (try clear hk); (try clear hi))))
                  go_ret
                  exact ⟨by first | rfl | (simp [errW_none, errW_some] <;> rfl) | (simp only [← hji34]; first | rfl | (simp [errW_none, errW_some] <;> rfl)) | (simp [*, errW_none, errW_some] <;> rfl), by repeat (first | (with_reducible first | exact HB.out | apply below_alloc | apply pw_below_drewN | apply below_drew1) | exact HB.out)⟩
                · rw [if_neg c37] at H
                  have c37b0 : (((rd_T28 t208 (ji34)).f2) == (a0.size : Int)) = false := beq_eq_false_iff_ne.mpr c37
                  have c37b1 : (((rd_T28 t208 (ji34)).f2) != (a0.size : Int)) = true := bne_iff_ne.mpr c37
                  obtain rfl := Option.some.inj H
                  obtain ⟨Ao41, co41, eo41⟩ := Kd.R_slice HO_3.out
                  subst eo41
                  have p214 : 0 ≤ ((ji34) : Int) := of_decide_eq_true (by first | (with_reducible assumption) | assumption)
                  have q214 : (ji34) < (t208.length : Int) := of_decide_eq_true (by first | (with_reducible assumption) | assumption)
                  obtain ⟨ad214, e214, hx214_0, hx214_1, hx214_2⟩ := at_T28 (Kd.R_reads' HO_3.out).2.2 (ji34) p214 q214
                  cases e214
                  replace p214 := eq_true p214
                  replace q214 := eq_true q214
                  go_wp2
                  repeat (go_quiet (fail); try go_wp2)
                  go_ret
                  exact ⟨by first | rfl | (simp [errW_none, errW_some] <;> rfl) | (simp only [← hji34]; first | rfl | (simp [errW_none, errW_some] <;> rfl)) | (simp [*, errW_none, errW_some] <;> rfl), by repeat (first | (with_reducible first | exact HB.out | apply below_alloc | apply pw_below_drewN | apply below_drew1) | exact HB.out)⟩
              · rw [if_neg c36] at H
                exact absurd H (by simp)
            · rw [if_neg c35] at H
              exact absurd H (by simp)
          · rw [if_neg c33] at H
            have c33b0 : decide (0 < (t208.length : Int)) = false := decide_eq_false c33
            have c33b1 : decide (0 < t208.length) = false := decide_eq_false (by omega)
            clear c33
            obtain rfl := Option.some.inj H
            obtain ⟨Ao42, co42, eo42⟩ := Kd.R_slice HO_3.out
            subst eo42
            go_wp2
            repeat (go_quiet (fail); try go_wp2)
            go_ret
            exact ⟨by first | rfl | (simp [errW_none, errW_some] <;> rfl) | (simp [*, errW_none, errW_some] <;> rfl), by repeat (first | (with_reducible first | exact HB.out | apply below_alloc | apply pw_below_drewN | apply below_drew1) | exact HB.out)⟩
  · rw [if_neg c3] at H
    have c3b0 : (t210 == 0) = false := beq_eq_false_iff_ne.mpr c3
    have c3b1 : (t210 != 0) = true := bne_iff_ne.mpr c3
    by_cases c43 : (t208.length : Int) = 0
    · rw [if_pos c43] at H
      have c43b0 : ((t208.length : Int) == 0) = true := beq_iff_eq.mpr c43
      have c43b1 : ((t208.length : Int) != 0) = false := bne_eq_false_iff_eq.mpr c43
      clear c43
      replace H := Option.bind_eq_some_iff.mp H
      obtain ⟨t213, A440, H⟩ := H
      replace H : (some t213) = some r := H
      have A44 := Aside0.mk A440
      clear A440
      obtain rfl := Option.some.inj H
      go_enter Tryd.func5, Tryd.ntmps5
      go_wp2_with (first | (go_at_call 8; (with_reducible refine (lex_Read.calls a0 t208 t209 t210 _ A2.out).mono ?_); rintro e w45 ⟨v211, rfl, ho0, hb⟩; have n0_ := Aside0.mk (Kd.R_lower ho0 (below_size (by repeat (first | (with_reducible first | exact HB.out | apply below_alloc | apply pw_below_drewN | apply below_drew1) | exact HB.out)))); have n1_ := Aside0.mk (below_step (by repeat (first | (with_reducible first | exact HB.out | apply below_alloc | apply pw_below_drewN | apply below_drew1) | exact HB.out)) hb); clear HB; have HO212 := n0_; have HB := n1_; clear n0_ n1_; (try clear hb); (try clear hb2); (try clear hk); (try clear hi); (try clear ho0); obtain ⟨Ao46, co46, eo46⟩ := Kd.R_slice HO212.out; subst eo46) | (go_at_call 9; (with_reducible refine (lapidarylaw07_known.calls k  t213 _ A44.out).mono ?_); rintro e w47 ⟨rfl, hb⟩; have n0_ := Aside0.mk (Kd.R_below (by (with_reducible repeat (first | apply Kd.R_alloc | apply Kd.R_drewN | apply Kd.R_drew)); exact HO212.out) hb); have n1_ := Aside0.mk (below_step (by repeat (first | (with_reducible first | exact HB.out | apply below_alloc | apply pw_below_drewN | apply below_drew1) | exact HB.out)) hb); clear HO212; clear HB; have HO212 := n0_; have HB := n1_; clear n0_ n1_; (try clear hb); (try clear hb2); (try clear hk); (try clear hi)))
      repeat (go_quiet (first | (go_at_call 8; (with_reducible refine (lex_Read.calls a0 t208 t209 t210 _ A2.out).mono ?_); rintro e w45 ⟨v211, rfl, ho0, hb⟩; have n0_ := Aside0.mk (Kd.R_lower ho0 (below_size (by repeat (first | (with_reducible first | exact HB.out | apply below_alloc | apply pw_below_drewN | apply below_drew1) | exact HB.out)))); have n1_ := Aside0.mk (below_step (by repeat (first | (with_reducible first | exact HB.out | apply below_alloc | apply pw_below_drewN | apply below_drew1) | exact HB.out)) hb); clear HB; have HO212 := n0_; have HB := n1_; clear n0_ n1_; (try clear hb); (try clear hb2); (try clear hk); (try clear hi); (try clear ho0); obtain ⟨Ao46, co46, eo46⟩ := Kd.R_slice HO212.out; subst eo46) | (go_at_call 9; (with_reducible refine (lapidarylaw07_known.calls k  t213 _ A44.out).mono ?_); rintro e w47 ⟨rfl, hb⟩; have n0_ := Aside0.mk (Kd.R_below (by (with_reducible repeat (first | apply Kd.R_alloc | apply Kd.R_drewN | apply Kd.R_drew)); exact HO212.out) hb); have n1_ := Aside0.mk (below_step (by repeat (first | (with_reducible first | exact HB.out | apply below_alloc | apply pw_below_drewN | apply below_drew1) | exact HB.out)) hb); clear HO212; clear HB; have HO212 := n0_; have HB := n1_; clear n0_ n1_; (try clear hb); (try clear hb2); (try clear hk); (try clear hi))); try go_wp2_with (first | (go_at_call 8; (with_reducible refine (lex_Read.calls a0 t208 t209 t210 _ A2.out).mono ?_); rintro e w45 ⟨v211, rfl, ho0, hb⟩; have n0_ := Aside0.mk (Kd.R_lower ho0 (below_size (by repeat (first | (with_reducible first | exact HB.out | apply below_alloc | apply pw_below_drewN | apply below_drew1) | exact HB.out)))); have n1_ := Aside0.mk (below_step (by repeat (first | (with_reducible first | exact HB.out | apply below_alloc | apply pw_below_drewN | apply below_drew1) | exact HB.out)) hb); clear HB; have HO212 := n0_; have HB := n1_; clear n0_ n1_; (try clear hb); (try clear hb2); (try clear hk); (try clear hi); (try clear ho0); obtain ⟨Ao46, co46, eo46⟩ := Kd.R_slice HO212.out; subst eo46) | (go_at_call 9; (with_reducible refine (lapidarylaw07_known.calls k  t213 _ A44.out).mono ?_); rintro e w47 ⟨rfl, hb⟩; have n0_ := Aside0.mk (Kd.R_below (by (with_reducible repeat (first | apply Kd.R_alloc | apply Kd.R_drewN | apply Kd.R_drew)); exact HO212.out) hb); have n1_ := Aside0.mk (below_step (by repeat (first | (with_reducible first | exact HB.out | apply below_alloc | apply pw_below_drewN | apply below_drew1) | exact HB.out)) hb); clear HO212; clear HB; have HO212 := n0_; have HB := n1_; clear n0_ n1_; (try clear hb); (try clear hb2); (try clear hk); (try clear hi))))
      go_ret
      exact ⟨by first | rfl | (simp [errW_none, errW_some] <;> rfl) | (simp [*, errW_none, errW_some] <;> rfl), by repeat (first | (with_reducible first | exact HB.out | apply below_alloc | apply pw_below_drewN | apply below_drew1) | exact HB.out)⟩
    · rw [if_neg c43] at H
      have c43b0 : ((t208.length : Int) == 0) = false := beq_eq_false_iff_ne.mpr c43
      have c43b1 : ((t208.length : Int) != 0) = true := bne_iff_ne.mpr c43
      have c43b2 : ¬ (t208 = []) := fun h_ => c43 (by rw [h_]; rfl)
      obtain rfl := Option.some.inj H
      go_enter Tryd.func5, Tryd.ntmps5
      go_wp2_with (first | (go_at_call 8; (with_reducible refine (lex_Read.calls a0 t208 t209 t210 _ A2.out).mono ?_); rintro e w48 ⟨v211, rfl, ho0, hb⟩; have n0_ := Aside0.mk (Kd.R_lower ho0 (below_size (by repeat (first | (with_reducible first | exact HB.out | apply below_alloc | apply pw_below_drewN | apply below_drew1) | exact HB.out)))); have n1_ := Aside0.mk (below_step (by repeat (first | (with_reducible first | exact HB.out | apply below_alloc | apply pw_below_drewN | apply below_drew1) | exact HB.out)) hb); clear HB; have HO212 := n0_; have HB := n1_; clear n0_ n1_; (try clear hb); (try clear hb2); (try clear hk); (try clear hi); (try clear ho0); obtain ⟨Ao49, co49, eo49⟩ := Kd.R_slice HO212.out; subst eo49))
      repeat (go_quiet (first | (go_at_call 8; (with_reducible refine (lex_Read.calls a0 t208 t209 t210 _ A2.out).mono ?_); rintro e w48 ⟨v211, rfl, ho0, hb⟩; have n0_ := Aside0.mk (Kd.R_lower ho0 (below_size (by repeat (first | (with_reducible first | exact HB.out | apply below_alloc | apply pw_below_drewN | apply below_drew1) | exact HB.out)))); have n1_ := Aside0.mk (below_step (by repeat (first | (with_reducible first | exact HB.out | apply below_alloc | apply pw_below_drewN | apply below_drew1) | exact HB.out)) hb); clear HB; have HO212 := n0_; have HB := n1_; clear n0_ n1_; (try clear hb); (try clear hb2); (try clear hk); (try clear hi); (try clear ho0); obtain ⟨Ao49, co49, eo49⟩ := Kd.R_slice HO212.out; subst eo49)); try go_wp2_with (first | (go_at_call 8; (with_reducible refine (lex_Read.calls a0 t208 t209 t210 _ A2.out).mono ?_); rintro e w48 ⟨v211, rfl, ho0, hb⟩; have n0_ := Aside0.mk (Kd.R_lower ho0 (below_size (by repeat (first | (with_reducible first | exact HB.out | apply below_alloc | apply pw_below_drewN | apply below_drew1) | exact HB.out)))); have n1_ := Aside0.mk (below_step (by repeat (first | (with_reducible first | exact HB.out | apply below_alloc | apply pw_below_drewN | apply below_drew1) | exact HB.out)) hb); clear HB; have HO212 := n0_; have HB := n1_; clear n0_ n1_; (try clear hb); (try clear hb2); (try clear hk); (try clear hi); (try clear ho0); obtain ⟨Ao49, co49, eo49⟩ := Kd.R_slice HO212.out; subst eo49)))
      go_ret
      exact ⟨by first | rfl | (simp [errW_none, errW_some] <;> rfl) | (simp [*, errW_none, errW_some] <;> rfl), by repeat (first | (with_reducible first | exact HB.out | apply below_alloc | apply pw_below_drewN | apply below_drew1) | exact HB.out)⟩

/-- THE ONE PURE STATEMENT of lapidarylaw07_LexPlaces: yours. -/
def lapidarylaw07_LexPlaces.Pure : Prop := ∀ (a0 : ByteArray), a0.size ≤ 140737488351232 → ∃ k, lapidarylaw07_LexPlaces.f k a0 = some true
theorem lapidarylaw07_LexPlaces.walk (P : lapidarylaw07_LexPlaces.Pure) (a0 : ByteArray) (w : World) (w0 : a0.size ≤ 140737488351232) :
    Calls Tryd.prog 5 #[.string a0] w fun e w' => e = .returned (.bool true) ∧ Below w.heap.size w w' := by
  obtain ⟨k, h⟩ := P a0 w0
  refine (lapidarylaw07_LexPlaces.calls k a0 true w h).mono ?_
  rintro e w' ⟨rfl, hd⟩
  exact ⟨rfl, hd⟩


end

end Go.Proofs.YtfjbhccapgnkiaaDoor.P
