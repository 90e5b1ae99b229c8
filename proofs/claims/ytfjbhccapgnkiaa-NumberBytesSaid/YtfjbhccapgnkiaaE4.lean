import Derived.Test.YtfjbhccapgnkiaaE3
import Derived.Test.YtfjbhccapgnkiaaD1
import Derived.Deep.RegionHeld3
namespace Go.Proofs.Ytfjbhccapgnkiaa.P
open Go.RowKit Go.Proofs.YtfjbhccapgnkiaaW.PrintWords Go.Proofs.YtfjbhccapgnkiaaW.PrintLast Go.Proofs.YtfjbhccapgnkiaaW.PrintMore
attribute [local go_sem] max2_int min2_int max_two min_two max_three min_three max_four min_four
set_option linter.unusedVariables false
set_option linter.unusedSimpArgs false

/-! ### lapidarylaw02.taken: the same value in the other type -/
set_option maxHeartbeats 4000000 in
set_option maxRecDepth 100000 in
theorem law_taken (a0 : Bool) (A : Option Addr) (n c : Nat) (w : World) :
    Calls Try.prog 36 #[.agg #[.bool a0, .slice A n c]] w fun e w' => e = .returned (.agg #[.bool a0, .slice A n c]) ∧ Below w.heap.size w w' := by
  have hu24 := Try.underlying24
  have hu25 := Try.underlying25
  have HB := Aside0.mk (Below.refl w.heap.size w)
  go_enter Try.func36, Try.ntmps36
  go_wp2_with (first
    | ((with_reducible refine gate_dst (N := 1) rfl ?_); refine box_event ?hg (N := 1) ?hd (cs := #[.bool a0, .slice A n c]) (t := 25) ?hr ?_; (case hd => rfl); (case hg => rfl); (case hr => first | (go_simp; done) | (go_simp; rfl)); intro g1 hg w1 hbox hb; have BKg1 := Aside0.mk hbox; have GEg1 := Aside0.mk (Nat.le_trans (below_size HB.out) (Nat.le_of_eq hg.symm)); have n_ := Aside0.mk (below_step HB.out hb); clear HB; have HB := n_; clear n_; clear hb hbox hg)
    | ((with_reducible refine gate_dst (N := 2) rfl ?_); refine box_event ?hg (N := 2) ?hd (cs := #[.bool false, .slice none 0 0]) (t := 24) ?hr ?_; (case hd => rfl); (case hg => rfl); (case hr => first | (go_simp; done) | (go_simp; rfl)); intro g2 hg w2 hbox hb; have BKg2 := Aside0.mk hbox; have GEg2 := Aside0.mk (Nat.le_trans (below_size HB.out) (Nat.le_of_eq hg.symm)); have NEg2_g1 := Aside0.mk (show g2 ≠ g1 from by rw [hg]; exact (Nat.ne_of_lt (blk_lt BKg1.out)).symm); have n_ := Aside0.mk (blk_below BKg1.out hb); clear BKg1; have BKg1 := n_; clear n_; have n_ := Aside0.mk (below_step HB.out hb); clear HB; have HB := n_; clear n_; clear hb hbox hg; have hcz_g1_0 : w2.cell? ⟨g1, 0, none⟩ = some (.bool a0) := (blk_cell BKg1.out 0).trans rfl; have hcz_g1_1 : w2.cell? ⟨g1, 1, none⟩ = some (.slice A n c) := (blk_cell BKg1.out 1).trans rfl; have hcz_g2_0 : w2.cell? ⟨g2, 0, none⟩ = some (.bool false) := (blk_cell BKg2.out 0).trans rfl; have hfz_g2_0 : w2.frozen? ⟨g2, 0, none⟩ = false := blk_frozen BKg2.out 0; have hcz_g2_1 : w2.cell? ⟨g2, 1, none⟩ = some (.slice none 0 0) := (blk_cell BKg2.out 1).trans rfl; have hfz_g2_1 : w2.frozen? ⟨g2, 1, none⟩ = false := blk_frozen BKg2.out 1))
  refine bodyPost_ret (results_cell_row rfl _ _ g2 24 #[.bool a0, .slice A n c] (0, 0) _ rfl (by refine blk_put (cs := #[.bool a0, .slice none 0 0]) ?_ 1 _ rfl; refine blk_put (cs := #[.bool false, .slice none 0 0]) ?_ 0 _ rfl; exact BKg2.out) Try.underlying24 rfl (by kernel_rfl)) rfl ?_
  exact ⟨rfl, below_set (below_set HB.out GEg2.out) GEg2.out⟩

/-! ### lapidarylaw02.one, where the answers are alike -/
theorem spoil_ends (l : List Int) : ∀ (n : Nat) (i : Nat) (l' : List Int), l'.length = l.length → l.length ≤ 140737488355328 → i + n = l.length → ∃ k r, lapidaryref01_Spoil.l0 k l' (i : Int) = some r
  | 0, i, l', hl, hm, h => ⟨1, l', by simp only [lapidaryref01_Spoil.l0]; rw [if_neg (by omega)]⟩
  | n + 1, i, l', hl, hm, h => by
    obtain ⟨k, r, hk⟩ := spoil_ends l n (i + 1) (l'.set i 90) (by simpa using hl) hm (by omega)
    refine ⟨k + 1, r, ?_⟩
    simp only [lapidaryref01_Spoil.l0]
    rw [if_pos (by omega), if_pos (by omega), show wrap64 ((i : Int) + 1) = ((i + 1 : Nat) : Int) from by unfold wrap64; omega, Int.toNat_natCast]
    exact hk
theorem spoil_some (l : List Int) (h : l.length ≤ 140737488355328) : ∃ k r, lapidaryref01_Spoil.f k l = some r := spoil_ends l l.length 0 l rfl h (by omega)
set_option maxHeartbeats 4000000 in
set_option maxRecDepth 100000 in
theorem law_one (an on xn : Bool) (Aa Ab Ax : Option Addr) (ca cb cx g : Nat) (la lx : List Int) (er : Int) (P0 : Nat → Prop) (w0 w : World) (hB0 : Below w0.heap.size w0 w) (ha : Kd.R (Kd.int .u8) 5 w w0.heap.size P0 (.slice Aa la.length ca) la) (hla : la.length ≤ 140737488355328)
    (hb : Kd.C (Kd.int .u8) w Ab la.length la) (hcb : la.length ≤ cb) (hL : Lnt w g lx) (hP : ¬ P0 g) (hx : Kd.C (Kd.int .u8) w0 Ax lx.length lx) (hcx : lx.length ≤ cx) (hlx : lx.length ≤ 140737488351232) :
    Calls Try.prog 24 #[.agg #[.bool an, .slice Aa la.length ca], .int .i64 er, .agg #[.bool an, .slice Ab la.length cb], .int .i64 er, .agg #[.bool on, .slice (some ⟨g, 0, none⟩) lx.length (lx.length + 8)], .agg #[.bool xn, .slice Ax lx.length cx]] w fun e w' => e = .returned (.bool true) ∧ Below w0.heap.size w0 w' ∧ Kept w w' (fun k => P0 k ∧ k < w.heap.size) := by
  have hu24 := Try.underlying24
  have hu25 := Try.underlying25
  obtain ⟨ks, rs, hsp⟩ := spoil_some la hla
  have SP := Aside0.mk hsp
  have B0 := Aside0.mk hB0
  have HA := Aside0.mk ha
  have HC := Aside0.mk hb
  have HL := Aside0.mk hL
  have HP := Aside0.mk hP
  have HX := Aside0.mk hx
  have CX := Aside0.mk hcx
  have CB := Aside0.mk hcb
  have LX := Aside0.mk hlx
  have CA := Aside0.mk (Kd.R_reads' ha).2.1
  clear hsp hB0 ha hb hL hP hx hcx hcb hlx
  have HB := Aside0.mk (Below.refl w.heap.size w)
  have hsame : lapidaryref02_Same.f an la an la = some true := by simp [lapidaryref02_Same.f]
  have HS := Aside0.mk hsame
  clear hsame
  go_enter Try.func24, Try.ntmps24
  go_wp2_with (first
    | ((with_reducible refine gate_dst (N := 6) rfl ?_); refine box_event ?hg (N := 6) ?hd (cs := #[.bool an, .slice Aa la.length ca]) (t := 25) ?hr ?_; (case hd => rfl); (case hg => rfl); (case hr => first | (go_simp; done) | (go_simp; rfl)); intro g6 hg w1 hbox hb; have BKg6 := Aside0.mk hbox; have GEg6 := Aside0.mk (Nat.le_trans (below_size HB.out) (Nat.le_of_eq hg.symm)); have n_ := Aside0.mk (below_step HB.out hb); clear HB; have HB := n_; clear n_; clear hb hbox hg)
    | ((with_reducible refine gate_dst (N := 8) rfl ?_); refine box_event ?hg (N := 8) ?hd (cs := #[.bool an, .slice Ab la.length cb]) (t := 24) ?hr ?_; (case hd => rfl); (case hg => rfl); (case hr => first | (go_simp; done) | (go_simp; rfl)); intro g8 hg w2 hbox hb; have BKg8 := Aside0.mk hbox; have GEg8 := Aside0.mk (Nat.le_trans (below_size HB.out) (Nat.le_of_eq hg.symm)); have NEg8_g6 := Aside0.mk (show g8 ≠ g6 from by rw [hg]; exact (Nat.ne_of_lt (blk_lt BKg6.out)).symm); have n_ := Aside0.mk (blk_below BKg6.out hb); clear BKg6; have BKg6 := n_; clear n_; have n_ := Aside0.mk (below_step HB.out hb); clear HB; have HB := n_; clear n_; clear hb hbox hg)
    | ((with_reducible refine gate_dst (N := 10) rfl ?_); refine box_event ?hg (N := 10) ?hd (cs := #[.bool on, .slice (some ⟨g, 0, none⟩) lx.length (lx.length + 8)]) (t := 25) ?hr ?_; (case hd => rfl); (case hg => rfl); (case hr => first | (go_simp; done) | (go_simp; rfl)); intro gO hg w3 hbox hb; have BKgO := Aside0.mk hbox; have GEgO := Aside0.mk (Nat.le_trans (below_size HB.out) (Nat.le_of_eq hg.symm)); have NEgO_g6 := Aside0.mk (show gO ≠ g6 from by rw [hg]; exact (Nat.ne_of_lt (blk_lt BKg6.out)).symm); have n_ := Aside0.mk (blk_below BKg6.out hb); clear BKg6; have BKg6 := n_; clear n_; have NEgO_g8 := Aside0.mk (show gO ≠ g8 from by rw [hg]; exact (Nat.ne_of_lt (blk_lt BKg8.out)).symm); have n_ := Aside0.mk (blk_below BKg8.out hb); clear BKg8; have BKg8 := n_; clear n_; have n_ := Aside0.mk (below_step HB.out hb); clear HB; have HB := n_; clear n_; clear hb hbox hg)
    | ((with_reducible refine gate_dst (N := 11) rfl ?_); refine box_event ?hg (N := 11) ?hd (cs := #[.bool xn, .slice Ax lx.length cx]) (t := 24) ?hr ?_; (case hd => rfl); (case hg => rfl); (case hr => first | (go_simp; done) | (go_simp; rfl)); intro gX hg w4 hbox hb; have BKgX := Aside0.mk hbox; have GEgX := Aside0.mk (Nat.le_trans (below_size HB.out) (Nat.le_of_eq hg.symm)); have NEgX_g6 := Aside0.mk (show gX ≠ g6 from by rw [hg]; exact (Nat.ne_of_lt (blk_lt BKg6.out)).symm); have n_ := Aside0.mk (blk_below BKg6.out hb); clear BKg6; have BKg6 := n_; clear n_; have NEgX_g8 := Aside0.mk (show gX ≠ g8 from by rw [hg]; exact (Nat.ne_of_lt (blk_lt BKg8.out)).symm); have n_ := Aside0.mk (blk_below BKg8.out hb); clear BKg8; have BKg8 := n_; clear n_; have NEgX_gO := Aside0.mk (show gX ≠ gO from by rw [hg]; exact (Nat.ne_of_lt (blk_lt BKgO.out)).symm); have n_ := Aside0.mk (blk_below BKgO.out hb); clear BKgO; have BKgO := n_; clear n_; have n_ := Aside0.mk (below_step HB.out hb); clear HB; have HB := n_; clear n_; clear hb hbox hg))
  have WD := Aside0.mk (Below.refl w4.heap.size w4).drew
  have BKd6 := Aside0.mk (show w4.drew.heap[g6]? = _ from BKg6.out)
  have BKd8 := Aside0.mk (show w4.drew.heap[g8]? = _ from BKg8.out)
  have HA4 := Aside0.mk (Kd.C_below (Kd.R_reads' HA.out).2.2 HB.out)
  go_region_held3 (fun w' => w'.cell? ⟨g6, 0, none⟩ = some (.bool an) ∧ w'.cell? ⟨g6, 1, none⟩ = some (.slice Aa la.length ca) ∧ w'.cell? ⟨g8, 0, none⟩ = some (.bool an) ∧ w'.cell? ⟨g8, 1, none⟩ = some (.slice Ab la.length cb))
    (first | exact ⟨(blk_cell BKd6.out 0).trans rfl, (blk_cell BKd6.out 1).trans rfl, (blk_cell BKd8.out 0).trans rfl, (blk_cell BKd8.out 1).trans rfl⟩ | exact ⟨(blk_cell BKf6.out 0).trans rfl, (blk_cell BKf6.out 1).trans rfl, (blk_cell BKf8.out 0).trans rfl, (blk_cell BKf8.out 1).trans rfl⟩ | exact ⟨(blk_cell BKe6.out 0).trans rfl, (blk_cell BKe6.out 1).trans rfl, (blk_cell BKe8.out 0).trans rfl, (blk_cell BKe8.out 1).trans rfl⟩)
    (first | (go_at_call 36; refine (law_taken an Aa la.length ca _).mono ?_; rintro e w5 ⟨rfl, hb⟩; have BKe6 := Aside0.mk (blk_below BKd6.out hb); have BKe8 := Aside0.mk (blk_below BKd8.out hb); have WE := Aside0.mk (below_step WD.out hb); clear hb)
           | (go_at_call 35; refine (lapidaryref02_Same.calls an Aa ca la an Ab cb la true _ (Kd.C_below HA4.out WE.out) CA.out (Kd.C_below (Kd.C_below HC.out HB.out) WE.out) CB.out HS.out).mono ?_; rintro e w6 ⟨rfl, hb⟩; have BKf6 := Aside0.mk (blk_below BKe6.out hb); have BKf8 := Aside0.mk (blk_below BKe8.out hb); have WF := Aside0.mk (below_step WE.out hb); clear hb))
  have W6 := Aside0.mk (below_step HB.out WF.out)
  have BO6 := Aside0.mk (blk_below BKgO.out WF.out)
  have BX6 := Aside0.mk (blk_below BKgX.out WF.out)
  have HR6 := Aside0.mk (Kd.R_mono (ok' := fun k => P0 k ∧ k < w.heap.size) (Kd.R_below (Kd.R_bound HA.out) W6.out) (fun k hk => ⟨hk.1, hk.2.2.1⟩))
  have L6 := Aside0.mk (Lnt.below HL.out W6.out)
  have HB6 := Aside0.mk (below_step B0.out W6.out)
  have hc6 : w6.cell? ⟨g6, 1, none⟩ = some (.slice Aa la.length ca) := (blk_cell BKf6.out 1).trans rfl
  go_wp2_with (first
    | ((with_reducible refine gate_callee (f := 56) rfl ?_); (try (refine gate_guard (by rfl) ?_; dsimp only)); refine goesL_ (some 25) rfl rfl Try.func56 (by kernel_rfl) rfl #[.slice Aa la.length ca] rfl (by (try simp only [List.map_toArray, List.map_cons, List.map_nil]); first | done | rfl | (simp only [List.length_drop, List.length_take]; rfl)) ?_; (refine (lapidaryref01_Spoil.calls ks _ (.slice Aa la.length ca) la rs w0 _ HB6.out HR6.out SP.out).mono ?_); rintro e w7 ⟨rfl, hR, hb, hK⟩; refine ⟨_, rfl, ?_⟩; have HB7 := Aside0.mk hb; have HK7 := Aside0.mk hK; have L7 := Aside0.mk (show Lnt w7 g lx from blk_kept L6.out hK (fun h => HP.out h.1)); have BO7 := Aside0.mk (blk_kept BO6.out hK (fun h => Nat.lt_irrefl _ (Nat.lt_of_lt_of_le h.2 GEgO.out))); have BX7 := Aside0.mk (blk_kept BX6.out hK (fun h => Nat.lt_irrefl _ (Nat.lt_of_lt_of_le h.2 GEgX.out))); have hcO1 : w7.cell? ⟨gO, 1, none⟩ = some (.slice (some ⟨g, 0, none⟩) lx.length (lx.length + 8)) := (blk_cell BO7.out 1).trans rfl; have hcX1 : w7.cell? ⟨gX, 1, none⟩ = some (.slice Ax lx.length cx) := (blk_cell BX7.out 1).trans rfl; clear hR hb hK)
    | ((with_reducible refine gate_callee (f := 28) rfl ?_); (try (refine gate_guard (by rfl) ?_; dsimp only)); refine goesL_ (some 32) rfl rfl Try.func28 (by kernel_rfl) rfl #[.slice (some ⟨g, 0, none⟩) lx.length (lx.length + 8), .slice Ax lx.length cx] rfl (by (try simp only [List.map_toArray, List.map_cons, List.map_nil]); first | done | rfl | (simp only [List.length_drop, List.length_take]; rfl)) ?_; (refine (lapidaryref01_Kept.calls g Ax cx lx _ L7.out (Kd.C_below HX.out HB7.out) CX.out LX.out).mono ?_); rintro e w8 ⟨rfl, hb⟩; refine ⟨_, rfl, ?_⟩; have HB8 := Aside0.mk hb; clear hb))

  go_ret
  refine ⟨rfl, below_step HB7.out HB8.out, ?_⟩
  exact ((Kept.of_below W6.out _).then_ HK7.out (fun k hk => .inl hk)).below HB8.out

end Go.Proofs.Ytfjbhccapgnkiaa.P
